/- NetChecks: whatever net comes in whose texts are not longer than a megabyte, Check and Agree answer what the document says. -/
import Derived.Lay
import Derived.MakeChecks
import Derived.Test.YtchbkgnobpejnaaGreatDoorCards
import Derived.Test.YtchbkgnobpejnaaGreatDoorTie
import Derived.Deep.DeepHandedRow
import Derived.Deep.DeepWitnessRowRef
import Derived.Lib.LaidU8
import Derived.Lib.LaidIn
import Derived.Test.YtchbkgnobpejnaaGreatDoorUa
import Derived.Test.YtchbkgnobpejnaaGreatDoorUb
import Derived.Test.YtchbkgnobpejnaaGreatDoorUc
import Derived.Test.YtchbkgnobpejnaaGreatDoorUd
import Derived.Test.YtchbkgnobpejnaaGreatDoorUe
set_option linter.unusedSimpArgs false
set_option linter.unusedVariables false
namespace Go.Proofs.YtchbkgnobpejnaaGreatDoor.netChecks
open Go.Joins Go.ChangeShapes Go.WideShapes Go.ChangeAt Go.RowKit Pl
section
theorem law[Glob][Tabs](n:Nt)(h:n.ok):Fun Tryz.prog 3 [.c (.agg n.row)] [.c (.v (.bool true))]:=by
 have hP:∀l∈n.ls,Fun Tryz.prog 17 [.c (.v (.string l.tx))] [.c (.agg (Iy l.tx).1.row),.c (.v (.int .i64 (Iy l.tx).2))]:=fun l hl=>by
  have q:=Aav l.tx (h.ls l hl)
  rwa[←Aso]at q
 have hC:=Ab7 n h hP;have hA:=Adq n h;have hK:=H7 n h;have hR:=Afg n h;generalize n.err=E at *;obtain⟨b,hb⟩:∃b,(decide (E=0)&&n.agr)=b:=⟨_,rfl⟩;rw[hb]at hA;refine A9 L0 rfl ?_;(refine goI ?_;repeat (intro gg;refine goI ?_));refine .inl ⟨_,_,false,[],Ar.same (Si (n:=n)) (.nil _),hA,Af,nI,?_⟩;(refine goI ?_;repeat (intro gg;refine goI ?_));refine .inl ⟨_,_,false,[],Ar.same (Si (n:=n)) (.nil _),hC,Af,nI,?_⟩;(refine goI ?_;repeat (intro gg;refine goI ?_));refine .inl (cX Akp ?_);(refine goI ?_;repeat (intro gg;refine goI ?_));refine .inl ⟨_,_,false,[],Ar.same (Si (n:=n)) (.nil _),hK,Af,nI,?_⟩;(refine goI ?_;repeat (intro gg;refine goI ?_));rw[show(E==E)=true from beq_self_eq_true E];(refine goI ?_;repeat (intro gg;refine goI ?_));rw[show(E==E)=true from beq_self_eq_true E];(refine goI ?_;repeat (intro gg;refine goI ?_));by_cases z:E=0
 ·subst z;rw[show((0:Int)==0)=true from rfl];(refine goI ?_;repeat (intro gg;refine goI ?_));refine .inl ⟨_,_,false,[],Ar.same (Si (n:=n)) (.nil _),hR,Af,nI,?_⟩;(refine goI ?_;repeat (intro gg;refine goI ?_));rw[show(b==n.agr)=true by rw[←hb];simp];(exact⟨[],aI⟩)
 ·rw[show(E==0)=false from ZG.2 z];(refine goI ?_;repeat (intro gg;refine goI ?_));rw[show(b==false)=true by rw[←hb,ZY z];rfl];(exact⟨[],aI⟩)
end
theorem Aql{a b:Bool}(h1:a=true)(h2:b=true):(a&&b)=true:=by rw[h1,h2];rfl
theorem own:ownKnob Tryz.prog.godebug=none:=by kernel_rfl
noncomputable def Po(os:Os):World:=World.laidAll Tryz.prog os Rows.netChecksUptoRow.laid
set_option maxRecDepth 100000 in
theorem Akn(os:Os)(args:Array Value):laidMet Tryz.prog Rows.netChecksUptoRow.laid ((Po os).forCall (fun _ _=>0) ⟨#[],args,[]⟩).memory:=
 laidMet_laidAll args (by kernel_rfl) (by kernel_rfl)
set_option maxRecDepth 100000 in
theorem Ad1(os:Os){H:Type}(enc:TypeId×Value→H):
  (Rows.OpenSpec.upto Rows.netChecksSpec).preRow enc Tryz.prog Tryz.f3 Rows.netChecksUptoRow.domain false Rows.netChecksUptoRow.laid ((Po os).forCall (fun _ _=>0) ⟨#[], #[.agg #[.slice none 0 0,.slice none 0 0]],[]⟩).memory #[.agg #[.slice none 0 0,.slice none 0 0]]:=by
 have hw:(DataW.whole enc Tryz.prog ((Po os).forCall (fun _ _=>0) ⟨#[], #[.agg #[.slice none 0 0,.slice none 0 0]],[]⟩).memory Tryz.f3.params.toList Rows.netChecksSpec.vars false (#[.agg #[.slice none 0 0,.slice none 0 0]]:Array Value).toList 8).map (fun x=>(x.1,x.2.1))=
   some ([.agg [.nil,.nil]],[]):=by kernel_rfl
 obtain⟨⟨x1,x2,x3⟩,hx,hx1⟩:=Option.map_eq_some_iff.1 hw;simp only[Prod.mk.injEq]at hx1;obtain⟨rfl,rfl⟩:=hx1;exact OpenSpec.preRow_of_cond 8 hx (by kernel_rfl) (fun k hk=>by cases hk;kernel_rfl) (by kernel_rfl) (Akn os _)
set_option maxRecDepth 100000 in
theorem Apj(os:Os)(started:os.Started)(H:Type)(enc:TypeId×Value→H)(F:Stop.Interp):
  ReturnsInHanded {} Tryz.checked os 3 .any ((Rows.OpenSpec.upto Rows.netChecksSpec).preRow enc Tryz.prog Tryz.f3 Rows.netChecksUptoRow.domain false Rows.netChecksUptoRow.laid) (((Rows.OpenSpec.upto Rows.netChecksSpec).at F).post enc Tryz.prog Tryz.f3 false true false false):=by
 refine returnsInHanded_of_row (C:=Tryz.checked) (s:=(Rows.OpenSpec.upto Rows.netChecksSpec)) own started (by kernel_rfl) Tryz.func3
  (witness_row_atRef (enc:=enc) (C:=Tryz.checked) false (Po os) #[.agg #[.slice none 0 0,.slice none 0 0]] (World.laidAll_os _ _ _) (by kernel_rfl) (by kernel_rfl) (by kernel_rfl) (Ad1 os enc)) ?_
 intro W base args ds gs before hval0 hW _ hcond _ hL _ _;have hval:∀(j:Nat) t v,Tryz.f3.params[j]? =some t→args[j]? =some v→Value.okWide Tryz.prog W .any base t v:=hval0;have hW':=hW;obtain⟨p,q,hA0,hV,rfl,hfz,hnd⟩:=hW;have hA:DataW.TrodAll enc Tryz.prog W 0 (fun _=>true) true Tryz.f3.params.toList args.toList ds p:=hA0;rw[Tryz.params3]at hA hval;obtain⟨v0,vs0,d0,ds0,p0,q0,hargs,rfl,rfl,h0,r0⟩:=trodAll_cons hA;obtain⟨rfl,rfl,rfl⟩:=trodAll_nil r0;obtain rfl:args= #[v0]:=by cases args;simp_all
 obtain⟨rfl,rfl⟩:=trodVars_none hV;have hb:=ZV (hcond _ rfl);simp only[List.append_nil,Rows.uptoBulkAll]at hb;obtain⟨u0,f0,rv0,bd0⟩:=Aae (dp:=7) Aif Tryz.underlying25 (by kernel_rfl) (hval 0 25 v0 rfl rfl) h0 (show Rows.uptoBulk d0≤1048576 by omega);obtain⟨m0,rfl,mw0⟩:=Ap9 (ZT _) _ f0 bd0;clear hA0 hval0;rw[Go.MakeChecks.laidMetH_plain _ _ _ (by kernel_rfl)]at hL
 letI:Glob:=Ade W
 haveI:Tabs:=Aq9 hL
 refine(Auf (us:=[_]) (xs:=[_]) (w:=W) (law m0 mw0) ⟨rv0,trivial⟩ (Ale W)).mono fun e W' ⟨he,hg⟩=>?_;subst he;exact⟨_,rfl,Al5 hW' (by kernel_rfl) (by rw[Tryz.params3];exact ZV (by kernel_rfl)) rfl rfl (by kernel_rfl) Tryz.underlying4 hg⟩
set_option maxHeartbeats 100000000 in
theorem closed:joinedFacts Tryz.pinned.checked.prog 3 Tryz.f3 (Rows.OpenSpec.upto Rows.netChecksSpec).bare Rows.netChecksUptoRow=true:=by
 unfold joinedFacts;repeat' (with_reducible refine Aql ?_ ?_)
 all_goals (as_aux_lemma=>kernel_rfl)
theorem Auk:Rows.NetChecksUptoSaid:=
 OpenClaim.holds_of_cond 3 Tryz.f3 rfl rfl rfl rfl rfl rfl rfl ⟨rfl,rfl,rfl,rfl,rfl⟩ rfl rfl rfl rfl rfl (by kernel_rfl) Tryz.func3 closed
  (ZV (by kernel_rfl)) (by unfold Func.isWrapper;first|(rw[if_pos (by decide+kernel)];kernel_rfl)|(rw[if_neg (by decide+kernel)];exact⟨rfl,rfl⟩))
  (fun os started H enc _ F=>by rw[OpenClaim.pre_eq_preRow];exact Apj os started H enc F)
theorem plain (f : FuncId) (fn : Func) (hf : Tryz.pinned.checked.prog.funcNamed "hearsay/hearsaylaw.NetChecks" = some f) (hfn : Tryz.pinned.checked.prog.funcs[f]? = some fn) :
  true=Tryz.pinned.checked.prog.looks []∧∀(j:Nat) t,fn.params[j]? =some t→Tryz.pinned.checked.prog.wantsStandIn t=false:=by
 obtain rfl : f = 3 := Option.some.inj ((show Tryz.prog.funcNamed "hearsay/hearsaylaw.NetChecks" = some 3 by kernel_rfl).symm.trans hf) |>.symm
 obtain rfl:fn=Tryz.f3:=(Option.some.inj (Tryz.func3.symm.trans hfn)).symm;refine⟨by kernel_rfl,fun j t ht=>?_⟩;rw[Tryz.params3]at ht;have hm:t=25:=by simpa using Array.mem_of_getElem? ht
 rcases hm with rfl
 ·exact(show Tryz.prog.wantsStandIn 25=false by kernel_rfl)
theorem proved:Rows.NetChecksUptoCardSaid:=
 Claim7.holds_tied_plain_at .later [] _ _ _ _ Auk (fun _ h=>by cases h) (by kernel_rfl) (fun _ h=>by cases h) netChecksUpto_row_tie rfl ⟨rfl,rfl⟩ (by kernel_rfl) rfl plain (by kernel_rfl)
#print axioms proved
end Go.Proofs.YtchbkgnobpejnaaGreatDoor.netChecks
