/- PacketWrites: whatever packet comes in, Check and Write answer what the document says; no condition. -/
import Derived.Lay
import Derived.MakeChecks
import Derived.Test.YteflnbjmjcbmmaaGreatDoorCards
import Derived.Test.YteflnbjmjcbmmaaGreatDoorTie
import Derived.Deep.DeepHandedRow
import Derived.Deep.DeepWitnessRowRef
import Derived.Lib.LaidU8
import Derived.Lib.LaidIn
import Derived.Test.YteflnbjmjcbmmaaGreatDoorVa
import Derived.Test.YteflnbjmjcbmmaaGreatDoorVb
import Derived.Test.YteflnbjmjcbmmaaGreatDoorVc
import Derived.Test.YteflnbjmjcbmmaaGreatDoorVd
import Derived.Test.YteflnbjmjcbmmaaGreatDoorVe
set_option linter.unusedSimpArgs false
set_option linter.unusedVariables false
namespace Go.Proofs.YteflnbjmjcbmmaaGreatDoor.packetWrites
open Go.Joins Go.ChangeShapes Go.WideShapes Go.ChangeAt Go.RowKit Pl
section
theorem law[Glob][Tabs](p:Pk)(hp:p.ok):Fun Tryz.prog 3 [.c (.agg p.row)] [.c (.v (.bool true))]:=by
 have hC:=O9 p hp;have hW:=Gs p hp;have hP:=Mi p hp;by_cases h0:p.err=0
 ·have hB:=Adh p (Pk.sm h0);have hT:=Acx (bA (pkB p));rw[h0]at hC hW hP;rw[show Ux p=bA (pkB p)from if_pos h0]at hW;refine A9 D8 rfl ?_;(refine goI ?_;repeat (intro gg;refine goI ?_));refine .inl (cX hW ?_);(refine goI ?_;repeat (intro gg;refine goI ?_));refine .inl (cX hC ?_);(refine goI ?_;repeat (intro gg;refine goI ?_));refine .inl (cX hB ?_);(refine goI ?_;repeat (intro gg;refine goI ?_));refine .inl (cX Gc ?_);(refine goI ?_;repeat (intro gg;refine goI ?_));refine .inl (cX hP ?_);(refine goI ?_;repeat (intro gg;refine goI ?_));refine .inl (cX hT ?_);(refine goI ?_;repeat (intro gg;refine goI ?_));(exact⟨[],aI⟩)
 ·have hT:=Z7 ⟨#[]⟩ p.err h0;rw[show Ux p=⟨#[]⟩from if_neg h0]at hW;refine A9 D8 rfl ?_;(refine goI ?_;repeat (intro gg;refine goI ?_));refine .inl (cX hW ?_);(refine goI ?_;repeat (intro gg;refine goI ?_));refine .inl (cX hC ?_);(refine goI ?_;repeat (intro gg;refine goI ?_));rw[show(p.err==0)=false from ZG.2 h0];(refine goI ?_;repeat (intro gg;refine goI ?_));refine .inl (cX Gc ?_);(refine goI ?_;repeat (intro gg;refine goI ?_));refine .inl (cX hP ?_);(refine goI ?_;repeat (intro gg;refine goI ?_));rw[show(p.err==p.err)=true from beq_self_eq_true _];(refine goI ?_;repeat (intro gg;refine goI ?_));refine .inl (cX hT ?_);(refine goI ?_;repeat (intro gg;refine goI ?_));(exact⟨[],aI⟩)
end
theorem Sr{a b:Bool}(h1:a=true)(h2:b=true):(a&&b)=true:=by rw[h1,h2];rfl
theorem own:ownKnob Tryz.prog.godebug=none:=by kernel_rfl
noncomputable def Co(os:Os):World:=World.laidAll Tryz.prog os Rows.packetWritesRow.laid
set_option maxRecDepth 100000 in
theorem Me(os:Os)(args:Array Value):laidMet Tryz.prog Rows.packetWritesRow.laid ((Co os).forCall (fun _ _=>0) ⟨#[],args,[]⟩).memory:=
 laidMet_laidAll args (by kernel_rfl) (by kernel_rfl)
set_option maxRecDepth 100000 in
theorem Gl(os:Os){H:Type}(enc:TypeId×Value→H):
  (OpenSpec.ofChange Rows.packetWritesSpec).preRow enc Tryz.prog Tryz.f3 Rows.packetWritesRow.domain false Rows.packetWritesRow.laid ((Co os).forCall (fun _ _=>0) ⟨#[], #[.agg #[.string ⟨#[]⟩,.bool false,.slice none 0 0,.slice none 0 0,.slice none 0 0,.slice none 0 0]],[]⟩).memory #[.agg #[.string ⟨#[]⟩,.bool false,.slice none 0 0,.slice none 0 0,.slice none 0 0,.slice none 0 0]]:=by
 have hw:(DataW.whole enc Tryz.prog ((Co os).forCall (fun _ _=>0) ⟨#[], #[.agg #[.string ⟨#[]⟩,.bool false,.slice none 0 0,.slice none 0 0,.slice none 0 0,.slice none 0 0]],[]⟩).memory Tryz.f3.params.toList Rows.packetWritesSpec.vars false (#[.agg #[.string ⟨#[]⟩,.bool false,.slice none 0 0,.slice none 0 0,.slice none 0 0,.slice none 0 0]]:Array Value).toList 8).map (fun x=>(x.1,x.2.1))=
   some ([.agg [.lit (.string []),.lit (.bool false),.nil,.nil,.nil,.nil]],[]):=by kernel_rfl
 obtain⟨⟨x1,x2,x3⟩,hx,hx1⟩:=Option.map_eq_some_iff.1 hw;simp only[Prod.mk.injEq]at hx1;obtain⟨rfl,rfl⟩:=hx1;exact OpenSpec.preRow_of_cond 8 hx (by kernel_rfl) (fun k hk=>by cases hk) (by kernel_rfl) (Me os _)
set_option maxRecDepth 100000 in
theorem S2(os:Os)(started:os.Started)(H:Type)(enc:TypeId×Value→H)(F:Stop.Interp):
  ReturnsInHanded {} Tryz.checked os 3 .any ((OpenSpec.ofChange Rows.packetWritesSpec).preRow enc Tryz.prog Tryz.f3 Rows.packetWritesRow.domain false Rows.packetWritesRow.laid) (((OpenSpec.ofChange Rows.packetWritesSpec).at F).post enc Tryz.prog Tryz.f3 false true false false):=by
 refine returnsInHanded_of_row (C:=Tryz.checked) (s:=(OpenSpec.ofChange Rows.packetWritesSpec)) own started (by kernel_rfl) Tryz.func3
  (witness_row_atRef (enc:=enc) (C:=Tryz.checked) false (Co os) #[.agg #[.string ⟨#[]⟩,.bool false,.slice none 0 0,.slice none 0 0,.slice none 0 0,.slice none 0 0]] (World.laidAll_os _ _ _) (by kernel_rfl) (by kernel_rfl) (by kernel_rfl) (Gl os enc)) ?_
 intro W base args ds gs before hval0 hW _ hcond hsz hL _ _;have hval:∀(j:Nat) t v,Tryz.f3.params[j]? =some t→args[j]? =some v→Value.okWide Tryz.prog W .any base t v:=hval0;have hW':=hW;obtain⟨p,q,hA0,hV,rfl,hfz,hnd⟩:=hW;have hA:DataW.TrodAll enc Tryz.prog W 0 (fun _=>true) true Tryz.f3.params.toList args.toList ds p:=hA0;rw[Tryz.params3]at hA hval;obtain⟨v0,vs0,d0,ds0,p0,q0,hargs,rfl,rfl,h0,r0⟩:=trodAll_cons hA;obtain⟨rfl,rfl,rfl⟩:=trodAll_nil r0;obtain rfl:args= #[v0]:=by cases args;simp_all
 obtain⟨rfl,rfl⟩:=trodVars_none hV;obtain⟨u0,f0,rv0⟩:=Rc (dp:=5) Tryz.underlying27 (by kernel_rfl) (hval 0 27 v0 rfl rfl) h0;obtain⟨m0,rfl,mw0⟩:=Ado _ f0;have z0_3:=Ga Tryz.underlying27 h0 rv0 (j:=0) hsz (by rw[Tryz.params3];rfl) rfl (i:=3) rfl Tryz.underlying23 (by kernel_rfl) (by kernel_rfl) rfl;have z0_4:=Ga Tryz.underlying27 h0 rv0 (j:=0) hsz (by rw[Tryz.params3];rfl) rfl (i:=4) rfl Tryz.underlying24 (by kernel_rfl) (by kernel_rfl) rfl;have z0_5:=Ga Tryz.underlying27 h0 rv0 (j:=0) hsz (by rw[Tryz.params3];rfl) rfl (i:=5) rfl Tryz.underlying25 (by kernel_rfl) (by kernel_rfl) rfl;clear hA0 hval0;rw[Go.MakeChecks.laidMetH_plain _ _ _ (by kernel_rfl)]at hL
 letI:Glob:=Ut W
 haveI:Tabs:=Aa7 hL
 refine(Aie (us:=[_]) (xs:=[_]) (w:=W) (law m0 (mw0.ok z0_3 z0_4 z0_5)) ⟨rv0,trivial⟩ (Us W)).mono fun e W' ⟨he,hg⟩=>?_;subst he;exact⟨_,rfl,S8 hW' (by kernel_rfl) (by rw[Tryz.params3];exact ZV (by kernel_rfl)) rfl rfl (by kernel_rfl) Tryz.underlying4 hg⟩
set_option maxHeartbeats 100000000 in
theorem closed:joinedFacts Tryz.pinned.checked.prog 3 Tryz.f3 (OpenSpec.ofChange Rows.packetWritesSpec).bare Rows.packetWritesRow=true:=by
 unfold joinedFacts;repeat' (with_reducible refine Sr ?_ ?_)
 all_goals (as_aux_lemma=>kernel_rfl)
theorem Af0:Rows.PacketWritesSaid:=
 OpenClaim.holds_of_cond 3 Tryz.f3 rfl rfl rfl rfl rfl rfl rfl ⟨rfl,rfl,rfl,rfl,rfl⟩ rfl rfl rfl rfl rfl (by kernel_rfl) Tryz.func3 closed
  (ZV (by kernel_rfl)) (by unfold Func.isWrapper;first|(rw[if_pos (by decide+kernel)];kernel_rfl)|(rw[if_neg (by decide+kernel)];exact⟨rfl,rfl⟩))
  (fun os started H enc _ F=>by rw[OpenClaim.pre_eq_preRow];exact S2 os started H enc F)
theorem plain (f : FuncId) (fn : Func) (hf : Tryz.pinned.checked.prog.funcNamed "hearsay/hearsaylaw.PacketWrites" = some f) (hfn : Tryz.pinned.checked.prog.funcs[f]? = some fn) :
  true=Tryz.pinned.checked.prog.looks []∧∀(j:Nat) t,fn.params[j]? =some t→Tryz.pinned.checked.prog.wantsStandIn t=false:=by
 obtain rfl : f = 3 := Option.some.inj ((show Tryz.prog.funcNamed "hearsay/hearsaylaw.PacketWrites" = some 3 by kernel_rfl).symm.trans hf) |>.symm
 obtain rfl:fn=Tryz.f3:=(Option.some.inj (Tryz.func3.symm.trans hfn)).symm;refine⟨by kernel_rfl,fun j t ht=>?_⟩;rw[Tryz.params3]at ht;have hm:t=27:=by simpa using Array.mem_of_getElem? ht
 rcases hm with rfl
 ·exact(show Tryz.prog.wantsStandIn 27=false by kernel_rfl)
theorem proved:Rows.PacketWritesCardSaid:=
 Claim7.holds_tied_plain_at .later [] _ _ _ _ Af0 (fun _ h=>by cases h) (by kernel_rfl) (fun _ h=>by cases h) packetWrites_row_tie rfl ⟨rfl,rfl⟩ (by kernel_rfl) rfl plain (by kernel_rfl)
#print axioms proved
end Go.Proofs.YteflnbjmjcbmmaaGreatDoor.packetWrites
