/- PacketReads: whatever text of at most 1048576 bytes comes in, Read answers what the document says; no other condition. -/
import Derived.Lay
import Derived.MakeChecks
import Derived.Test.YteflnbjmjcbmmaaGreatDoorCards
import Derived.Test.YteflnbjmjcbmmaaGreatDoorTie
import Derived.Deep.DeepHandedRow
import Derived.Deep.DeepWitnessRowRef
import Derived.Lib.LaidU8
import Derived.Lib.LaidIn
import Derived.Test.YteflnbjmjcbmmaaGreatDoorUa
import Derived.Test.YteflnbjmjcbmmaaGreatDoorUb
import Derived.Test.YteflnbjmjcbmmaaGreatDoorUc
import Derived.Test.YteflnbjmjcbmmaaGreatDoorUd
import Derived.Test.YteflnbjmjcbmmaaGreatDoorUe
import Derived.Test.YteflnbjmjcbmmaaGreatDoorUf
set_option linter.unusedSimpArgs false
set_option linter.unusedVariables false
namespace Go.Proofs.YteflnbjmjcbmmaaGreatDoor.packetReads
open Go.Joins Go.ChangeShapes Go.WideShapes Go.ChangeAt Go.RowKit Pl
section
theorem law[Glob][Tabs](s:ByteArray)(hs:s.size≤1048576):Fun Tryz.prog 4 [.c (.v (.string s))] [.c (.v (.bool true))]:=by
 have hR:=K9 s (by omega);have hM:=Wr s (by omega);rw[←Aju s]at hM;have hS:Pk.sh (Km s).1:=by
  rcases Ob s with h|⟨p,h⟩
  ·rw[h];exact⟨ZU _,ZU _,ZU _,ZU _⟩
  ·rw[h];exact Pk.Sm.sh (Pk.sm (Qg h).1)
 have hE:=Uo (Km s).1 hS;generalize Km s=F at *;refine A9 Jb rfl ?_;(refine goI ?_;repeat (intro gg;refine goI ?_));refine .inl (cX hR ?_);(refine goI ?_;repeat (intro gg;refine goI ?_));refine .inl (cX hM ?_);(refine goI ?_;repeat (intro gg;refine goI ?_));refine .inl (cX Gc ?_);(refine goI ?_;repeat (intro gg;refine goI ?_));rw[show(F.2==F.2)=true from beq_self_eq_true _];(refine goI ?_;repeat (intro gg;refine goI ?_));refine .inl (cX hE ?_);(refine goI ?_;repeat (intro gg;refine goI ?_));(exact⟨[],aI⟩)
end
theorem Sr{a b:Bool}(h1:a=true)(h2:b=true):(a&&b)=true:=by rw[h1,h2];rfl
theorem own:ownKnob Tryz.prog.godebug=none:=by kernel_rfl
noncomputable def Co(os:Os):World:=World.laidAll Tryz.prog os Rows.packetReadsUptoRow.laid
set_option maxRecDepth 100000 in
theorem Me(os:Os)(args:Array Value):laidMet Tryz.prog Rows.packetReadsUptoRow.laid ((Co os).forCall (fun _ _=>0) ⟨#[],args,[]⟩).memory:=
 laidMet_laidAll args (by kernel_rfl) (by kernel_rfl)
set_option maxRecDepth 100000 in
theorem Gl(os:Os){H:Type}(enc:TypeId×Value→H):
  (Rows.OpenSpec.upto Rows.packetReadsSpec).preRow enc Tryz.prog Tryz.f4 Rows.packetReadsUptoRow.domain false Rows.packetReadsUptoRow.laid ((Co os).forCall (fun _ _=>0) ⟨#[], #[.string ⟨#[]⟩],[]⟩).memory #[.string ⟨#[]⟩]:=by
 have hw:(DataW.whole enc Tryz.prog ((Co os).forCall (fun _ _=>0) ⟨#[], #[.string ⟨#[]⟩],[]⟩).memory Tryz.f4.params.toList Rows.packetReadsSpec.vars false (#[.string ⟨#[]⟩]:Array Value).toList 8).map (fun x=>(x.1,x.2.1))=
   some ([.lit (.string [])],[]):=by kernel_rfl
 obtain⟨⟨x1,x2,x3⟩,hx,hx1⟩:=Option.map_eq_some_iff.1 hw;simp only[Prod.mk.injEq]at hx1;obtain⟨rfl,rfl⟩:=hx1;exact OpenSpec.preRow_of_cond 8 hx (by kernel_rfl) (fun k hk=>by cases hk;kernel_rfl) (by kernel_rfl) (Me os _)
set_option maxRecDepth 100000 in
theorem S2(os:Os)(started:os.Started)(H:Type)(enc:TypeId×Value→H)(F:Stop.Interp):
  ReturnsInHanded {} Tryz.checked os 4 .any ((Rows.OpenSpec.upto Rows.packetReadsSpec).preRow enc Tryz.prog Tryz.f4 Rows.packetReadsUptoRow.domain false Rows.packetReadsUptoRow.laid) (((Rows.OpenSpec.upto Rows.packetReadsSpec).at F).post enc Tryz.prog Tryz.f4 false true false false):=by
 refine returnsInHanded_of_row (C:=Tryz.checked) (s:=(Rows.OpenSpec.upto Rows.packetReadsSpec)) own started (by kernel_rfl) Tryz.func4
  (witness_row_atRef (enc:=enc) (C:=Tryz.checked) false (Co os) #[.string ⟨#[]⟩] (World.laidAll_os _ _ _) (by kernel_rfl) (by kernel_rfl) (by kernel_rfl) (Gl os enc)) ?_
 intro W base args ds gs before hval0 hW _ hcond _ hL _ _;have hval:∀(j:Nat) t v,Tryz.f4.params[j]? =some t→args[j]? =some v→Value.okWide Tryz.prog W .any base t v:=hval0;have hW':=hW;obtain⟨p,q,hA0,hV,rfl,hfz,hnd⟩:=hW;have hA:DataW.TrodAll enc Tryz.prog W 0 (fun _=>true) true Tryz.f4.params.toList args.toList ds p:=hA0;rw[Tryz.params4]at hA hval;obtain⟨v0,vs0,d0,ds0,p0,q0,hargs,rfl,rfl,h0,r0⟩:=trodAll_cons hA;obtain⟨rfl,rfl,rfl⟩:=trodAll_nil r0;obtain rfl:args= #[v0]:=by cases args;simp_all
 obtain⟨rfl,rfl⟩:=trodVars_none hV;obtain⟨a0,rfl,rfl,rfl,w0⟩:=Go.ChangeMaps.open_string Tryz.underlying9 (hval 0 9 v0 rfl rfl) h0;have hb:=ZV (hcond _ rfl);simp only[List.append_nil,Rows.uptoBulkAll,Rows.uptoBulk]at hb;clear hA0 hval0;rw[Go.MakeChecks.laidMetH_plain _ _ _ (by kernel_rfl)]at hL
 letI:Glob:=Ut W
 haveI:Tabs:=Aa7 hL
 refine(Aie (us:=[_]) (xs:=[_]) (w:=W) (law a0 (by have e:=Array.length_toList (xs:=a0.data);have e2:a0.size=a0.data.size:=rfl;omega)) ⟨RV.v _,trivial⟩ (Us W)).mono fun e W' ⟨he,hg⟩=>?_;subst he;exact⟨_,rfl,S8 hW' (by kernel_rfl) (by rw[Tryz.params4];exact ZV (by kernel_rfl)) rfl rfl (by kernel_rfl) Tryz.underlying4 hg⟩
set_option maxHeartbeats 100000000 in
theorem closed:joinedFacts Tryz.pinned.checked.prog 4 Tryz.f4 (Rows.OpenSpec.upto Rows.packetReadsSpec).bare Rows.packetReadsUptoRow=true:=by
 unfold joinedFacts;repeat' (with_reducible refine Sr ?_ ?_)
 all_goals (as_aux_lemma=>kernel_rfl)
theorem Af0:Rows.PacketReadsUptoSaid:=
 OpenClaim.holds_of_cond 4 Tryz.f4 rfl rfl rfl rfl rfl rfl rfl ⟨rfl,rfl,rfl,rfl,rfl⟩ rfl rfl rfl rfl rfl (by kernel_rfl) Tryz.func4 closed
  (ZV (by kernel_rfl)) (by unfold Func.isWrapper;first|(rw[if_pos (by decide+kernel)];kernel_rfl)|(rw[if_neg (by decide+kernel)];exact⟨rfl,rfl⟩))
  (fun os started H enc _ F=>by rw[OpenClaim.pre_eq_preRow];exact S2 os started H enc F)
theorem plain (f : FuncId) (fn : Func) (hf : Tryz.pinned.checked.prog.funcNamed "hearsay/hearsaylaw.PacketReads" = some f) (hfn : Tryz.pinned.checked.prog.funcs[f]? = some fn) :
  true=Tryz.pinned.checked.prog.looks []∧∀(j:Nat) t,fn.params[j]? =some t→Tryz.pinned.checked.prog.wantsStandIn t=false:=by
 obtain rfl : f = 4 := Option.some.inj ((show Tryz.prog.funcNamed "hearsay/hearsaylaw.PacketReads" = some 4 by kernel_rfl).symm.trans hf) |>.symm
 obtain rfl:fn=Tryz.f4:=(Option.some.inj (Tryz.func4.symm.trans hfn)).symm;refine⟨by kernel_rfl,fun j t ht=>?_⟩;rw[Tryz.params4]at ht;have hm:t=9:=by simpa using Array.mem_of_getElem? ht
 rcases hm with rfl
 ·exact(show Tryz.prog.wantsStandIn 9=false by kernel_rfl)
theorem proved:Rows.PacketReadsUptoCardSaid:=
 Claim7.holds_tied_plain_at .later [] _ _ _ _ Af0 (fun _ h=>by cases h) (by kernel_rfl) (fun _ h=>by cases h) packetReadsUpto_row_tie rfl ⟨rfl,rfl⟩ (by kernel_rfl) rfl plain (by kernel_rfl)
#print axioms proved
end Go.Proofs.YteflnbjmjcbmmaaGreatDoor.packetReads
