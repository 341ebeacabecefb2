/- PacketBack: what is written is read as it was, and nothing else is, for packets and texts of at most 1048576 bytes in all; no other condition. -/
import Derived.Lay
import Derived.MakeChecks
import Derived.Test.YteflnbjmjcbmmaaGreatDoorCards
import Derived.Test.YteflnbjmjcbmmaaGreatDoorTie
import Derived.Deep.DeepHandedRow
import Derived.Deep.DeepWitnessRowRef
import Derived.Lib.LaidU8
import Derived.Lib.LaidIn
import Derived.Test.YteflnbjmjcbmmaaGreatDoorYa
import Derived.Test.YteflnbjmjcbmmaaGreatDoorYb
import Derived.Test.YteflnbjmjcbmmaaGreatDoorYc
import Derived.Test.YteflnbjmjcbmmaaGreatDoorYd
set_option linter.unusedSimpArgs false
set_option linter.unusedVariables false
namespace Go.Proofs.YteflnbjmjcbmmaaGreatDoor.packetBack
open Go.Joins Go.ChangeShapes Go.WideShapes Go.ChangeAt Go.RowKit Pl
section
theorem law[Glob][Tabs](p:Pk)(s:ByteArray)(hp:p.ok)(hs:s.size≤1048576):Fun Tryz.prog 5 [.c (.agg p.row),.c (.v (.string s))] [.c (.v (.bool true))]:=by
 have hW:=Gs p hp;have hR:=K9 s (by omega);by_cases h0:p.err=0
 ·have hR1:=K9 (bA (pkB p)) (XI (Ahd (Pk.sm h0)) (by decide));have hE:=Uo p (Pk.Sm.sh (Pk.sm h0));rw[h0,show Ux p=bA (pkB p)from if_pos h0]at hW;rw[Vu h0]at hR1;rcases Ob s with hz|⟨q,hz⟩
  ·rw[hz]at hR;refine A9 Ci rfl ?_;(refine goI ?_;repeat (intro gg;refine goI ?_));refine .inl (cX Gc ?_);(refine goI ?_;repeat (intro gg;refine goI ?_));refine .inl (cX hW ?_);(refine goI ?_;repeat (intro gg;refine goI ?_));refine .inl (cX hR1 ?_);(refine goI ?_;repeat (intro gg;refine goI ?_));refine .inl (cX hE ?_);(refine goI ?_;repeat (intro gg;refine goI ?_));refine .inl (cX hR ?_);(refine goI ?_;repeat (intro gg;refine goI ?_));(exact⟨[],aI⟩)
  ·rw[hz]at hR;obtain⟨k0,k1⟩:=Qg hz;have hW2:=Gs q (Pk.okB_ok (Pk.sm k0).okB);rw[k0,show Ux q=bA (pkB q)from if_pos k0,k1]at hW2;refine A9 Ci rfl ?_;(refine goI ?_;repeat (intro gg;refine goI ?_));refine .inl (cX Gc ?_);(refine goI ?_;repeat (intro gg;refine goI ?_));refine .inl (cX hW ?_);(refine goI ?_;repeat (intro gg;refine goI ?_));refine .inl (cX hR1 ?_);(refine goI ?_;repeat (intro gg;refine goI ?_));refine .inl (cX hE ?_);(refine goI ?_;repeat (intro gg;refine goI ?_));refine .inl (cX hR ?_);(refine goI ?_;repeat (intro gg;refine goI ?_));refine .inl (cX hW2 ?_);(refine goI ?_;repeat (intro gg;refine goI ?_));rw[show(s.toList==s.toList)=true from beq_self_eq_true _];(exact⟨[],aI⟩)
 ·rw[show Ux p=⟨#[]⟩from if_neg h0]at hW;rcases Ob s with hz|⟨q,hz⟩
  ·rw[hz]at hR;refine A9 Ci rfl ?_;(refine goI ?_;repeat (intro gg;refine goI ?_));refine .inl (cX Gc ?_);(refine goI ?_;repeat (intro gg;refine goI ?_));refine .inl (cX hW ?_);(refine goI ?_;repeat (intro gg;refine goI ?_));rw[show(p.err==0)=false from ZG.2 h0];(refine goI ?_;repeat (intro gg;refine goI ?_));refine .inl (cX hR ?_);(refine goI ?_;repeat (intro gg;refine goI ?_));(exact⟨[],aI⟩)
  ·rw[hz]at hR;obtain⟨k0,k1⟩:=Qg hz;have hW2:=Gs q (Pk.okB_ok (Pk.sm k0).okB);rw[k0,show Ux q=bA (pkB q)from if_pos k0,k1]at hW2;refine A9 Ci rfl ?_;(refine goI ?_;repeat (intro gg;refine goI ?_));refine .inl (cX Gc ?_);(refine goI ?_;repeat (intro gg;refine goI ?_));refine .inl (cX hW ?_);(refine goI ?_;repeat (intro gg;refine goI ?_));rw[show(p.err==0)=false from ZG.2 h0];(refine goI ?_;repeat (intro gg;refine goI ?_));refine .inl (cX hR ?_);(refine goI ?_;repeat (intro gg;refine goI ?_));refine .inl (cX hW2 ?_);(refine goI ?_;repeat (intro gg;refine goI ?_));rw[show(s.toList==s.toList)=true from beq_self_eq_true _];(exact⟨[],aI⟩)
end
theorem Sr{a b:Bool}(h1:a=true)(h2:b=true):(a&&b)=true:=by rw[h1,h2];rfl
theorem own:ownKnob Tryz.prog.godebug=none:=by kernel_rfl
noncomputable def Co(os:Os):World:=World.laidAll Tryz.prog os Rows.packetBackUptoRow.laid
set_option maxRecDepth 100000 in
theorem Me(os:Os)(args:Array Value):laidMet Tryz.prog Rows.packetBackUptoRow.laid ((Co os).forCall (fun _ _=>0) ⟨#[],args,[]⟩).memory:=
 laidMet_laidAll args (by kernel_rfl) (by kernel_rfl)
set_option maxRecDepth 100000 in
theorem Gl(os:Os){H:Type}(enc:TypeId×Value→H):
  (Rows.OpenSpec.upto Rows.packetBackSpec).preRow enc Tryz.prog Tryz.f5 Rows.packetBackUptoRow.domain false Rows.packetBackUptoRow.laid ((Co os).forCall (fun _ _=>0) ⟨#[], #[.agg #[.string ⟨#[]⟩,.bool false,.slice none 0 0,.slice none 0 0,.slice none 0 0,.slice none 0 0],.string ⟨#[]⟩],[]⟩).memory #[.agg #[.string ⟨#[]⟩,.bool false,.slice none 0 0,.slice none 0 0,.slice none 0 0,.slice none 0 0],.string ⟨#[]⟩]:=by
 have hw:(DataW.whole enc Tryz.prog ((Co os).forCall (fun _ _=>0) ⟨#[], #[.agg #[.string ⟨#[]⟩,.bool false,.slice none 0 0,.slice none 0 0,.slice none 0 0,.slice none 0 0],.string ⟨#[]⟩],[]⟩).memory Tryz.f5.params.toList Rows.packetBackSpec.vars false (#[.agg #[.string ⟨#[]⟩,.bool false,.slice none 0 0,.slice none 0 0,.slice none 0 0,.slice none 0 0],.string ⟨#[]⟩]:Array Value).toList 8).map (fun x=>(x.1,x.2.1))=
   some ([.agg [.lit (.string []),.lit (.bool false),.nil,.nil,.nil,.nil],.lit (.string [])],[]):=by kernel_rfl
 obtain⟨⟨x1,x2,x3⟩,hx,hx1⟩:=Option.map_eq_some_iff.1 hw;simp only[Prod.mk.injEq]at hx1;obtain⟨rfl,rfl⟩:=hx1;exact OpenSpec.preRow_of_cond 8 hx (by kernel_rfl) (fun k hk=>by cases hk;kernel_rfl) (by kernel_rfl) (Me os _)
set_option maxRecDepth 100000 in
theorem S2(os:Os)(started:os.Started)(H:Type)(enc:TypeId×Value→H)(F:Stop.Interp):
  ReturnsInHanded {} Tryz.checked os 5 .any ((Rows.OpenSpec.upto Rows.packetBackSpec).preRow enc Tryz.prog Tryz.f5 Rows.packetBackUptoRow.domain false Rows.packetBackUptoRow.laid) (((Rows.OpenSpec.upto Rows.packetBackSpec).at F).post enc Tryz.prog Tryz.f5 false true false false):=by
 refine returnsInHanded_of_row (C:=Tryz.checked) (s:=(Rows.OpenSpec.upto Rows.packetBackSpec)) own started (by kernel_rfl) Tryz.func5
  (witness_row_atRef (enc:=enc) (C:=Tryz.checked) false (Co os) #[.agg #[.string ⟨#[]⟩,.bool false,.slice none 0 0,.slice none 0 0,.slice none 0 0,.slice none 0 0],.string ⟨#[]⟩] (World.laidAll_os _ _ _) (by kernel_rfl) (by kernel_rfl) (by kernel_rfl) (Gl os enc)) ?_
 intro W base args ds gs before hval0 hW _ hcond hsz hL _ _;have hval:∀(j:Nat) t v,Tryz.f5.params[j]? =some t→args[j]? =some v→Value.okWide Tryz.prog W .any base t v:=hval0;have hW':=hW;obtain⟨p,q,hA0,hV,rfl,hfz,hnd⟩:=hW;have hA:DataW.TrodAll enc Tryz.prog W 0 (fun _=>true) true Tryz.f5.params.toList args.toList ds p:=hA0;rw[Tryz.params5]at hA hval;obtain⟨v0,vs0,d0,ds0,p0,q0,hargs,rfl,rfl,h0,r0⟩:=trodAll_cons hA;obtain⟨v1,vs1,d1,ds1,p1,q1,rfl,rfl,rfl,h1,r1⟩:=trodAll_cons r0;obtain⟨rfl,rfl,rfl⟩:=trodAll_nil r1;obtain rfl:args= #[v0,v1]:=by cases args;simp_all
 obtain⟨rfl,rfl⟩:=trodVars_none hV;obtain⟨u0,f0,rv0⟩:=Rc (dp:=5) Tryz.underlying27 (by kernel_rfl) (hval 0 27 v0 rfl rfl) h0;obtain⟨m0,rfl,mw0⟩:=Ado _ f0;have z0_3:=Ga Tryz.underlying27 h0 rv0 (j:=0) hsz (by rw[Tryz.params5];rfl) rfl (i:=3) rfl Tryz.underlying23 (by kernel_rfl) (by kernel_rfl) rfl;have z0_4:=Ga Tryz.underlying27 h0 rv0 (j:=0) hsz (by rw[Tryz.params5];rfl) rfl (i:=4) rfl Tryz.underlying24 (by kernel_rfl) (by kernel_rfl) rfl;have z0_5:=Ga Tryz.underlying27 h0 rv0 (j:=0) hsz (by rw[Tryz.params5];rfl) rfl (i:=5) rfl Tryz.underlying25 (by kernel_rfl) (by kernel_rfl) rfl;obtain⟨a1,rfl,rfl,rfl,w1⟩:=Go.ChangeMaps.open_string Tryz.underlying9 (hval 1 9 v1 rfl rfl) h1;have hb:=ZV (hcond _ rfl);simp only[List.append_nil,Rows.uptoBulkAll,Rows.uptoBulk]at hb;clear hA0 hval0;rw[Go.MakeChecks.laidMetH_plain _ _ _ (by kernel_rfl)]at hL
 letI:Glob:=Ut W
 haveI:Tabs:=Aa7 hL
 refine(Aie (us:=[_,_]) (xs:=[_,_]) (w:=W) (law m0 a1 (mw0.ok z0_3 z0_4 z0_5) (by have e:=Array.length_toList (xs:=a1.data);have e2:a1.size=a1.data.size:=rfl;omega)) ⟨rv0,RV.v _,trivial⟩ (Us W)).mono fun e W' ⟨he,hg⟩=>?_;subst he;exact⟨_,rfl,S8 hW' (by kernel_rfl) (by rw[Tryz.params5];exact ZV (by kernel_rfl)) rfl rfl (by kernel_rfl) Tryz.underlying4 hg⟩
set_option maxHeartbeats 100000000 in
theorem closed:joinedFacts Tryz.pinned.checked.prog 5 Tryz.f5 (Rows.OpenSpec.upto Rows.packetBackSpec).bare Rows.packetBackUptoRow=true:=by
 unfold joinedFacts;repeat' (with_reducible refine Sr ?_ ?_)
 all_goals (as_aux_lemma=>kernel_rfl)
theorem Af0:Rows.PacketBackUptoSaid:=
 OpenClaim.holds_of_cond 5 Tryz.f5 rfl rfl rfl rfl rfl rfl rfl ⟨rfl,rfl,rfl,rfl,rfl⟩ rfl rfl rfl rfl rfl (by kernel_rfl) Tryz.func5 closed
  (ZV (by kernel_rfl)) (by unfold Func.isWrapper;first|(rw[if_pos (by decide+kernel)];kernel_rfl)|(rw[if_neg (by decide+kernel)];exact⟨rfl,rfl⟩))
  (fun os started H enc _ F=>by rw[OpenClaim.pre_eq_preRow];exact S2 os started H enc F)
theorem plain (f : FuncId) (fn : Func) (hf : Tryz.pinned.checked.prog.funcNamed "hearsay/hearsaylaw.PacketBack" = some f) (hfn : Tryz.pinned.checked.prog.funcs[f]? = some fn) :
  true=Tryz.pinned.checked.prog.looks []∧∀(j:Nat) t,fn.params[j]? =some t→Tryz.pinned.checked.prog.wantsStandIn t=false:=by
 obtain rfl : f = 5 := Option.some.inj ((show Tryz.prog.funcNamed "hearsay/hearsaylaw.PacketBack" = some 5 by kernel_rfl).symm.trans hf) |>.symm
 obtain rfl:fn=Tryz.f5:=(Option.some.inj (Tryz.func5.symm.trans hfn)).symm;refine⟨by kernel_rfl,fun j t ht=>?_⟩;rw[Tryz.params5]at ht;have hm:t=27∨t=9:=by simpa using Array.mem_of_getElem? ht
 rcases hm with rfl|rfl
 ·exact(show Tryz.prog.wantsStandIn 27=false by kernel_rfl)
 ·exact(show Tryz.prog.wantsStandIn 9=false by kernel_rfl)
theorem proved:Rows.PacketBackUptoCardSaid:=
 Claim7.holds_tied_plain_at .later [] _ _ _ _ Af0 (fun _ h=>by cases h) (by kernel_rfl) (fun _ h=>by cases h) packetBackUpto_row_tie rfl ⟨rfl,rfl⟩ (by kernel_rfl) rfl plain (by kernel_rfl)
#print axioms proved
end Go.Proofs.YteflnbjmjcbmmaaGreatDoor.packetBack
