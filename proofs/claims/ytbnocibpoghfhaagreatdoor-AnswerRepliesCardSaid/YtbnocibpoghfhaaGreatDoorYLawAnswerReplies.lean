/- AnswerReplies: whatever text and knowledge come in, Reply answers what the reference answers; no condition. -/
import Derived.Test.YtbnocibpoghfhaaGreatDoorCards
import Derived.Test.YtbnocibpoghfhaaGreatDoorTie
import Derived.Deep.DeepHandedRow
import Derived.Deep.DeepWitnessRowRef
import Derived.Lib.LaidU8
import Derived.Lib.LaidIn
import Derived.Test.YtbnocibpoghfhaaGreatDoorYa
import Derived.Test.YtbnocibpoghfhaaGreatDoorYb
import Derived.Test.YtbnocibpoghfhaaGreatDoorYc
import Derived.Test.YtbnocibpoghfhaaGreatDoorYd
import Derived.Test.YtbnocibpoghfhaaGreatDoorYe
import Derived.Test.YtbnocibpoghfhaaGreatDoorYf
import Derived.Test.YtbnocibpoghfhaaGreatDoorYg
set_option linter.unusedSimpArgs false
set_option linter.unusedVariables false
namespace Go.Proofs.YtbnocibpoghfhaaGreatDoor.answerReplies
open Go.Joins Go.ChangeShapes Go.WideShapes Go.ChangeAt Go.RowKit Pl
theorem law(s:ByteArray)(k:Kn)(hs:s.size≤9223372036854775807)(hk:k.In):Fun Tryz.prog 5 [.c (.v (.string s)),.c (.agg k.row)] [.c (.v (.bool true))]:=by
 have h1:=We k s hk hs;have h2:=Abn k s hk hs;generalize Eu k s (Bh k)=X at *;refine Ar Fz rfl ?_;refine G1 ?_;intro gg;refine .inl (cX h1 ?_);refine G1 ?_;intro gg;refine .inl (cX h2 ?_);refine G1 ?_;intro gg;refine .inl (cY Lh ?_);refine G1 ?_;intro gg;rw[beq_self_eq_true];refine G0 ?_;rw[show(X.2.1==X.2.1)=true from beq_self_eq_true _];refine G0 ?_;rw[show(X.1.toList==X.1.toList)=true from beq_self_eq_true _];(exact⟨[],aI⟩)
theorem own:ownKnob Tryz.prog.godebug=none:=by kernel_rfl
noncomputable def Bs(os:Os):World:=
 let w0:=World.holding Tryz.prog os ⟨#[], #[],[]⟩
 let put (h:Array Obj) (g:Nat) (cs:Array Value):Array Obj:=h.modify g fun
  |.cells _ t frozen=>.cells cs t frozen
  |o=>o
 let h1:=put w0.heap 1 (Lib.firstTab.map fun z=>Value.int .u8 z).toArray
 let h2:=put h1 2 ((List.range 16).flatMap fun i=>[Value.int .u8 (Lib.accLo i),Value.int .u8 (Lib.accHi i)]).toArray
 {w0 with heap:=h2}
set_option maxRecDepth 100000 in
theorem H6(os:Os)(args:Array Value):laidMet Tryz.prog Rows.answerRepliesRow.laid ((Bs os).forCall (fun _ _=>0) ⟨#[],args,[]⟩).memory:=
 (LaidIn.of_run (l := [("unicode/utf8.acceptRanges", Rows.laid_unicode_utf8_acceptRanges), ("unicode/utf8.first", Rows.laid_unicode_utf8_first)]) [2, 1] 8 (by kernel_rfl) (by kernel_rfl) (by kernel_rfl) (by kernel_rfl)).met
set_option maxRecDepth 100000 in
theorem Et(os:Os){H:Type}(enc:TypeId×Value→H):
  (OpenSpec.ofChange Rows.answerRepliesSpec).preRow enc Tryz.prog Tryz.f5 Rows.answerRepliesRow.domain false Rows.answerRepliesRow.laid ((Bs os).forCall (fun _ _=>0) ⟨#[], #[.string ⟨#[]⟩,.agg #[.string ⟨#[]⟩,.slice none 0 0,.slice none 0 0,.int .i64 0,.int .i64 0,.int .i64 0,.int .i64 0,.int .i64 0,.slice none 0 0]],[]⟩).memory #[.string ⟨#[]⟩,.agg #[.string ⟨#[]⟩,.slice none 0 0,.slice none 0 0,.int .i64 0,.int .i64 0,.int .i64 0,.int .i64 0,.int .i64 0,.slice none 0 0]]:=by
 have hw:(DataW.whole enc Tryz.prog ((Bs os).forCall (fun _ _=>0) ⟨#[], #[.string ⟨#[]⟩,.agg #[.string ⟨#[]⟩,.slice none 0 0,.slice none 0 0,.int .i64 0,.int .i64 0,.int .i64 0,.int .i64 0,.int .i64 0,.slice none 0 0]],[]⟩).memory Tryz.f5.params.toList Rows.answerRepliesSpec.vars false (#[.string ⟨#[]⟩,.agg #[.string ⟨#[]⟩,.slice none 0 0,.slice none 0 0,.int .i64 0,.int .i64 0,.int .i64 0,.int .i64 0,.int .i64 0,.slice none 0 0]]:Array Value).toList 8).map (fun x=>(x.1,x.2.1))=
   some ([.lit (.string []),.agg [.lit (.string []),.nil,.nil,.agg [.lit (.int .i64 0),.lit (.int .i64 0),.lit (.int .i64 0),.lit (.int .i64 0),.lit (.int .i64 0)],.nil]],[]):=by kernel_rfl
 obtain⟨⟨x1,x2,x3⟩,hx,hx1⟩:=Option.map_eq_some_iff.1 hw;simp only[Prod.mk.injEq]at hx1;obtain⟨rfl,rfl⟩:=hx1;exact OpenSpec.preRow_of_cond 8 hx (by kernel_rfl) (fun k hk=>by cases hk) (by kernel_rfl) (H6 os _)
set_option maxRecDepth 100000 in
theorem Oq(os:Os)(started:os.Started)(H:Type)(enc:TypeId×Value→H)(F:Stop.Interp):
  ReturnsInHanded {} Tryz.checked os 5 .any ((OpenSpec.ofChange Rows.answerRepliesSpec).preRow enc Tryz.prog Tryz.f5 Rows.answerRepliesRow.domain false Rows.answerRepliesRow.laid) (((OpenSpec.ofChange Rows.answerRepliesSpec).at F).post enc Tryz.prog Tryz.f5 false true false false):=by
 refine returnsInHanded_of_row (C:=Tryz.checked) (s:=(OpenSpec.ofChange Rows.answerRepliesSpec)) own started (by kernel_rfl) Tryz.func5
  (witness_row_atRef (enc:=enc) (C:=Tryz.checked) false (Bs os) #[.string ⟨#[]⟩,.agg #[.string ⟨#[]⟩,.slice none 0 0,.slice none 0 0,.int .i64 0,.int .i64 0,.int .i64 0,.int .i64 0,.int .i64 0,.slice none 0 0]] rfl (by kernel_rfl) (by kernel_rfl) (by kernel_rfl) (Et os enc)) ?_
 intro W base args ds gs before hval0 hW _ hcond _ hL _ _;have hval:∀(j:Nat) t v,Tryz.f5.params[j]? =some t→args[j]? =some v→Value.okWide Tryz.prog W .any base t v:=hval0;have hW':=hW;obtain⟨p,q,hA0,hV,rfl,hfz,hnd⟩:=hW;have hA:DataW.TrodAll enc Tryz.prog W 0 (fun _=>true) true Tryz.f5.params.toList args.toList ds p:=hA0;rw[Tryz.params5]at hA hval;obtain⟨v0,vs0,d0,ds0,p0,q0,hargs,rfl,rfl,h0,r0⟩:=trodAll_cons hA;obtain⟨v1,vs1,d1,ds1,p1,q1,rfl,rfl,rfl,h1,r1⟩:=trodAll_cons r0;obtain⟨rfl,rfl,rfl⟩:=trodAll_nil r1;obtain rfl:args= #[v0,v1]:=by cases args;simp_all
 obtain⟨rfl,rfl⟩:=trodVars_none hV;obtain⟨a0,rfl,rfl,rfl,w0⟩:=Go.ChangeMaps.open_string Tryz.underlying9 (hval 0 9 v0 rfl rfl) h0;obtain⟨u1,f1,rv1⟩:=Gf (dp:=5) Tryz.underlying30 (by kernel_rfl) (hval 1 30 v1 rfl rfl) h1;obtain⟨m1,rfl,mw1⟩:=Abr _ f1;clear hA0 hval0;refine(Are (us:=[_,_]) (xs:=[_,_]) (w:=W) (law a0 m1 (by simpa[maxLen]using w0) mw1) ⟨RV.v _,rv1,trivial⟩).mono fun e W' ⟨he,hg⟩=>?_;subst he;exact⟨_,rfl,Qt hW' (by kernel_rfl) (by rw[Tryz.params5];exact ZV (by kernel_rfl)) rfl rfl (by kernel_rfl) Tryz.underlying4 hg⟩
theorem Aev:Rows.AnswerRepliesSaid:=
 OpenClaim.holds_of_cond 5 Tryz.f5 rfl rfl rfl rfl rfl rfl rfl ⟨rfl,rfl,rfl,rfl,rfl⟩ rfl rfl rfl rfl rfl (by kernel_rfl) Tryz.func5 (by kernel_rfl)
  (ZV (by kernel_rfl)) (by unfold Func.isWrapper;first|(rw[if_pos (by decide+kernel)];kernel_rfl)|(rw[if_neg (by decide+kernel)];exact⟨rfl,rfl⟩))
  (fun os started H enc _ F=>by rw[OpenClaim.pre_eq_preRow];exact Oq os started H enc F)
theorem plain (f : FuncId) (fn : Func) (hf : Tryz.pinned.checked.prog.funcNamed "hearsay/hearsaylaw.AnswerReplies" = some f) (hfn : Tryz.pinned.checked.prog.funcs[f]? = some fn) :
  true=Tryz.pinned.checked.prog.looks []∧∀(j:Nat) t,fn.params[j]? =some t→Tryz.pinned.checked.prog.wantsStandIn t=false:=by
 obtain rfl : f = 5 := Option.some.inj ((show Tryz.prog.funcNamed "hearsay/hearsaylaw.AnswerReplies" = some 5 by kernel_rfl).symm.trans hf) |>.symm
 obtain rfl:fn=Tryz.f5:=(Option.some.inj (Tryz.func5.symm.trans hfn)).symm;refine⟨by kernel_rfl,fun j t ht=>?_⟩;rw[Tryz.params5]at ht;have hm:t=9∨t=30:=by simpa using Array.mem_of_getElem? ht
 rcases hm with rfl|rfl
 ·exact(show Tryz.prog.wantsStandIn 9=false by kernel_rfl)
 ·exact(show Tryz.prog.wantsStandIn 30=false by kernel_rfl)
theorem proved:Rows.AnswerRepliesCardSaid:=
 Claim7.holds_tied_plain_at .later [] _ _ _ _ Aev (fun _ h=>by cases h) (by kernel_rfl) (fun _ h=>by cases h) answerReplies_row_tie rfl ⟨rfl,rfl⟩ (by kernel_rfl) rfl plain (by kernel_rfl)
#print axioms proved
end Go.Proofs.YtbnocibpoghfhaaGreatDoor.answerReplies
