/- AnswerAsks: whatever message and knowledge come in, of bulk at most 1048576 together, a question that is written is answered as the reference answers it. -/
import Derived.Test.YtbnocibpoghfhaaGreatDoorCards
import Derived.Test.YtbnocibpoghfhaaGreatDoorTie
import Derived.Deep.DeepHandedRow
import Derived.Deep.DeepWitnessRowRef
import Derived.Lib.LaidU8
import Derived.Lib.LaidIn
import Derived.Test.YtbnocibpoghfhaaGreatDoorXa
import Derived.Test.YtbnocibpoghfhaaGreatDoorXb
import Derived.Test.YtbnocibpoghfhaaGreatDoorXc
import Derived.Test.YtbnocibpoghfhaaGreatDoorXd
import Derived.Test.YtbnocibpoghfhaaGreatDoorXe
import Derived.Test.YtbnocibpoghfhaaGreatDoorXf
import Derived.Test.YtbnocibpoghfhaaGreatDoorXg
set_option linter.unusedSimpArgs false
set_option linter.unusedVariables false
namespace Go.Proofs.YtbnocibpoghfhaaGreatDoor.answerAsks
open Go.Joins Go.ChangeShapes Go.WideShapes Go.ChangeAt Go.RowKit Pl
theorem Aua(s:ByteArray)(k:Kn)(hs:s.size≤9223372036854775807)(hk:k.In):Fun Tryz.prog 5 [.c (.v (.string s)),.c (.agg k.row)] [.c (.v (.bool true))]:=by
 have h1:=We k s hk hs;have h2:=Abn k s hk hs;generalize Eu k s (Bh k)=X at *;refine Ar Fz rfl ?_;refine G1 ?_;intro gg;refine .inl (cX h1 ?_);refine G1 ?_;intro gg;refine .inl (cX h2 ?_);refine G1 ?_;intro gg;refine .inl (cY Lh ?_);refine G1 ?_;intro gg;rw[beq_self_eq_true];refine G0 ?_;rw[show(X.2.1==X.2.1)=true from beq_self_eq_true _];refine G0 ?_;rw[show(X.1.toList==X.1.toList)=true from beq_self_eq_true _];(exact⟨[],aI⟩)
theorem law(m:Ms)(k:Kn)(hm:Aox m)(hk:k.In):Fun Tryz.prog 6 [.c (.agg m.row),.c (.agg k.row)] [.c (.v (.bool true))]:=by
 have hl:m.rs.length≤9223372036854775807:=by have:=hm.ln;omega
 have hW:=Adh m hm.sz hl;have hR:(wrS m).size≤9223372036854775807:=by
  by_cases h:A4 m=0
  ·by_cases h2:512<(Cx m).length
   ·rw[(Aec h h2).2];decide
   ·rw[(Amk h h2).2];show(Cx m).toArray.size≤_;simp;omega
  ·rw[(Akm h).2];decide
 have hR:=Aua (wrS m) k hR hk;refine Ar M7 rfl ?_;(refine goI ?_;repeat (intro gg;refine goI ?_));refine .inl (cX Avq ?_);refine G1 ?_;intro gg;refine .inl (cX hW ?_);refine G1 ?_;intro gg;by_cases h1:wrE m=0
 ·rw[h1];refine G0 ?_;refine .inl (cX hR ?_);refine G1 ?_;intro gg;(exact⟨[],aI⟩)
 ·rw[show(wrE m !=0)=true from ZZ.2 h1];refine G0 ?_;(exact⟨[],aI⟩)
theorem own:ownKnob Tryz.prog.godebug=none:=by kernel_rfl
noncomputable def Bs(os:Os):World:=
 let w0:=World.holding Tryz.prog os ⟨#[], #[],[]⟩
 let put (h:Array Obj) (g:Nat) (cs:Array Value):Array Obj:=h.modify g fun
  |.cells _ t frozen=>.cells cs t frozen
  |o=>o
 let h1:=put w0.heap 1 (Lib.firstTab.map fun z=>Value.int .u8 z).toArray
 let h2:=put h1 2 ((List.range 16).flatMap fun i=>[Value.int .u8 (Lib.accLo i),Value.int .u8 (Lib.accHi i)]).toArray
 {w0 with heap:=h2}
set_option maxRecDepth 100000 in
theorem H6(os:Os)(args:Array Value):laidMet Tryz.prog Rows.answerAsksUptoRow.laid ((Bs os).forCall (fun _ _=>0) ⟨#[],args,[]⟩).memory:=
 (LaidIn.of_run (l := [("unicode/utf8.acceptRanges", Rows.laid_unicode_utf8_acceptRanges), ("unicode/utf8.first", Rows.laid_unicode_utf8_first)]) [2, 1] 8 (by kernel_rfl) (by kernel_rfl) (by kernel_rfl) (by kernel_rfl)).met
set_option maxRecDepth 100000 in
theorem Et(os:Os){H:Type}(enc:TypeId×Value→H):
  (Rows.OpenSpec.upto Rows.answerAsksSpec).preRow enc Tryz.prog Tryz.f6 Rows.answerAsksUptoRow.domain false Rows.answerAsksUptoRow.laid ((Bs os).forCall (fun _ _=>0) ⟨#[], #[.agg #[.int .i64 0,.bool false,.bool false,.int .i64 0,.string ⟨#[]⟩,.int .i64 0,.slice none 0 0],.agg #[.string ⟨#[]⟩,.slice none 0 0,.slice none 0 0,.int .i64 0,.int .i64 0,.int .i64 0,.int .i64 0,.int .i64 0,.slice none 0 0]],[]⟩).memory #[.agg #[.int .i64 0,.bool false,.bool false,.int .i64 0,.string ⟨#[]⟩,.int .i64 0,.slice none 0 0],.agg #[.string ⟨#[]⟩,.slice none 0 0,.slice none 0 0,.int .i64 0,.int .i64 0,.int .i64 0,.int .i64 0,.int .i64 0,.slice none 0 0]]:=by
 have hw:(DataW.whole enc Tryz.prog ((Bs os).forCall (fun _ _=>0) ⟨#[], #[.agg #[.int .i64 0,.bool false,.bool false,.int .i64 0,.string ⟨#[]⟩,.int .i64 0,.slice none 0 0],.agg #[.string ⟨#[]⟩,.slice none 0 0,.slice none 0 0,.int .i64 0,.int .i64 0,.int .i64 0,.int .i64 0,.int .i64 0,.slice none 0 0]],[]⟩).memory Tryz.f6.params.toList Rows.answerAsksSpec.vars false (#[.agg #[.int .i64 0,.bool false,.bool false,.int .i64 0,.string ⟨#[]⟩,.int .i64 0,.slice none 0 0],.agg #[.string ⟨#[]⟩,.slice none 0 0,.slice none 0 0,.int .i64 0,.int .i64 0,.int .i64 0,.int .i64 0,.int .i64 0,.slice none 0 0]]:Array Value).toList 8).map (fun x=>(x.1,x.2.1))=
   some ([.agg [.lit (.int .i64 0),.lit (.bool false),.lit (.bool false),.lit (.int .i64 0),.agg [.lit (.string []),.lit (.int .i64 0)],.nil],.agg [.lit (.string []),.nil,.nil,.agg [.lit (.int .i64 0),.lit (.int .i64 0),.lit (.int .i64 0),.lit (.int .i64 0),.lit (.int .i64 0)],.nil]],[]):=by kernel_rfl
 obtain⟨⟨x1,x2,x3⟩,hx,hx1⟩:=Option.map_eq_some_iff.1 hw;simp only[Prod.mk.injEq]at hx1;obtain⟨rfl,rfl⟩:=hx1;exact OpenSpec.preRow_of_cond 8 hx (by kernel_rfl) (fun k hk=>by cases hk;kernel_rfl) (by kernel_rfl) (H6 os _)
set_option maxRecDepth 100000 in
theorem Oq(os:Os)(started:os.Started)(H:Type)(enc:TypeId×Value→H)(F:Stop.Interp):
  ReturnsInHanded {} Tryz.checked os 6 .any ((Rows.OpenSpec.upto Rows.answerAsksSpec).preRow enc Tryz.prog Tryz.f6 Rows.answerAsksUptoRow.domain false Rows.answerAsksUptoRow.laid) (((Rows.OpenSpec.upto Rows.answerAsksSpec).at F).post enc Tryz.prog Tryz.f6 false true false false):=by
 refine returnsInHanded_of_row (C:=Tryz.checked) (s:=(Rows.OpenSpec.upto Rows.answerAsksSpec)) own started (by kernel_rfl) Tryz.func6
  (witness_row_atRef (enc:=enc) (C:=Tryz.checked) false (Bs os) #[.agg #[.int .i64 0,.bool false,.bool false,.int .i64 0,.string ⟨#[]⟩,.int .i64 0,.slice none 0 0],.agg #[.string ⟨#[]⟩,.slice none 0 0,.slice none 0 0,.int .i64 0,.int .i64 0,.int .i64 0,.int .i64 0,.int .i64 0,.slice none 0 0]] rfl (by kernel_rfl) (by kernel_rfl) (by kernel_rfl) (Et os enc)) ?_
 intro W base args ds gs before hval0 hW _ hcond _ hL _ _;have hval:∀(j:Nat) t v,Tryz.f6.params[j]? =some t→args[j]? =some v→Value.okWide Tryz.prog W .any base t v:=hval0;have hW':=hW;obtain⟨p,q,hA0,hV,rfl,hfz,hnd⟩:=hW;have hA:DataW.TrodAll enc Tryz.prog W 0 (fun _=>true) true Tryz.f6.params.toList args.toList ds p:=hA0;rw[Tryz.params6]at hA hval;obtain⟨v0,vs0,d0,ds0,p0,q0,hargs,rfl,rfl,h0,r0⟩:=trodAll_cons hA;obtain⟨v1,vs1,d1,ds1,p1,q1,rfl,rfl,rfl,h1,r1⟩:=trodAll_cons r0;obtain⟨rfl,rfl,rfl⟩:=trodAll_nil r1;obtain rfl:args= #[v0,v1]:=by cases args;simp_all
 obtain⟨rfl,rfl⟩:=trodVars_none hV;have hb:=ZV (hcond _ rfl);simp only[List.append_nil,Rows.uptoBulkAll]at hb;obtain⟨u0,f0,rv0,bd0⟩:=Adv (dp:=5) Ao7 Tryz.underlying52 (by kernel_rfl) (hval 0 52 v0 rfl rfl) h0 (show Rows.uptoBulk d0≤1048576 by omega);obtain⟨m0,rfl,mw0⟩:=Avx (ZT _) _ f0 bd0;obtain⟨u1,f1,rv1⟩:=Gf (dp:=5) Tryz.underlying30 (by kernel_rfl) (hval 1 30 v1 rfl rfl) h1;obtain⟨m1,rfl,mw1⟩:=Abr _ f1;clear hA0 hval0;refine(Are (us:=[_,_]) (xs:=[_,_]) (w:=W) (law m0 m1 mw0 mw1) ⟨rv0,rv1,trivial⟩).mono fun e W' ⟨he,hg⟩=>?_;subst he;exact⟨_,rfl,Qt hW' (by kernel_rfl) (by rw[Tryz.params6];exact ZV (by kernel_rfl)) rfl rfl (by kernel_rfl) Tryz.underlying4 hg⟩
theorem Aev:Rows.AnswerAsksUptoSaid:=
 OpenClaim.holds_of_cond 6 Tryz.f6 rfl rfl rfl rfl rfl rfl rfl ⟨rfl,rfl,rfl,rfl,rfl⟩ rfl rfl rfl rfl rfl (by kernel_rfl) Tryz.func6 (by kernel_rfl)
  (ZV (by kernel_rfl)) (by unfold Func.isWrapper;first|(rw[if_pos (by decide+kernel)];kernel_rfl)|(rw[if_neg (by decide+kernel)];exact⟨rfl,rfl⟩))
  (fun os started H enc _ F=>by rw[OpenClaim.pre_eq_preRow];exact Oq os started H enc F)
theorem plain (f : FuncId) (fn : Func) (hf : Tryz.pinned.checked.prog.funcNamed "hearsay/hearsaylaw.AnswerAsks" = some f) (hfn : Tryz.pinned.checked.prog.funcs[f]? = some fn) :
  true=Tryz.pinned.checked.prog.looks []∧∀(j:Nat) t,fn.params[j]? =some t→Tryz.pinned.checked.prog.wantsStandIn t=false:=by
 obtain rfl : f = 6 := Option.some.inj ((show Tryz.prog.funcNamed "hearsay/hearsaylaw.AnswerAsks" = some 6 by kernel_rfl).symm.trans hf) |>.symm
 obtain rfl:fn=Tryz.f6:=(Option.some.inj (Tryz.func6.symm.trans hfn)).symm;refine⟨by kernel_rfl,fun j t ht=>?_⟩;rw[Tryz.params6]at ht;have hm:t=52∨t=30:=by simpa using Array.mem_of_getElem? ht
 rcases hm with rfl|rfl
 ·exact(show Tryz.prog.wantsStandIn 52=false by kernel_rfl)
 ·exact(show Tryz.prog.wantsStandIn 30=false by kernel_rfl)
theorem proved:Rows.AnswerAsksUptoCardSaid:=
 Claim7.holds_tied_plain_at .later [] _ _ _ _ Aev (fun _ h=>by cases h) (by kernel_rfl) (fun _ h=>by cases h) answerAsksUpto_row_tie rfl ⟨rfl,rfl⟩ (by kernel_rfl) rfl plain (by kernel_rfl)
#print axioms proved
end Go.Proofs.YtbnocibpoghfhaaGreatDoor.answerAsks
