/- AnswerRecords: whatever query, type and knowledge come in, Records answers what the reference answers; no condition. -/
import Derived.Test.YtbnocibpoghfhaaGreatDoorCards
import Derived.Test.YtbnocibpoghfhaaGreatDoorTie
import Derived.Deep.DeepHandedRow
import Derived.Deep.DeepWitnessRowRef
import Derived.Lib.LaidU8
import Derived.Lib.LaidIn
import Derived.Test.YtbnocibpoghfhaaGreatDoorVa
import Derived.Test.YtbnocibpoghfhaaGreatDoorVb
import Derived.Test.YtbnocibpoghfhaaGreatDoorVc
set_option linter.unusedSimpArgs false
set_option linter.unusedVariables false
namespace Go.Proofs.YtbnocibpoghfhaaGreatDoor.answerRecords
open Go.Joins Go.ChangeShapes Go.WideShapes Go.ChangeAt Go.RowKit Pl
theorem law(q:Qr)(t:Int)(k:Kn)(hq:q.ok)(ht: -9223372036854775808≤t∧t≤9223372036854775807)(hk:k.In):Fun Tryz.prog 3 [.c (.agg q.row),.c (.v (.int .i64 t)),.c (.agg k.row)] [.c (.v (.bool true))]:=by
 have h1:=Mj k q t hk hq;have h2:=Uy k q t hk hq;have hl:=(Aab k q t).len;generalize C7 k q t (Bh k q)=X at *;refine Ar J3 rfl ?_;(refine goI ?_;repeat (intro gg;refine goI ?_));(refine .inl ⟨_,_,false,[],aI,h1,Ab,nI,?_⟩);refine G1 ?_;intro gg;(refine .inl ⟨_,_,false,[],aI,h2,Ab,nI,?_⟩);refine G1 ?_;intro gg;(refine .inl ⟨_,_,true,[],aI,Lh,(fun _=>fI),nI,?_⟩);refine G1 ?_;intro gg;rw[beq_self_eq_true];refine G0 ?_;rw[beq_self_eq_true];refine G0 ?_;(refine .inl ⟨_,_,true,[],aI,Aeo false false X.1 (by omega),(fun _=>fI),nI,?_⟩);refine G1 ?_;intro gg;(exact⟨[],aI⟩)
theorem own:ownKnob Tryz.prog.godebug=none:=by kernel_rfl
noncomputable def Bs(os:Os):World:=
 let w0:=World.holding Tryz.prog os ⟨#[], #[],[]⟩
 let put (h:Array Obj) (g:Nat) (cs:Array Value):Array Obj:=h.modify g fun
  |.cells _ t frozen=>.cells cs t frozen
  |o=>o
 let h1:=put w0.heap 1 (Lib.firstTab.map fun z=>Value.int .u8 z).toArray
 let h2:=put h1 2 ((List.range 16).flatMap fun i=>[Value.int .u8 (Lib.accLo i),Value.int .u8 (Lib.accHi i)]).toArray
 {w0 with heap:=h2}
set_option maxRecDepth 100000 in
theorem H6(os:Os)(args:Array Value):laidMet Tryz.prog Rows.answerRecordsRow.laid ((Bs os).forCall (fun _ _=>0) ⟨#[],args,[]⟩).memory:=
 (LaidIn.of_run (l := [("unicode/utf8.acceptRanges", Rows.laid_unicode_utf8_acceptRanges), ("unicode/utf8.first", Rows.laid_unicode_utf8_first)]) [2, 1] 8 (by kernel_rfl) (by kernel_rfl) (by kernel_rfl) (by kernel_rfl)).met
set_option maxRecDepth 100000 in
theorem Et(os:Os){H:Type}(enc:TypeId×Value→H):
  (OpenSpec.ofChange Rows.answerRecordsSpec).preRow enc Tryz.prog Tryz.f3 Rows.answerRecordsRow.domain false Rows.answerRecordsRow.laid ((Bs os).forCall (fun _ _=>0) ⟨#[], #[.agg #[.string ⟨#[]⟩,.string ⟨#[]⟩,.string ⟨#[]⟩,.string ⟨#[]⟩],.int .i64 0,.agg #[.string ⟨#[]⟩,.slice none 0 0,.slice none 0 0,.int .i64 0,.int .i64 0,.int .i64 0,.int .i64 0,.int .i64 0,.slice none 0 0]],[]⟩).memory #[.agg #[.string ⟨#[]⟩,.string ⟨#[]⟩,.string ⟨#[]⟩,.string ⟨#[]⟩],.int .i64 0,.agg #[.string ⟨#[]⟩,.slice none 0 0,.slice none 0 0,.int .i64 0,.int .i64 0,.int .i64 0,.int .i64 0,.int .i64 0,.slice none 0 0]]:=by
 have hw:(DataW.whole enc Tryz.prog ((Bs os).forCall (fun _ _=>0) ⟨#[], #[.agg #[.string ⟨#[]⟩,.string ⟨#[]⟩,.string ⟨#[]⟩,.string ⟨#[]⟩],.int .i64 0,.agg #[.string ⟨#[]⟩,.slice none 0 0,.slice none 0 0,.int .i64 0,.int .i64 0,.int .i64 0,.int .i64 0,.int .i64 0,.slice none 0 0]],[]⟩).memory Tryz.f3.params.toList Rows.answerRecordsSpec.vars false (#[.agg #[.string ⟨#[]⟩,.string ⟨#[]⟩,.string ⟨#[]⟩,.string ⟨#[]⟩],.int .i64 0,.agg #[.string ⟨#[]⟩,.slice none 0 0,.slice none 0 0,.int .i64 0,.int .i64 0,.int .i64 0,.int .i64 0,.int .i64 0,.slice none 0 0]]:Array Value).toList 8).map (fun x=>(x.1,x.2.1))=
   some ([.agg [.lit (.string []),.lit (.string []),.lit (.string []),.lit (.string [])],.lit (.int .i64 0),.agg [.lit (.string []),.nil,.nil,.agg [.lit (.int .i64 0),.lit (.int .i64 0),.lit (.int .i64 0),.lit (.int .i64 0),.lit (.int .i64 0)],.nil]],[]):=by kernel_rfl
 obtain⟨⟨x1,x2,x3⟩,hx,hx1⟩:=Option.map_eq_some_iff.1 hw;simp only[Prod.mk.injEq]at hx1;obtain⟨rfl,rfl⟩:=hx1;exact OpenSpec.preRow_of_cond 8 hx (by kernel_rfl) (fun k hk=>by cases hk) (by kernel_rfl) (H6 os _)
set_option maxRecDepth 100000 in
theorem Oq(os:Os)(started:os.Started)(H:Type)(enc:TypeId×Value→H)(F:Stop.Interp):
  ReturnsInHanded {} Tryz.checked os 3 .any ((OpenSpec.ofChange Rows.answerRecordsSpec).preRow enc Tryz.prog Tryz.f3 Rows.answerRecordsRow.domain false Rows.answerRecordsRow.laid) (((OpenSpec.ofChange Rows.answerRecordsSpec).at F).post enc Tryz.prog Tryz.f3 false true false false):=by
 refine returnsInHanded_of_row (C:=Tryz.checked) (s:=(OpenSpec.ofChange Rows.answerRecordsSpec)) own started (by kernel_rfl) Tryz.func3
  (witness_row_atRef (enc:=enc) (C:=Tryz.checked) false (Bs os) #[.agg #[.string ⟨#[]⟩,.string ⟨#[]⟩,.string ⟨#[]⟩,.string ⟨#[]⟩],.int .i64 0,.agg #[.string ⟨#[]⟩,.slice none 0 0,.slice none 0 0,.int .i64 0,.int .i64 0,.int .i64 0,.int .i64 0,.int .i64 0,.slice none 0 0]] rfl (by kernel_rfl) (by kernel_rfl) (by kernel_rfl) (Et os enc)) ?_
 intro W base args ds gs before hval0 hW _ hcond _ hL _ _;have hval:∀(j:Nat) t v,Tryz.f3.params[j]? =some t→args[j]? =some v→Value.okWide Tryz.prog W .any base t v:=hval0;have hW':=hW;obtain⟨p,q,hA0,hV,rfl,hfz,hnd⟩:=hW;have hA:DataW.TrodAll enc Tryz.prog W 0 (fun _=>true) true Tryz.f3.params.toList args.toList ds p:=hA0;rw[Tryz.params3]at hA hval;obtain⟨v0,vs0,d0,ds0,p0,q0,hargs,rfl,rfl,h0,r0⟩:=trodAll_cons hA;obtain⟨v1,vs1,d1,ds1,p1,q1,rfl,rfl,rfl,h1,r1⟩:=trodAll_cons r0;obtain⟨v2,vs2,d2,ds2,p2,q2,rfl,rfl,rfl,h2,r2⟩:=trodAll_cons r1;obtain⟨rfl,rfl,rfl⟩:=trodAll_nil r2;obtain rfl:args= #[v0,v1,v2]:=by cases args;simp_all
 obtain⟨rfl,rfl⟩:=trodVars_none hV;obtain⟨u0,f0,rv0⟩:=Gf (dp:=5) Tryz.underlying23 (by kernel_rfl) (hval 0 23 v0 rfl rfl) h0;obtain⟨m0,rfl,mw0⟩:=Apv _ f0;obtain⟨a1,rfl,rfl,rfl,w1⟩:=open_int Tryz.underlying3 (hval 1 3 v1 rfl rfl) h1;obtain⟨u2,f2,rv2⟩:=Gf (dp:=5) Tryz.underlying30 (by kernel_rfl) (hval 2 30 v2 rfl rfl) h2;obtain⟨m2,rfl,mw2⟩:=Abr _ f2;clear hA0 hval0;refine(Are (us:=[_,_,_]) (xs:=[_,_,_]) (w:=W) (law m0 a1 m2 mw0 (by simpa[Lit.wf,IntKind.min,IntKind.max,IntKind.signed,IntKind.bits]using w1) mw2) ⟨rv0,RV.v _,rv2,trivial⟩).mono fun e W' ⟨he,hg⟩=>?_;subst he;exact⟨_,rfl,Qt hW' (by kernel_rfl) (by rw[Tryz.params3];exact ZV (by kernel_rfl)) rfl rfl (by kernel_rfl) Tryz.underlying4 hg⟩
theorem Aev:Rows.AnswerRecordsSaid:=
 OpenClaim.holds_of_cond 3 Tryz.f3 rfl rfl rfl rfl rfl rfl rfl ⟨rfl,rfl,rfl,rfl,rfl⟩ rfl rfl rfl rfl rfl (by kernel_rfl) Tryz.func3 (by kernel_rfl)
  (ZV (by kernel_rfl)) (by unfold Func.isWrapper;first|(rw[if_pos (by decide+kernel)];kernel_rfl)|(rw[if_neg (by decide+kernel)];exact⟨rfl,rfl⟩))
  (fun os started H enc _ F=>by rw[OpenClaim.pre_eq_preRow];exact Oq os started H enc F)
theorem plain (f : FuncId) (fn : Func) (hf : Tryz.pinned.checked.prog.funcNamed "hearsay/hearsaylaw.AnswerRecords" = some f) (hfn : Tryz.pinned.checked.prog.funcs[f]? = some fn) :
  true=Tryz.pinned.checked.prog.looks []∧∀(j:Nat) t,fn.params[j]? =some t→Tryz.pinned.checked.prog.wantsStandIn t=false:=by
 obtain rfl : f = 3 := Option.some.inj ((show Tryz.prog.funcNamed "hearsay/hearsaylaw.AnswerRecords" = some 3 by kernel_rfl).symm.trans hf) |>.symm
 obtain rfl:fn=Tryz.f3:=(Option.some.inj (Tryz.func3.symm.trans hfn)).symm;refine⟨by kernel_rfl,fun j t ht=>?_⟩;rw[Tryz.params3]at ht;have hm:t=23∨t=3∨t=30:=by simpa using Array.mem_of_getElem? ht
 rcases hm with rfl|rfl|rfl
 ·exact(show Tryz.prog.wantsStandIn 23=false by kernel_rfl)
 ·exact(show Tryz.prog.wantsStandIn 3=false by kernel_rfl)
 ·exact(show Tryz.prog.wantsStandIn 30=false by kernel_rfl)
theorem proved:Rows.AnswerRecordsCardSaid:=
 Claim7.holds_tied_plain_at .later [] _ _ _ _ Aev (fun _ h=>by cases h) (by kernel_rfl) (fun _ h=>by cases h) answerRecords_row_tie rfl ⟨rfl,rfl⟩ (by kernel_rfl) rfl plain (by kernel_rfl)
#print axioms proved
end Go.Proofs.YtbnocibpoghfhaaGreatDoor.answerRecords
