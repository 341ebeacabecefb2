/- NodeRoutes: whatever node, query and number come in, a question for another centre goes on as it is, to where Next says, if there is a gateway; one for this centre never does; no condition. -/
import Derived.Test.YtkbjgdcdjccnaaaGreatDoorCards
import Derived.Test.YtkbjgdcdjccnaaaGreatDoorTie
import Derived.Deep.DeepHandedRow
import Derived.Deep.DeepWitnessRowRef
import Derived.Lib.LaidU8
import Derived.Lib.LaidIn
import Derived.Test.YtkbjgdcdjccnaaaGreatDoorVa
import Derived.Test.YtkbjgdcdjccnaaaGreatDoorVb
import Derived.Test.YtkbjgdcdjccnaaaGreatDoorVc
import Derived.Test.YtkbjgdcdjccnaaaGreatDoorVd
import Derived.Test.YtkbjgdcdjccnaaaGreatDoorVe
import Derived.Test.YtkbjgdcdjccnaaaGreatDoorVf
import Derived.Test.YtkbjgdcdjccnaaaGreatDoorVg
set_option linter.unusedSimpArgs false
set_option linter.unusedVariables false
namespace Go.Proofs.YtkbjgdcdjccnaaaGreatDoor.nodeRoutes
open Go.Joins Go.ChangeShapes Go.WideShapes Go.ChangeAt Go.RowKit Pl
def chs(c n:Int):Int:=if c<0 then Int.tmod (0-(c+1)) n else Int.tmod c n
theorem Az3{c n:Int}(hn:0<n):0≤chs c n∧chs c n<n:=by
 unfold chs;split
 ·have h:0≤0-(c+1):=by omega
  rw[Int.tmod_eq_emod_of_nonneg h];exact⟨Int.emod_nonneg _ (by omega),Int.emod_lt_of_pos _ hn⟩
 ·have h:0≤c:=by omega
  rw[Int.tmod_eq_emod_of_nonneg h];exact⟨Int.emod_nonneg _ (by omega),Int.emod_lt_of_pos _ hn⟩
theorem Akk(c n:Int)(hc: -9223372036854775808≤c∧c≤9223372036854775807)(hn:0<n):Fun Tryz.prog 29 [.c (.v (.int .i64 c)),.c (.v (.int .i64 n))] [.c (.v (.int .i64 (chs c n)))]:=by
 unfold chs;refine Av P9 rfl ?_;refine G0 ?_;(refine Aa (fun h1=>?_) (fun h1=>?_)<;>rw[h1])
 ·have h1':c<0:=ZV h1;rw[if_pos h1'];refine G0 ?_;refine⟨by omega,_,rfl,?_⟩;refine G0 ?_;(exact⟨[],aI⟩)
 ·have h1':¬c<0:=ZW h1;rw[if_neg h1'];refine G0 ?_;refine⟨by omega,_,rfl,?_⟩;refine G0 ?_;(exact⟨[],aI⟩)
theorem Anq{l:List Gw}{a b:ByteArray}(h:(a.toList==b.toList)=true∨hit (Gw.cf b) l=false):(Ff l a b).1≠0:=by
 unfold Ff;split
 ·assumption
 ·split
  ·simp
  ·split
   ·simp
   ·split
    ·simp
    ·rename_i q;rcases h with h|h
     ·exact absurd h q
     ·rw[h];split<;>simp
theorem Awy{l:List Gw}{b:ByteArray}(h:Eg l=0)(hh:hit (Gw.cf b) l=true):lab b.data.toList=true:=by
 have h1:=(Nr h).2.1 _ (Ep hh);have h2:Dg (l[low (Gw.cf b) l]'(Ep hh)).c b=0:=Uj hh;rw[Ct]at h2;unfold Gw.err at h1;rw[h2]at h1;split at h1
 ·assumption
 ·cases h1
theorem Alq{n:Nd}{q:Qr}{s:ByteArray}(hs:onQ s=none∨onQ s=some q∧(Ff n.gs n.ce q.ce).1≠0):(Al8 n s).2=(0,false):=by
 unfold Al8;rcases hs with e|⟨e,h⟩
 ·rw[e]
 ·rw[e];show Prod.snd (if(Ff n.gs n.ce q.ce).1=0 then _ else _)=_;rw[if_neg h]
theorem Awc{n:Nd}{q:Qr}{s:ByteArray}(e:onQ s=some q)(h:(Ff n.gs n.ce q.ce).1=0):Al8 n s=(s,(Ff n.gs n.ce q.ce).2,true):=by
 unfold Al8;rw[e];show(if(Ff n.gs n.ce q.ce).1=0 then _ else _)=_;rw[if_pos h]
theorem law(n:Nd)(q:Qr)(c:Int)(h:n.ok)(hq:q.ok)(hc: -9223372036854775808≤c∧c≤9223372036854775807):Fun Tryz.prog 5 [.c (.agg n.row),.c (.agg q.row),.c (.v (.int .i64 c))] [.c (.v (.bool true))]:=by
 have hP:=Dw q hq;have hC:=Akk c 65536 hc (by omega);have hi:=Az3 (c:=c) (n:=65536) (by omega);have hK:=Aih n h;have hG:=Avu false n.gs q.ce h.gsl;generalize chs c 65536=I at *;by_cases h1:(Au q).2=0;rotate_left
 ·refine Av D9 rfl ?_;(refine goI ?_;repeat (intro gg;refine goI ?_));refine .inl (cX Zk ?_);refine G1 ?_;intro gg;refine .inl (cX Arn ?_);refine G1 ?_;intro gg;refine .inl (cX Sy ?_);refine G1 ?_;intro gg;refine .inl (cX hP ?_);refine G1 ?_;intro gg;rw[show((Au q).2 !=0)=true from ZZ.2 h1];refine G0 ?_;(exact⟨[],aI⟩)
 have hp:Au q=((Au q).1,0):=Prod.ext rfl h1;obtain⟨p1,p2,p3⟩:=Hc hp;rw[h1]at hP;generalize (Au q).1=N at *;subst p3;have hE:Bh ⟨I,false,false,0,q.pr,1,[]⟩=0:=Nm (by show wIn I 0 65535=true;unfold wIn;rw[ZX hi.1,ZX (show I≤65535 by omega)];rfl) rfl (ZU _) p2 rfl (fun r hr=>by cases hr);have hL:¬512<(C5 ⟨I,false,false,0,q.pr,1,[]⟩).length:=by
  have:=Sz (Hw hE).1;exact Nat.not_lt.2 this
 have hM:=Ans hE;have hW:=(Adv ⟨I,false,false,0,q.pr,1,[]⟩ hM.sz (ZU _)).sub1 (u':=.agg (Vu ⟨I,false,false,0,q.pr,1,[]⟩)) fun w R x h=>Afk rfl h;have hB:=Aia hE hL;rw[(Aiv hE hL).1,(Aiv hE hL).2]at hW;have hz:ByteArray.size ⟨(C5 ⟨I,false,false,0,q.pr,1,[]⟩).toArray⟩≤9223372036854775807:=by
  show(C5 _).toArray.size≤_;rw[List.size_toArray];omega
 generalize (⟨(C5 ⟨I,false,false,0,q.pr,1,[]⟩).toArray⟩:ByteArray)=S at *;have hA:=Aw6 n h S hz;have hO:onQ S=if(q.ce.toList==(⟨#[]⟩:ByteArray).toList)=true then none else some q:=by
  unfold onQ;rw[hB];simp only[Dc hp];simp
 obtain⟨X,hX⟩:∃X,Aqd n S=X:=⟨_,rfl⟩;rw[hX]at hA;by_cases he:n.err=0;rotate_left
 ·refine Av D9 rfl ?_;(refine goI ?_;repeat (intro gg;refine goI ?_));refine .inl (cX Zk ?_);refine G1 ?_;intro gg;refine .inl (cX Arn ?_);refine G1 ?_;intro gg;refine .inl (cX Sy ?_);refine G1 ?_;intro gg;refine .inl (cX hP ?_);refine G1 ?_;intro gg;refine .inl (cX hC ?_);refine G1 ?_;intro gg;refine .inl (cX hW ?_);refine G1 ?_;intro gg;refine .inl (cX hA ?_);refine G1 ?_;intro gg;rw[show(n.err !=0)=true from ZZ.2 he];refine G0 ?_;refine .inl (cX hK ?_);refine G1 ?_;intro gg;rw[show(n.err !=0)=true from ZZ.2 he];(exact⟨[],aI⟩)
 have g:=Nd.good he;have hs:=(Nr g.gs).2.2;rw[Ao5 he]at hX;rw[he]at hA;rw[Gw.at_eq hs]at hG;refine Av D9 rfl ?_;(refine goI ?_;repeat (intro gg;refine goI ?_));refine .inl (cX Zk ?_);refine G1 ?_;intro gg;refine .inl (cX Arn ?_);refine G1 ?_;intro gg;refine .inl (cX Sy ?_);refine G1 ?_;intro gg;refine .inl (cX hP ?_);refine G1 ?_;intro gg;refine .inl (cX hC ?_);refine G1 ?_;intro gg;refine .inl (cX hW ?_);refine G1 ?_;intro gg;refine .inl (cX hA ?_);refine G1 ?_;intro gg;refine .inl (cX hG ?_);refine G1 ?_;intro gg;by_cases z:(q.ce.toList==(⟨#[]⟩:ByteArray).toList)=true
 ·rw[if_pos z]at hO;have hN:=Alq (n:=n) (q:=q) (.inl hO);rw[hX]at hN;rw[z,hN];refine G0 ?_;(exact⟨[],aI⟩)
 rw[if_neg z]at hO;rw[Bool.not_eq_true]at z;rw[z];refine G0 ?_;by_cases y:(n.ce.toList==q.ce.toList)=true
 ·have hN:=Alq (.inr ⟨hO,Anq (.inl y)⟩);rw[hX]at hN;rw[show(q.ce.toList==n.ce.toList)=true from by rw[BEq.comm];exact y,hN];refine G0 ?_;(exact⟨[],aI⟩)
 rw[Bool.not_eq_true]at y;rw[show(q.ce.toList==n.ce.toList)=false from by rw[BEq.comm];exact y];refine G0 ?_;rcases Bool.eq_false_or_eq_true (hit (Gw.cf q.ce) n.gs)with t|t
 ·have e:=Adj g.gs g.ce (Awy g.gs t) y t;have hlt:=Ep t;rw[if_pos t];rw[Awc hO (by rw[e]),e]at hX;subst hX;dsimp only;refine G0 ?_;rw[show(S.toList==S.toList)=true from beq_self_eq_true _];refine G0 ?_;refine⟨low (Gw.cf q.ce) n.gs,_,rfl,Ao hlt,?_⟩;refine G0 ?_;rw[beq_self_eq_true];(exact⟨[],aI⟩)
 ·have hN:=Alq (.inr ⟨hO,Anq (.inr t)⟩);rw[hX]at hN;rw[if_neg (by rw[t];decide),hN];refine G0 ?_;(exact⟨[],aI⟩)
theorem Ayw{a b:Bool}(h1:a=true)(h2:b=true):(a&&b)=true:=by rw[h1,h2];rfl
theorem own:ownKnob Tryz.prog.godebug=none:=by kernel_rfl
noncomputable def Qc(os:Os):World:=
 let w0:=World.holding Tryz.prog os ⟨#[], #[],[]⟩
 let put (h:Array Obj) (g:Nat) (cs:Array Value):Array Obj:=h.modify g fun
  |.cells _ t frozen=>.cells cs t frozen
  |o=>o
 let h1:=put w0.heap 1 (Lib.firstTab.map fun z=>Value.int .u8 z).toArray
 let h2:=put h1 2 ((List.range 16).flatMap fun i=>[Value.int .u8 (Lib.accLo i),Value.int .u8 (Lib.accHi i)]).toArray
 {w0 with heap:=h2}
set_option maxRecDepth 100000 in
theorem Aty(os:Os)(args:Array Value):laidMet Tryz.prog Rows.nodeRoutesRow.laid ((Qc os).forCall (fun _ _=>0) ⟨#[],args,[]⟩).memory:=
 (LaidIn.of_run (l := [("unicode/utf8.acceptRanges", Rows.laid_unicode_utf8_acceptRanges), ("unicode/utf8.first", Rows.laid_unicode_utf8_first)]) [2, 1] 8 (by kernel_rfl) (by kernel_rfl) (by kernel_rfl) (by kernel_rfl)).met
set_option maxRecDepth 100000 in
theorem Ai5(os:Os){H:Type}(enc:TypeId×Value→H):
  (OpenSpec.ofChange Rows.nodeRoutesSpec).preRow enc Tryz.prog Tryz.f5 Rows.nodeRoutesRow.domain false Rows.nodeRoutesRow.laid ((Qc os).forCall (fun _ _=>0) ⟨#[], #[.agg #[.string ⟨#[]⟩,.string ⟨#[]⟩,.slice none 0 0,.slice none 0 0,.slice none 0 0,.slice none 0 0,.int .i64 0,.int .i64 0,.int .i64 0,.int .i64 0,.int .i64 0,.slice none 0 0],.agg #[.string ⟨#[]⟩,.string ⟨#[]⟩,.string ⟨#[]⟩,.string ⟨#[]⟩],.int .i64 0],[]⟩).memory #[.agg #[.string ⟨#[]⟩,.string ⟨#[]⟩,.slice none 0 0,.slice none 0 0,.slice none 0 0,.slice none 0 0,.int .i64 0,.int .i64 0,.int .i64 0,.int .i64 0,.int .i64 0,.slice none 0 0],.agg #[.string ⟨#[]⟩,.string ⟨#[]⟩,.string ⟨#[]⟩,.string ⟨#[]⟩],.int .i64 0]:=by
 have hw:(DataW.whole enc Tryz.prog ((Qc os).forCall (fun _ _=>0) ⟨#[], #[.agg #[.string ⟨#[]⟩,.string ⟨#[]⟩,.slice none 0 0,.slice none 0 0,.slice none 0 0,.slice none 0 0,.int .i64 0,.int .i64 0,.int .i64 0,.int .i64 0,.int .i64 0,.slice none 0 0],.agg #[.string ⟨#[]⟩,.string ⟨#[]⟩,.string ⟨#[]⟩,.string ⟨#[]⟩],.int .i64 0],[]⟩).memory Tryz.f5.params.toList Rows.nodeRoutesSpec.vars false (#[.agg #[.string ⟨#[]⟩,.string ⟨#[]⟩,.slice none 0 0,.slice none 0 0,.slice none 0 0,.slice none 0 0,.int .i64 0,.int .i64 0,.int .i64 0,.int .i64 0,.int .i64 0,.slice none 0 0],.agg #[.string ⟨#[]⟩,.string ⟨#[]⟩,.string ⟨#[]⟩,.string ⟨#[]⟩],.int .i64 0]:Array Value).toList 8).map (fun x=>(x.1,x.2.1))=
   some ([.agg [.lit (.string []),.lit (.string []),.nil,.nil,.nil,.nil,.agg [.lit (.int .i64 0),.lit (.int .i64 0),.lit (.int .i64 0),.lit (.int .i64 0),.lit (.int .i64 0)],.nil],.agg [.lit (.string []),.lit (.string []),.lit (.string []),.lit (.string [])],.lit (.int .i64 0)],[]):=by kernel_rfl
 obtain⟨⟨x1,x2,x3⟩,hx,hx1⟩:=Option.map_eq_some_iff.1 hw;simp only[Prod.mk.injEq]at hx1;obtain⟨rfl,rfl⟩:=hx1;exact OpenSpec.preRow_of_cond 8 hx (by kernel_rfl) (fun k hk=>by cases hk) (by kernel_rfl) (Aty os _)
set_option maxRecDepth 100000 in
theorem Aya(os:Os)(started:os.Started)(H:Type)(enc:TypeId×Value→H)(F:Stop.Interp):
  ReturnsInHanded {} Tryz.checked os 5 .any ((OpenSpec.ofChange Rows.nodeRoutesSpec).preRow enc Tryz.prog Tryz.f5 Rows.nodeRoutesRow.domain false Rows.nodeRoutesRow.laid) (((OpenSpec.ofChange Rows.nodeRoutesSpec).at F).post enc Tryz.prog Tryz.f5 false true false false):=by
 refine returnsInHanded_of_row (C:=Tryz.checked) (s:=(OpenSpec.ofChange Rows.nodeRoutesSpec)) own started (by kernel_rfl) Tryz.func5
  (witness_row_atRef (enc:=enc) (C:=Tryz.checked) false (Qc os) #[.agg #[.string ⟨#[]⟩,.string ⟨#[]⟩,.slice none 0 0,.slice none 0 0,.slice none 0 0,.slice none 0 0,.int .i64 0,.int .i64 0,.int .i64 0,.int .i64 0,.int .i64 0,.slice none 0 0],.agg #[.string ⟨#[]⟩,.string ⟨#[]⟩,.string ⟨#[]⟩,.string ⟨#[]⟩],.int .i64 0] rfl (by kernel_rfl) (by kernel_rfl) (by kernel_rfl) (Ai5 os enc)) ?_
 intro W base args ds gs before hval0 hW _ hcond _ hL _ _;have hval:∀(j:Nat) t v,Tryz.f5.params[j]? =some t→args[j]? =some v→Value.okWide Tryz.prog W .any base t v:=hval0;have hW':=hW;obtain⟨p,q,hA0,hV,rfl,hfz,hnd⟩:=hW;have hA:DataW.TrodAll enc Tryz.prog W 0 (fun _=>true) true Tryz.f5.params.toList args.toList ds p:=hA0;rw[Tryz.params5]at hA hval;obtain⟨v0,vs0,d0,ds0,p0,q0,hargs,rfl,rfl,h0,r0⟩:=trodAll_cons hA;obtain⟨v1,vs1,d1,ds1,p1,q1,rfl,rfl,rfl,h1,r1⟩:=trodAll_cons r0;obtain⟨v2,vs2,d2,ds2,p2,q2,rfl,rfl,rfl,h2,r2⟩:=trodAll_cons r1;obtain⟨rfl,rfl,rfl⟩:=trodAll_nil r2;obtain rfl:args= #[v0,v1,v2]:=by cases args;simp_all
 obtain⟨rfl,rfl⟩:=trodVars_none hV;obtain⟨u0,f0,rv0⟩:=Xa (dp:=5) Tryz.underlying59 (by kernel_rfl) (hval 0 59 v0 rfl rfl) h0;obtain⟨m0,rfl,mw0⟩:=Ayl _ f0;obtain⟨u1,f1,rv1⟩:=Xa (dp:=5) Tryz.underlying67 (by kernel_rfl) (hval 1 67 v1 rfl rfl) h1;obtain⟨m1,rfl,mw1⟩:=Bag _ f1;obtain⟨a2,rfl,rfl,rfl,w2⟩:=open_int Tryz.underlying3 (hval 2 3 v2 rfl rfl) h2;clear hA0 hval0;refine(Bdu (us:=[_,_,_]) (xs:=[_,_,_]) (w:=W) (law m0 m1 a2 mw0 mw1 (by simpa[Lit.wf,IntKind.min,IntKind.max,IntKind.signed,IntKind.bits]using w2)) ⟨rv0,rv1,RV.v _,trivial⟩).mono fun e W' ⟨he,hg⟩=>?_;subst he;exact⟨_,rfl,Ar3 hW' (by kernel_rfl) (by rw[Tryz.params5];exact ZV (by kernel_rfl)) rfl rfl (by kernel_rfl) Tryz.underlying4 hg⟩
set_option maxHeartbeats 100000000 in
theorem closed:joinedFacts Tryz.pinned.checked.prog 5 Tryz.f5 (OpenSpec.ofChange Rows.nodeRoutesSpec).bare Rows.nodeRoutesRow=true:=by
 unfold joinedFacts;repeat' (with_reducible refine Ayw ?_ ?_)
 all_goals (as_aux_lemma=>kernel_rfl)
theorem Bdo:Rows.NodeRoutesSaid:=
 OpenClaim.holds_of_cond 5 Tryz.f5 rfl rfl rfl rfl rfl rfl rfl ⟨rfl,rfl,rfl,rfl,rfl⟩ rfl rfl rfl rfl rfl (by kernel_rfl) Tryz.func5 closed
  (ZV (by kernel_rfl)) (by unfold Func.isWrapper;first|(rw[if_pos (by decide+kernel)];kernel_rfl)|(rw[if_neg (by decide+kernel)];exact⟨rfl,rfl⟩))
  (fun os started H enc _ F=>by rw[OpenClaim.pre_eq_preRow];exact Aya os started H enc F)
theorem plain (f : FuncId) (fn : Func) (hf : Tryz.pinned.checked.prog.funcNamed "hearsay/hearsaylaw.NodeRoutes" = some f) (hfn : Tryz.pinned.checked.prog.funcs[f]? = some fn) :
  true=Tryz.pinned.checked.prog.looks []∧∀(j:Nat) t,fn.params[j]? =some t→Tryz.pinned.checked.prog.wantsStandIn t=false:=by
 obtain rfl : f = 5 := Option.some.inj ((show Tryz.prog.funcNamed "hearsay/hearsaylaw.NodeRoutes" = some 5 by kernel_rfl).symm.trans hf) |>.symm
 obtain rfl:fn=Tryz.f5:=(Option.some.inj (Tryz.func5.symm.trans hfn)).symm;refine⟨by kernel_rfl,fun j t ht=>?_⟩;rw[Tryz.params5]at ht;have hm:t=59∨t=67∨t=3:=by simpa using Array.mem_of_getElem? ht
 rcases hm with rfl|rfl|rfl
 ·exact(show Tryz.prog.wantsStandIn 59=false by kernel_rfl)
 ·exact(show Tryz.prog.wantsStandIn 67=false by kernel_rfl)
 ·exact(show Tryz.prog.wantsStandIn 3=false by kernel_rfl)
theorem proved:Rows.NodeRoutesCardSaid:=
 Claim7.holds_tied_plain_at .later [] _ _ _ _ Bdo (fun _ h=>by cases h) (by kernel_rfl) (fun _ h=>by cases h) nodeRoutes_row_tie rfl ⟨rfl,rfl⟩ (by kernel_rfl) rfl plain (by kernel_rfl)
#print axioms proved
end Go.Proofs.YtkbjgdcdjccnaaaGreatDoor.nodeRoutes
