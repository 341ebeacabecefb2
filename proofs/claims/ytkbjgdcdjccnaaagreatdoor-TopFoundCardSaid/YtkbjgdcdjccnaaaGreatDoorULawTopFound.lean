/- TopFound: whatever service and number come in, what one node registered is answered by another one that heard of it, in the same centre: by its name, the address that was registered; no condition. -/
import Derived.Test.YtkbjgdcdjccnaaaGreatDoorCards
import Derived.Test.YtkbjgdcdjccnaaaGreatDoorTie
import Derived.Deep.DeepHandedRow
import Derived.Deep.DeepWitnessRowRef
import Derived.Lib.LaidU8
import Derived.Lib.LaidIn
import Derived.Test.YtkbjgdcdjccnaaaGreatDoorUa
import Derived.Test.YtkbjgdcdjccnaaaGreatDoorUb
import Derived.Test.YtkbjgdcdjccnaaaGreatDoorUc
import Derived.Test.YtkbjgdcdjccnaaaGreatDoorUd
import Derived.Test.YtkbjgdcdjccnaaaGreatDoorUe
import Derived.Test.YtkbjgdcdjccnaaaGreatDoorUf
set_option linter.unusedSimpArgs false
set_option linter.unusedVariables false
namespace Go.Proofs.YtkbjgdcdjccnaaaGreatDoor.topFound
open Go.Joins Go.ChangeShapes Go.WideShapes Go.ChangeAt Go.RowKit Pl
set_option maxRecDepth 100000
def chs(c n:Int):Int:=if c<0 then Int.tmod (0-(c+1)) n else Int.tmod c n
theorem Axw{c n:Int}(hn:0<n):0≤chs c n∧chs c n<n:=by
 unfold chs;split
 ·have h:0≤0-(c+1):=by omega
  rw[Int.tmod_eq_emod_of_nonneg h];exact⟨Int.emod_nonneg _ (by omega),Int.emod_lt_of_pos _ hn⟩
 ·have h:0≤c:=by omega
  rw[Int.tmod_eq_emod_of_nonneg h];exact⟨Int.emod_nonneg _ (by omega),Int.emod_lt_of_pos _ hn⟩
theorem Aj8(c n:Int)(hc: -9223372036854775808≤c∧c≤9223372036854775807)(hn:0<n):Fun Tryz.prog 29 [.c (.v (.int .i64 c)),.c (.v (.int .i64 n))] [.c (.v (.int .i64 (chs c n)))]:=by
 unfold chs;refine A4 Oe rfl ?_;refine G0 ?_;(refine Ag (fun h1=>?_) (fun h1=>?_)<;>rw[h1])
 ·have h1':c<0:=ZV h1;rw[if_pos h1'];refine G0 ?_;refine⟨by omega,_,rfl,?_⟩;refine G0 ?_;(exact⟨[],aI⟩)
 ·have h1':¬c<0:=ZW h1;rw[if_neg h1'];refine G0 ?_;refine⟨by omega,_,rfl,?_⟩;refine G0 ?_;(exact⟨[],aI⟩)
theorem law(s:Sv)(id:Int)(hs:s.ok)(hid: -9223372036854775808≤id∧id≤9223372036854775807):Fun Tryz.prog 6 [.c (.agg s.row),.c (.v (.int .i64 id))] [.c (.v (.bool true))]:=by
 obtain⟨nd,i,n,t,ad,pt,ps,v0,g0⟩:=s;obtain⟨a,ha⟩:∃s,(⟨#[97]⟩:ByteArray)=s:=⟨_,rfl⟩;obtain⟨b,hb⟩:∃s,(⟨#[98]⟩:ByteArray)=s:=⟨_,rfl⟩;obtain⟨c,hc⟩:∃s,(⟨#[99]⟩:ByteArray)=s:=⟨_,rfl⟩;obtain⟨_,hs2,hs3,hs4⟩:=hs;have hP0:=Dk (tfQ n t) ⟨hs3,hs4,ZU _,ZU _⟩;have hP:Fun Tryz.prog 27 [.c (.agg [.v (.string n),.v (.string t),.v (.string ⟨#[]⟩),.v (.string ⟨#[]⟩)])] [.c (.v (.string (Ao (tfQ n t)).1)),.c (.v (.int .i64 (Ao (tfQ n t)).2))]:=hP0;have ho:(⟨a,i,n,t,ad,pt,true,1,false⟩:Sv).ok:=⟨(show a.size≤_ by subst ha;decide),hs2,hs3,hs4⟩;have hC:=Aj8 id 65536 hid (by omega);have hi:=Axw (c:=id) (n:=65536) (by omega);generalize chs id 65536=I at *;by_cases he:(⟨a,i,n,t,ad,pt,true,1,false⟩:Sv).err=0;rotate_left
 ·have hO:Fun Tryz.prog 160 [.c (.agg (zS a i n t ad pt))] [.c (.v (.int .i64 (⟨a,i,n,t,ad,pt,true,1,false⟩:Sv).err))]:=Xs _ ho;generalize (⟨a,i,n,t,ad,pt,true,1,false⟩:Sv).err=E at *;have hS:=Azs (v0:=v0) (g0:=g0) he hO ha hc;generalize Ao (tfQ n t)=Q at *;refine A4 Ej rfl ?_;refine G1 ?_;intro gg;refine .inl (cX Yr ?_);refine G1 ?_;intro gg;refine .inl (cX Aq4 ?_);refine G1 ?_;intro gg;refine .inl (cX Rd ?_);refine G1 ?_;intro gg;refine .inl (cX Qo ?_);refine G1 ?_;intro gg;rw[ha,hc];refine .inl ⟨_,_,false,[],aJ,Au6 ha hc,Ad,nI,?_⟩;(refine goI ?_;repeat (intro gg;refine goI ?_));rw[hb];refine .inl ⟨_,_,false,[],aJ,Arj hb hc,Ad,nI,?_⟩;(refine goI ?_;repeat (intro gg;refine goI ?_))
  try rw[ha]
  refine .inl ⟨_,_,false,[],aJ,hS,Ad,nI,?_⟩;refine G1 ?_;intro gg;refine .inl ⟨_,_,false,[],aJ,hP,Ad,nI,?_⟩;refine G1 ?_;intro gg;rw[show(E !=0)=true from ZZ.2 he];refine G0 ?_;(exact⟨[],aI⟩)
 have hS:=Avu (v0:=v0) (g0:=g0) ha hc he ho;by_cases h1:(Ao (tfQ n t)).2=0;rotate_left
 ·generalize Ao (tfQ n t)=Q at *;refine A4 Ej rfl ?_;refine G1 ?_;intro gg;refine .inl (cX Yr ?_);refine G1 ?_;intro gg;refine .inl (cX Aq4 ?_);refine G1 ?_;intro gg;refine .inl (cX Rd ?_);refine G1 ?_;intro gg;refine .inl (cX Qo ?_);refine G1 ?_;intro gg;rw[ha,hc];refine .inl ⟨_,_,false,[],aJ,Au6 ha hc,Ad,nI,?_⟩;(refine goI ?_;repeat (intro gg;refine goI ?_));rw[hb];refine .inl ⟨_,_,false,[],aJ,Arj hb hc,Ad,nI,?_⟩;(refine goI ?_;repeat (intro gg;refine goI ?_))
  try rw[ha]
  refine .inl ⟨_,_,false,[],aJ,hS,Ad,nI,?_⟩;refine G1 ?_;intro gg;refine .inl ⟨_,_,false,[],aJ,hP,Ad,nI,?_⟩;refine G1 ?_;intro gg;rw[show(Q.2 !=0)=true from ZZ.2 h1];refine G0 ?_;(exact⟨[],aI⟩)
 have hq:Ao (tfQ n t)=((Ao (tfQ n t)).1,0):=Prod.ext rfl h1;rw[h1]at hP;generalize (Ao (tfQ n t)).1=N at *;have hp2:As N=0:=by
  obtain⟨_,q2,q3⟩:=Ep hq;rw[q3]at q2;exact q2
 have hE:Bc (tfM I N)=0:=L0 (by show wIn I 0 65535=true;unfold wIn;rw[ZX hi.1,ZX (show I≤65535 by omega)];rfl) rfl (ZU _) hp2 rfl (fun r hr=>by cases hr);have hL:¬512<(Bu (tfM I N)).length:=by
  have:=Qu (Hl hE).1;exact Nat.not_lt.2 this
 have hW:=(Ab2 (tfM I N) (Ac7 hE).sz (ZU _)).sub1 (u':=.agg (U2 (tfM I N))) fun w R x h=>Ad7 rfl h;rw[(Aeo hE hL).1,(Aeo hE hL).2]at hW;have hA:=Ayp ha hb hc he ho hq hE hL;have hRE:Bc (tfR I N ad)=0:=by
  rw[←Afo ha hb hc he hq I];exact(Abq hE).1
 have hRd:=S9 ⟨(Bu (tfR I N ad)).toArray⟩;rw[Yh hRE (Nat.not_lt.2 (Agb hq I ad))]at hRd;have hRd':Fun Tryz.prog 13 [.c (.v (.string ⟨(Bu (tfR I N ad)).toArray⟩))] [.c (.agg [.v (.int .i64 I),.v (.bool true),.v (.bool false),.v (.int .i64 0),.v (.string N),.v (.int .i64 1),.sl false [[.v (.string N),.v (.int .i64 1),.v (.int .i64 0),.v (.int .i64 ad),.v (.string ⟨#[]⟩),.v (.int .i64 0),.v (.string ⟨#[]⟩)]]]),.c (.v (.int .i64 0))]:=hRd;have hW':Fun Tryz.prog 28 [.c (.agg [.v (.int .i64 I),.v (.bool false),.v (.bool false),.v (.int .i64 0),.v (.string N),.v (.int .i64 1),.v (.slice none 0 0)])] [.c (.v (.string ⟨(Bu (tfM I N)).toArray⟩)),.c (.v (.int .i64 0))]:=hW;generalize (⟨(Bu (tfM I N)).toArray⟩:ByteArray)=S at *;generalize (⟨(Bu (tfR I N ad)).toArray⟩:ByteArray)=T at *;clear hW hRd hRE hL hE hP0;have hw:=Bbe ha hc he ho;have hh:=Aye ha hb hc he ho;refine A4 Ej rfl ?_;refine G1 ?_;intro gg;refine .inl (cX Yr ?_);refine G1 ?_;intro gg;refine .inl (cX Aq4 ?_);refine G1 ?_;intro gg;refine .inl (cX Rd ?_);refine G1 ?_;intro gg;refine .inl (cX Qo ?_);refine G1 ?_;intro gg;rw[ha,hc];refine .inl ⟨_,_,false,[],aJ,Au6 ha hc,Ad,nI,?_⟩;(refine goI ?_;repeat (intro gg;refine goI ?_));rw[hb];refine .inl ⟨_,_,false,[],aJ,Arj hb hc,Ad,nI,?_⟩;(refine goI ?_;repeat (intro gg;refine goI ?_))
 try rw[ha]
 refine .inl ⟨_,_,false,[],aJ,hS,Ad,nI,?_⟩;refine G1 ?_;intro gg;refine .inl ⟨_,_,false,[],aJ,hP,Ad,nI,?_⟩;refine G1 ?_;intro gg;refine .inl ⟨_,_,false,[],aJ,hw,Ad,nI,?_⟩;(refine goI ?_;repeat (intro gg;refine goI ?_));refine .inl ⟨_,_,false,[],aJ,hh,Ad,nI,?_⟩;refine G1 ?_;intro gg;refine .inl (cX hC ?_);refine G1 ?_;intro gg;refine .inl ⟨_,_,false,[],aJ,hW',Ad,nI,?_⟩;refine G1 ?_;intro gg;refine .inl ⟨_,_,false,[],aJ,hA,Ad,nI,?_⟩;refine G1 ?_;intro gg;refine .inl ⟨_,_,false,[],aJ,hRd',Ad,nI,?_⟩;(refine goI ?_;repeat (intro gg;refine goI ?_));(refine⟨_,_,false,aI,hC,Ad,nI,?_⟩);refine G1 ?_;intro gg;rw[beq_self_eq_true];refine G0 ?_;refine⟨0,_,rfl,rfl,?_⟩;refine G0 ?_;rw[show(ad==ad)=true from beq_self_eq_true _];refine G0 ?_;refine⟨0,_,rfl,rfl,?_⟩;refine G0 ?_;rw[show(N.toList==N.toList)=true from beq_self_eq_true _];(exact⟨[],aI⟩)
theorem Awi{a b:Bool}(h1:a=true)(h2:b=true):(a&&b)=true:=by rw[h1,h2];rfl
theorem own:ownKnob Tryz.prog.godebug=none:=by kernel_rfl
noncomputable def Pj(os:Os):World:=
 let w0:=World.holding Tryz.prog os ⟨#[], #[],[]⟩
 let put (h:Array Obj) (g:Nat) (cs:Array Value):Array Obj:=h.modify g fun
  |.cells _ t frozen=>.cells cs t frozen
  |o=>o
 let h1:=put w0.heap 1 (Lib.firstTab.map fun z=>Value.int .u8 z).toArray
 let h2:=put h1 2 ((List.range 16).flatMap fun i=>[Value.int .u8 (Lib.accLo i),Value.int .u8 (Lib.accHi i)]).toArray
 {w0 with heap:=h2}
set_option maxRecDepth 100000 in
theorem Aqj(os:Os)(args:Array Value):laidMet Tryz.prog Rows.topFoundRow.laid ((Pj os).forCall (fun _ _=>0) ⟨#[],args,[]⟩).memory:=
 (LaidIn.of_run (l := [("unicode/utf8.acceptRanges", Rows.laid_unicode_utf8_acceptRanges), ("unicode/utf8.first", Rows.laid_unicode_utf8_first)]) [2, 1] 8 (by kernel_rfl) (by kernel_rfl) (by kernel_rfl) (by kernel_rfl)).met
set_option maxRecDepth 100000 in
theorem Ah6(os:Os){H:Type}(enc:TypeId×Value→H):
  (OpenSpec.ofChange Rows.topFoundSpec).preRow enc Tryz.prog Tryz.f6 Rows.topFoundRow.domain false Rows.topFoundRow.laid ((Pj os).forCall (fun _ _=>0) ⟨#[], #[.agg #[.string ⟨#[]⟩,.string ⟨#[]⟩,.string ⟨#[]⟩,.string ⟨#[]⟩,.int .i64 0,.int .i64 0,.bool false,.int .i64 0,.bool false],.int .i64 0],[]⟩).memory #[.agg #[.string ⟨#[]⟩,.string ⟨#[]⟩,.string ⟨#[]⟩,.string ⟨#[]⟩,.int .i64 0,.int .i64 0,.bool false,.int .i64 0,.bool false],.int .i64 0]:=by
 have hw:(DataW.whole enc Tryz.prog ((Pj os).forCall (fun _ _=>0) ⟨#[], #[.agg #[.string ⟨#[]⟩,.string ⟨#[]⟩,.string ⟨#[]⟩,.string ⟨#[]⟩,.int .i64 0,.int .i64 0,.bool false,.int .i64 0,.bool false],.int .i64 0],[]⟩).memory Tryz.f6.params.toList Rows.topFoundSpec.vars false (#[.agg #[.string ⟨#[]⟩,.string ⟨#[]⟩,.string ⟨#[]⟩,.string ⟨#[]⟩,.int .i64 0,.int .i64 0,.bool false,.int .i64 0,.bool false],.int .i64 0]:Array Value).toList 8).map (fun x=>(x.1,x.2.1))=
   some ([.agg [.lit (.string []),.lit (.string []),.lit (.string []),.lit (.string []),.lit (.int .i64 0),.lit (.int .i64 0),.lit (.bool false),.lit (.int .i64 0),.lit (.bool false)],.lit (.int .i64 0)],[]):=by kernel_rfl
 obtain⟨⟨x1,x2,x3⟩,hx,hx1⟩:=Option.map_eq_some_iff.1 hw;simp only[Prod.mk.injEq]at hx1;obtain⟨rfl,rfl⟩:=hx1;exact OpenSpec.preRow_of_cond 8 hx (by kernel_rfl) (fun k hk=>by cases hk) (by kernel_rfl) (Aqj os _)
set_option maxRecDepth 100000 in
theorem Axh(os:Os)(started:os.Started)(H:Type)(enc:TypeId×Value→H)(F:Stop.Interp):
  ReturnsInHanded {} Tryz.checked os 6 .any ((OpenSpec.ofChange Rows.topFoundSpec).preRow enc Tryz.prog Tryz.f6 Rows.topFoundRow.domain false Rows.topFoundRow.laid) (((OpenSpec.ofChange Rows.topFoundSpec).at F).post enc Tryz.prog Tryz.f6 false true false false):=by
 refine returnsInHanded_of_row (C:=Tryz.checked) (s:=(OpenSpec.ofChange Rows.topFoundSpec)) own started (by kernel_rfl) Tryz.func6
  (witness_row_atRef (enc:=enc) (C:=Tryz.checked) false (Pj os) #[.agg #[.string ⟨#[]⟩,.string ⟨#[]⟩,.string ⟨#[]⟩,.string ⟨#[]⟩,.int .i64 0,.int .i64 0,.bool false,.int .i64 0,.bool false],.int .i64 0] rfl (by kernel_rfl) (by kernel_rfl) (by kernel_rfl) (Ah6 os enc)) ?_
 intro W base args ds gs before hval0 hW _ hcond _ hL _ _;have hval:∀(j:Nat) t v,Tryz.f6.params[j]? =some t→args[j]? =some v→Value.okWide Tryz.prog W .any base t v:=hval0;have hW':=hW;obtain⟨p,q,hA0,hV,rfl,hfz,hnd⟩:=hW;have hA:DataW.TrodAll enc Tryz.prog W 0 (fun _=>true) true Tryz.f6.params.toList args.toList ds p:=hA0;rw[Tryz.params6]at hA hval;obtain⟨v0,vs0,d0,ds0,p0,q0,hargs,rfl,rfl,h0,r0⟩:=trodAll_cons hA;obtain⟨v1,vs1,d1,ds1,p1,q1,rfl,rfl,rfl,h1,r1⟩:=trodAll_cons r0;obtain⟨rfl,rfl,rfl⟩:=trodAll_nil r1;obtain rfl:args= #[v0,v1]:=by cases args;simp_all
 obtain⟨rfl,rfl⟩:=trodVars_none hV;obtain⟨u0,f0,rv0⟩:=Agz (dp:=5) Tryz.underlying77 (by kernel_rfl) (hval 0 77 v0 rfl rfl) h0;obtain⟨m0,rfl,mw0⟩:=Aw1 _ f0;obtain⟨a1,rfl,rfl,rfl,w1⟩:=open_int Tryz.underlying3 (hval 1 3 v1 rfl rfl) h1;clear hA0 hval0;refine(Bb3 (us:=[_,_]) (xs:=[_,_]) (w:=W) (law m0 a1 mw0 (by simpa[Lit.wf,IntKind.min,IntKind.max,IntKind.signed,IntKind.bits]using w1)) ⟨rv0,RV.v _,trivial⟩).mono fun e W' ⟨he,hg⟩=>?_;subst he;exact⟨_,rfl,As1 hW' (by kernel_rfl) (by rw[Tryz.params6];exact ZV (by kernel_rfl)) rfl rfl (by kernel_rfl) Tryz.underlying4 hg⟩
set_option maxHeartbeats 100000000 in
theorem closed:joinedFacts Tryz.pinned.checked.prog 6 Tryz.f6 (OpenSpec.ofChange Rows.topFoundSpec).bare Rows.topFoundRow=true:=by
 unfold joinedFacts;repeat' (with_reducible refine Awi ?_ ?_)
 all_goals (as_aux_lemma=>kernel_rfl)
theorem Bbu:Rows.TopFoundSaid:=
 OpenClaim.holds_of_cond 6 Tryz.f6 rfl rfl rfl rfl rfl rfl rfl ⟨rfl,rfl,rfl,rfl,rfl⟩ rfl rfl rfl rfl rfl (by kernel_rfl) Tryz.func6 closed
  (ZV (by kernel_rfl)) (by unfold Func.isWrapper;first|(rw[if_pos (by decide+kernel)];kernel_rfl)|(rw[if_neg (by decide+kernel)];exact⟨rfl,rfl⟩))
  (fun os started H enc _ F=>by rw[OpenClaim.pre_eq_preRow];exact Axh os started H enc F)
theorem plain (f : FuncId) (fn : Func) (hf : Tryz.pinned.checked.prog.funcNamed "hearsay/hearsaylaw.TopFound" = some f) (hfn : Tryz.pinned.checked.prog.funcs[f]? = some fn) :
  true=Tryz.pinned.checked.prog.looks []∧∀(j:Nat) t,fn.params[j]? =some t→Tryz.pinned.checked.prog.wantsStandIn t=false:=by
 obtain rfl : f = 6 := Option.some.inj ((show Tryz.prog.funcNamed "hearsay/hearsaylaw.TopFound" = some 6 by kernel_rfl).symm.trans hf) |>.symm
 obtain rfl:fn=Tryz.f6:=(Option.some.inj (Tryz.func6.symm.trans hfn)).symm;refine⟨by kernel_rfl,fun j t ht=>?_⟩;rw[Tryz.params6]at ht;have hm:t=77∨t=3:=by simpa using Array.mem_of_getElem? ht
 rcases hm with rfl|rfl
 ·exact(show Tryz.prog.wantsStandIn 77=false by kernel_rfl)
 ·exact(show Tryz.prog.wantsStandIn 3=false by kernel_rfl)
theorem proved:Rows.TopFoundCardSaid:=
 Claim7.holds_tied_plain_at .later [] _ _ _ _ Bbu (fun _ h=>by cases h) (by kernel_rfl) (fun _ h=>by cases h) topFound_row_tie rfl ⟨rfl,rfl⟩ (by kernel_rfl) rfl plain (by kernel_rfl)
#print axioms proved
end Go.Proofs.YtkbjgdcdjccnaaaGreatDoor.topFound
