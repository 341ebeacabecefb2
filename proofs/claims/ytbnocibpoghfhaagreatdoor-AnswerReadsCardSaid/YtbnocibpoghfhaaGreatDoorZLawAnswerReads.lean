/- AnswerReads: whatever text and knowledge come in, one answer goes, at most, and it can be read; no condition. -/
import Derived.Test.YtbnocibpoghfhaaGreatDoorCards
import Derived.Test.YtbnocibpoghfhaaGreatDoorTie
import Derived.Deep.DeepHandedRow
import Derived.Deep.DeepWitnessRowRef
import Derived.Lib.LaidU8
import Derived.Lib.LaidIn
import Derived.Test.YtbnocibpoghfhaaGreatDoorZa
import Derived.Test.YtbnocibpoghfhaaGreatDoorZb
import Derived.Test.YtbnocibpoghfhaaGreatDoorZc
import Derived.Test.YtbnocibpoghfhaaGreatDoorZd
set_option linter.unusedSimpArgs false
set_option linter.unusedVariables false
namespace Go.Proofs.YtbnocibpoghfhaaGreatDoor.answerReads
open Go.Joins Go.ChangeShapes Go.WideShapes Go.ChangeAt Go.RowKit Pl
theorem Aot{m:Ms}(h:A4 m=0):wIn m.co 0 15=true∧m.rs.length≤20∧∀r∈m.rs,Cu r=0:=by
 unfold A4 at h;cases h1:(!wIn m.id 0 65535)with
 |true=>rw[h1]at h;cases h
 |false=>
  rw[h1]at h;cases h2:(!wIn m.co 0 15)with
  |true=>rw[h2]at h;cases h
  |false=>
   rw[h2]at h;simp only[cond_false]at h;split at h
   ·cases h
   ·rename_i h3;split at h
    ·rename_i h4;exact absurd h h4
    ·rename_i h4;cases h5:(!Fk m.qt)with
     |true=>rw[h5]at h;cases h
     |false=>
      rw[h5]at h;exact⟨by simpa using h2,by omega,fun r hr=>P5 h _ (List.mem_map_of_mem hr)⟩
theorem Ax0{m:Ms}(h:A4 m=0)(j:Nat):A4 (Eh m j)=0:=by
 obtain⟨h1,h2,h3⟩:=Aap h;obtain⟨h4,h5,h6⟩:=Aot h;exact Nj h1 h4 (by show(m.rs.take j).length≤20;rw[ZM];omega) h2 h3 fun r hr=>h6 r (List.mem_of_mem_take hr)
structure Ayf(k:Kn)(s:ByteArray)(M:Ms):Prop where
 rd:rdP (Eu k s (Bh k)).1=(M,0)
 ok:(Eu k s (Bh k)).2=(true,0)
 sz:(Eu k s (Bh k)).1.size≤512
 an:M.an=true
 id:M.id=((atB s 0*256+atB s 1:Nat):Int)
 bad:(rdP s).2≠0→M.co=1∧M.rs=[]
 good:(rdP s).2=0→(0<(rdP s).1.rs.length∧M.co=1)∨((rdP s).1.rs.length=0∧M.qn=(rdP s).1.qn∧M.qt=(rdP s).1.qt)
theorem reads{k:Kn}{s:ByteArray}(h1:k.err=0)(h2:¬(s.size<12∨128≤atB s 2)):∃M,Ayf k s M:=by
 obtain⟨e1,_,_⟩:=Adp h1 h2 rfl;obtain⟨j,j1,j2,j3⟩:=Y8 (Ug k s);have hM:=Ug k s;have hR:Dq k s (Bh k)=(if(rdP s).2=0∧(rdP s).1.rs.length=0 then Hj k (rdP s).1 (Bh k)else⟨((atB s 0*256+atB s 1:Nat):Int),true,false,1,⟨#[]⟩,1,[]⟩:Ms):=rfl;have hb:=Ag4 (Ax0 hM j) (by omega);rw[j3]at e1;refine⟨Eh (Dq k s (Bh k)) j,by rw[e1];exact hb,by rw[e1],by rw[e1];show(bA _).size≤512;rw[D2];exact j2,?_,?_,?_,?_⟩
 ·show(Dq k s (Bh k)).an=true;rw[hR];split
  ·rename_i h;rcases Sc s with⟨x,e,hx⟩|e
   ·rw[e];exact(Rf hx).2.2.1
   ·exact absurd h.1 e
  ·rfl
 ·show(Dq k s (Bh k)).id=_;rw[hR];split
  ·rename_i h;rcases Sc s with⟨x,e,hx⟩|e
   ·have:=Asr e;rw[e];exact(Rf hx).2.1.trans this
   ·exact absurd h.1 e
  ·rfl
 ·intro h;have e:Dq k s (Bh k)=⟨((atB s 0*256+atB s 1:Nat):Int),true,false,1,⟨#[]⟩,1,[]⟩:=by rw[hR,if_neg (fun z=>h z.1)]
  rw[e];exact⟨rfl,by show List.take j []=[];simp⟩
 ·intro h;by_cases c:(rdP s).1.rs.length=0
  ·refine .inr ⟨c,?_⟩;have e:Dq k s (Bh k)=Hj k (rdP s).1 (Bh k):=by rw[hR,if_pos ⟨h,c⟩]
   show(Dq k s (Bh k)).qn=_∧(Dq k s (Bh k)).qt=_;rw[e];rcases Sc s with⟨x,ex,hx⟩|ex
   ·rw[ex];exact(Rf hx).2.2.2
   ·exact absurd h ex
  ·refine .inl ⟨by omega,?_⟩;show(Dq k s (Bh k)).co=1;rw[hR,if_neg (fun z=>c z.2)]
theorem law(s:ByteArray)(k:Kn)(hs:s.size≤9223372036854775807)(hk:k.In):Fun Tryz.prog 7 [.c (.v (.string s)),.c (.agg k.row)] [.c (.v (.bool true))]:=by
 have h1:=We k s hk hs;have hA:Eu k s (Bh k)=(if k.err≠0 then(⟨#[]⟩,false,k.err)
  else if s.size<12∨128≤atB s 2 then(⟨#[]⟩,false,0)
  else((Jn (Dq k s (Bh k)) 512).1,(Jn (Dq k s (Bh k)) 512).2==0,(Jn (Dq k s (Bh k)) 512).2):ByteArray×Bool×Int):=rfl
 have hnil:((⟨#[]⟩:ByteArray).toList==(⟨#[]⟩:ByteArray).toList)=true:=beq_self_eq_true _;refine Ar Lw rfl ?_;refine G1 ?_;intro gg;(refine .inl ⟨_,_,false,[],aI,Lh,Ab,nI,?_⟩);refine G1 ?_;intro gg;(refine .inl ⟨_,_,false,[],aI,Avq,Ab,nI,?_⟩);refine G1 ?_;intro gg;(refine .inl ⟨_,_,false,[],aI,h1,Ab,nI,?_⟩);by_cases c1:k.err=0;rotate_left
 ·rw[if_pos c1]at hA;rw[hA];refine G1 ?_;intro gg;rw[show(k.err !=0)=true from ZZ.2 c1];refine G0 ?_;rw[hnil];refine G0 ?_;(exact⟨[],aI⟩)
 by_cases c2:s.size<12∨128≤atB s 2
 ·rw[if_neg (by simpa using c1),if_pos c2]at hA;rw[hA];refine G1 ?_;intro gg;rw[hnil];refine G0 ?_;(exact⟨[],aI⟩)
 obtain⟨M,hM⟩:=reads c1 c2;have g1:=Up (Eu k s (Bh k)).1;have g2:=Up s;rw[hM.rd]at g1;have hok:=hM.ok;have hsz:=hM.sz;have hid:=hM.id;have han:=hM.an;have hgood:=hM.good;have hbad:=hM.bad;clear hM hA h1;generalize Eu k s (Bh k)=X at *;obtain⟨X1,X2⟩:=X;simp only at hok hsz g1;subst hok;have c12:¬s.size<12:=fun z=>c2 (.inl z);obtain⟨b0,hb0⟩:∃c,s[0]? =some c:=⟨s[0],by simp⟩;obtain⟨b1,hb1⟩:∃c,s[1]? =some c:=⟨s[1],by simp⟩;have q0:=Gu hb0;have q1:=Gu hb1;have l0:=b0.toNat_lt;have l1:=b1.toNat_lt;refine G1 ?_;intro gg;(refine .inl ⟨_,_,false,[],aI,g1,Ab,nI,?_⟩);(refine goI ?_;repeat (intro gg;refine goI ?_));rw[han];refine G0 ?_;rw[show decide ((s.size:Int)<12)=false from ZY (by omega)];refine G0 ?_;refine⟨0,b0,rfl,hb0,?_⟩;refine G0 ?_;refine⟨1,b1,rfl,hb1,?_⟩;refine G0 ?_;rw[show(M.id !=256*((b0.toNat:Nat):Int)+((b1.toNat:Nat):Int))=false from by rw[hid];exact XU.2 (by omega)];refine G0 ?_;rw[show decide ((512:Int)<(X1.size:Int))=false from ZY (by omega)];refine G0 ?_;(refine .inl ⟨_,_,false,[],aI,g2,Ab,nI,?_⟩);(refine goI ?_;repeat (intro gg;refine goI ?_));by_cases c4:(rdP s).2=0;rotate_left
 ·obtain⟨e1,e2⟩:=hbad c4;rw[show((rdP s).2 !=0)=true from ZZ.2 c4];refine G0 ?_;rw[e1];refine G0 ?_;rw[e2];refine G0 ?_;(exact⟨[],aI⟩)
 rw[c4];refine G0 ?_;rcases hgood c4 with⟨e1,e2⟩|⟨e1,e2,e3⟩
 ·rw[e2];refine G0 ?_;rw[ZE,show decide ((0:Int)<((rdP s).1.rs.length:Int))=true from ZX (by omega)];refine G0 ?_;(exact⟨[],aI⟩)
 ·have heq:(M.qn.toList==(rdP s).1.qn.toList&&((M.qt==(rdP s).1.qt)&&true))=true:=by rw[e2,e3];simp
  by_cases c6:M.co=1
  ·rw[c6];refine G0 ?_;rw[ZE,show decide ((0:Int)<((rdP s).1.rs.length:Int))=false from ZY (by omega)];refine G0 ?_;rw[heq];(exact⟨[],aI⟩)
  ·rw[show(M.co==1)=false from ZG.2 c6];refine G0 ?_;rw[heq];(exact⟨[],aI⟩)
theorem own:ownKnob Tryz.prog.godebug=none:=by kernel_rfl
noncomputable def Bs(os:Os):World:=
 let w0:=World.holding Tryz.prog os ⟨#[], #[],[]⟩
 let put (h:Array Obj) (g:Nat) (cs:Array Value):Array Obj:=h.modify g fun
  |.cells _ t frozen=>.cells cs t frozen
  |o=>o
 let h1:=put w0.heap 1 (Lib.firstTab.map fun z=>Value.int .u8 z).toArray
 let h2:=put h1 2 ((List.range 16).flatMap fun i=>[Value.int .u8 (Lib.accLo i),Value.int .u8 (Lib.accHi i)]).toArray
 {w0 with heap:=h2}
set_option maxRecDepth 100000 in
theorem H6(os:Os)(args:Array Value):laidMet Tryz.prog Rows.answerReadsRow.laid ((Bs os).forCall (fun _ _=>0) ⟨#[],args,[]⟩).memory:=
 (LaidIn.of_run (l := [("unicode/utf8.acceptRanges", Rows.laid_unicode_utf8_acceptRanges), ("unicode/utf8.first", Rows.laid_unicode_utf8_first)]) [2, 1] 8 (by kernel_rfl) (by kernel_rfl) (by kernel_rfl) (by kernel_rfl)).met
set_option maxRecDepth 100000 in
theorem Et(os:Os){H:Type}(enc:TypeId×Value→H):
  (OpenSpec.ofChange Rows.answerReadsSpec).preRow enc Tryz.prog Tryz.f7 Rows.answerReadsRow.domain false Rows.answerReadsRow.laid ((Bs os).forCall (fun _ _=>0) ⟨#[], #[.string ⟨#[]⟩,.agg #[.string ⟨#[]⟩,.slice none 0 0,.slice none 0 0,.int .i64 0,.int .i64 0,.int .i64 0,.int .i64 0,.int .i64 0,.slice none 0 0]],[]⟩).memory #[.string ⟨#[]⟩,.agg #[.string ⟨#[]⟩,.slice none 0 0,.slice none 0 0,.int .i64 0,.int .i64 0,.int .i64 0,.int .i64 0,.int .i64 0,.slice none 0 0]]:=by
 have hw:(DataW.whole enc Tryz.prog ((Bs os).forCall (fun _ _=>0) ⟨#[], #[.string ⟨#[]⟩,.agg #[.string ⟨#[]⟩,.slice none 0 0,.slice none 0 0,.int .i64 0,.int .i64 0,.int .i64 0,.int .i64 0,.int .i64 0,.slice none 0 0]],[]⟩).memory Tryz.f7.params.toList Rows.answerReadsSpec.vars false (#[.string ⟨#[]⟩,.agg #[.string ⟨#[]⟩,.slice none 0 0,.slice none 0 0,.int .i64 0,.int .i64 0,.int .i64 0,.int .i64 0,.int .i64 0,.slice none 0 0]]:Array Value).toList 8).map (fun x=>(x.1,x.2.1))=
   some ([.lit (.string []),.agg [.lit (.string []),.nil,.nil,.agg [.lit (.int .i64 0),.lit (.int .i64 0),.lit (.int .i64 0),.lit (.int .i64 0),.lit (.int .i64 0)],.nil]],[]):=by kernel_rfl
 obtain⟨⟨x1,x2,x3⟩,hx,hx1⟩:=Option.map_eq_some_iff.1 hw;simp only[Prod.mk.injEq]at hx1;obtain⟨rfl,rfl⟩:=hx1;exact OpenSpec.preRow_of_cond 8 hx (by kernel_rfl) (fun k hk=>by cases hk) (by kernel_rfl) (H6 os _)
set_option maxRecDepth 100000 in
theorem Oq(os:Os)(started:os.Started)(H:Type)(enc:TypeId×Value→H)(F:Stop.Interp):
  ReturnsInHanded {} Tryz.checked os 7 .any ((OpenSpec.ofChange Rows.answerReadsSpec).preRow enc Tryz.prog Tryz.f7 Rows.answerReadsRow.domain false Rows.answerReadsRow.laid) (((OpenSpec.ofChange Rows.answerReadsSpec).at F).post enc Tryz.prog Tryz.f7 false true false false):=by
 refine returnsInHanded_of_row (C:=Tryz.checked) (s:=(OpenSpec.ofChange Rows.answerReadsSpec)) own started (by kernel_rfl) Tryz.func7
  (witness_row_atRef (enc:=enc) (C:=Tryz.checked) false (Bs os) #[.string ⟨#[]⟩,.agg #[.string ⟨#[]⟩,.slice none 0 0,.slice none 0 0,.int .i64 0,.int .i64 0,.int .i64 0,.int .i64 0,.int .i64 0,.slice none 0 0]] rfl (by kernel_rfl) (by kernel_rfl) (by kernel_rfl) (Et os enc)) ?_
 intro W base args ds gs before hval0 hW _ hcond _ hL _ _;have hval:∀(j:Nat) t v,Tryz.f7.params[j]? =some t→args[j]? =some v→Value.okWide Tryz.prog W .any base t v:=hval0;have hW':=hW;obtain⟨p,q,hA0,hV,rfl,hfz,hnd⟩:=hW;have hA:DataW.TrodAll enc Tryz.prog W 0 (fun _=>true) true Tryz.f7.params.toList args.toList ds p:=hA0;rw[Tryz.params7]at hA hval;obtain⟨v0,vs0,d0,ds0,p0,q0,hargs,rfl,rfl,h0,r0⟩:=trodAll_cons hA;obtain⟨v1,vs1,d1,ds1,p1,q1,rfl,rfl,rfl,h1,r1⟩:=trodAll_cons r0;obtain⟨rfl,rfl,rfl⟩:=trodAll_nil r1;obtain rfl:args= #[v0,v1]:=by cases args;simp_all
 obtain⟨rfl,rfl⟩:=trodVars_none hV;obtain⟨a0,rfl,rfl,rfl,w0⟩:=Go.ChangeMaps.open_string Tryz.underlying9 (hval 0 9 v0 rfl rfl) h0;obtain⟨u1,f1,rv1⟩:=Gf (dp:=5) Tryz.underlying30 (by kernel_rfl) (hval 1 30 v1 rfl rfl) h1;obtain⟨m1,rfl,mw1⟩:=Abr _ f1;clear hA0 hval0;refine(Are (us:=[_,_]) (xs:=[_,_]) (w:=W) (law a0 m1 (by simpa[maxLen]using w0) mw1) ⟨RV.v _,rv1,trivial⟩).mono fun e W' ⟨he,hg⟩=>?_;subst he;exact⟨_,rfl,Qt hW' (by kernel_rfl) (by rw[Tryz.params7];exact ZV (by kernel_rfl)) rfl rfl (by kernel_rfl) Tryz.underlying4 hg⟩
theorem Aev:Rows.AnswerReadsSaid:=
 OpenClaim.holds_of_cond 7 Tryz.f7 rfl rfl rfl rfl rfl rfl rfl ⟨rfl,rfl,rfl,rfl,rfl⟩ rfl rfl rfl rfl rfl (by kernel_rfl) Tryz.func7 (by kernel_rfl)
  (ZV (by kernel_rfl)) (by unfold Func.isWrapper;first|(rw[if_pos (by decide+kernel)];kernel_rfl)|(rw[if_neg (by decide+kernel)];exact⟨rfl,rfl⟩))
  (fun os started H enc _ F=>by rw[OpenClaim.pre_eq_preRow];exact Oq os started H enc F)
theorem plain (f : FuncId) (fn : Func) (hf : Tryz.pinned.checked.prog.funcNamed "hearsay/hearsaylaw.AnswerReads" = some f) (hfn : Tryz.pinned.checked.prog.funcs[f]? = some fn) :
  true=Tryz.pinned.checked.prog.looks []∧∀(j:Nat) t,fn.params[j]? =some t→Tryz.pinned.checked.prog.wantsStandIn t=false:=by
 obtain rfl : f = 7 := Option.some.inj ((show Tryz.prog.funcNamed "hearsay/hearsaylaw.AnswerReads" = some 7 by kernel_rfl).symm.trans hf) |>.symm
 obtain rfl:fn=Tryz.f7:=(Option.some.inj (Tryz.func7.symm.trans hfn)).symm;refine⟨by kernel_rfl,fun j t ht=>?_⟩;rw[Tryz.params7]at ht;have hm:t=9∨t=30:=by simpa using Array.mem_of_getElem? ht
 rcases hm with rfl|rfl
 ·exact(show Tryz.prog.wantsStandIn 9=false by kernel_rfl)
 ·exact(show Tryz.prog.wantsStandIn 30=false by kernel_rfl)
theorem proved:Rows.AnswerReadsCardSaid:=
 Claim7.holds_tied_plain_at .later [] _ _ _ _ Aev (fun _ h=>by cases h) (by kernel_rfl) (fun _ h=>by cases h) answerReads_row_tie rfl ⟨rfl,rfl⟩ (by kernel_rfl) rfl plain (by kernel_rfl)
#print axioms proved
end Go.Proofs.YtbnocibpoghfhaaGreatDoor.answerReads
