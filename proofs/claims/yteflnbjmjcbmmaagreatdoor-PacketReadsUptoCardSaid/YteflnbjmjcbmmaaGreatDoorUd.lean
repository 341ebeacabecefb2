/- Texts of this claim, joined. -/
import Derived.Test.YteflnbjmjcbmmaaGreatDoorWAbsK
import Derived.Test.YteflnbjmjcbmmaaGreatDoorProg
import Derived.Test.YteflnbjmjcbmmaaGreatDoorWAbsQ
import Derived.KernelRfl
import Derived.Test.YteflnbjmjcbmmaaGreatDoorWAbsS
import Derived.Test.YteflnbjmjcbmmaaGreatDoorWAbs1
import Derived.WalkKit
import Derived.Below
import Derived.Defers
import Derived.Recover
import Derived.Laws.Pointers
import Derived.Test.YteflnbjmjcbmmaaGreatDoorUa
import Derived.Test.YteflnbjmjcbmmaaGreatDoorUb
import Derived.Test.YteflnbjmjcbmmaaGreatDoorUc
set_option linter.unusedSimpArgs false
set_option linter.unusedVariables false
namespace Go.Proofs.YteflnbjmjcbmmaaGreatDoor
section
open Go Go.Lib Go.RowKit Pl
namespace Pl
theorem Ov{x:ByteArray}(h:lab x.data.toList=true):x.size≤30:=by
 unfold lab at h;simp only[ZO,decide_eq_true_eq]at h;have:=h.2.2;rw[Array.length_toList]at this;exact this
theorem Aj4{x:ByteArray}(h:R5 x=true):x.size≤30:=by
 unfold R5 at h;cases h1:emp x with
 |false=>
  rw[h1]at h;exact Ov h
 |true=>
  unfold emp at h1;have h2:x.toList=(⟨#[]⟩:ByteArray).toList:=eq_of_beq h1;rw[Lib.toList_data,Lib.toList_data]at h2;have h3:x.data.toList.length=0:=by rw[h2];rfl
  rw[Array.length_toList]at h3;have h3:x.size=0:=h3;omega
theorem Nv{α:Type}{e:α→Int}{l:List α}(h:Am e l=0):∀x∈l,e x=0:=fun x hx=>by
 obtain⟨i,hi,rfl⟩:=List.mem_iff_getElem.1 hx;exact Lr h i hi
theorem Cx{α:Type}{mx:Nat}{e:α→Int}{lt:α→α→Bool}{l:List α}(h:ckL mx e lt l=0):l.length≤mx∧∀x∈l,e x=0:=by
 unfold ckL at h;split at h
 ·cases h
 ·split at h
  ·rename_i h1 h2;exact⟨by omega,Nv h2⟩
  ·rename_i h1 h2;exact absurd h h2
structure Mb.Sm(m:Mb):Prop where
 n:m.n.size≤30
 st:1≤m.st∧m.st≤4
 lf:1≤m.lf∧m.lf≤1000000
 ad:0≤m.ad∧m.ad≤4294967295
structure Sv.Sm(x:Sv):Prop where
 nd:x.nd.size≤30
 id:x.id.size≤30
 nm:x.nm.size≤30
 tg:x.tg.size≤30
 ad:0≤x.ad∧x.ad≤4294967295
 pt:0≤x.pt∧x.pt≤65535
 vs:1≤x.vs∧x.vs≤1000000
structure Gw.Sm(g:Gw):Prop where
 c:g.c.size≤30
 a:0≤g.a∧g.a≤4294967295
 v:1≤g.v∧g.v≤1000000
structure Wh.Sm(w:Wh):Prop where
 nd:w.nd.size≤30
 x: -10000000≤w.pl.x∧w.pl.x≤10000000
 y: -10000000≤w.pl.y∧w.pl.y≤10000000
 z: -10000000≤w.pl.z∧w.pl.z≤10000000
 h:0≤w.pl.h∧w.pl.h≤1000000
 s:0≤w.pl.s∧w.pl.s≤1000
structure Pk.Sm(p:Pk):Prop where
 fr:p.fr.size≤30
 msl:p.ms.length≤20
 ms:∀x∈p.ms,Mb.Sm x
 svl:p.sv.length≤40
 sv:∀x∈p.sv,Sv.Sm x
 gsl:p.gs.length≤6
 gs:∀x∈p.gs,Gw.Sm x
 whl:p.wh.length≤20
 wh:∀x∈p.wh,Wh.Sm x
theorem Mb.sm{m:Mb}(h:m.err=0):Mb.Sm m:=by
 obtain⟨h1,h2,h3,h4⟩:=Mb.err_inv h;exact⟨Ov h1,h2,h3,h4⟩
theorem Sv.sm{x:Sv}(h:x.err=0):Sv.Sm x:=by
 unfold Sv.err at h
 repeat' (split at h)
 all_goals first
  |(cases h;done)
  |skip
 rename_i h1 h2 h3 h4 h5 h6 h7;exact⟨Ov h1,Ov h2,Ov h3,Aj4 h4,F3.1 h5,F3.1 h6,F3.1 h7⟩
theorem Gw.sm{g:Gw}(h:g.err=0):Gw.Sm g:=by
 obtain⟨h1,h2,h3⟩:=Gw.err_inv h;exact⟨Ov h1,h2,h3⟩
theorem Wh.sm{w:Wh}(h:w.err=0):Wh.Sm w:=by
 unfold Wh.err at h;split at h
 ·rename_i h1;have h2:=Pc.err_iff.1 h;unfold Pc.okb Aen at h2;simp only[ZO]at h2;obtain⟨⟨⟨⟨a,b⟩,c⟩,d⟩,e⟩:=h2;exact⟨Ov h1,F3.1 a,F3.1 b,F3.1 c,F3.1 d,F3.1 e⟩
 ·cases h
theorem Pk.sm{p:Pk}(h:p.err=0):Pk.Sm p:=by
 cases h1:lab p.fr.data.toList with
 |false=>rw[Pk.err_form h1]at h;cases h
 |true=>
  cases h2:p.wo with
  |false=>
   by_cases h3:p.sv.length+p.gs.length+p.wh.length=0
   ·rw[Pk.err_few h1 h2 h3]at h;have e1:p.sv=[]:=List.length_eq_zero_iff.1 (by omega);have e2:p.gs=[]:=List.length_eq_zero_iff.1 (by omega);have e3:p.wh=[]:=List.length_eq_zero_iff.1 (by omega);have h4:p.ms.length≤5∧Am Mb.err p.ms=0:=by
     by_cases h5:5<p.ms.length
     ·rw[Oe h5]at h;cases h
     ·by_cases h6:Am Mb.err p.ms=0
      ·exact⟨by omega,h6⟩
      ·rw[N0 h5 h6]at h;exact absurd h h6
    exact⟨Ov h1,by omega,fun x hx=>Mb.sm (Nv h4.2 x hx),by rw[e1];simp,fun x hx=>(by rw[e1]at hx;cases hx),by rw[e2];simp,fun x hx=>(by rw[e2]at hx;cases hx),by rw[e3];simp,fun x hx=>(by rw[e3]at hx;cases hx)⟩
   ·rw[Pk.err_more h1 h2 h3]at h;cases h
  |true=>
   rw[Pk.err_all h1 h2]at h;have g:=Lr h;obtain⟨a1,a2⟩:=Cx (show Ib p.ms=0 from g 0 (by show 0<4;omega));obtain⟨b1,b2⟩:=Cx (show Im p.sv=0 from g 1 (by show 1<4;omega));obtain⟨c1,c2⟩:=Cx (show Ih p.gs=0 from g 2 (by show 2<4;omega));obtain⟨d1,d2⟩:=Cx (show I7 p.wh=0 from g 3 (by show 3<4;omega));exact⟨Ov h1,a1,fun x hx=>Mb.sm (a2 x hx),b1,fun x hx=>Sv.sm (b2 x hx),c1,fun x hx=>Gw.sm (c2 x hx),d1,fun x hx=>Wh.sm (d2 x hx)⟩
theorem Pk.Sm.small{p:Pk}(h:Pk.Sm p):p.small:=by
 refine⟨?_,fun x hx=>?_,fun x hx=>?_,fun x hx=>?_,fun x hx=>?_⟩
 ·have:=h.fr;unfold Ei;omega
 ·obtain⟨h1,h2,h3,h4⟩:=h.ms x hx;unfold Mb.small Ei D4;omega
 ·obtain⟨h1,h2,h3,h4,h5,h6,h7⟩:=h.sv x hx;unfold Sv.small Ei D4;omega
 ·obtain⟨h1,h2,h3⟩:=h.gs x hx;unfold Gw.small Ei D4;omega
 ·obtain⟨h1,h2,h3,h4,h5,h6⟩:=h.wh x hx;unfold Wh.small Ei D4;omega
theorem Pk.Sm.okB{p:Pk}(h:Pk.Sm p):p.okB:=by
 have:=h.fr;have:=h.msl;have:=h.svl;have:=h.gsl;have:=h.whl;refine⟨by unfold okT;omega,⟨by omega,fun x hx=>?_⟩,⟨by omega,fun x hx=>?_⟩,⟨by omega,fun x hx=>?_⟩,⟨by omega,fun x hx=>?_⟩⟩
 ·obtain⟨h1,h2,h3,h4⟩:=h.ms x hx;unfold Mb.okB okT isI;omega
 ·obtain⟨h1,h2,h3,h4,h5,h6,h7⟩:=h.sv x hx;unfold Sv.okB okT isI;omega
 ·obtain⟨h1,h2,h3⟩:=h.gs x hx;unfold Gw.okB okT isI;omega
 ·obtain⟨h1,h2,h3,h4,h5,h6⟩:=h.wh x hx;unfold Wh.okB okT isI;omega
noncomputable def Km(s:ByteArray):Pk×Int:=T8 Pk.err pk0 s
noncomputable def Vq(s:ByteArray):Pk×Int:=We Pk.err pk0 s
theorem Aju(s:ByteArray):Km s=Vq s:=Ais (fun p h=>(Pk.sm h).small) pk0 s
theorem Vu{p:Pk}(h:p.err=0):Km (bA (pkB p))=(p,0):=by
 have:=Adw.back p [] (Pk.sm h).okB;rw[List.append_nil]at this;unfold Km T8;rw[this];simp only;rw[if_neg (by rw[Ax];simp[h])]
theorem Qg{s:ByteArray}{p:Pk}(h:Km s=(p,0)):p.err=0∧bA (pkB p)=s:=by
 unfold Km T8 at h;cases hr:pkR s with
 |none=>rw[hr]at h;cases h
 |some q=>
  rw[hr]at h;simp only at h;split at h
  ·cases h
  ·rename_i h1;injection h with h2 _
   subst h2;obtain⟨_,k⟩:=Adw.some _ _ hr;have h3:q.2.size=0:=Classical.byContradiction fun h=>h1 (.inl h);have h4:q.2.data.toList=[]:=List.length_eq_zero_iff.1 (by rw[Array.length_toList];exact h3);refine⟨Classical.byContradiction fun h=>h1 (.inr h),?_⟩;rw[h4,List.append_nil]at k;exact(Afx k).symm
theorem Ob(s:ByteArray):Km s=(pk0,1)∨∃p,Km s=(p,0):=by
 unfold Km T8;cases pkR s with
 |none=>exact .inl rfl
 |some q=>
  simp only;split
  ·exact .inl rfl
  ·exact .inr ⟨_,rfl⟩
end Pl
end
open Go Go.RowKit Pl
theorem Ahc:Yo pwT [.v (.pointer none),.v (.slice none 0 0)] (Dg pwT []):=by
 intro w R b xs hown hrv;rcases hown.2 with⟨q,_⟩|⟨g,cap,cur,q,_,hg,hnc,hcm,hcs,htake⟩
 ·cases q
 ·injection q with q1 q2 q3;injection q1 with q1
  injection q1 with q1;subst q1 q3;have hl:cur.toList.length=2:=by simpa using hcs
  have hx:cur.toList=xs:=by rw[←htake,List.take_of_length_le (by rw[hl];exact ZT _)]
  match xs,hx with
  |[x0,x1],hx=>
   have e0:x0=.pointer none:=B9 (hrv 0 _ x0 rfl rfl);have e1:x1=.slice none 0 0:=B9 (hrv 1 _ x1 rfl rfl);subst e0 e1;have hc:cur= #[.pointer none,.slice none 0 0]:=by apply Array.ext';rw[hx]
   subst hc;exact⟨b,.slice none 0 0,rfl,⟨⟨_,.inl rfl,hg⟩,World.ownsRow_nil _ _ _ _,by simp[Value.ownBlock]⟩,fun k=>by simp[Value.ownBlock]⟩
  |[],hx=>rw[hx]at hl;simp at hl
  |[_],hx=>rw[hx]at hl;simp at hl
  |_::_::_::_,hx=>rw[hx]at hl;simp at hl
namespace Pl
theorem Bk{t:ByteArray}(h:t.size≤30):(Fh t).length≤52:=by
 have:=Av (n:=(t.size:Int)) ⟨by omega,by omega⟩;have hd:t.data.toList.length=t.size:=Array.length_toList;unfold Fh;rw[ZF,hd];omega
theorem Ds(b:Bool):(E5 b).length≤22:=Av (by cases b<;>exact⟨by decide,by decide⟩)
theorem Mb.lenB{m:Mb}(h:Mb.Sm m):(mbB m).length≤140:=by
 obtain⟨h1,h2,h3,h4⟩:=h;have a1:=Bk h1;have a2:=Av (n:=m.st) ⟨by omega,by omega⟩;have a3:=Av (n:=m.lf) ⟨by omega,by omega⟩;have a4:=Av (n:=m.ad) ⟨by omega,by omega⟩;have a5:=Ds m.sv;unfold mbB;simp only[ZF];omega
theorem Sv.lenB{x:Sv}(h:Sv.Sm x):(svB x).length≤318:=by
 obtain⟨h1,h2,h3,h4,h5,h6,h7⟩:=h;have a1:=Bk h1;have a2:=Bk h2;have a3:=Bk h3;have a4:=Bk h4;have b2:=Av (n:=x.ad) ⟨by omega,by omega⟩;have b3:=Av (n:=x.pt) ⟨by omega,by omega⟩;have b4:=Av (n:=x.vs) ⟨by omega,by omega⟩;have a5:=Ds x.ps;have a6:=Ds x.gn;unfold svB;simp only[ZF];omega
theorem Gw.lenB{g:Gw}(h:Gw.Sm g):(gwB g).length≤96:=by
 obtain⟨h1,h2,h3⟩:=h;have a1:=Bk h1;have b2:=Av (n:=g.a) ⟨by omega,by omega⟩;have b3:=Av (n:=g.v) ⟨by omega,by omega⟩;unfold gwB;simp only[ZF];omega
theorem Wh.lenB{w:Wh}(h:Wh.Sm w):(whB w).length≤162:=by
 obtain⟨h1,h2,h3,h4,h5,h6⟩:=h;have a1:=Bk h1;have b2:=Av (n:=w.pl.x) ⟨by omega,by omega⟩;have b3:=Av (n:=w.pl.y) ⟨by omega,by omega⟩;have b4:=Av (n:=w.pl.z) ⟨by omega,by omega⟩;have b5:=Av (n:=w.pl.h) ⟨by omega,by omega⟩;have b6:=Av (n:=w.pl.s) ⟨by omega,by omega⟩;unfold whB;simp only[ZF];omega
theorem Cn{α:Type}{f:α→List UInt8}{m n:Nat}{l:List α}(h:∀x∈l,(f x).length≤m)(hl:l.length≤n)(k:Nat):((l.take k).flatMap f).length≤m*n:=by
 have h1:=Ec (f:=f) (m:=m) (l:=l.take k) fun x hx=>h x (List.mem_of_mem_take hx);rw[ZM]at h1;exact XI h1 (Nat.mul_le_mul_left m (by omega))
theorem Ee{ns:List Int}{k:Nat}(h:∀n∈ns,isI n)(hk:ns.length≤k):(Az ns).length≤22*k:=by
 have h1:=Ec (f:=A8) (m:=22) (l:=ns) fun x hx=>Av (h x hx);exact XI h1 (Nat.mul_le_mul_left 22 hk)
end Pl
set_option maxHeartbeats 4000000 in
theorem Acv[Glob][Tabs](p:Pk)(h:Pk.Sm p):Fun Tryz.prog 15 [.c (.agg p.row)] [.c (.v (.string (bA (pkB p))))]:=by
 obtain⟨fr,wo,ms,sv,gs,wh⟩:=p;obtain⟨h1,h2,h3,h4,h5,h6,h7,h8,h9⟩:=h;simp only at h1 h2 h3 h4 h5 h6 h7 h8 h9;show Fun _ _ [.c (.agg [.v (.string fr),.v (.bool wo),.sl false (ms.map Mb.row),.sl false (sv.map Sv.row),.sl false (gs.map Gw.row),.sl false (wh.map Wh.row)])] _;have t1:∀t∈[fr],t.size≤100:=fun t ht=>by simp at ht;subst ht;omega
 have k1:(B4 [fr]).length≤52:=by simpa[B4]using Bk h1
 have k2:=Ds wo;obtain⟨A0,hA0⟩:∃A,A=[]++B4 [fr]++E5 wo:=⟨_,rfl⟩;have l0:A0.length≤100:=by rw[hA0];simp only[ZF,ZN];omega
 have hY:E8 Tryz.prog 42 [.mo (Dg pwT ([]++B4 [fr])) (Dg pwT A0),.p (.c (.v (.bool wo)))] []:=by
  rw[hA0];exact O4 _ wo (by simp only[ZF,ZN];omega)
 have hN0:E8 Tryz.prog 45 [.mo (Dg pwT (A0)) (Dg pwT (A0++Az [(ms.length:Int)])),.p (.c (.sl false ([(ms.length:Int)].map Aaf)))] []:=by
  exact Cc A0 false [(ms.length:Int)] (by intro n hn;simp at hn;subst hn;exact⟨by omega,by omega⟩) (by simp) (by omega)
 have n0:(Az [(ms.length:Int)]).length≤22*1:=Ee (by intro n hn;simp at hn;subst hn;exact⟨by omega,by omega⟩) (by simp);obtain⟨A1,hA1⟩:∃A,A=A0++Az [(ms.length:Int)]++(ms.take ms.length).flatMap mbB:=⟨_,rfl⟩;have l1:A1.length≤2922:=by
  have n2:=Cn (f:=mbB) (m:=140) (n:=20) (l:=ms) (fun x hx=>Mb.lenB (h3 x hx)) h2 ms.length;rw[hA1];simp only[ZF];omega
 have hN1:E8 Tryz.prog 45 [.mo (Dg pwT (A0++Az [(ms.length:Int)]++(ms.take ms.length).flatMap mbB)) (Dg pwT (A1++Az [(sv.length:Int)])),.p (.c (.sl false ([(sv.length:Int)].map Aaf)))] []:=by
  rw[←hA1];exact Cc A1 false [(sv.length:Int)] (by intro n hn;simp at hn;subst hn;exact⟨by omega,by omega⟩) (by simp) (by omega)
 have n1:(Az [(sv.length:Int)]).length≤22*1:=Ee (by intro n hn;simp at hn;subst hn;exact⟨by omega,by omega⟩) (by simp);obtain⟨A2,hA2⟩:∃A,A=A1++Az [(sv.length:Int)]++(sv.take sv.length).flatMap svB:=⟨_,rfl⟩;have l2:A2.length≤15664:=by
  have n2:=Cn (f:=svB) (m:=318) (n:=40) (l:=sv) (fun x hx=>Sv.lenB (h5 x hx)) h4 sv.length;rw[hA2];simp only[ZF];omega
 have hN2:E8 Tryz.prog 45 [.mo (Dg pwT (A1++Az [(sv.length:Int)]++(sv.take sv.length).flatMap svB)) (Dg pwT (A2++Az [(gs.length:Int)])),.p (.c (.sl false ([(gs.length:Int)].map Aaf)))] []:=by
  rw[←hA2];exact Cc A2 false [(gs.length:Int)] (by intro n hn;simp at hn;subst hn;exact⟨by omega,by omega⟩) (by simp) (by omega)
 have n2:(Az [(gs.length:Int)]).length≤22*1:=Ee (by intro n hn;simp at hn;subst hn;exact⟨by omega,by omega⟩) (by simp);obtain⟨A3,hA3⟩:∃A,A=A2++Az [(gs.length:Int)]++(gs.take gs.length).flatMap gwB:=⟨_,rfl⟩;have l3:A3.length≤16262:=by
  have n2:=Cn (f:=gwB) (m:=96) (n:=6) (l:=gs) (fun x hx=>Gw.lenB (h7 x hx)) h6 gs.length;rw[hA3];simp only[ZF];omega
 have hN3:E8 Tryz.prog 45 [.mo (Dg pwT (A2++Az [(gs.length:Int)]++(gs.take gs.length).flatMap gwB)) (Dg pwT (A3++Az [(wh.length:Int)])),.p (.c (.sl false ([(wh.length:Int)].map Aaf)))] []:=by
  rw[←hA3];exact Cc A3 false [(wh.length:Int)] (by intro n hn;simp at hn;subst hn;exact⟨by omega,by omega⟩) (by simp) (by omega)
 have n3:(Az [(wh.length:Int)]).length≤22*1:=Ee (by intro n hn;simp at hn;subst hn;exact⟨by omega,by omega⟩) (by simp);have eP:bA (pkB ⟨fr,wo,ms,sv,gs,wh⟩)=⟨(A3++Az [(wh.length:Int)]++(wh.take wh.length).flatMap whB).toArray⟩:=by
  rw[hA3,hA2,hA1,hA0];simp only[XF];simp[bA,pkB,B4,Az,Tf]
 rw[eP];refine A9 R6 rfl ?_;(refine goI ?_;repeat (intro gg;refine goI ?_));refine .inr (.inl ⟨_,_,true,[80],Akx rfl (N6 rfl) Ahc (by decide) (by decide) aM,Kp [] false [fr] t1 (by simp) (by simp),(fun _=>D9),oI,dI,?_⟩);(refine goI ?_;repeat (intro gg;refine goI ?_));rename_i g1 gw g3;(refine .inr (.inl ⟨_,_,false,[80],aM,hY,Ak,oI,dI,?_⟩));(refine goI ?_;repeat (intro gg;refine goI ?_));refine .inr (.inr (.inr (Gv 1000 Iy rfl ?_)));(refine goI ?_;repeat (intro gg;refine goI ?_));rw[ZE];(refine .inr (.inl ⟨_,_,true,[80],aM,hN0,(fun _=>D9),oI,dI,?_⟩));(refine goI ?_;repeat (intro gg;refine goI ?_))
 try rw[ZE]
 (refine⟨[],none,{k:Nat//k≤ms.length},[0,1,2,13,14],fun⟨k,hk⟩=>[(15,.v (.int .i64 k))],[16,48],fun⟨k,hk⟩=>[(80,⟨g1,.q (Dg pwT (A0++Az [(ms.length:Int)]++(ms.take k).flatMap mbB)),0,[]⟩)],fun⟨k,hk⟩=>ms.length-k,trivial,fun _=>⟨trivial,fun _=>⟨⟨0,by omega⟩,tI,Aj _ _,?_,Ai _ _⟩⟩,fun⟨k,hk⟩=>?_⟩;focus (exact⟨congrArg (fun r=>some (Ent.mk g1 (.q (Dg pwT r)) 0 [])) (by simp),trivial⟩));(refine goI ?_;repeat (intro gg;refine goI ?_));(refine Ab (fun q0=>?_) (fun q0=>?_)<;>rw[q0])
 ·have hlt:k<ms.length:=(by have:=ZV q0;omega);have hm:=h3 _ (ZK hlt);have n2:=Cn (f:=mbB) (m:=140) (n:=20) (l:=ms) (fun x hx=>Mb.lenB (h3 x hx)) h2 k;(refine goI ?_;repeat (intro gg;refine goI ?_));refine⟨k,_,rfl,Ap hlt,?_⟩;(refine goI ?_;repeat (intro gg;refine goI ?_));refine .inr (.inr (.inr (Gv 2000 Po rfl ?_)));(refine goI ?_;repeat (intro gg;refine goI ?_));have c0:(B4 [ms[k].n]).length≤52:=by
   have z0:=Bk hm.n;simp only[B4,List.flatMap_cons,List.flatMap_nil,List.append_nil,ZF];omega
  (refine .inr (.inl ⟨_,_,true,[80],aM,Kp (A0++Az [(ms.length:Int)]++(ms.take k).flatMap mbB) false [ms[k].n] (by intro t ht;simp at ht;subst ht;first|exact XI hm.n (by decide)|exact XI hm.c (by decide)|exact XI hm.nd (by decide)) (by simp) (by simp only[ZF];omega),(fun _=>D9),oI,dI,?_⟩));(refine goI ?_;repeat (intro gg;refine goI ?_));have c1:(Az [ms[k].st,ms[k].lf,ms[k].ad]).length≤22*3:=Ee (by intro n hn;simp at hn;cases hm;rcases hn with rfl|rfl|rfl<;>exact⟨by omega,by omega⟩) (by simp);(refine .inr (.inl ⟨_,_,true,[80],aM,Cc (A0++Az [(ms.length:Int)]++(ms.take k).flatMap mbB++B4 [ms[k].n]) false [ms[k].st,ms[k].lf,ms[k].ad] (by intro n hn;simp at hn;cases hm;rcases hn with rfl|rfl|rfl<;>exact⟨by omega,by omega⟩) (by simp) (by simp only[ZF];omega),(fun _=>D9),oI,dI,?_⟩));(refine goI ?_;repeat (intro gg;refine goI ?_));have c2:=Ds ms[k].sv;(refine .inr (.inl ⟨_,_,false,[80],aM,O4 (A0++Az [(ms.length:Int)]++(ms.take k).flatMap mbB++B4 [ms[k].n]++Az [ms[k].st,ms[k].lf,ms[k].ad]) ms[k].sv (by simp only[ZF];omega),Ak,oI,dI,?_⟩));(refine goI ?_;repeat (intro gg;refine goI ?_));have e2:A0++Az [(ms.length:Int)]++(ms.take k).flatMap mbB++B4 [ms[k].n]++Az [ms[k].st,ms[k].lf,ms[k].ad]++E5 ms[k].sv=A0++Az [(ms.length:Int)]++(ms.take (k+1)).flatMap mbB:=by rw[Du hlt];simp[mbB,B4,Az]
  (exact⟨none,trivial,fun gr=>⟨⟨k+1,by omega⟩,by show ms.length-(k+1)<ms.length-k;omega,tI,tI,⟨congrArg (fun r=>some (Ent.mk g1 (.q (Dg pwT r)) 0 [])) e2,trivial⟩,tI⟩⟩)
 ·have hge:¬k<ms.length:=(by have:=ZW q0;omega);obtain rfl:k=ms.length:=by omega
  (refine goI ?_;repeat (intro gg;refine goI ?_));refine .inr (.inr (.inr (Gv 3000 H2 rfl ?_)));(refine goI ?_;repeat (intro gg;refine goI ?_));rw[ZE];(refine .inr (.inl ⟨_,_,true,[80],aM,hN1,(fun _=>D9),oI,dI,?_⟩));(refine goI ?_;repeat (intro gg;refine goI ?_))
  try rw[ZE]
  (refine⟨[],none,{k:Nat//k≤sv.length},[0,1,2,13,14],fun⟨k,hk⟩=>[(15,.v (.int .i64 k))],[16,48],fun⟨k,hk⟩=>[(80,⟨g1,.q (Dg pwT (A1++Az [(sv.length:Int)]++(sv.take k).flatMap svB)),0,[]⟩)],fun⟨k,hk⟩=>sv.length-k,trivial,fun _=>⟨trivial,fun _=>⟨⟨0,by omega⟩,tI,Aj _ _,?_,Ai _ _⟩⟩,fun⟨k,hk⟩=>?_⟩;focus (exact⟨congrArg (fun r=>some (Ent.mk g1 (.q (Dg pwT r)) 0 [])) (by simp),trivial⟩));(refine goI ?_;repeat (intro gg;refine goI ?_));(refine Ab (fun q1=>?_) (fun q1=>?_)<;>rw[q1])
  ·have hlt:k<sv.length:=(by have:=ZV q1;omega);have hm:=h5 _ (ZK hlt);have n2:=Cn (f:=svB) (m:=318) (n:=40) (l:=sv) (fun x hx=>Sv.lenB (h5 x hx)) h4 k;(refine goI ?_;repeat (intro gg;refine goI ?_));refine⟨k,_,rfl,Ap hlt,?_⟩;(refine goI ?_;repeat (intro gg;refine goI ?_));refine .inr (.inr (.inr (Gv 4000 Oo rfl ?_)));(refine goI ?_;repeat (intro gg;refine goI ?_));have c0:(B4 [sv[k].nd,sv[k].id,sv[k].nm,sv[k].tg]).length≤208:=by
    have z0:=Bk hm.nd;have z1:=Bk hm.id;have z2:=Bk hm.nm;have z3:=Bk hm.tg;simp only[B4,List.flatMap_cons,List.flatMap_nil,List.append_nil,ZF];omega
   (refine .inr (.inl ⟨_,_,true,[80],aM,Kp (A1++Az [(sv.length:Int)]++(sv.take k).flatMap svB) false [sv[k].nd,sv[k].id,sv[k].nm,sv[k].tg] (by intro t ht;simp at ht;rcases ht with rfl|rfl|rfl|rfl<;>(first|exact XI hm.nd (by decide)|exact XI hm.id (by decide)|exact XI hm.nm (by decide)|exact XI hm.tg (by decide))) (by simp) (by simp only[ZF];omega),(fun _=>D9),oI,dI,?_⟩));(refine goI ?_;repeat (intro gg;refine goI ?_));have c1:(Az [sv[k].ad,sv[k].pt]).length≤22*2:=Ee (by intro n hn;simp at hn;cases hm;rcases hn with rfl|rfl<;>exact⟨by omega,by omega⟩) (by simp);(refine .inr (.inl ⟨_,_,true,[80],aM,Cc (A1++Az [(sv.length:Int)]++(sv.take k).flatMap svB++B4 [sv[k].nd,sv[k].id,sv[k].nm,sv[k].tg]) false [sv[k].ad,sv[k].pt] (by intro n hn;simp at hn;cases hm;rcases hn with rfl|rfl<;>exact⟨by omega,by omega⟩) (by simp) (by simp only[ZF];omega),(fun _=>D9),oI,dI,?_⟩));(refine goI ?_;repeat (intro gg;refine goI ?_));have c2:=Ds sv[k].ps;(refine .inr (.inl ⟨_,_,false,[80],aM,O4 (A1++Az [(sv.length:Int)]++(sv.take k).flatMap svB++B4 [sv[k].nd,sv[k].id,sv[k].nm,sv[k].tg]++Az [sv[k].ad,sv[k].pt]) sv[k].ps (by simp only[ZF];omega),Ak,oI,dI,?_⟩));(refine goI ?_;repeat (intro gg;refine goI ?_));have c3:(Az [sv[k].vs]).length≤22*1:=Ee (by intro n hn;simp at hn;cases hm;subst hn<;>exact⟨by omega,by omega⟩) (by simp);(refine .inr (.inl ⟨_,_,true,[80],aM,Cc (A1++Az [(sv.length:Int)]++(sv.take k).flatMap svB++B4 [sv[k].nd,sv[k].id,sv[k].nm,sv[k].tg]++Az [sv[k].ad,sv[k].pt]++E5 sv[k].ps) false [sv[k].vs] (by intro n hn;simp at hn;cases hm;subst hn<;>exact⟨by omega,by omega⟩) (by simp) (by simp only[ZF];omega),(fun _=>D9),oI,dI,?_⟩));(refine goI ?_;repeat (intro gg;refine goI ?_));have c4:=Ds sv[k].gn;(refine .inr (.inl ⟨_,_,false,[80],aM,O4 (A1++Az [(sv.length:Int)]++(sv.take k).flatMap svB++B4 [sv[k].nd,sv[k].id,sv[k].nm,sv[k].tg]++Az [sv[k].ad,sv[k].pt]++E5 sv[k].ps++Az [sv[k].vs]) sv[k].gn (by simp only[ZF];omega),Ak,oI,dI,?_⟩));(refine goI ?_;repeat (intro gg;refine goI ?_));have e2:A1++Az [(sv.length:Int)]++(sv.take k).flatMap svB++B4 [sv[k].nd,sv[k].id,sv[k].nm,sv[k].tg]++Az [sv[k].ad,sv[k].pt]++E5 sv[k].ps++Az [sv[k].vs]++E5 sv[k].gn=A1++Az [(sv.length:Int)]++(sv.take (k+1)).flatMap svB:=by rw[Du hlt];simp[svB,B4,Az]
   (exact⟨none,trivial,fun gr=>⟨⟨k+1,by omega⟩,by show sv.length-(k+1)<sv.length-k;omega,tI,tI,⟨congrArg (fun r=>some (Ent.mk g1 (.q (Dg pwT r)) 0 [])) e2,trivial⟩,tI⟩⟩)
  ·have hge:¬k<sv.length:=(by have:=ZW q1;omega);obtain rfl:k=sv.length:=by omega
   (refine goI ?_;repeat (intro gg;refine goI ?_));refine .inr (.inr (.inr (Gv 5000 H4 rfl ?_)));(refine goI ?_;repeat (intro gg;refine goI ?_));rw[ZE];(refine .inr (.inl ⟨_,_,true,[80],aM,hN2,(fun _=>D9),oI,dI,?_⟩));(refine goI ?_;repeat (intro gg;refine goI ?_))
   try rw[ZE]
   (refine⟨[],none,{k:Nat//k≤gs.length},[0,1,2,13,14],fun⟨k,hk⟩=>[(15,.v (.int .i64 k))],[16,48],fun⟨k,hk⟩=>[(80,⟨g1,.q (Dg pwT (A2++Az [(gs.length:Int)]++(gs.take k).flatMap gwB)),0,[]⟩)],fun⟨k,hk⟩=>gs.length-k,trivial,fun _=>⟨trivial,fun _=>⟨⟨0,by omega⟩,tI,Aj _ _,?_,Ai _ _⟩⟩,fun⟨k,hk⟩=>?_⟩;focus (exact⟨congrArg (fun r=>some (Ent.mk g1 (.q (Dg pwT r)) 0 [])) (by simp),trivial⟩));(refine goI ?_;repeat (intro gg;refine goI ?_));(refine Ab (fun q2=>?_) (fun q2=>?_)<;>rw[q2])
   ·have hlt:k<gs.length:=(by have:=ZV q2;omega);have hm:=h7 _ (ZK hlt);have n2:=Cn (f:=gwB) (m:=96) (n:=6) (l:=gs) (fun x hx=>Gw.lenB (h7 x hx)) h6 k;(refine goI ?_;repeat (intro gg;refine goI ?_));refine⟨k,_,rfl,Ap hlt,?_⟩;(refine goI ?_;repeat (intro gg;refine goI ?_));refine .inr (.inr (.inr (Gv 6000 Pg rfl ?_)));(refine goI ?_;repeat (intro gg;refine goI ?_));have c0:(B4 [gs[k].c]).length≤52:=by
     have z0:=Bk hm.c;simp only[B4,List.flatMap_cons,List.flatMap_nil,List.append_nil,ZF];omega
    (refine .inr (.inl ⟨_,_,true,[80],aM,Kp (A2++Az [(gs.length:Int)]++(gs.take k).flatMap gwB) false [gs[k].c] (by intro t ht;simp at ht;subst ht;first|exact XI hm.n (by decide)|exact XI hm.c (by decide)|exact XI hm.nd (by decide)) (by simp) (by simp only[ZF];omega),(fun _=>D9),oI,dI,?_⟩));(refine goI ?_;repeat (intro gg;refine goI ?_));have c1:(Az [gs[k].a,gs[k].v]).length≤22*2:=Ee (by intro n hn;simp at hn;cases hm;rcases hn with rfl|rfl<;>exact⟨by omega,by omega⟩) (by simp);(refine .inr (.inl ⟨_,_,true,[80],aM,Cc (A2++Az [(gs.length:Int)]++(gs.take k).flatMap gwB++B4 [gs[k].c]) false [gs[k].a,gs[k].v] (by intro n hn;simp at hn;cases hm;rcases hn with rfl|rfl<;>exact⟨by omega,by omega⟩) (by simp) (by simp only[ZF];omega),(fun _=>D9),oI,dI,?_⟩));(refine goI ?_;repeat (intro gg;refine goI ?_));have e2:A2++Az [(gs.length:Int)]++(gs.take k).flatMap gwB++B4 [gs[k].c]++Az [gs[k].a,gs[k].v]=A2++Az [(gs.length:Int)]++(gs.take (k+1)).flatMap gwB:=by rw[Du hlt];simp[gwB,B4,Az]
    (exact⟨none,trivial,fun gr=>⟨⟨k+1,by omega⟩,by show gs.length-(k+1)<gs.length-k;omega,tI,tI,⟨congrArg (fun r=>some (Ent.mk g1 (.q (Dg pwT r)) 0 [])) e2,trivial⟩,tI⟩⟩)
   ·have hge:¬k<gs.length:=(by have:=ZW q2;omega);obtain rfl:k=gs.length:=by omega
    (refine goI ?_;repeat (intro gg;refine goI ?_));refine .inr (.inr (.inr (Gv 7000 J2 rfl ?_)));(refine goI ?_;repeat (intro gg;refine goI ?_));rw[ZE];(refine .inr (.inl ⟨_,_,true,[80],aM,hN3,(fun _=>D9),oI,dI,?_⟩));(refine goI ?_;repeat (intro gg;refine goI ?_))
    try rw[ZE]
    (refine⟨[],none,{k:Nat//k≤wh.length},[0,1,2,13,14],fun⟨k,hk⟩=>[(15,.v (.int .i64 k))],[16,48],fun⟨k,hk⟩=>[(80,⟨g1,.q (Dg pwT (A3++Az [(wh.length:Int)]++(wh.take k).flatMap whB)),0,[]⟩)],fun⟨k,hk⟩=>wh.length-k,trivial,fun _=>⟨trivial,fun _=>⟨⟨0,by omega⟩,tI,Aj _ _,?_,Ai _ _⟩⟩,fun⟨k,hk⟩=>?_⟩;focus (exact⟨congrArg (fun r=>some (Ent.mk g1 (.q (Dg pwT r)) 0 [])) (by simp),trivial⟩));(refine goI ?_;repeat (intro gg;refine goI ?_));(refine Ab (fun q3=>?_) (fun q3=>?_)<;>rw[q3])
    ·have hlt:k<wh.length:=(by have:=ZV q3;omega);have hm:=h9 _ (ZK hlt);have n2:=Cn (f:=whB) (m:=162) (n:=20) (l:=wh) (fun x hx=>Wh.lenB (h9 x hx)) h8 k;(refine goI ?_;repeat (intro gg;refine goI ?_));refine⟨k,_,rfl,Ap hlt,?_⟩;(refine goI ?_;repeat (intro gg;refine goI ?_));refine .inr (.inr (.inr (Gv 8000 Ou rfl ?_)));(refine goI ?_;repeat (intro gg;refine goI ?_));have c0:(B4 [wh[k].nd]).length≤52:=by
      have z0:=Bk hm.nd;simp only[B4,List.flatMap_cons,List.flatMap_nil,List.append_nil,ZF];omega
     (refine .inr (.inl ⟨_,_,true,[80],aM,Kp (A3++Az [(wh.length:Int)]++(wh.take k).flatMap whB) false [wh[k].nd] (by intro t ht;simp at ht;subst ht;first|exact XI hm.n (by decide)|exact XI hm.c (by decide)|exact XI hm.nd (by decide)) (by simp) (by simp only[ZF];omega),(fun _=>D9),oI,dI,?_⟩));(refine goI ?_;repeat (intro gg;refine goI ?_));have c1:(Az [wh[k].pl.x,wh[k].pl.y,wh[k].pl.z,wh[k].pl.h,wh[k].pl.s]).length≤22*5:=Ee (by intro n hn;simp at hn;cases hm;rcases hn with rfl|rfl|rfl|rfl|rfl<;>exact⟨by omega,by omega⟩) (by simp);(refine .inr (.inl ⟨_,_,true,[80],aM,Cc (A3++Az [(wh.length:Int)]++(wh.take k).flatMap whB++B4 [wh[k].nd]) false [wh[k].pl.x,wh[k].pl.y,wh[k].pl.z,wh[k].pl.h,wh[k].pl.s] (by intro n hn;simp at hn;cases hm;rcases hn with rfl|rfl|rfl|rfl|rfl<;>exact⟨by omega,by omega⟩) (by simp) (by simp only[ZF];omega),(fun _=>D9),oI,dI,?_⟩));(refine goI ?_;repeat (intro gg;refine goI ?_));have e2:A3++Az [(wh.length:Int)]++(wh.take k).flatMap whB++B4 [wh[k].nd]++Az [wh[k].pl.x,wh[k].pl.y,wh[k].pl.z,wh[k].pl.h,wh[k].pl.s]=A3++Az [(wh.length:Int)]++(wh.take (k+1)).flatMap whB:=by rw[Du hlt];simp[whB,B4,Az]
     (exact⟨none,trivial,fun gr=>⟨⟨k+1,by omega⟩,by show wh.length-(k+1)<wh.length-k;omega,tI,tI,⟨congrArg (fun r=>some (Ent.mk g1 (.q (Dg pwT r)) 0 [])) e2,trivial⟩,tI⟩⟩)
    ·have hge:¬k<wh.length:=(by have:=ZW q3;omega);obtain rfl:k=wh.length:=by omega
     (refine goI ?_;repeat (intro gg;refine goI ?_));(refine .inr (.inl ⟨_,_,false,[80],aM,X8 (T:=pwT) (A3++Az [(wh.length:Int)]++(wh.take wh.length).flatMap whB) (by intro q;have:=congrArg List.length q;simp[Az,A8]at this),Ak,oI,dI,?_⟩));(refine goI ?_;repeat (intro gg;refine goI ?_));(exact⟨[],aI⟩)
abbrev prT:TypeId:=65
def Do:Value:=.iface 61 (.agg #[])
section
variable {P:Program} {w:World} {R:Nat→Prop}
theorem Y4{p:Ba}{x:Value}{F':Nat→Prop}(hx:Hj w R p x F')(hd:∀b,F' b→¬R b):∀(zs:List Value),Ca w R ((zs.map fun z=>.p (.c (.v z)))++[p]) (zs++[x]) F'
 |[]=>⟨F',fun _=>False,hx,fun b h=>h,fun b hb=>⟨fun q=>q,hd b hb⟩,fun b=>by simp⟩
 |z::zs=>by
  refine⟨fun _=>False,F',⟨.v z,fun b=>⟨fun q=>q.elim,fun q=>Fa (fun p hp=>by simp at hp;exact⟨_,hp⟩) q⟩⟩,Y4 hx hd zs,fun b hb=>hb.elim,fun b=>by simp⟩
theorem Aa1{u:V}{x:Value}(h:RV w R noG u x):N7 w R [.c u] [x]:=by
 refine⟨rfl,fun i p y h1 h2=>?_,fun i j T sz rows T' sz' rows' x y b hij h1=>?_,fun b h=>absurd h (Fa (fun p hp=>by simp at hp;exact⟨_,hp⟩))⟩
 ·rcases i with _|i
  ·cases h1;cases h2;exact h
  ·simp at h1
 ·rcases i with _|i<;>simp at h1
theorem Ahs{T:TypeId}{y y':Value}{xs:List Value}{F:Nat→Prop}(hp:Ca w R [.mn T [.c (.v y)] [.c (.v y')]] xs F):∃b,xs=[.pointer (some ⟨b,0,none⟩)]∧w.heap[b]? =some (.cells #[y] T (0,0))∧(∀k,F k↔k=b)∧¬R b:=by
 match xs,hp with
 |[x],hp=>
  obtain⟨F1,F2,⟨b,ys,rfl,hpos,hown,hpars,hone,hnb,hF1⟩,h2,h3,h4⟩:=hp;have hl:ys.length=1:=by simpa using hpars.len.symm
  obtain⟨y0,rfl⟩:∃y0,ys=[y0]:=List.length_eq_one_iff.1 hl;obtain rfl:y0=y:=B9 (hpars.ok 0 _ _ rfl rfl);have hnb':∀k,¬A7 [.c (.v y0)] [y0] k:=fun k=>Fa (fun p hp=>by simp at hp;exact⟨_,hp⟩);have hF:∀k,F k↔k=b:=fun k=>by
   rw[h4,hF1];exact⟨fun q=>q.elim (fun q=>q.resolve_right (hnb' k)) (fun q=>absurd q (h2 k)),fun q=>.inl (.inl q)⟩
  refine⟨b,rfl,?_,hF,(h3 b ((hF1 b).2 (.inl rfl))).2⟩;rcases hown.2 with⟨q,_⟩|⟨g,cap,cur,q,_,hg,hnc,hcm,hcs,htake⟩
  ·cases q
  ·injection q with q1 q2 q3;injection q1 with q1
   injection q1 with q1;subst q1 q3;have hl:cur.toList.length=1:=by simpa using hcs
   have hx:cur.toList=[y0]:=by rw[←htake,List.take_of_length_le (by rw[hl];exact ZT _)]
   have hc:cur= #[y0]:=by apply Array.ext';rw[hx]
   rw[hc]at hg;exact hg
theorem Afo[Glob]{f:FuncId}{T:TypeId}{y y':Value}{zs:List Value}(hc:Dt P f)(hy':y'.oneCell'=true)(h:∀(w:World) (L:Nat→Prop) (b:Nat),Bz w L→w.heap[b]? =some (.cells #[y] T (0,0))→Calls P f #[.pointer (some ⟨b,0,none⟩)] w fun e w'=>e=.returned (Db zs)∧Fr (fun k=>k=b) w w'∧w'.heap[b]? =some (.cells #[y'] T (0,0))):
  E8 P f [.mn T [.c (.v y)] [.c (.v y')]] (zs.map fun z=>.p (.c (.v z))):=by
 refine⟨hc,fun w R xs F hlt hp hg=>?_⟩;obtain⟨b,rfl,hb,hF,hR⟩:=Ahs hp;refine(h w F b hg hb).mono ?_
 rintro e w' ⟨rfl,hfr,hb'⟩
 refine⟨zs,R,fun k=>k=b,rfl,by simp,C6 hfr fun k hk=>(hF k).2 hk,fun b hb=>hb,fun b hb=>.inl hb,?_,fun k hk=>.inl ((hF k).2 hk)⟩;have hnb':∀k,¬A7 [.c (.v y')] [y'] k:=fun k=>Fa (fun p hp=>by simp at hp;exact⟨_,hp⟩);refine Y4 (p:=.pn T [.c (.v y')]) ⟨b,[y'],rfl,by simp,⟨rfl,.inr ⟨b,1,_,rfl,ZU _,hb',by simp,by decide,rfl,rfl⟩⟩,Aa1 (.v _),by simp[hy'],hnb' b,fun k=>⟨.inl,fun h=>h.elim id (fun h=>absurd h (hnb' k))⟩⟩ (fun k hk=>by rw[hk];exact hR) zs
theorem Zs[Glob]{f:FuncId}{T:TypeId}{y v:Value}{y':Value}(hc:Dt P f)(h:∀(w:World) (L:Nat→Prop) (b:Nat),Bz w L→w.heap[b]? =some (.cells #[y] T (0,0))→Calls P f #[.pointer (some ⟨b,0,none⟩)] w fun e w'=>e=.panicked [{v:=v,recovered:=false}]∧Fr (fun k=>k=b) w w'):
  Gu P f [.mn T [.c (.v y)] [.c (.v y')]] v:=by
 refine⟨hc,fun w R xs F hlt hp hg=>?_⟩;obtain⟨b,rfl,hb,hF,hR⟩:=Ahs hp;exact(h w F b hg hb).mono fun e w' ⟨h1,h2⟩=>⟨h1,C6 h2 fun k hk=>(hF k).2 hk⟩
end
def G5:Ag:=
 .seq (.reg [Rq 4 (.mv (.const (.string ⟨#[]⟩))),Rq 5 (.mv (.const (.string ⟨#[]⟩))),Rq 6 (.mv (.const (.bool false)))]) (.seq (.seq (.reg [Mq 8 0,Mq 9 1,Cq 10 98 ([8,9]),Mq 7 10]) (.seq (.reg [Mq 11 7,Bq 12 .geq 11 (Kq 0)]) (.cond 12 (.seq (.dreg [[Mq 13 0,Mq 14 7,Rq 15 (.slcS 13 none (some 14)),Mq 16 0,Mq 17 7,Mq 18 1,Rq 19 (.len true 18),Bq 20 .add 17 19,Rq 21 (.slcS 16 (some 20) none),Mq 4 15],[Mq 5 21],[Rq 6 (.mv (.const (.bool true)))]]) (.ret)) (.skip)))) (.seq (.reg [Mq 22 0,Mq 4 22,Rq 5 (.mv (.const (.string ⟨#[]⟩))),Rq 6 (.mv (.const (.bool false)))]) (.ret)))
theorem Dy:Ao Tryz.prog 92 2=some (G5,[4,5,6]):=by kernel_rfl
namespace Pl
noncomputable def Ux(p:Pk):ByteArray:=if p.err=0 then bA (pkB p)else⟨#[]⟩
end Pl
theorem Gs[Glob][Tabs](p:Pk)(h:p.ok):Fun Tryz.prog 6 [.c (.agg p.row)] [.c (.v (.string (Ux p))),.c (.v (.int .i64 p.err))]:=by
 have hC:=Mi p h;by_cases h0:p.err=0
 ·have hW:=Acv p (Pk.sm h0);rw[h0]at hC ⊢;rw[show Ux p=bA (pkB p)from if_pos h0];refine A9 Lu rfl ?_;(refine goI ?_;repeat (intro gg;refine goI ?_));refine .inl (cX hC ?_);(refine goI ?_;repeat (intro gg;refine goI ?_));refine .inl (cX hW ?_);(refine goI ?_;repeat (intro gg;refine goI ?_));(exact⟨[],aI⟩)
 ·rw[show Ux p=⟨#[]⟩from if_neg h0];refine A9 Lu rfl ?_;(refine goI ?_;repeat (intro gg;refine goI ?_));refine .inl (cX hC ?_);(refine goI ?_;repeat (intro gg;refine goI ?_));(refine Ae5 ?_ ?_;focus (simpa using h0));(refine goI ?_;repeat (intro gg;refine goI ?_));(exact⟨[],aI⟩)
theorem Ns[Glob](s:ByteArray)(c:UInt8):Fun Tryz.prog 98 [.c (.v (.string s)),.c (.v (.string ⟨#[c]⟩))] [.c (.v (.int .i64 (ixb s c)))]:=
 Oi (xs:=[.string s,.string ⟨#[c]⟩]) (Ff Tryz.func98 (by kernel_rfl) (by kernel_rfl)) fun w=>(U7 s c w).mono fun e w' ⟨h1,h2⟩=>⟨h1,h2▸Below.refl _ _⟩
theorem Aci[Glob]{s:ByteArray}{k:Nat}(hk:ixb s 59=(k:Int))(hlt:k<s.size)(hs:s.size≤1000000000000):Fun Tryz.prog 92 [.c (.v (.string s)),.c (.v (.string ⟨#[59]⟩))] [.c (.v (.string (s.extract 0 k))),.c (.v (.string (s.extract (k+1) s.size))),.c (.v (.bool true))]:=by
 have hi:=Ns s 59;rw[hk]at hi;refine A9 Dy rfl ?_;(refine goI ?_;repeat (intro gg;refine goI ?_));refine .inl (cX hi ?_);(refine goI ?_;repeat (intro gg;refine goI ?_));refine⟨0,k,rfl,⟨_,rfl⟩,by omega,by omega,?_⟩;(refine goI ?_;repeat (intro gg;refine goI ?_));refine⟨(k:Int)+1,Jf (n:=(k:Int)+1) (by omega) (by omega),?_⟩;(refine goI ?_;repeat (intro gg;refine goI ?_));refine⟨k+1,s.size,⟨_,rfl⟩,rfl,by omega,ZT _,?_⟩;(refine goI ?_;repeat (intro gg;refine goI ?_));(exact⟨[],aI⟩)
theorem Acl[Glob]{s:ByteArray}(h:ixb s 59<0):Fun Tryz.prog 92 [.c (.v (.string s)),.c (.v (.string ⟨#[59]⟩))] [.c (.v (.string s)),.c (.v (.string ⟨#[]⟩)),.c (.v (.bool false))]:=by
 have hi:=Ns s 59;generalize ixb s 59=i at hi h;refine A9 Dy rfl ?_;(refine goI ?_;repeat (intro gg;refine goI ?_));refine .inl (cX hi ?_);(refine goI ?_;repeat (intro gg;refine goI ?_));(refine Vs ?_ ?_;focus (exact ZY (by omega)));(refine goI ?_;repeat (intro gg;refine goI ?_));(exact⟨[],aI⟩)
theorem O7[Glob]{s a b:ByteArray}(h:L1 s 59=some (a,b))(hs:s.size≤1000000000000):Fun Tryz.prog 82 [.c (.v (.string s)),.c (.v (.string ⟨#[59]⟩))] [.c (.v (.string a)),.c (.v (.string b)),.c (.v (.bool true))]:=by
 unfold L1 at h;split at h
 ·cases h
 ·rename_i h0;injection h with h
  injection h with ha hb;obtain⟨k,hk⟩:=Int.eq_ofNat_of_zero_le (show 0≤ixb s 59 by omega);have hlt:k<s.size:=by
   have h1:=(Lib.indexByte_some (show Lib.indexByte s.data.toList 59=(k:Int)from hk)).1;have:=(ZB.1 h1).1;rw[Array.length_toList]at this;exact this
  have hi:=Aci hk hlt hs;rw[hk,Int.toNat_natCast]at ha hb;rw[ha,hb]at hi;refine A9 Mt rfl ?_;(refine goI ?_;repeat (intro gg;refine goI ?_));refine .inl (cX hi ?_);(refine goI ?_;repeat (intro gg;refine goI ?_));(exact⟨[],aI⟩)
theorem Ts[Glob]{s:ByteArray}(h:L1 s 59=none):Fun Tryz.prog 82 [.c (.v (.string s)),.c (.v (.string ⟨#[59]⟩))] [.c (.v (.string s)),.c (.v (.string ⟨#[]⟩)),.c (.v (.bool false))]:=by
 unfold L1 at h;split at h
 ·rename_i h0;have hi:=Acl h0;refine A9 Mt rfl ?_;(refine goI ?_;repeat (intro gg;refine goI ?_));refine .inl (cX hi ?_);(refine goI ?_;repeat (intro gg;refine goI ?_));(exact⟨[],aI⟩)
 ·cases h
theorem Bz.none_[Glob]{w:World}{L:Nat→Prop}(h:Bz w L):Bz w (fun _=>False):=fun b o q=>⟨(h b o q).1,id⟩
theorem Bz.fr_[Glob]{w w':World}(h:Bz w (fun _=>False))(hf:Fr (fun _=>False) w w'):Bz w' (fun _=>False):=h.at_ hf fun b q=>q.elim
theorem Xe[Glob]{w w':World}(hf:Fr (fun _=>False) w w'){b:Nat}{o:Obj}(h:w.heap[b]? =some o):w'.heap[b]? =some o:=(hf.block b (XL.1 h).1 id).trans h
set_option maxRecDepth 100000 in
set_option maxHeartbeats 4000000 in
theorem Ad1[Glob][Tabs]{s r:ByteArray}{n:Int}(h:Cd s=some (n,r))(hs:s.size≤1000000000000)(w:World)(L:Nat→Prop)(b:Nat)(hg:Bz w L)(hb:w.heap[b]? =some (.cells #[.string s] prT (0,0))):
  Calls Tryz.prog 67 #[.pointer (some ⟨b,0,none⟩)] w fun e w'=>e=.returned (Db [.int .i64 n])∧Fr (fun k=>k=b) w w'∧w'.heap[b]? =some (.cells #[.string r] prT (0,0)):=by
 obtain⟨hI,_⟩:=F5 h;unfold Cd at h;rcases hc:L1 s 59 with _|⟨t,r'⟩
 ·rw[hc]at h;cases h
 rw[hc,ZA]at h;rcases hv:Zn t with _|n'
 ·simp only[hv]at h;cases h
 simp only[hv,Option.map_some,ZD,Prod.mk.injEq]at h;obtain⟨rfl,rfl⟩:=h;unfold Zn at hv;rcases hA:Lib.atoiAll t.data.toList with m|_|_
 rotate_left
 ·rw[hA]at hv;cases hv
 ·rw[hA]at hv;cases hv
 rw[hA]at hv;simp only at hv;split at hv;rotate_left
 ·cases hv
 rename_i hE;injection hv with hv
 subst hv;have hts:t.size≤1000000000000:=by
  unfold L1 at hc;split at hc
  ·cases hc
  ·injection hc with hc;injection hc with hc _
   subst hc;rw[ByteArray.size_extract];omega
 have hg0:=hg.none_;have c0:w.cell? ⟨b,0,none⟩=some (.string s):=by rw[Lib.cell_of_heap hb];rfl
 go_enter Tryz.func67,Tryz.ntmps67
 go_wp2_with (go_at_call 82;refine(G6 (xs:=[.string s,.string ⟨#[59]⟩]) (ys:=[.string t,.string r',.bool true]) (O7 hc hs) _ hg0).mono ?_;rintro e w1 ⟨rfl,hf1⟩;simp only[Db])
 have hg1:=hg0.fr_ hf1
 go_wp2_with (go_at_call 83;refine(Any.strconv_Atoi_ok Tryz.laysC172 t (by omega) m hA _).mono ?_;rintro e w2 ⟨rfl,hw2⟩)
 have hf2:Fr (fun _=>False) w1 w2:=by
  rcases hw2 with rfl|⟨q,rfl⟩
  ·exact Fr.refl _ _
  ·have hb:=Lib.bytesWorld_below w1 (Tryz.laysC172_ren.t 5) q;exact Dh hb
 have hg2:=hg1.fr_ hf2;clear hw2
 go_wp2_with (go_at_call 75;refine(G6 (xs:=[.int .i64 m]) (ys:=[.string ⟨(Lib.itoa m).toArray⟩]) (Ul m hI.1 hI.2) _ hg2).mono ?_;rintro e w3 ⟨rfl,hf3⟩;simp only[Db];have hb3:=Xe hf3 (Xe hf2 (Xe hf1 hb));have f3:=Lib.frozen_of_heap hb3 0;have c3:w3.cell? ⟨b,0,none⟩=some (.string s):=(by rw[Lib.cell_of_heap hb3];rfl))
 ·go_ret
  refine⟨rfl,?_,?_⟩
  ·exact(C6 ((hf1.trans hf2).trans hf3) (fun k q=>q.elim)).trans (Zp (L:=fun k=>k=b) rfl _ _)
  ·rw[heap_set hb3];rfl
theorem A5[Glob][Tabs]{s r:ByteArray}{n:Int}(h:Cd s=some (n,r))(hs:s.size≤1000000000000):E8 Tryz.prog 67 [.mn prT [.c (.v (.string s))] [.c (.v (.string r))]] [.p (.c (.v (.int .i64 n)))]:=
 Afo (zs:=[.int .i64 n]) (Ff Tryz.func67 (by kernel_rfl) (by kernel_rfl)) rfl fun w L b hg hb=>Ad1 h hs w L b hg hb
set_option maxRecDepth 100000 in
set_option maxHeartbeats 4000000 in
theorem Sw[Glob]{s:ByteArray}(hc:L1 s 59=none)(m:Int)(hA:Lib.atoiAll s.data.toList=.ok m)(hs:s.size≤1000000000000)(w:World)(L:Nat→Prop)(b:Nat)(hg:Bz w L)(hb:w.heap[b]? =some (.cells #[.string s] prT (0,0))):
  Calls Tryz.prog 67 #[.pointer (some ⟨b,0,none⟩)] w fun e w'=>e=.panicked [{v:=Do,recovered:=false}]∧Fr (fun k=>k=b) w w':=by
 have hg0:=hg.none_;have c0:w.cell? ⟨b,0,none⟩=some (.string s):=by rw[Lib.cell_of_heap hb];rfl
 go_enter Tryz.func67,Tryz.ntmps67
 go_wp2_with (go_at_call 82;refine(G6 (xs:=[.string s,.string ⟨#[59]⟩]) (ys:=[.string s,.string ⟨#[]⟩,.bool false]) (Ts hc) _ hg0).mono ?_;rintro e w1 ⟨rfl,hf1⟩;simp only[Db])
 have hg1:=hg0.fr_ hf1
 go_wp2_with (go_at_call 83;refine(Any.strconv_Atoi_ok Tryz.laysC172 s (by omega) m hA _).mono ?_;rintro e w2 ⟨rfl,hw2⟩)
 have hf2:Fr (fun _=>False) w1 w2:=by
  rcases hw2 with rfl|⟨q,rfl⟩
  ·exact Fr.refl _ _
  ·have hb:=Lib.bytesWorld_below w1 (Tryz.laysC172_ren.t 5) q;exact Dh hb
 have hg2:=hg1.fr_ hf2;clear hw2
 go_wp2
 refine⟨rfl,?_⟩;exact⟨rfl,C6 (hf1.trans hf2) (fun k q=>q.elim)⟩
set_option maxRecDepth 100000 in
set_option maxHeartbeats 4000000 in
theorem N8[Glob][Tabs]{s:ByteArray}(hc:L1 s 59=none)(hA:Lib.atoiAll s.data.toList=Lib.atoiAll [])(hs:s.size≤1000000000000)(w:World)(L:Nat→Prop)(b:Nat)(hg:Bz w L)(hb:w.heap[b]? =some (.cells #[.string s] prT (0,0))):
  Calls Tryz.prog 67 #[.pointer (some ⟨b,0,none⟩)] w fun e w'=>e=.panicked [{v:=Do,recovered:=false}]∧Fr (fun k=>k=b) w w':=by
 have hg0:=hg.none_;have c0:w.cell? ⟨b,0,none⟩=some (.string s):=by rw[Lib.cell_of_heap hb];rfl
 go_enter Tryz.func67,Tryz.ntmps67
 go_wp2_with (go_at_call 82;refine(G6 (xs:=[.string s,.string ⟨#[59]⟩]) (ys:=[.string s,.string ⟨#[]⟩,.bool false]) (Ts hc) _ hg0).mono ?_;rintro e w1 ⟨rfl,hf1⟩;simp only[Db])
 have hg1:=hg0.fr_ hf1;obtain⟨ev,hev1,hev2⟩:=Tabs.syn w1 _ hg1
 go_wp2_with (go_at_call 83;refine(Any.strconv_Atoi_syntax Tryz.laysC172 s (by omega) hA ev _ hev1 hev2).mono ?_;rintro e w2 ⟨N,rfl,hN1,hN2,hw2⟩)
 have hf2:Fr (fun _=>False) w1 w2:=Dh hw2
 go_wp2
 refine⟨rfl,?_⟩;exact⟨rfl,C6 (hf1.trans hf2) (fun k q=>q.elim)⟩
set_option maxRecDepth 100000 in
set_option maxHeartbeats 4000000 in
theorem Ok[Glob][Tabs]{s:ByteArray}(hc:L1 s 59=none)(hA:Lib.atoiAll s.data.toList=.range)(hs:s.size≤1000000000000)(w:World)(L:Nat→Prop)(b:Nat)(hg:Bz w L)(hb:w.heap[b]? =some (.cells #[.string s] prT (0,0))):
  Calls Tryz.prog 67 #[.pointer (some ⟨b,0,none⟩)] w fun e w'=>e=.panicked [{v:=Do,recovered:=false}]∧Fr (fun k=>k=b) w w':=by
 have hg0:=hg.none_;have c0:w.cell? ⟨b,0,none⟩=some (.string s):=by rw[Lib.cell_of_heap hb];rfl
 go_enter Tryz.func67,Tryz.ntmps67
 go_wp2_with (go_at_call 82;refine(G6 (xs:=[.string s,.string ⟨#[59]⟩]) (ys:=[.string s,.string ⟨#[]⟩,.bool false]) (Ts hc) _ hg0).mono ?_;rintro e w1 ⟨rfl,hf1⟩;simp only[Db])
 have hg1:=hg0.fr_ hf1;obtain⟨ev,hev1,hev2⟩:=Tabs.ran w1 _ hg1
 go_wp2_with (go_at_call 83;refine(Any.strconv_Atoi_range Tryz.laysC172 s (by omega) hA ev _ hev1 hev2).mono ?_;rintro e w2 ⟨N,rfl,hN1,hN2,hw2⟩)
 have hf2:Fr (fun _=>False) w1 w2:=Dh hw2
 go_wp2
 refine⟨rfl,?_⟩;exact⟨rfl,C6 (hf1.trans hf2) (fun k q=>q.elim)⟩
set_option maxRecDepth 100000 in
set_option maxHeartbeats 4000000 in
theorem O5[Glob][Tabs]{s t r:ByteArray}(hc:L1 s 59=some (t,r))(hA:Lib.atoiAll t.data.toList=Lib.atoiAll [])(hs:s.size≤1000000000000)(ht:t.size≤1000000000000)(w:World)(L:Nat→Prop)(b:Nat)(hg:Bz w L)(hb:w.heap[b]? =some (.cells #[.string s] prT (0,0))):
  Calls Tryz.prog 67 #[.pointer (some ⟨b,0,none⟩)] w fun e w'=>e=.panicked [{v:=Do,recovered:=false}]∧Fr (fun k=>k=b) w w':=by
 have hg0:=hg.none_;have c0:w.cell? ⟨b,0,none⟩=some (.string s):=by rw[Lib.cell_of_heap hb];rfl
 go_enter Tryz.func67,Tryz.ntmps67
 go_wp2_with (go_at_call 82;refine(G6 (xs:=[.string s,.string ⟨#[59]⟩]) (ys:=[.string t,.string r,.bool true]) (O7 hc hs) _ hg0).mono ?_;rintro e w1 ⟨rfl,hf1⟩;simp only[Db])
 have hg1:=hg0.fr_ hf1;obtain⟨ev,hev1,hev2⟩:=Tabs.syn w1 _ hg1
 go_wp2_with (go_at_call 83;refine(Any.strconv_Atoi_syntax Tryz.laysC172 t (by omega) hA ev _ hev1 hev2).mono ?_;rintro e w2 ⟨N,rfl,hN1,hN2,hw2⟩)
 have hf2:Fr (fun _=>False) w1 w2:=Dh hw2
 go_wp2
 refine⟨rfl,?_⟩;exact⟨rfl,C6 (hf1.trans hf2) (fun k q=>q.elim)⟩
set_option maxRecDepth 100000 in
set_option maxHeartbeats 4000000 in
theorem Pw[Glob][Tabs]{s t r:ByteArray}(hc:L1 s 59=some (t,r))(hA:Lib.atoiAll t.data.toList=.range)(hs:s.size≤1000000000000)(ht:t.size≤1000000000000)(w:World)(L:Nat→Prop)(b:Nat)(hg:Bz w L)(hb:w.heap[b]? =some (.cells #[.string s] prT (0,0))):
  Calls Tryz.prog 67 #[.pointer (some ⟨b,0,none⟩)] w fun e w'=>e=.panicked [{v:=Do,recovered:=false}]∧Fr (fun k=>k=b) w w':=by
 have hg0:=hg.none_;have c0:w.cell? ⟨b,0,none⟩=some (.string s):=by rw[Lib.cell_of_heap hb];rfl
 go_enter Tryz.func67,Tryz.ntmps67
 go_wp2_with (go_at_call 82;refine(G6 (xs:=[.string s,.string ⟨#[59]⟩]) (ys:=[.string t,.string r,.bool true]) (O7 hc hs) _ hg0).mono ?_;rintro e w1 ⟨rfl,hf1⟩;simp only[Db])
 have hg1:=hg0.fr_ hf1;obtain⟨ev,hev1,hev2⟩:=Tabs.ran w1 _ hg1
 go_wp2_with (go_at_call 83;refine(Any.strconv_Atoi_range Tryz.laysC172 t (by omega) hA ev _ hev1 hev2).mono ?_;rintro e w2 ⟨N,rfl,hN1,hN2,hw2⟩)
 have hf2:Fr (fun _=>False) w1 w2:=Dh hw2
 go_wp2
 refine⟨rfl,?_⟩;exact⟨rfl,C6 (hf1.trans hf2) (fun k q=>q.elim)⟩
set_option maxRecDepth 100000 in
set_option maxHeartbeats 4000000 in
theorem U8[Glob][Tabs]{s t r:ByteArray}(hc:L1 s 59=some (t,r))(m:Int)(hA:Lib.atoiAll t.data.toList=.ok m)(hE:¬Lib.itoa m=t.data.toList)(hs:s.size≤1000000000000)(ht:t.size≤1000000000000)(w:World)(L:Nat→Prop)(b:Nat)(hg:Bz w L)(hb:w.heap[b]? =some (.cells #[.string s] prT (0,0))):
  Calls Tryz.prog 67 #[.pointer (some ⟨b,0,none⟩)] w fun e w'=>e=.panicked [{v:=Do,recovered:=false}]∧Fr (fun k=>k=b) w w':=by
 have hg0:=hg.none_;have c0:w.cell? ⟨b,0,none⟩=some (.string s):=by rw[Lib.cell_of_heap hb];rfl
 obtain⟨hI1,hI2⟩:=Lib.atoiAll_bounds hA;have hE2:(⟨(Lib.itoa m).toArray⟩:ByteArray)≠t:=fun q=>hE (by rw[←q])
 go_enter Tryz.func67,Tryz.ntmps67
 go_wp2_with (go_at_call 82;refine(G6 (xs:=[.string s,.string ⟨#[59]⟩]) (ys:=[.string t,.string r,.bool true]) (O7 hc hs) _ hg0).mono ?_;rintro e w1 ⟨rfl,hf1⟩;simp only[Db])
 have hg1:=hg0.fr_ hf1
 go_wp2_with (go_at_call 83;refine(Any.strconv_Atoi_ok Tryz.laysC172 t (by omega) m hA _).mono ?_;rintro e w2 ⟨rfl,hw2⟩)
 have hf2:Fr (fun _=>False) w1 w2:=by
  rcases hw2 with rfl|⟨q,rfl⟩
  ·exact Fr.refl _ _
  ·have hb:=Lib.bytesWorld_below w1 (Tryz.laysC172_ren.t 5) q;exact Dh hb
 have hg2:=hg1.fr_ hf2;clear hw2
 go_wp2_with (go_at_call 75;refine(G6 (xs:=[.int .i64 m]) (ys:=[.string ⟨(Lib.itoa m).toArray⟩]) (Ul m hI1 hI2) _ hg2).mono ?_;rintro e w3 ⟨rfl,hf3⟩;simp only[Db];have hE3:((Lib.itoa m)==t.toList)=false:=(by rw[Lib.toList_data];simpa using hE))
 go_wp2
 refine⟨rfl,?_⟩;exact⟨rfl,C6 ((hf1.trans hf2).trans hf3) (fun k q=>q.elim)⟩
theorem Bd[Glob][Tabs]{s:ByteArray}{y':Value}(h:Cd s=none)(hs:s.size≤1000000000000):Gu Tryz.prog 67 [.mn prT [.c (.v (.string s))] [.c (.v y')]] Do:=by
 refine Zs (Ff Tryz.func67 (by kernel_rfl) (by kernel_rfl)) fun w L b hg hb=>?_;unfold Cd at h;rcases hc:L1 s 59 with _|⟨t,r⟩
 ·rcases hA:Lib.atoiAll s.data.toList with m|_|_
  ·exact Sw hc m hA hs w L b hg hb
  ·exact N8 hc hA hs w L b hg hb
  ·exact Ok hc hA hs w L b hg hb
 ·rw[hc,ZA,Option.map_eq_none_iff]at h;have ht:t.size≤1000000000000:=by
   unfold L1 at hc;split at hc
   ·cases hc
   ·injection hc with hc;injection hc with hc _
    subst hc;rw[ByteArray.size_extract];omega
  unfold Zn at h;simp only at h;rcases hA:Lib.atoiAll t.data.toList with m|_|_
  ·rw[hA]at h;simp only at h;split at h
   ·cases h
   ·rename_i hE;exact U8 hc m hA hE hs ht w L b hg hb
  ·exact O5 hc hA hs ht w L b hg hb
  ·exact Pw hc hA hs ht w L b hg hb
theorem Bt[Glob]{s:ByteArray}{p:Int×ByteArray}(h:Cd s=some p):p.2.size≤s.size:=by
 obtain⟨_,h⟩:=F5 h;have h1:s.data.toList.length=s.size:=Array.length_toList;have h2:p.2.data.toList.length=p.2.size:=Array.length_toList;rw[h,ZF]at h1;omega
theorem D5[Glob][Tabs]{s t r:ByteArray}(h:Fk s=some (t,r))(hs:s.size≤1000000000000):E8 Tryz.prog 63 [.mn prT [.c (.v (.string s))] [.c (.v (.string r))]] [.p (.c (.v (.string t)))]:=by
 unfold Fk at h;rcases e:Cd s with _|⟨n,r1⟩
 ·rw[e]at h;cases h
 rw[e,ZA]at h;simp only at h;split at h
 ·cases h
 rename_i hc;have hz:=Bt e;simp only at hz;obtain⟨k,rfl⟩:=Int.eq_ofNat_of_zero_le (show 0≤n by omega);have hk:k≤r1.size:=by omega
 rw[Int.toNat_natCast]at h;injection h with h
 injection h with h1 h2;subst h1 h2;refine L7 Fs rfl rfl (N3 rfl) ?_;(refine goI ?_;repeat (intro gg;refine goI ?_));(refine .inr (.inl ⟨_,_,false,0::([]++[]),?_,A5 e hs,Ak,oI,dI,?_⟩);focus (exact wI));(refine goI ?_;repeat (intro gg;refine goI ?_));(refine Vs ?_ ?_;focus (exact ZY (by omega)));(refine goI ?_;repeat (intro gg;refine goI ?_));refine⟨0,k,rfl,⟨_,rfl⟩,by omega,by omega,?_⟩;(refine goI ?_;repeat (intro gg;refine goI ?_));refine⟨k,r1.size,⟨_,rfl⟩,rfl,by omega,ZT _,?_⟩;(refine goI ?_;repeat (intro gg;refine goI ?_));(exact⟨0::([]++[]),B7 (by first|exact De rfl|assumption) (D7 (gone:=[]) (gone1:=[]) rfl aI (by decide) (by decide) (by decide) (.nil _))⟩)
theorem Fg[Glob][Tabs]{s:ByteArray}{y':Value}(h:Fk s=none)(hs:s.size≤1000000000000):Gu Tryz.prog 63 [.mn prT [.c (.v (.string s))] [.c (.v y')]] Do:=by
 unfold Fk at h;refine Xw Fs rfl (N3 rfl) ?_;(refine goI ?_;repeat (intro gg;refine goI ?_));rcases e:Cd s with _|⟨n,r1⟩
 ·(refine .inr (.inr (.inl ⟨_,false,0::([]++[]),_,?_,Bd (y':=.nilIface) e hs,rfl⟩));focus (exact wI))
 ·rw[e,ZA]at h;simp only at h;split at h;rotate_left
  ·cases h
  rename_i hc;(refine .inr (.inl ⟨_,_,false,0::([]++[]),?_,A5 e hs,Ak,oI,dI,?_⟩);focus (exact wI));(refine goI ?_;repeat (intro gg;refine goI ?_));by_cases hn:n<0
  ·rw[ZX hn];(refine goI ?_;repeat (intro gg;refine goI ?_));rfl
  ·rw[ZY hn];(refine goI ?_;repeat (intro gg;refine goI ?_));rw[ZX (show(r1.size:Int)<n by omega)];(refine goI ?_;repeat (intro gg;refine goI ?_));rfl
theorem K2[Glob][Tabs]{s r:ByteArray}{b:Bool}(h:Kg s=some (b,r))(hs:s.size≤1000000000000):E8 Tryz.prog 64 [.mn prT [.c (.v (.string s))] [.c (.v (.string r))]] [.p (.c (.v (.bool b)))]:=by
 unfold Kg at h;rcases e:Cd s with _|⟨n,r1⟩
 ·rw[e]at h;cases h
 rw[e,ZA]at h;simp only at h;split at h
 ·cases h
 rename_i hc;injection h with h
 injection h with h1 h2;subst h2;refine L7 Gp rfl rfl (N3 rfl) ?_;(refine goI ?_;repeat (intro gg;refine goI ?_));rcases(show n=0∨n=1 by omega)with rfl|rfl
 ·obtain rfl:b=false:=h1.symm;(refine .inr (.inl ⟨_,_,false,0::([]++[]),?_,A5 e hs,Ak,oI,dI,?_⟩);focus (exact wI));(refine goI ?_;repeat (intro gg;refine goI ?_));(exact⟨0::([]++[]),B7 (by first|exact De rfl|assumption) (D7 (gone:=[]) (gone1:=[]) rfl aI (by decide) (by decide) (by decide) (.nil _))⟩)
 ·obtain rfl:b=true:=h1.symm;(refine .inr (.inl ⟨_,_,false,0::([]++[]),?_,A5 e hs,Ak,oI,dI,?_⟩);focus (exact wI));(refine goI ?_;repeat (intro gg;refine goI ?_));(exact⟨0::([]++[]),B7 (by first|exact De rfl|assumption) (D7 (gone:=[]) (gone1:=[]) rfl aI (by decide) (by decide) (by decide) (.nil _))⟩)
theorem Ky[Glob][Tabs]{s:ByteArray}{y':Value}(h:Kg s=none)(hs:s.size≤1000000000000):Gu Tryz.prog 64 [.mn prT [.c (.v (.string s))] [.c (.v y')]] Do:=by
 unfold Kg at h;refine Xw Gp rfl (N3 rfl) ?_;(refine goI ?_;repeat (intro gg;refine goI ?_));rcases e:Cd s with _|⟨n,r1⟩
 ·(refine .inr (.inr (.inl ⟨_,false,0::([]++[]),_,?_,Bd (y':=.nilIface) e hs,rfl⟩));focus (exact wI))
 ·rw[e,ZA]at h;simp only at h;split at h;rotate_left
  ·cases h
  rename_i hc;(refine .inr (.inl ⟨_,_,false,0::([]++[]),?_,A5 e hs,Ak,oI,dI,?_⟩);focus (exact wI));(refine goI ?_;repeat (intro gg;refine goI ?_));by_cases hn:n<0
  ·rw[ZX hn];(refine goI ?_;repeat (intro gg;refine goI ?_));rfl
  ·rw[ZY hn];(refine goI ?_;repeat (intro gg;refine goI ?_));rw[ZX (show(1:Int)<n by omega)];(refine goI ?_;repeat (intro gg;refine goI ?_));rfl
theorem Es[Glob]{s:ByteArray}{p:ByteArray×ByteArray}(h:Fk s=some p):p.2.size≤s.size:=by
 obtain⟨_,h⟩:=Li.some _ _ h;have h1:s.data.toList.length=s.size:=Array.length_toList;have h2:p.2.data.toList.length=p.2.size:=Array.length_toList;rw[h,ZF]at h1;omega
theorem Na[Glob]{s:ByteArray}{p:Bool×ByteArray}(h:Kg s=some p):p.2.size≤s.size:=by
 obtain⟨_,h⟩:=Tm.some _ _ h;have h1:s.data.toList.length=s.size:=Array.length_toList;have h2:p.2.data.toList.length=p.2.size:=Array.length_toList;rw[h,ZF]at h1;omega
theorem Aq[Glob]{T:List Nat}{H:Hp}:Ic T H H:=fun _ _ _ h=>h
theorem Aw[Glob]{T:List Nat}{H0 H:Hp}{k:Nat}{x:Option Ent}(h:T.contains k=true)(hk:Ic T H0 H):Ic T H0 (upd H k x):=fun id e h1 h2=>by
 rw[An _ _ (fun q=>by rw[q,h]at h1;cases h1)];exact hk id e h1 h2
namespace Pl
def kWh(fr:ByteArray)(wo:Bool)(ms:List Mb)(sv:List Sv)(gs:List Gw)(f:List Wh×ByteArray):Option (Pk×ByteArray):=some (⟨fr,wo,ms,sv,gs,f.1⟩,f.2)
def kGs(fr:ByteArray)(wo:Bool)(ms:List Mb)(sv:List Sv)(e:List Gw×ByteArray):Option (Pk×ByteArray):=(Ef 20 whR e.2).bind (kWh fr wo ms sv e.1)
def kSv(fr:ByteArray)(wo:Bool)(ms:List Mb)(d:List Sv×ByteArray):Option (Pk×ByteArray):=(Ef 6 gwR d.2).bind (kGs fr wo ms d.1)
def kMs(fr:ByteArray)(wo:Bool)(c:List Mb×ByteArray):Option (Pk×ByteArray):=(Ef 40 svR c.2).bind (kSv fr wo c.1)
end Pl
def Alk:Ag:=Dx [true,false] Df
set_option maxHeartbeats 20000000 in
theorem Q4[Glob][Tabs]{s:ByteArray}{y':Value}(hs:s.size≤1000000000000)(D:Value→Prop)(K:Ex→Env→Hp→Prop)(hd:pkR s=none→D Do)(hk:∀p r env H,pkR s=some (p,r)→Wi [(2,some (true,6))] [.mn prT [.c (.v (.string s))] [.c (.v (.string r))]] [.p (.c (.agg p.row))] .ret env H→K .ret env H):
  wpx Tryz.prog D Alk K (atV (Fe 0 [.mn prT [.c (.v (.string s))] [.c (.v y')]])) (Bn noH (Nt 0 [.mn prT [.c (.v (.string s))] [.c (.v y')]])):=by
 have hP:pkR s=(Fk s).bind fun a=>(Kg a.2).bind fun b=>(Ef 20 mbR b.2).bind (kMs a.1 b.1):=rfl;(refine goI ?_;repeat (intro gg;refine goI ?_));revert gg;rename_i g1;intro g2;rcases e1:Fk s with _|⟨fr,s1⟩
 ·refine⟨PEmpty,[],fun _=>[],[],fun _=>[],?_,fun x=>x.elim⟩;have hD:=hd (by rw[hP,e1];rfl);refine⟨[0,48],?_⟩;(refine goI ?_;repeat (intro gg;refine goI ?_));refine⟨?_,?_⟩
  ·(refine goI ?_;repeat (intro gg;refine goI ?_));refine⟨(by repeat (first|exact Aq|refine keepT_drops rfl ?_|refine Aw rfl ?_)),?_⟩;(refine goI ?_;repeat (intro gg;refine goI ?_));(refine .inr (.inr (.inl ⟨_,false,0::([]++[]),_,?_,Fg (y':=.nilIface) e1 hs,hD⟩));focus (exact wI))
  ·(refine goI ?_;repeat (intro gg;refine goI ?_));(refine .inr (.inr (.inl ⟨_,false,0::([]++[]),_,?_,Fg (y':=.nilIface) e1 hs,hD⟩));focus (exact wI))
 have z1:=Es e1;simp only at z1;rw[e1,ZA]at hP;simp only at hP;rcases e2:Kg s1 with _|⟨wo,s2⟩
 ·refine⟨PEmpty,[],fun _=>[],[],fun _=>[],?_,fun x=>x.elim⟩;have hD:=hd (by rw[hP,e2];rfl);refine⟨[0,48],?_⟩;(refine goI ?_;repeat (intro gg;refine goI ?_));refine⟨?_,?_⟩
  ·(refine goI ?_;repeat (intro gg;refine goI ?_));refine⟨(by repeat (first|exact Aq|refine keepT_drops rfl ?_|refine Aw rfl ?_)),?_⟩;(refine goI ?_;repeat (intro gg;refine goI ?_));(refine .inr (.inl ⟨_,_,false,0::([]++[]),?_,D5 e1 hs,Ak,oI,dI,?_⟩);focus (exact wI));(refine goI ?_;repeat (intro gg;refine goI ?_));refine⟨(by repeat (first|exact Aq|refine keepT_drops rfl ?_|refine Aw rfl ?_)),?_⟩;(refine goI ?_;repeat (intro gg;refine goI ?_));(refine .inr (.inr (.inl ⟨_,false,0::([]++[]),_,?_,Ky (y':=.nilIface) e2 (by omega),hD⟩));focus (exact wI))
  ·(refine goI ?_;repeat (intro gg;refine goI ?_));(refine .inr (.inl ⟨_,_,false,0::([]++[]),?_,D5 e1 hs,Ak,oI,dI,?_⟩);focus (exact wI));(refine goI ?_;repeat (intro gg;refine goI ?_));refine⟨(by repeat (first|exact Aq|refine keepT_drops rfl ?_|refine Aw rfl ?_)),?_⟩;(refine goI ?_;repeat (intro gg;refine goI ?_));refine⟨?_,?_⟩
   ·(refine goI ?_;repeat (intro gg;refine goI ?_));refine⟨(by repeat (first|exact Aq|refine keepT_drops rfl ?_|refine Aw rfl ?_)),?_⟩;(refine goI ?_;repeat (intro gg;refine goI ?_));(refine .inr (.inr (.inl ⟨_,false,0::([]++[]),_,?_,Ky (y':=.nilIface) e2 (by omega),hD⟩));focus (exact wI))
   ·(refine goI ?_;repeat (intro gg;refine goI ?_));(refine .inr (.inr (.inl ⟨_,false,0::([]++[]),_,?_,Ky (y':=.nilIface) e2 (by omega),hD⟩));focus (exact wI))
 have z2:=Na e2;simp only at z2;rw[e2,ZA]at hP;simp only at hP;refine⟨Nat,[1,2],fun x=>[(3,.ptr 48 x 0 0)],[16,32],fun x=>[(0,⟨0,.b prT,1,[[.v (.string s2)]]⟩),(48,⟨x,.b 27,6,[[.v (.string fr),.v (.bool wo),.v (.slice none 0 0),.v (.slice none 0 0),.v (.slice none 0 0),.v (.slice none 0 0)]]⟩)],?_,fun gp=>?_⟩
 ·refine⟨[0,48],?_⟩;(refine goI ?_;repeat (intro gg;refine goI ?_));refine⟨?_,?_⟩
  ·(refine goI ?_;repeat (intro gg;refine goI ?_));revert gg;intro gp;refine⟨(by repeat (first|exact Aq|refine keepT_drops rfl ?_|refine Aw rfl ?_)),?_⟩;(refine goI ?_;repeat (intro gg;refine goI ?_));(refine .inr (.inl ⟨_,_,false,0::([]++[]),?_,D5 e1 hs,Ak,oI,dI,?_⟩);focus (exact wI));(refine goI ?_;repeat (intro gg;refine goI ?_));refine⟨(by repeat (first|exact Aq|refine keepT_drops rfl ?_|refine Aw rfl ?_)),?_⟩;(refine goI ?_;repeat (intro gg;refine goI ?_));(refine .inr (.inl ⟨_,_,false,0::([]++[]),?_,K2 e2 (by omega),Ak,oI,dI,?_⟩);focus (exact wI));(refine goI ?_;repeat (intro gg;refine goI ?_));refine⟨(by repeat (first|exact Aq|refine keepT_drops rfl ?_|refine Aw rfl ?_)),?_⟩;(refine goI ?_;repeat (intro gg;refine goI ?_));refine⟨(by repeat (first|exact Aq|refine keepT_drops rfl ?_|refine Aw rfl ?_)),?_⟩;(refine goI ?_;repeat (intro gg;refine goI ?_));(exact⟨gp,tI,tI,tI,tI⟩)
  ·(refine goI ?_;repeat (intro gg;refine goI ?_));(refine .inr (.inl ⟨_,_,false,0::([]++[]),?_,D5 e1 hs,Ak,oI,dI,?_⟩);focus (exact wI));(refine goI ?_;repeat (intro gg;refine goI ?_));refine⟨(by repeat (first|exact Aq|refine keepT_drops rfl ?_|refine Aw rfl ?_)),?_⟩;(refine goI ?_;repeat (intro gg;refine goI ?_));refine⟨?_,?_⟩
   ·(refine goI ?_;repeat (intro gg;refine goI ?_));revert gg;intro gp;refine⟨(by repeat (first|exact Aq|refine keepT_drops rfl ?_|refine Aw rfl ?_)),?_⟩;(refine goI ?_;repeat (intro gg;refine goI ?_));(refine .inr (.inl ⟨_,_,false,0::([]++[]),?_,K2 e2 (by omega),Ak,oI,dI,?_⟩);focus (exact wI));(refine goI ?_;repeat (intro gg;refine goI ?_));refine⟨(by repeat (first|exact Aq|refine keepT_drops rfl ?_|refine Aw rfl ?_)),?_⟩;(refine goI ?_;repeat (intro gg;refine goI ?_));refine⟨(by repeat (first|exact Aq|refine keepT_drops rfl ?_|refine Aw rfl ?_)),?_⟩;(refine goI ?_;repeat (intro gg;refine goI ?_));(exact⟨gp,tI,tI,tI,tI⟩)
   ·(refine goI ?_;repeat (intro gg;refine goI ?_));(refine .inr (.inl ⟨_,_,false,0::([]++[]),?_,K2 e2 (by omega),Ak,oI,dI,?_⟩);focus (exact wI));(refine goI ?_;repeat (intro gg;refine goI ?_));refine⟨(by repeat (first|exact Aq|refine keepT_drops rfl ?_|refine Aw rfl ?_)),?_⟩;(refine goI ?_;repeat (intro gg;refine goI ?_));refine⟨?_,?_⟩
    ·(refine goI ?_;repeat (intro gg;refine goI ?_));revert gg;intro gp;refine⟨(by repeat (first|exact Aq|refine keepT_drops rfl ?_|refine Aw rfl ?_)),?_⟩;(refine goI ?_;repeat (intro gg;refine goI ?_));refine⟨(by repeat (first|exact Aq|refine keepT_drops rfl ?_|refine Aw rfl ?_)),?_⟩;(refine goI ?_;repeat (intro gg;refine goI ?_));(exact⟨gp,tI,tI,tI,tI⟩)
    ·(refine goI ?_;repeat (intro gg;refine goI ?_));refine⟨(by repeat (first|exact Aq|refine keepT_drops rfl ?_|refine Aw rfl ?_)),?_⟩;(refine goI ?_;repeat (intro gg;refine goI ?_));revert gg;intro gp;refine⟨(by repeat (first|exact Aq|refine keepT_drops rfl ?_|refine Aw rfl ?_)),?_⟩;(refine goI ?_;repeat (intro gg;refine goI ?_));(exact⟨gp,tI,tI,tI,tI⟩)
 ·
  (refine goI ?_;repeat (intro gg;refine goI ?_));refine .inr (.inr (.inr (Gv 1000 Ix rfl ?_)));(refine goI ?_;repeat (intro gg;refine goI ?_));rcases ems:Cd s2 with _|⟨n,ums⟩
  ·(refine .inr (.inr (.inl ⟨_,false,0::([]++[]),_,?_,Bd (y':=.nilIface) ems (by omega),hd (by rw[hP];unfold Ef Hv;rw[ems];rfl)⟩));focus (exact wI))
  have zms:=Bt ems;simp only at zms;by_cases hn:n<0
  ·(refine .inr (.inl ⟨_,_,false,0::([]++[]),?_,A5 ems (by omega),Ak,oI,dI,?_⟩);focus (exact wI));(refine goI ?_;repeat (intro gg;refine goI ?_));rw[ZX hn];(refine goI ?_;repeat (intro gg;refine goI ?_));exact hd (by rw[hP];unfold Ef Hv;rw[ems,ZA];simp only;rw[if_pos (.inl hn)];rfl)
  obtain⟨Nms,rfl⟩:=Int.eq_ofNat_of_zero_le (show 0≤n by omega);(refine .inr (.inl ⟨_,_,false,0::([]++[]),?_,A5 ems (by omega),Ak,oI,dI,?_⟩);focus (exact wI));(refine goI ?_;repeat (intro gg;refine goI ?_));by_cases hm:(20:Int)<(Nms:Int)
  ·rw[ZX hm];(refine goI ?_;repeat (intro gg;refine goI ?_));exact hd (by rw[hP];unfold Ef Hv;rw[ems,ZA];simp only;rw[if_pos (.inr hm)];rfl)
  rw[ZY hm];have hPms:pkR s=(Ea mbR Nms ums).bind (kMs fr wo):=by
   rw[hP];unfold Ef Hv;rw[ems,ZA];simp only;rw[if_neg (by omega),ZA,Int.toNat_natCast]
  (refine goI ?_;repeat (intro gg;refine goI ?_));(refine⟨[(8,900000,47,5)],none,{q:List Mb×ByteArray×Nat×Nat//(q.1.length=q.2.2.2∧q.2.2.2≤Nms)∧q.2.1.size≤1000000000000∧pkR s=(Ea mbR (Nms-q.1.length) q.2.1).bind (fun r=>kMs fr wo (q.1++r.1,r.2))},[0,1,2,20],fun⟨⟨lms,tms,gms,k⟩,hl,ht,hq⟩=>[(8,.own 900000 gms),(21,.v (.int .i64 (k:Int)))],[16,32,48],fun⟨⟨lms,tms,gms,k⟩,hl,ht,hq⟩=>[(0,⟨0,.b prT,1,[[.v (.string tms)]]⟩),(900000,⟨gms,.t 47,5,lms.map Mb.row⟩)],fun⟨⟨lms,tms,gms,k⟩,hl,ht,hq⟩=>Nms-k,(by exact⟨rfl,by decide,(fun _ _ _ _ h=>by cases h),trivial⟩),fun gs=>⟨trivial,fun _=>⟨⟨([],ums,gs 900000,0),⟨rfl,ZU _⟩,by show ums.size≤_;omega,by rw[hPms];simp⟩,tI,tI,tI,tI⟩⟩,fun⟨⟨lms,tms,gms,k⟩,hl,ht,hq⟩=>?_⟩);have hl:lms.length=k∧k≤Nms:=hl;obtain⟨hl1,hl2⟩:=hl;have htms:tms.size≤1000000000000:=ht;have hq:pkR s=(Ea mbR (Nms-lms.length) tms).bind (fun r=>kMs fr wo (lms++r.1,r.2)):=hq;(refine goI ?_;repeat (intro gg;refine goI ?_));(refine Ab (fun cms=>?_) (fun cms=>?_)<;>rw[cms])
  ·have hlt:k<Nms:=(by have:=ZV cms;omega);obtain⟨j,hj⟩:∃j,Nms-lms.length=j+1:=⟨Nms-lms.length-1,by omega⟩;rw[hj]at hq;have hq:pkR s=((mbR tms).bind fun p=>(Ea mbR j p.2).bind fun q=>some (p.1::q.1,q.2)).bind (fun r=>kMs fr wo (lms++r.1,r.2)):=hq;(refine goI ?_;repeat (intro gg;refine goI ?_));refine .inr (.inr (.inr (R9 2000 I0 rfl ?_)));(refine goI ?_;repeat (intro gg;refine goI ?_));refine⟨[0],?_⟩;(refine goI ?_;repeat (intro gg;refine goI ?_));obtain⟨F,hF⟩:∃F,F=Ea mbR:=⟨_,rfl⟩;rw[←hF]at hq;unfold mbR at hq;rcases f0:Fk tms with _|⟨x0,v0⟩
   ·(refine .inr (.inr (.inl ⟨_,false,0::([]++[]),_,?_,Fg (y':=.nilIface) f0 (by omega),hd (by rw[hq,f0];rfl)⟩));focus (exact wI))
   have y0:=Es f0;simp only at y0;rw[f0,ZA]at hq;simp only at hq;(refine .inr (.inl ⟨_,_,false,0::([]++[]),?_,D5 f0 (by omega),Ak,oI,dI,?_⟩);focus (exact wI));(refine goI ?_;repeat (intro gg;refine goI ?_));refine⟨(by repeat (first|exact Aq|refine keepT_drops rfl ?_|refine Aw rfl ?_)),?_⟩;(refine goI ?_;repeat (intro gg;refine goI ?_));rcases f1:Cd v0 with _|⟨x1,v1⟩
   ·(refine .inr (.inr (.inl ⟨_,false,0::([]++[]),_,?_,Bd (y':=.nilIface) f1 (by omega),hd (by rw[hq,f1];rfl)⟩));focus (exact wI))
   have y1:=Bt f1;simp only at y1;rw[f1,ZA]at hq;simp only at hq;(refine .inr (.inl ⟨_,_,false,0::([]++[]),?_,A5 f1 (by omega),Ak,oI,dI,?_⟩);focus (exact wI));(refine goI ?_;repeat (intro gg;refine goI ?_));refine⟨(by repeat (first|exact Aq|refine keepT_drops rfl ?_|refine Aw rfl ?_)),?_⟩;(refine goI ?_;repeat (intro gg;refine goI ?_));rcases f2:Cd v1 with _|⟨x2,v2⟩
   ·(refine .inr (.inr (.inl ⟨_,false,0::([]++[]),_,?_,Bd (y':=.nilIface) f2 (by omega),hd (by rw[hq,f2];rfl)⟩));focus (exact wI))
   have y2:=Bt f2;simp only at y2;rw[f2,ZA]at hq;simp only at hq;(refine .inr (.inl ⟨_,_,false,0::([]++[]),?_,A5 f2 (by omega),Ak,oI,dI,?_⟩);focus (exact wI));(refine goI ?_;repeat (intro gg;refine goI ?_));refine⟨(by repeat (first|exact Aq|refine keepT_drops rfl ?_|refine Aw rfl ?_)),?_⟩;(refine goI ?_;repeat (intro gg;refine goI ?_));rcases f3:Cd v2 with _|⟨x3,v3⟩
   ·(refine .inr (.inr (.inl ⟨_,false,0::([]++[]),_,?_,Bd (y':=.nilIface) f3 (by omega),hd (by rw[hq,f3];rfl)⟩));focus (exact wI))
   have y3:=Bt f3;simp only at y3;rw[f3,ZA]at hq;simp only at hq;(refine .inr (.inl ⟨_,_,false,0::([]++[]),?_,A5 f3 (by omega),Ak,oI,dI,?_⟩);focus (exact wI));(refine goI ?_;repeat (intro gg;refine goI ?_));refine⟨(by repeat (first|exact Aq|refine keepT_drops rfl ?_|refine Aw rfl ?_)),?_⟩;(refine goI ?_;repeat (intro gg;refine goI ?_));rcases f4:Kg v3 with _|⟨x4,v4⟩
   ·(refine .inr (.inr (.inl ⟨_,false,0::([]++[]),_,?_,Ky (y':=.nilIface) f4 (by omega),hd (by rw[hq,f4];rfl)⟩));focus (exact wI))
   have y4:=Na f4;simp only at y4;rw[f4,ZA]at hq;simp only at hq;(refine .inr (.inl ⟨_,_,false,0::([]++[]),?_,K2 f4 (by omega),Ak,oI,dI,?_⟩);focus (exact wI));(refine goI ?_;repeat (intro gg;refine goI ?_));obtain⟨m,hm0⟩:∃m:Mb,m=⟨x0,x1,x2,x3,x4⟩:=⟨_,rfl⟩;have hl3:(lms++[m]).length=k+1:=by simp[hl1]
   have hq2:pkR s=(Ea mbR (Nms-(lms++[m]).length) v4).bind (fun r=>kMs fr wo ((lms++[m])++r.1,r.2)):=by
    rw[hl3,show Nms-(k+1)=j by omega,←hF,hq,hm0];simp only[ZA];rcases F j v4 with _|⟨a,b⟩
    ·rfl
    ·simp only[ZA,ZS,List.cons_append,List.nil_append]
   have hsz:v4.size≤1000000000000:=by omega
   refine⟨lI,lI,?_⟩;(refine goI ?_;repeat (intro gg;refine goI ?_));(exact⟨none,trivial,fun gr=>⟨⟨(lms++[m],v4,gg,k+1),⟨hl3,by show k+1≤Nms;omega⟩,hsz,hq2⟩,by show Nms-(k+1)<Nms-k;omega,tI,tI,⟨rfl,⟨congrArg (fun r=>some (Ent.mk gg (.t 47) 5 r)) (by rw[ZI,hm0];rfl),trivial⟩⟩,tI⟩⟩)
  ·have hge:=(by have:=ZW cms;omega);obtain rfl:k=Nms:=by omega
   have hP:pkR s=(Ef 40 svR tms).bind (kSv fr wo lms):=by
    rw[hq,hl1,Nat.sub_self];show(some (([]:List Mb),tms)).bind _=_;rw[ZA,List.append_nil];rfl
   (refine goI ?_;repeat (intro gg;refine goI ?_));refine .inr (.inr (.inr (Gv 3000 Ii rfl ?_)));(refine goI ?_;repeat (intro gg;refine goI ?_));rcases esv:Cd tms with _|⟨n,usv⟩
   ·(refine .inr (.inr (.inl ⟨_,false,0::([]++[]),_,?_,Bd (y':=.nilIface) esv (by omega),hd (by rw[hP];unfold Ef Hv;rw[esv];rfl)⟩));focus (exact wI))
   have zsv:=Bt esv;simp only at zsv;by_cases hn:n<0
   ·(refine .inr (.inl ⟨_,_,false,0::([]++[]),?_,A5 esv (by omega),Ak,oI,dI,?_⟩);focus (exact wI));(refine goI ?_;repeat (intro gg;refine goI ?_));rw[ZX hn];(refine goI ?_;repeat (intro gg;refine goI ?_));exact hd (by rw[hP];unfold Ef Hv;rw[esv,ZA];simp only;rw[if_pos (.inl hn)];rfl)
   obtain⟨Nsv,rfl⟩:=Int.eq_ofNat_of_zero_le (show 0≤n by omega);(refine .inr (.inl ⟨_,_,false,0::([]++[]),?_,A5 esv (by omega),Ak,oI,dI,?_⟩);focus (exact wI));(refine goI ?_;repeat (intro gg;refine goI ?_));by_cases hm:(40:Int)<(Nsv:Int)
   ·rw[ZX hm];(refine goI ?_;repeat (intro gg;refine goI ?_));exact hd (by rw[hP];unfold Ef Hv;rw[esv,ZA];simp only;rw[if_pos (.inr hm)];rfl)
   rw[ZY hm];have hPsv:pkR s=(Ea svR Nsv usv).bind (kSv fr wo lms):=by
    rw[hP];unfold Ef Hv;rw[esv,ZA];simp only;rw[if_neg (by omega),ZA,Int.toNat_natCast]
   (refine goI ?_;repeat (intro gg;refine goI ?_));(refine⟨[(8,900016,52,9)],none,{q:List Sv×ByteArray×Nat×Nat//(q.1.length=q.2.2.2∧q.2.2.2≤Nsv)∧q.2.1.size≤1000000000000∧pkR s=(Ea svR (Nsv-q.1.length) q.2.1).bind (fun r=>kSv fr wo lms (q.1++r.1,r.2))},[0,1,2,20],fun⟨⟨lsv,tsv,gsv,k⟩,hl,ht,hq⟩=>[(8,.own 900016 gsv),(21,.v (.int .i64 (k:Int)))],[16,32,48,900000],fun⟨⟨lsv,tsv,gsv,k⟩,hl,ht,hq⟩=>[(0,⟨0,.b prT,1,[[.v (.string tsv)]]⟩),(900016,⟨gsv,.t 52,9,lsv.map Sv.row⟩)],fun⟨⟨lsv,tsv,gsv,k⟩,hl,ht,hq⟩=>Nsv-k,(by exact⟨rfl,by decide,(fun _ _ _ _ h=>by cases h),trivial⟩),fun gs=>⟨trivial,fun _=>⟨⟨([],usv,gs 900016,0),⟨rfl,ZU _⟩,by show usv.size≤_;omega,by rw[hPsv];simp⟩,tI,tI,tI,tI⟩⟩,fun⟨⟨lsv,tsv,gsv,k⟩,hl,ht,hq⟩=>?_⟩);have hl:lsv.length=k∧k≤Nsv:=hl;obtain⟨hl1,hl2⟩:=hl;have htsv:tsv.size≤1000000000000:=ht;have hq:pkR s=(Ea svR (Nsv-lsv.length) tsv).bind (fun r=>kSv fr wo lms (lsv++r.1,r.2)):=hq;(refine goI ?_;repeat (intro gg;refine goI ?_));(refine Ab (fun csv=>?_) (fun csv=>?_)<;>rw[csv])
   ·have hlt:k<Nsv:=(by have:=ZV csv;omega);obtain⟨j,hj⟩:∃j,Nsv-lsv.length=j+1:=⟨Nsv-lsv.length-1,by omega⟩;rw[hj]at hq;have hq:pkR s=((svR tsv).bind fun p=>(Ea svR j p.2).bind fun q=>some (p.1::q.1,q.2)).bind (fun r=>kSv fr wo lms (lsv++r.1,r.2)):=hq;(refine goI ?_;repeat (intro gg;refine goI ?_));refine .inr (.inr (.inr (R9 4000 Je rfl ?_)));(refine goI ?_;repeat (intro gg;refine goI ?_));refine⟨[0],?_⟩;(refine goI ?_;repeat (intro gg;refine goI ?_));obtain⟨F,hF⟩:∃F,F=Ea svR:=⟨_,rfl⟩;rw[←hF]at hq;unfold svR at hq;rcases f0:Fk tsv with _|⟨x0,v0⟩
    ·(refine .inr (.inr (.inl ⟨_,false,0::([]++[]),_,?_,Fg (y':=.nilIface) f0 (by omega),hd (by rw[hq,f0];rfl)⟩));focus (exact wI))
    have y0:=Es f0;simp only at y0;rw[f0,ZA]at hq;simp only at hq;(refine .inr (.inl ⟨_,_,false,0::([]++[]),?_,D5 f0 (by omega),Ak,oI,dI,?_⟩);focus (exact wI));(refine goI ?_;repeat (intro gg;refine goI ?_));refine⟨(by repeat (first|exact Aq|refine keepT_drops rfl ?_|refine Aw rfl ?_)),?_⟩;(refine goI ?_;repeat (intro gg;refine goI ?_));rcases f1:Fk v0 with _|⟨x1,v1⟩
    ·(refine .inr (.inr (.inl ⟨_,false,0::([]++[]),_,?_,Fg (y':=.nilIface) f1 (by omega),hd (by rw[hq,f1];rfl)⟩));focus (exact wI))
    have y1:=Es f1;simp only at y1;rw[f1,ZA]at hq;simp only at hq;(refine .inr (.inl ⟨_,_,false,0::([]++[]),?_,D5 f1 (by omega),Ak,oI,dI,?_⟩);focus (exact wI));(refine goI ?_;repeat (intro gg;refine goI ?_));refine⟨(by repeat (first|exact Aq|refine keepT_drops rfl ?_|refine Aw rfl ?_)),?_⟩;(refine goI ?_;repeat (intro gg;refine goI ?_));rcases f2:Fk v1 with _|⟨x2,v2⟩
    ·(refine .inr (.inr (.inl ⟨_,false,0::([]++[]),_,?_,Fg (y':=.nilIface) f2 (by omega),hd (by rw[hq,f2];rfl)⟩));focus (exact wI))
    have y2:=Es f2;simp only at y2;rw[f2,ZA]at hq;simp only at hq;(refine .inr (.inl ⟨_,_,false,0::([]++[]),?_,D5 f2 (by omega),Ak,oI,dI,?_⟩);focus (exact wI));(refine goI ?_;repeat (intro gg;refine goI ?_));refine⟨(by repeat (first|exact Aq|refine keepT_drops rfl ?_|refine Aw rfl ?_)),?_⟩;(refine goI ?_;repeat (intro gg;refine goI ?_));rcases f3:Fk v2 with _|⟨x3,v3⟩
    ·(refine .inr (.inr (.inl ⟨_,false,0::([]++[]),_,?_,Fg (y':=.nilIface) f3 (by omega),hd (by rw[hq,f3];rfl)⟩));focus (exact wI))
    have y3:=Es f3;simp only at y3;rw[f3,ZA]at hq;simp only at hq;(refine .inr (.inl ⟨_,_,false,0::([]++[]),?_,D5 f3 (by omega),Ak,oI,dI,?_⟩);focus (exact wI));(refine goI ?_;repeat (intro gg;refine goI ?_));refine⟨(by repeat (first|exact Aq|refine keepT_drops rfl ?_|refine Aw rfl ?_)),?_⟩;(refine goI ?_;repeat (intro gg;refine goI ?_));rcases f4:Cd v3 with _|⟨x4,v4⟩
    ·(refine .inr (.inr (.inl ⟨_,false,0::([]++[]),_,?_,Bd (y':=.nilIface) f4 (by omega),hd (by rw[hq,f4];rfl)⟩));focus (exact wI))
    have y4:=Bt f4;simp only at y4;rw[f4,ZA]at hq;simp only at hq;(refine .inr (.inl ⟨_,_,false,0::([]++[]),?_,A5 f4 (by omega),Ak,oI,dI,?_⟩);focus (exact wI));(refine goI ?_;repeat (intro gg;refine goI ?_));refine⟨(by repeat (first|exact Aq|refine keepT_drops rfl ?_|refine Aw rfl ?_)),?_⟩;(refine goI ?_;repeat (intro gg;refine goI ?_));rcases f5:Cd v4 with _|⟨x5,v5⟩
    ·(refine .inr (.inr (.inl ⟨_,false,0::([]++[]),_,?_,Bd (y':=.nilIface) f5 (by omega),hd (by rw[hq,f5];rfl)⟩));focus (exact wI))
    have y5:=Bt f5;simp only at y5;rw[f5,ZA]at hq;simp only at hq;(refine .inr (.inl ⟨_,_,false,0::([]++[]),?_,A5 f5 (by omega),Ak,oI,dI,?_⟩);focus (exact wI));(refine goI ?_;repeat (intro gg;refine goI ?_));refine⟨(by repeat (first|exact Aq|refine keepT_drops rfl ?_|refine Aw rfl ?_)),?_⟩;(refine goI ?_;repeat (intro gg;refine goI ?_));rcases f6:Kg v5 with _|⟨x6,v6⟩
    ·(refine .inr (.inr (.inl ⟨_,false,0::([]++[]),_,?_,Ky (y':=.nilIface) f6 (by omega),hd (by rw[hq,f6];rfl)⟩));focus (exact wI))
    have y6:=Na f6;simp only at y6;rw[f6,ZA]at hq;simp only at hq;(refine .inr (.inl ⟨_,_,false,0::([]++[]),?_,K2 f6 (by omega),Ak,oI,dI,?_⟩);focus (exact wI));(refine goI ?_;repeat (intro gg;refine goI ?_));refine⟨(by repeat (first|exact Aq|refine keepT_drops rfl ?_|refine Aw rfl ?_)),?_⟩;(refine goI ?_;repeat (intro gg;refine goI ?_));rcases f7:Cd v6 with _|⟨x7,v7⟩
    ·(refine .inr (.inr (.inl ⟨_,false,0::([]++[]),_,?_,Bd (y':=.nilIface) f7 (by omega),hd (by rw[hq,f7];rfl)⟩));focus (exact wI))
    have y7:=Bt f7;simp only at y7;rw[f7,ZA]at hq;simp only at hq;(refine .inr (.inl ⟨_,_,false,0::([]++[]),?_,A5 f7 (by omega),Ak,oI,dI,?_⟩);focus (exact wI));(refine goI ?_;repeat (intro gg;refine goI ?_));refine⟨(by repeat (first|exact Aq|refine keepT_drops rfl ?_|refine Aw rfl ?_)),?_⟩;(refine goI ?_;repeat (intro gg;refine goI ?_));rcases f8:Kg v7 with _|⟨x8,v8⟩
    ·(refine .inr (.inr (.inl ⟨_,false,0::([]++[]),_,?_,Ky (y':=.nilIface) f8 (by omega),hd (by rw[hq,f8];rfl)⟩));focus (exact wI))
    have y8:=Na f8;simp only at y8;rw[f8,ZA]at hq;simp only at hq;(refine .inr (.inl ⟨_,_,false,0::([]++[]),?_,K2 f8 (by omega),Ak,oI,dI,?_⟩);focus (exact wI));(refine goI ?_;repeat (intro gg;refine goI ?_));obtain⟨m,hm0⟩:∃m:Sv,m=⟨x0,x1,x2,x3,x4,x5,x6,x7,x8⟩:=⟨_,rfl⟩;have hl3:(lsv++[m]).length=k+1:=by simp[hl1]
    have hq2:pkR s=(Ea svR (Nsv-(lsv++[m]).length) v8).bind (fun r=>kSv fr wo lms ((lsv++[m])++r.1,r.2)):=by
     rw[hl3,show Nsv-(k+1)=j by omega,←hF,hq,hm0];simp only[ZA];rcases F j v8 with _|⟨a,b⟩
     ·rfl
     ·simp only[ZA,ZS,List.cons_append,List.nil_append]
    have hsz:v8.size≤1000000000000:=by omega
    refine⟨lI,lI,?_⟩;(refine goI ?_;repeat (intro gg;refine goI ?_));(exact⟨none,trivial,fun gr=>⟨⟨(lsv++[m],v8,gg,k+1),⟨hl3,by show k+1≤Nsv;omega⟩,hsz,hq2⟩,by show Nsv-(k+1)<Nsv-k;omega,tI,tI,⟨rfl,⟨congrArg (fun r=>some (Ent.mk gg (.t 52) 9 r)) (by rw[ZI,hm0];rfl),trivial⟩⟩,tI⟩⟩)
   ·have hge:=(by have:=ZW csv;omega);obtain rfl:k=Nsv:=by omega
    have hP:pkR s=(Ef 6 gwR tsv).bind (kGs fr wo lms lsv):=by
     rw[hq,hl1,Nat.sub_self];show(some (([]:List Sv),tsv)).bind _=_;rw[ZA,List.append_nil];rfl
    (refine goI ?_;repeat (intro gg;refine goI ?_));refine .inr (.inr (.inr (Gv 5000 H3 rfl ?_)));(refine goI ?_;repeat (intro gg;refine goI ?_));rcases egs:Cd tsv with _|⟨n,ugs⟩
    ·(refine .inr (.inr (.inl ⟨_,false,0::([]++[]),_,?_,Bd (y':=.nilIface) egs (by omega),hd (by rw[hP];unfold Ef Hv;rw[egs];rfl)⟩));focus (exact wI))
    have zgs:=Bt egs;simp only at zgs;by_cases hn:n<0
    ·(refine .inr (.inl ⟨_,_,false,0::([]++[]),?_,A5 egs (by omega),Ak,oI,dI,?_⟩);focus (exact wI));(refine goI ?_;repeat (intro gg;refine goI ?_));rw[ZX hn];(refine goI ?_;repeat (intro gg;refine goI ?_));exact hd (by rw[hP];unfold Ef Hv;rw[egs,ZA];simp only;rw[if_pos (.inl hn)];rfl)
    obtain⟨Ngs,rfl⟩:=Int.eq_ofNat_of_zero_le (show 0≤n by omega);(refine .inr (.inl ⟨_,_,false,0::([]++[]),?_,A5 egs (by omega),Ak,oI,dI,?_⟩);focus (exact wI));(refine goI ?_;repeat (intro gg;refine goI ?_));by_cases hm:(6:Int)<(Ngs:Int)
    ·rw[ZX hm];(refine goI ?_;repeat (intro gg;refine goI ?_));exact hd (by rw[hP];unfold Ef Hv;rw[egs,ZA];simp only;rw[if_pos (.inr hm)];rfl)
    rw[ZY hm];have hPgs:pkR s=(Ea gwR Ngs ugs).bind (kGs fr wo lms lsv):=by
     rw[hP];unfold Ef Hv;rw[egs,ZA];simp only;rw[if_neg (by omega),ZA,Int.toNat_natCast]
    (refine goI ?_;repeat (intro gg;refine goI ?_));(refine⟨[(8,900032,54,3)],none,{q:List Gw×ByteArray×Nat×Nat//(q.1.length=q.2.2.2∧q.2.2.2≤Ngs)∧q.2.1.size≤1000000000000∧pkR s=(Ea gwR (Ngs-q.1.length) q.2.1).bind (fun r=>kGs fr wo lms lsv (q.1++r.1,r.2))},[0,1,2,20],fun⟨⟨lgs,tgs,ggs,k⟩,hl,ht,hq⟩=>[(8,.own 900032 ggs),(21,.v (.int .i64 (k:Int)))],[16,32,48,900000,900016],fun⟨⟨lgs,tgs,ggs,k⟩,hl,ht,hq⟩=>[(0,⟨0,.b prT,1,[[.v (.string tgs)]]⟩),(900032,⟨ggs,.t 54,3,lgs.map Gw.row⟩)],fun⟨⟨lgs,tgs,ggs,k⟩,hl,ht,hq⟩=>Ngs-k,(by exact⟨rfl,by decide,(fun _ _ _ _ h=>by cases h),trivial⟩),fun gs=>⟨trivial,fun _=>⟨⟨([],ugs,gs 900032,0),⟨rfl,ZU _⟩,by show ugs.size≤_;omega,by rw[hPgs];simp⟩,tI,tI,tI,tI⟩⟩,fun⟨⟨lgs,tgs,ggs,k⟩,hl,ht,hq⟩=>?_⟩);have hl:lgs.length=k∧k≤Ngs:=hl;obtain⟨hl1,hl2⟩:=hl;have htgs:tgs.size≤1000000000000:=ht;have hq:pkR s=(Ea gwR (Ngs-lgs.length) tgs).bind (fun r=>kGs fr wo lms lsv (lgs++r.1,r.2)):=hq;(refine goI ?_;repeat (intro gg;refine goI ?_));(refine Ab (fun cgs=>?_) (fun cgs=>?_)<;>rw[cgs])
    ·have hlt:k<Ngs:=(by have:=ZV cgs;omega);obtain⟨j,hj⟩:∃j,Ngs-lgs.length=j+1:=⟨Ngs-lgs.length-1,by omega⟩;rw[hj]at hq;have hq:pkR s=((gwR tgs).bind fun p=>(Ea gwR j p.2).bind fun q=>some (p.1::q.1,q.2)).bind (fun r=>kGs fr wo lms lsv (lgs++r.1,r.2)):=hq;(refine goI ?_;repeat (intro gg;refine goI ?_));refine .inr (.inr (.inr (R9 6000 Ip rfl ?_)));(refine goI ?_;repeat (intro gg;refine goI ?_));refine⟨[0],?_⟩;(refine goI ?_;repeat (intro gg;refine goI ?_));obtain⟨F,hF⟩:∃F,F=Ea gwR:=⟨_,rfl⟩;rw[←hF]at hq;unfold gwR at hq;rcases f0:Fk tgs with _|⟨x0,v0⟩
     ·(refine .inr (.inr (.inl ⟨_,false,0::([]++[]),_,?_,Fg (y':=.nilIface) f0 (by omega),hd (by rw[hq,f0];rfl)⟩));focus (exact wI))
     have y0:=Es f0;simp only at y0;rw[f0,ZA]at hq;simp only at hq;(refine .inr (.inl ⟨_,_,false,0::([]++[]),?_,D5 f0 (by omega),Ak,oI,dI,?_⟩);focus (exact wI));(refine goI ?_;repeat (intro gg;refine goI ?_));refine⟨(by repeat (first|exact Aq|refine keepT_drops rfl ?_|refine Aw rfl ?_)),?_⟩;(refine goI ?_;repeat (intro gg;refine goI ?_));rcases f1:Cd v0 with _|⟨x1,v1⟩
     ·(refine .inr (.inr (.inl ⟨_,false,0::([]++[]),_,?_,Bd (y':=.nilIface) f1 (by omega),hd (by rw[hq,f1];rfl)⟩));focus (exact wI))
     have y1:=Bt f1;simp only at y1;rw[f1,ZA]at hq;simp only at hq;(refine .inr (.inl ⟨_,_,false,0::([]++[]),?_,A5 f1 (by omega),Ak,oI,dI,?_⟩);focus (exact wI));(refine goI ?_;repeat (intro gg;refine goI ?_));refine⟨(by repeat (first|exact Aq|refine keepT_drops rfl ?_|refine Aw rfl ?_)),?_⟩;(refine goI ?_;repeat (intro gg;refine goI ?_));rcases f2:Cd v1 with _|⟨x2,v2⟩
     ·(refine .inr (.inr (.inl ⟨_,false,0::([]++[]),_,?_,Bd (y':=.nilIface) f2 (by omega),hd (by rw[hq,f2];rfl)⟩));focus (exact wI))
     have y2:=Bt f2;simp only at y2;rw[f2,ZA]at hq;simp only at hq;(refine .inr (.inl ⟨_,_,false,0::([]++[]),?_,A5 f2 (by omega),Ak,oI,dI,?_⟩);focus (exact wI));(refine goI ?_;repeat (intro gg;refine goI ?_));obtain⟨m,hm0⟩:∃m:Gw,m=⟨x0,x1,x2⟩:=⟨_,rfl⟩;have hl3:(lgs++[m]).length=k+1:=by simp[hl1]
     have hq2:pkR s=(Ea gwR (Ngs-(lgs++[m]).length) v2).bind (fun r=>kGs fr wo lms lsv ((lgs++[m])++r.1,r.2)):=by
      rw[hl3,show Ngs-(k+1)=j by omega,←hF,hq,hm0];simp only[ZA];rcases F j v2 with _|⟨a,b⟩
      ·rfl
      ·simp only[ZA,ZS,List.cons_append,List.nil_append]
     have hsz:v2.size≤1000000000000:=by omega
     refine⟨lI,lI,?_⟩;(refine goI ?_;repeat (intro gg;refine goI ?_));(exact⟨none,trivial,fun gr=>⟨⟨(lgs++[m],v2,gg,k+1),⟨hl3,by show k+1≤Ngs;omega⟩,hsz,hq2⟩,by show Ngs-(k+1)<Ngs-k;omega,tI,tI,⟨rfl,⟨congrArg (fun r=>some (Ent.mk gg (.t 54) 3 r)) (by rw[ZI,hm0];rfl),trivial⟩⟩,tI⟩⟩)
    ·have hge:=(by have:=ZW cgs;omega);obtain rfl:k=Ngs:=by omega
     have hP:pkR s=(Ef 20 whR tgs).bind (kWh fr wo lms lsv lgs):=by
      rw[hq,hl1,Nat.sub_self];show(some (([]:List Gw),tgs)).bind _=_;rw[ZA,List.append_nil];rfl
     (refine goI ?_;repeat (intro gg;refine goI ?_));refine .inr (.inr (.inr (Gv 7000 Kd rfl ?_)));(refine goI ?_;repeat (intro gg;refine goI ?_));rcases ewh:Cd tgs with _|⟨n,uwh⟩
     ·(refine .inr (.inr (.inl ⟨_,false,0::([]++[]),_,?_,Bd (y':=.nilIface) ewh (by omega),hd (by rw[hP];unfold Ef Hv;rw[ewh];rfl)⟩));focus (exact wI))
     have zwh:=Bt ewh;simp only at zwh;by_cases hn:n<0
     ·(refine .inr (.inl ⟨_,_,false,0::([]++[]),?_,A5 ewh (by omega),Ak,oI,dI,?_⟩);focus (exact wI));(refine goI ?_;repeat (intro gg;refine goI ?_));rw[ZX hn];(refine goI ?_;repeat (intro gg;refine goI ?_));exact hd (by rw[hP];unfold Ef Hv;rw[ewh,ZA];simp only;rw[if_pos (.inl hn)];rfl)
     obtain⟨Nwh,rfl⟩:=Int.eq_ofNat_of_zero_le (show 0≤n by omega);(refine .inr (.inl ⟨_,_,false,0::([]++[]),?_,A5 ewh (by omega),Ak,oI,dI,?_⟩);focus (exact wI));(refine goI ?_;repeat (intro gg;refine goI ?_));by_cases hm:(20:Int)<(Nwh:Int)
     ·rw[ZX hm];(refine goI ?_;repeat (intro gg;refine goI ?_));exact hd (by rw[hP];unfold Ef Hv;rw[ewh,ZA];simp only;rw[if_pos (.inr hm)];rfl)
     rw[ZY hm];have hPwh:pkR s=(Ea whR Nwh uwh).bind (kWh fr wo lms lsv lgs):=by
      rw[hP];unfold Ef Hv;rw[ewh,ZA];simp only;rw[if_neg (by omega),ZA,Int.toNat_natCast]
     (refine goI ?_;repeat (intro gg;refine goI ?_));(refine⟨[(8,900048,58,6)],none,{q:List Wh×ByteArray×Nat×Nat//(q.1.length=q.2.2.2∧q.2.2.2≤Nwh)∧q.2.1.size≤1000000000000∧pkR s=(Ea whR (Nwh-q.1.length) q.2.1).bind (fun r=>kWh fr wo lms lsv lgs (q.1++r.1,r.2))},[0,1,2,20],fun⟨⟨lwh,twh,gwh,k⟩,hl,ht,hq⟩=>[(8,.own 900048 gwh),(21,.v (.int .i64 (k:Int)))],[16,32,48,900000,900016,900032],fun⟨⟨lwh,twh,gwh,k⟩,hl,ht,hq⟩=>[(0,⟨0,.b prT,1,[[.v (.string twh)]]⟩),(900048,⟨gwh,.t 58,6,lwh.map Wh.row⟩)],fun⟨⟨lwh,twh,gwh,k⟩,hl,ht,hq⟩=>Nwh-k,(by exact⟨rfl,by decide,(fun _ _ _ _ h=>by cases h),trivial⟩),fun gs=>⟨trivial,fun _=>⟨⟨([],uwh,gs 900048,0),⟨rfl,ZU _⟩,by show uwh.size≤_;omega,by rw[hPwh];simp⟩,tI,tI,tI,tI⟩⟩,fun⟨⟨lwh,twh,gwh,k⟩,hl,ht,hq⟩=>?_⟩);have hl:lwh.length=k∧k≤Nwh:=hl;obtain⟨hl1,hl2⟩:=hl;have htwh:twh.size≤1000000000000:=ht;have hq:pkR s=(Ea whR (Nwh-lwh.length) twh).bind (fun r=>kWh fr wo lms lsv lgs (lwh++r.1,r.2)):=hq;(refine goI ?_;repeat (intro gg;refine goI ?_));(refine Ab (fun cwh=>?_) (fun cwh=>?_)<;>rw[cwh])
     ·have hlt:k<Nwh:=(by have:=ZV cwh;omega);obtain⟨j,hj⟩:∃j,Nwh-lwh.length=j+1:=⟨Nwh-lwh.length-1,by omega⟩;rw[hj]at hq;have hq:pkR s=((whR twh).bind fun p=>(Ea whR j p.2).bind fun q=>some (p.1::q.1,q.2)).bind (fun r=>kWh fr wo lms lsv lgs (lwh++r.1,r.2)):=hq;(refine goI ?_;repeat (intro gg;refine goI ?_));refine .inr (.inr (.inr (R9 8000 Jc rfl ?_)));(refine goI ?_;repeat (intro gg;refine goI ?_));refine⟨[0],?_⟩;(refine goI ?_;repeat (intro gg;refine goI ?_));obtain⟨F,hF⟩:∃F,F=Ea whR:=⟨_,rfl⟩;rw[←hF]at hq;unfold whR at hq;rcases f0:Fk twh with _|⟨x0,v0⟩
      ·(refine .inr (.inr (.inl ⟨_,false,0::([]++[]),_,?_,Fg (y':=.nilIface) f0 (by omega),hd (by rw[hq,f0];rfl)⟩));focus (exact wI))
      have y0:=Es f0;simp only at y0;rw[f0,ZA]at hq;simp only at hq;(refine .inr (.inl ⟨_,_,false,0::([]++[]),?_,D5 f0 (by omega),Ak,oI,dI,?_⟩);focus (exact wI));(refine goI ?_;repeat (intro gg;refine goI ?_));refine⟨(by repeat (first|exact Aq|refine keepT_drops rfl ?_|refine Aw rfl ?_)),?_⟩;(refine goI ?_;repeat (intro gg;refine goI ?_));rcases f1:Cd v0 with _|⟨x1,v1⟩
      ·(refine .inr (.inr (.inl ⟨_,false,0::([]++[]),_,?_,Bd (y':=.nilIface) f1 (by omega),hd (by rw[hq,f1];rfl)⟩));focus (exact wI))
      have y1:=Bt f1;simp only at y1;rw[f1,ZA]at hq;simp only at hq;(refine .inr (.inl ⟨_,_,false,0::([]++[]),?_,A5 f1 (by omega),Ak,oI,dI,?_⟩);focus (exact wI));(refine goI ?_;repeat (intro gg;refine goI ?_));refine⟨(by repeat (first|exact Aq|refine keepT_drops rfl ?_|refine Aw rfl ?_)),?_⟩;(refine goI ?_;repeat (intro gg;refine goI ?_));rcases f2:Cd v1 with _|⟨x2,v2⟩
      ·(refine .inr (.inr (.inl ⟨_,false,0::([]++[]),_,?_,Bd (y':=.nilIface) f2 (by omega),hd (by rw[hq,f2];rfl)⟩));focus (exact wI))
      have y2:=Bt f2;simp only at y2;rw[f2,ZA]at hq;simp only at hq;(refine .inr (.inl ⟨_,_,false,0::([]++[]),?_,A5 f2 (by omega),Ak,oI,dI,?_⟩);focus (exact wI));(refine goI ?_;repeat (intro gg;refine goI ?_));refine⟨(by repeat (first|exact Aq|refine keepT_drops rfl ?_|refine Aw rfl ?_)),?_⟩;(refine goI ?_;repeat (intro gg;refine goI ?_));rcases f3:Cd v2 with _|⟨x3,v3⟩
      ·(refine .inr (.inr (.inl ⟨_,false,0::([]++[]),_,?_,Bd (y':=.nilIface) f3 (by omega),hd (by rw[hq,f3];rfl)⟩));focus (exact wI))
      have y3:=Bt f3;simp only at y3;rw[f3,ZA]at hq;simp only at hq;(refine .inr (.inl ⟨_,_,false,0::([]++[]),?_,A5 f3 (by omega),Ak,oI,dI,?_⟩);focus (exact wI));(refine goI ?_;repeat (intro gg;refine goI ?_));refine⟨(by repeat (first|exact Aq|refine keepT_drops rfl ?_|refine Aw rfl ?_)),?_⟩;(refine goI ?_;repeat (intro gg;refine goI ?_));rcases f4:Cd v3 with _|⟨x4,v4⟩
      ·(refine .inr (.inr (.inl ⟨_,false,0::([]++[]),_,?_,Bd (y':=.nilIface) f4 (by omega),hd (by rw[hq,f4];rfl)⟩));focus (exact wI))
      have y4:=Bt f4;simp only at y4;rw[f4,ZA]at hq;simp only at hq;(refine .inr (.inl ⟨_,_,false,0::([]++[]),?_,A5 f4 (by omega),Ak,oI,dI,?_⟩);focus (exact wI));(refine goI ?_;repeat (intro gg;refine goI ?_));refine⟨(by repeat (first|exact Aq|refine keepT_drops rfl ?_|refine Aw rfl ?_)),?_⟩;(refine goI ?_;repeat (intro gg;refine goI ?_));rcases f5:Cd v4 with _|⟨x5,v5⟩
      ·(refine .inr (.inr (.inl ⟨_,false,0::([]++[]),_,?_,Bd (y':=.nilIface) f5 (by omega),hd (by rw[hq,f5];rfl)⟩));focus (exact wI))
      have y5:=Bt f5;simp only at y5;rw[f5,ZA]at hq;simp only at hq;(refine .inr (.inl ⟨_,_,false,0::([]++[]),?_,A5 f5 (by omega),Ak,oI,dI,?_⟩);focus (exact wI));(refine goI ?_;repeat (intro gg;refine goI ?_));obtain⟨m,hm0⟩:∃m:Wh,m=⟨x0,⟨x1,x2,x3,x4,x5⟩⟩:=⟨_,rfl⟩;have hl3:(lwh++[m]).length=k+1:=by simp[hl1]
      have hq2:pkR s=(Ea whR (Nwh-(lwh++[m]).length) v5).bind (fun r=>kWh fr wo lms lsv lgs ((lwh++[m])++r.1,r.2)):=by
       rw[hl3,show Nwh-(k+1)=j by omega,←hF,hq,hm0];simp only[ZA];rcases F j v5 with _|⟨a,b⟩
       ·rfl
       ·simp only[ZA,ZS,List.cons_append,List.nil_append]
      have hsz:v5.size≤1000000000000:=by omega
      refine⟨lI,lI,?_⟩;(refine goI ?_;repeat (intro gg;refine goI ?_));(exact⟨none,trivial,fun gr=>⟨⟨(lwh++[m],v5,gg,k+1),⟨hl3,by show k+1≤Nwh;omega⟩,hsz,hq2⟩,by show Nwh-(k+1)<Nwh-k;omega,tI,tI,⟨rfl,⟨congrArg (fun r=>some (Ent.mk gg (.t 58) 6 r)) (by rw[ZI,hm0];rfl),trivial⟩⟩,tI⟩⟩)
     ·have hge:=(by have:=ZW cwh;omega);obtain rfl:k=Nwh:=by omega
      have hP:pkR s=some (⟨fr,wo,lms,lsv,lgs,lwh⟩,twh):=by
       rw[hq,hl1,Nat.sub_self];show(some (([]:List Wh),twh)).bind _=_;rw[ZA,List.append_nil];rfl
      (refine goI ?_;repeat (intro gg;refine goI ?_));refine hk ⟨fr,wo,lms,lsv,lgs,lwh⟩ twh _ _ hP ?_;(exact⟨_,0::([]++[]),.cell1 rfl rfl rfl rfl rfl rfl .nil,Abg cBI (D7 (gone:=[]) (gone1:=[]) rfl aI (by decide) (by decide) (by decide) (.nil _))⟩)
theorem X9[Glob]:Dj Alk=Dj Df:=by rfl
theorem Aaa[Glob][Tabs]{s r:ByteArray}{p:Pk}(h:pkR s=some (p,r))(hs:s.size≤1000000000000):E8 Tryz.prog 32 [.mn prT [.c (.v (.string s))] [.c (.v (.string r))]] [.p (.c (.agg p.row))]:=
 Ys Ew X9 rfl (N3 rfl) (Q4 (y':=.string r) hs noD (Wi [(2,some (true,6))] [.mn prT [.c (.v (.string s))] [.c (.v (.string r))]] [.p (.c (.agg p.row))]) (fun q=>by rw[h]at q;cases q) (fun p' r' env H e k=>by
  rw[h]at e;cases e;exact k))
theorem Aad[Glob][Tabs]{s:ByteArray}{y':Value}(h:pkR s=none)(hs:s.size≤1000000000000):Gu Tryz.prog 32 [.mn prT [.c (.v (.string s))] [.c (.v y')]] Do:=
 Zj Ew X9 rfl (N3 rfl) (Q4 (y':=y') hs (fun x=>x=Do) Ai9 (fun _=>rfl) (fun p' r' env H e=>by
  rw[h]at e;cases e))
theorem Fr.set_{F:Nat→Prop}{w w':World}(h:Fr F w w'){b:Nat}(hb:F b)(i:Nat)(v:Value):Fr F w (w'.setCell ⟨b,i,none⟩ v):=by
 have hs:=h.size;refine⟨h.os,h.tape,h.output,by simp[World.setCell];omega,fun k hk hF=>?_⟩;rw[←h.block k hk hF];have:k≠b:=fun e=>hF (e▸hb);exact Below.heap_setCell w' ⟨b,i,none⟩ v k this
theorem Fr.alloc_{F:Nat→Prop}{w w':World}(h:Fr F w w')(o:Obj):Fr F w (w'.alloc o):=by
 have hs:=h.size;refine⟨h.os,h.tape,h.output,by rw[show(w'.alloc o).heap.size=w'.heap.size+1 from by simp[World.alloc,-World.alloc_eq]];omega,fun k hk hF=>?_⟩;rw[←h.block k hk hF];exact Below.heap_alloc w' o k (by omega)
theorem Y1(T:TypeId)(w:World):(Instr.typeAssert Do T 61 true).run Tryz.prog w=.ok (.tuple #[.agg #[],.bool true]) w:=by
 have hu:=Tryz.underlying61;simp[Instr.typeAssert,Do,run_underlying hu]
theorem Z4(T:TypeId)(w:World):(Instr.typeAssert .nilIface T 61 true).run Tryz.prog w=.ok (.tuple #[.agg #[],.bool false]) w:=by
 have hu:=Tryz.underlying61;have h:(Tryz.prog.info? 61).map (·.zero)=some (some (.agg #[])):=by kernel_rfl
 obtain⟨i,hi,hz⟩:=Option.map_eq_some_iff.1 h;simp[Instr.typeAssert,run_underlying hu,zeroValue,typeInfo,hi,hz]
def Fx:Array Value:= #[.string ⟨#[]⟩,.bool false,.slice none 0 0,.slice none 0 0,.slice none 0 0,.slice none 0 0]
structure Abh(w:World)(p q:Nat)(w':World):Prop where
 m:Blk w' p 27 Fx
 e:Blk w' q 28 #[.int .i64 1]
 fr:Fr (fun k=>k=p∨k=q) w w'
set_option maxRecDepth 100000 in
set_option maxHeartbeats 2000000 in
theorem Xn(p q:Nat)(c0 c1 c2 c3 c4 c5 x:Value)(w:World)(hp:Blk w p 27 #[c0,c1,c2,c3,c4,c5])(hq:Blk w q 28 #[x])(hpq:p≠q):
  CallsD Tryz.prog 31 #[.pointer (some ⟨p,0,none⟩),.pointer (some ⟨q,0,none⟩)] (.panicking [{v:=Do,recovered:=false}]) w fun e u' w'=>e=.returned (.tuple #[])∧u'=.panicking [{v:=Do,recovered:=true}]∧Abh w p q w':=by
 have hlp:=hp.lt;have hlq:=hq.lt;refine callsD_of_wpS Tryz.func31 rfl fun c₀ cs hu=>?_;apply wpS_seq;apply wpS_region;have hrec:recoverD (c₀::cs)=some (Do,{c₀ with mode:=.panicking ({v:=Do,recovered:=true} ::[])} ::cs):=by simp[recoverD,hu]
 simp[wpOpsS,go_sem,hrec,Tryz.ntmps31,Exit.thenS,Y1];have e0:w.cell? ⟨p,0,none⟩=some c0:=hp.cell 0;have e1:w.cell? ⟨p,1,none⟩=some c1:=hp.cell 1;have e2:w.cell? ⟨p,2,none⟩=some c2:=hp.cell 2;have e3:w.cell? ⟨p,3,none⟩=some c3:=hp.cell 3;have e4:w.cell? ⟨p,4,none⟩=some c4:=hp.cell 4;have e5:w.cell? ⟨p,5,none⟩=some c5:=hp.cell 5;have f0:=fun i=>hp.frozen i;have g0:w.cell? ⟨q,0,none⟩=some x:=hq.cell 0;have h0:=hq.frozen 0;refine wpS_of_wp ?_
 go_wp2
 have key:Abh w p q ((((((((w.setCell ⟨p,0,none⟩ (.string ⟨#[]⟩)).setCell ⟨p,1,none⟩ (.bool false)).setCell ⟨p,2,none⟩ (.slice none 0 0)).setCell ⟨p,3,none⟩ (.slice none 0 0)).setCell ⟨p,4,none⟩ (.slice none 0 0)).setCell ⟨p,5,none⟩ (.slice none 0 0)).setCell ⟨q,0,none⟩ (.int .i64 1)).alloc (Obj.cells #[] 61)):=by
  refine⟨?_,?_,?_⟩
  ·exact((((((((hp.set_ 0 _).set_ 1 _).set_ 2 _).set_ 3 _).set_ 4 _).set_ 5 _).far hpq _).alloc _)
  ·exact((((((((hq.far (Ne.symm hpq) _).far (Ne.symm hpq) _).far (Ne.symm hpq) _).far (Ne.symm hpq) _).far (Ne.symm hpq) _).far (Ne.symm hpq) _).set_ 0 _).alloc _)
  ·exact(((((((((Fr.refl _ w).set_ (.inl rfl) 0 _).set_ (.inl rfl) 1 _).set_ (.inl rfl) 2 _).set_ (.inl rfl) 3 _).set_ (.inl rfl) 4 _).set_ (.inl rfl) 5 _).set_ (.inr rfl) 0 _).alloc_ _)
 simp[bodyPostS,results,Tryz.results31];exact key
set_option maxRecDepth 100000 in
set_option maxHeartbeats 2000000 in
theorem M1(p q:Nat)(w:World):
  CallsD Tryz.prog 31 #[.pointer (some ⟨p,0,none⟩),.pointer (some ⟨q,0,none⟩)] .returning w fun e u' w'=>e=.returned (.tuple #[])∧u'=.returning∧w'=w.alloc (.cells #[] 61):=by
 refine callsD_of_wpS Tryz.func31 rfl fun c₀ cs hu=>?_;apply wpS_seq;apply wpS_region;have hrec:recoverD (c₀::cs)=none:=by simp[recoverD,hu]
 simp[wpOpsS,go_sem,hrec,Tryz.ntmps31,Exit.thenS,Z4];refine wpS_of_wp ?_
 go_wp2
 simp[bodyPostS,results,Tryz.results31,hu];cases c₀;simp_all
end Go.Proofs.YteflnbjmjcbmmaaGreatDoor
