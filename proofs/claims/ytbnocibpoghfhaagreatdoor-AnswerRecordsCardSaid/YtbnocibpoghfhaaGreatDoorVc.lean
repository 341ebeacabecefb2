/- Texts of this claim, joined. -/
import Derived.Test.YtbnocibpoghfhaaGreatDoorWAbsS
import Derived.WalkKit
import Derived.Defers
import Derived.Recover
import Derived.Laws.Pointers
import Derived.Test.YtbnocibpoghfhaaGreatDoorRows
import Derived.Test.YtbnocibpoghfhaaGreatDoorVa
import Derived.Test.YtbnocibpoghfhaaGreatDoorVb
set_option linter.unusedSimpArgs false
set_option linter.unusedVariables false
namespace Go.Proofs.YtbnocibpoghfhaaGreatDoor
open Go Go.RowKit Pl
theorem Adr(k:Kn)(h:k.In):Fun Tryz.prog 20 [.c (.v (.string k.here)),.c (.sl false (k.l.map Sv.row)),.c (.sl false (k.ms.map Mb.row)),.c (.agg k.f.row),.c (.sl false (k.wh.map Wh.row))] [.c (.v (.int .i64 k.err))]:=by
 obtain⟨here,l,ms,f,wh⟩:=k;obtain⟨g1,g2,g3,g4,g5,g6⟩:=h;simp only at g1 g2 g3 g4 g5 g6;have e0:Kn.err ⟨here,l,ms,f,wh⟩=bif !lab here.data.toList then 1 else if Ei l≠0 then Ei l else if F6 ms≠0 then F6 ms else if 20<wh.length then 2 else if f.err≠0 then f.err else Cp (wh.map fun w=>w.pl.err):=rfl
 refine Ar Yb rfl ?_;refine G1 ?_;intro gg;(refine .inl ⟨_,_,false,[],aI,El here g1,Ab,nI,?_⟩);refine G1 ?_;intro gg;refine Aa (fun k0=>?_) (fun k0=>?_)<;>rw[k0]<;>rw[k0]at e0
 ·refine G0 ?_;rw[e0];(exact⟨[],aI⟩)
 simp only[cond_false]at e0;refine G0 ?_;(refine .inl ⟨_,_,false,[],aI,Ajh l g2 g3,Ab,nI,?_⟩);refine G1 ?_;intro gg;refine Aa (fun k1=>?_) (fun k1=>?_)<;>rw[k1]
 ·refine G0 ?_;rw[e0,if_pos (by simpa using k1)];(exact⟨[],aI⟩)
 rw[if_neg (by simpa using k1)]at e0;refine G0 ?_;(refine .inl ⟨_,_,false,[],aI,Akb ms g4 g5,Ab,nI,?_⟩);refine G1 ?_;intro gg;refine Aa (fun k2=>?_) (fun k2=>?_)<;>rw[k2]
 ·refine G0 ?_;rw[e0,if_pos (by simpa using k2)];(exact⟨[],aI⟩)
 rw[if_neg (by simpa using k2)]at e0;refine G0 ?_;by_cases k3:20<wh.length
 ·rw[if_pos k3]at e0;rw[show decide ((20:Int)<((wh.map Wh.row).length:Int))=true from ZX (by rw[ZE];omega)];refine G0 ?_;rw[e0];(exact⟨[],aI⟩)
 rw[if_neg k3]at e0;rw[show decide ((20:Int)<((wh.map Wh.row).length:Int))=false from ZY (by rw[ZE];omega)];refine G0 ?_;(refine .inl ⟨_,_,false,[],aI,On f,Ab,nI,?_⟩);refine G1 ?_;intro gg;refine Aa (fun k4=>?_) (fun k4=>?_)<;>rw[k4]
 ·refine G0 ?_;rw[e0,if_pos (by simpa using k4)];(exact⟨[],aI⟩)
 rw[if_neg (by simpa using k4)]at e0;refine G0 ?_;(refine⟨[],none,{k:Nat//k≤wh.length∧∀j,(h:j<wh.length)→j<k→wh[j].pl.err=0},[38,39],fun⟨k,hk,h0⟩=>[(40,.v (.int .i64 k))],[],fun⟨k,hk,h0⟩=>[],fun⟨k,hk,h0⟩=>wh.length-k,trivial,fun _=>⟨trivial,fun _=>⟨⟨0,by omega,fun j _ h=>by omega⟩,tI,Af _ _,tI,Ae _ _⟩⟩,fun⟨k,hk,h0⟩=>?_⟩);refine G0 ?_;simp only[ZE];by_cases k6:k<wh.length
 ·rw[show decide ((k:Int)<(wh.length:Int))=true from ZX (by omega)];refine G0 ?_;refine⟨k,_,rfl,Ad k6,?_⟩;refine G1 ?_;intro gg;(refine .inl ⟨_,_,false,[],aI,On wh[k].pl,Ab,nI,?_⟩);refine G1 ?_;intro gg;refine Aa (fun k7=>?_) (fun k7=>?_)<;>rw[k7]
  ·have hne:wh[k].pl.err≠0:=by simpa using k7
   have e1:Cp (wh.map fun w=>w.pl.err)=wh[k].pl.err:=by
    have:=M9 (l:=wh.map fun w=>w.pl.err) (k:=k) (by simpa using k6) (fun j h hj=>by rw[XQ];exact h0 j (by simpa using h) hj) (by rw[XQ];exact hne);rw[this,XQ]
   refine G0 ?_;rw[e0,e1];(exact⟨[],aI⟩)
  ·refine G0 ?_;(exact⟨none,trivial,fun _=>⟨⟨k+1,by omega,up1 (p:=fun j h=>wh[j].pl.err=0) h0 (fun _=>by simpa using k7)⟩,by show wh.length-(k+1)<wh.length-k;omega,tI,tI,tI,tI⟩⟩)
 ·rw[show decide ((k:Int)<(wh.length:Int))=false from ZY (by omega)];have e1:Cp (wh.map fun w=>w.pl.err)=0:=I1 fun j hj=>by rw[XQ];exact h0 j (by simpa using hj) (by simp at hj;omega)
  refine G0 ?_;rw[e0,e1];(exact⟨[],aI⟩)
theorem Asf{wh:List Wh}{k:Nat}(hk:k<wh.length)(h0:∀j,(h:j<wh.length)→j<k→wh[j].pl.err=0)(h:wh[k].pl.err≠0):Cp (wh.map fun w=>w.pl.err)=wh[k].pl.err:=by
 have:=M9 (l:=wh.map fun w=>w.pl.err) (k:=k) (by simpa using hk) (fun j h hj=>by rw[XQ];exact h0 j (by simpa using h) hj) (by rw[XQ];exact h);rw[this,XQ]
theorem Abm(k:Kn)(h:k.In):Fun Tryz.prog 26 [.c (.v (.string k.here)),.c (.sl false (k.l.map Sv.row)),.c (.sl false (k.ms.map Mb.row)),.c (.agg k.f.row),.c (.sl false (k.wh.map Wh.row))] [.c (.v (.int .i64 k.err))]:=by
 obtain⟨here,l,ms,f,wh⟩:=k;obtain⟨g1,g2,g3,g4,g5,g6⟩:=h;simp only at g1 g2 g3 g4 g5 g6;have e0:Kn.err ⟨here,l,ms,f,wh⟩=bif !lab here.data.toList then 1 else if Ei l≠0 then Ei l else if F6 ms≠0 then F6 ms else if 20<wh.length then 2 else if f.err≠0 then f.err else Cp (wh.map fun w=>w.pl.err):=rfl
 refine Ar Mu rfl ?_;refine G1 ?_;intro gg;(refine .inl ⟨_,_,false,[],aI,Eb here g1,Ab,nI,?_⟩);refine G1 ?_;intro gg;refine Aa (fun k0=>?_) (fun k0=>?_)<;>rw[k0]<;>rw[k0]at e0
 ·refine G0 ?_;rw[e0];(exact⟨[],aI⟩)
 simp only[cond_false]at e0;refine G0 ?_;(refine .inl ⟨_,_,false,[],aI,Aib false l g2 g3,Ab,nI,?_⟩);refine G1 ?_;intro gg;by_cases c1:Ei l=0;rotate_left
 ·rw[if_pos c1]at e0;rw[show(Ei l==0)=false from ZG.2 c1];refine G0 ?_;rw[show(Ei l==0)=false from ZG.2 c1];refine G0 ?_;rw[show(Ei l==0)=false from ZG.2 c1];refine G0 ?_;(refine⟨[],none,Unit,[4],fun _=>[(11,.v (.int .i64 (Ei l))),(12,.v (.int .i64 0))],[],fun _=>[],fun _=>0,trivial,fun _=>⟨trivial,fun _=>⟨(),tI,Af _ _,tI,Ae _ _⟩⟩,fun _=>?_⟩);refine G0 ?_;simp only[ZE];by_cases c9:0<wh.length
  ·rw[show decide ((0:Int)<(wh.length:Int))=true from ZX (by omega)];refine G0 ?_;rw[show((Ei l)==0)=false from ZG.2 c1];refine G0 ?_;rw[e0];(exact⟨[],aI⟩)
  ·rw[show decide ((0:Int)<(wh.length:Int))=false from ZY (by omega)];refine G0 ?_;rw[e0];(exact⟨[],aI⟩)
 rw[if_neg (by simpa using c1)]at e0;rw[show(Ei l==0)=true from ZR.2 c1];refine G0 ?_;(refine .inl ⟨_,_,false,[],aI,Ajd false ms g4 g5,Ab,nI,?_⟩);refine G1 ?_;intro gg;by_cases c2:F6 ms=0;rotate_left
 ·rw[if_pos c2]at e0;rw[show(F6 ms==0)=false from ZG.2 c2];refine G0 ?_;rw[show(F6 ms==0)=false from ZG.2 c2];refine G0 ?_;(refine⟨[],none,Unit,[4],fun _=>[(11,.v (.int .i64 (F6 ms))),(12,.v (.int .i64 0))],[],fun _=>[],fun _=>0,trivial,fun _=>⟨trivial,fun _=>⟨(),tI,Af _ _,tI,Ae _ _⟩⟩,fun _=>?_⟩);refine G0 ?_;simp only[ZE];by_cases c9:0<wh.length
  ·rw[show decide ((0:Int)<(wh.length:Int))=true from ZX (by omega)];refine G0 ?_;rw[show((F6 ms)==0)=false from ZG.2 c2];refine G0 ?_;rw[e0];(exact⟨[],aI⟩)
  ·rw[show decide ((0:Int)<(wh.length:Int))=false from ZY (by omega)];refine G0 ?_;rw[e0];(exact⟨[],aI⟩)
 rw[if_neg (by simpa using c2)]at e0;rw[show(F6 ms==0)=true from ZR.2 c2];refine G0 ?_;by_cases c3:20<wh.length
 ·rw[if_pos c3]at e0;rw[show decide ((20:Int)<((wh.map Wh.row).length:Int))=true from ZX (by rw[ZE];omega)];refine G0 ?_;(refine⟨[],none,Unit,[4],fun _=>[(11,.v (.int .i64 ((2:Int)))),(12,.v (.int .i64 0))],[],fun _=>[],fun _=>0,trivial,fun _=>⟨trivial,fun _=>⟨(),tI,Af _ _,tI,Ae _ _⟩⟩,fun _=>?_⟩);refine G0 ?_;simp only[ZE];by_cases c9:0<wh.length
  ·rw[show decide ((0:Int)<(wh.length:Int))=true from ZX (by omega)];refine G0 ?_;rw[show(((2:Int))==0)=false from ZG.2 (by decide)];refine G0 ?_;rw[e0];(exact⟨[],aI⟩)
  ·rw[show decide ((0:Int)<(wh.length:Int))=false from ZY (by omega)];refine G0 ?_;rw[e0];(exact⟨[],aI⟩)
 rw[if_neg c3]at e0;rw[show decide ((20:Int)<((wh.map Wh.row).length:Int))=false from ZY (by rw[ZE];omega)];refine G0 ?_;rw[show(F6 ms==0)=true from ZR.2 c2];refine G0 ?_;(refine .inl ⟨_,_,false,[],aI,Xk f,Ab,nI,?_⟩);refine G1 ?_;intro gg;by_cases c4:f.err=0;rotate_left
 ·rw[if_pos c4]at e0;(refine⟨[],none,Unit,[4],fun _=>[(11,.v (.int .i64 (f.err))),(12,.v (.int .i64 0))],[],fun _=>[],fun _=>0,trivial,fun _=>⟨trivial,fun _=>⟨(),tI,Af _ _,tI,Ae _ _⟩⟩,fun _=>?_⟩);refine G0 ?_;simp only[ZE];by_cases c9:0<wh.length
  ·rw[show decide ((0:Int)<(wh.length:Int))=true from ZX (by omega)];refine G0 ?_;rw[show((f.err)==0)=false from ZG.2 c4];refine G0 ?_;rw[e0];(exact⟨[],aI⟩)
  ·rw[show decide ((0:Int)<(wh.length:Int))=false from ZY (by omega)];refine G0 ?_;rw[e0];(exact⟨[],aI⟩)
 rw[if_neg (by simpa using c4)]at e0;rw[c4];(refine⟨[],none,{p:Nat×Int//p.1≤wh.length∧(p.2=0→∀j,(h:j<wh.length)→j<p.1→wh[j].pl.err=0)∧(p.2≠0→Cp (wh.map fun w=>w.pl.err)=p.2)},[4],fun⟨⟨k,e⟩,hk,h0,h1⟩=>[(11,.v (.int .i64 e)),(12,.v (.int .i64 (k:Int)))],[],fun⟨⟨k,e⟩,hk,h0,h1⟩=>[],fun⟨⟨k,e⟩,hk,h0,h1⟩=>wh.length-k,trivial,fun _=>⟨trivial,fun _=>⟨⟨(0,0),ZU _,(fun _ j _ h=>by omega),fun h=>absurd rfl h⟩,tI,Af _ _,tI,Ae _ _⟩⟩,fun⟨⟨k,e⟩,hk,h0,h1⟩=>?_⟩);simp only at hk h0 h1;refine G0 ?_;simp only[ZE];by_cases c5:k<wh.length
 ·rw[show decide ((k:Int)<(wh.length:Int))=true from ZX (by omega)];refine G0 ?_;by_cases c6:e=0
  ·rw[show(e==0)=true from ZR.2 c6];refine G0 ?_;refine⟨k,_,rfl,Ad c5,?_⟩;refine G0 ?_;(refine .inl ⟨_,_,false,[],aI,Xk wh[k].pl,Ab,nI,?_⟩);refine G1 ?_;intro gg;(exact⟨none,trivial,fun _=>⟨⟨(k+1,wh[k].pl.err),by show k+1≤_;omega,fun hz=>up1 (p:=fun j h=>wh[j].pl.err=0) (h0 c6) (fun _=>hz),fun hn=>Asf c5 (h0 c6) hn⟩,by show wh.length-(k+1)<wh.length-k;omega,tI,tI,tI,tI⟩⟩)
  ·rw[show(e==0)=false from ZG.2 c6];refine G0 ?_;rw[e0,h1 c6];(exact⟨[],aI⟩)
 ·rw[show decide ((k:Int)<(wh.length:Int))=false from ZY (by omega)];have e1:Cp (wh.map fun w=>w.pl.err)=e:=by
   by_cases c6:e=0
   ·rw[c6];exact I1 fun j hj=>by rw[XQ];exact h0 c6 j (by simpa using hj) (by simp at hj;omega)
   ·exact h1 c6
  refine G0 ?_;rw[e0,e1];(exact⟨[],aI⟩)
theorem Ahq(k:Kn)(q:Qr)(t:Int)(nm name:ByteArray)(hl:k.ms.length≤1000)(hm:Aj9 (Mb.cf name) k.ms):Fun Tryz.prog 51 [.c (.rptr (k.ask q t nm) 0),.c (.v (.string name))] [.c (.v (.bool (Cc k.ms name)))]:=by
 refine Ar Q2 rfl ?_;refine G0 ?_;(refine .inl ⟨_,_,false,[],aI,Ad0 false k.ms name hl hm,Ab,nI,?_⟩);refine G1 ?_;intro gg;have e0:Cc k.ms name=bif hit (Mb.cf name) k.ms then(match k.ms[low (Mb.cf name) k.ms]? with
  |some m=>decide (3≤m.st)
  |none=>false)else false:=rfl
 by_cases hh:hit (Mb.cf name) k.ms=true
 ·have hlt:=Mx hh;rw[hh]at e0 ⊢;rw[cond_true,ZC hlt]at e0;refine G0 ?_;refine⟨low (Mb.cf name) k.ms,_,rfl,Ad hlt,?_⟩;refine G0 ?_;rw[e0];(exact⟨[],aI⟩)
 ·rw[XE.2 hh]at e0 ⊢;rw[cond_false]at e0;refine G0 ?_;rw[e0];(exact⟨[],aI⟩)
namespace Pl
def C3(here:ByteArray)(t:Int)(nm:ByteArray)(s:Sv):Rr×Int:=
 if t=1 then(⟨nm,t,0,s.ad,⟨#[]⟩,0,⟨#[]⟩⟩,0)
 else if t=16 then(⟨nm,t,0,0,s.id,0,⟨#[]⟩⟩,0)
 else if t=33 then
  if(Ah ⟨⟨#[]⟩,⟨#[]⟩,s.nd,here⟩).2≠0 then(⟨nm,t,0,0,⟨#[]⟩,0,⟨#[]⟩⟩,(Ah ⟨⟨#[]⟩,⟨#[]⟩,s.nd,here⟩).2)
  else(⟨nm,t,0,0,⟨#[]⟩,s.pt,(Ah ⟨⟨#[]⟩,⟨#[]⟩,s.nd,here⟩).1⟩,0)
 else(⟨nm,t,0,0,⟨#[]⟩,0,⟨#[]⟩⟩,0)
def Jc(k:Kn)(q:Qr)(t:Int)(nm:ByteArray):List Rr×Int:=
 if hit (Mb.cf q.nd) k.ms=false∨Cc k.ms q.nd=true then([],3)
 else if t≠1 then([],0)
 else match k.ms[low (Mb.cf q.nd) k.ms]? with
  |some m=>([⟨nm,t,0,m.ad,⟨#[]⟩,0,⟨#[]⟩⟩],0)
  |none=>([],0)
end Pl
theorem V5(k:Kn)(q:Qr)(t:Int)(nm:ByteArray)(off:Nat):Cl (.rptr (k.ask q t nm) off):=Amc fun u hu=>by
 simp only[Kn.ask,XC,XD,or_false]at hu;rcases hu with rfl|rfl|rfl|rfl|rfl|rfl|rfl|rfl|rfl|rfl|rfl|rfl|rfl|rfl|rfl
 all_goals first
  |exact As rfl
  |exact He
theorem Ain(k:Kn)(q:Qr)(t:Int)(nm:ByteArray)(s:Sv)(hk:k.here.size≤9223372036854775807)(hs:s.nd.size≤9223372036854775807):Fun Tryz.prog 53 [.c (.rptr (k.ask q t nm) 0),.c (.agg s.row)] [.c (.agg (C3 k.here t nm s).1.row),.c (.v (.int .i64 (C3 k.here t nm s).2))]:=by
 have hz:(⟨#[]⟩:ByteArray).size≤9223372036854775807:=by decide
 have hP:=Ev ⟨⟨#[]⟩,⟨#[]⟩,s.nd,k.here⟩ ⟨hz,hz,hs,hk⟩;refine Ae5 Ox rfl ?_;(refine goI ?_;repeat (intro gg;refine goI ?_));by_cases t1:t=1
 ·rw[show(t==1)=true from ZR.2 t1,show C3 k.here t nm s=(⟨nm,t,0,s.ad,⟨#[]⟩,0,⟨#[]⟩⟩,0)from if_pos t1];refine G0 ?_;exact Cn (As rfl) (As rfl) (.cell1 rfl rfl rfl rfl rfl rfl (.tmp1 rfl .nil))
 rw[show(t==1)=false from ZG.2 t1];refine G0 ?_;by_cases t16:t=16
 ·rw[show(t==16)=true from ZR.2 t16,show C3 k.here t nm s=(⟨nm,t,0,0,s.id,0,⟨#[]⟩⟩,0)from(if_neg t1).trans (if_pos t16)];refine G0 ?_;exact Cn (As rfl) (As rfl) (.cell1 rfl rfl rfl rfl rfl rfl (.tmp1 rfl .nil))
 rw[show(t==16)=false from ZG.2 t16];refine G0 ?_;by_cases t33:t=33;rotate_left
 ·rw[show(t==33)=false from ZG.2 t33,show C3 k.here t nm s=(⟨nm,t,0,0,⟨#[]⟩,0,⟨#[]⟩⟩,0)from(if_neg t1).trans ((if_neg t16).trans (if_neg t33))];refine G0 ?_;exact Cn (As rfl) (As rfl) (.cell1 rfl rfl rfl rfl rfl rfl (.tmp1 rfl .nil))
 have e0:C3 k.here t nm s=if(Ah ⟨⟨#[]⟩,⟨#[]⟩,s.nd,k.here⟩).2≠0 then(⟨nm,t,0,0,⟨#[]⟩,0,⟨#[]⟩⟩,(Ah ⟨⟨#[]⟩,⟨#[]⟩,s.nd,k.here⟩).2)
  else(⟨nm,t,0,0,⟨#[]⟩,s.pt,(Ah ⟨⟨#[]⟩,⟨#[]⟩,s.nd,k.here⟩).1⟩,0):=(if_neg t1).trans ((if_neg t16).trans (if_pos t33))
 rw[show(t==33)=true from ZR.2 t33];generalize Ah ⟨⟨#[]⟩,⟨#[]⟩,s.nd,k.here⟩=P at *;refine G0 ?_;(refine .inl ⟨_,_,false,[],aI,hP,Ab,nI,?_⟩);refine G1 ?_;intro gg;by_cases c:P.2=0;rotate_left
 ·rw[if_pos c]at e0;rw[e0,show(P.2 !=0)=true from ZZ.2 c];refine G0 ?_;exact Cn (As rfl) (As rfl) (.cell1 rfl rfl rfl rfl rfl rfl (.tmp1 rfl .nil))
 ·rw[if_neg (by simpa using c)]at e0;rw[e0,c];refine G0 ?_;exact Cn (As rfl) (As rfl) (.cell1 rfl rfl rfl rfl rfl rfl (.tmp1 rfl .nil))
theorem Ane(k:Kn)(q:Qr)(t:Int)(nm:ByteArray)(hl:k.ms.length≤1000)(hm:Aj9 (Mb.cf q.nd) k.ms):Fun Tryz.prog 22 [.c (.rptr (k.ask q t nm) 0)] [.o 42 7 ((Jc k q t nm).1.map Rr.row),.c (.v (.int .i64 (Jc k q t nm).2)),.c (.v (.int .i64 0))]:=by
 refine Ar P7 rfl ?_;refine G0 ?_;(refine .inl ⟨_,_,false,[],aI,Ad0 false k.ms q.nd hl hm,Ab,nI,?_⟩);refine G1 ?_;intro gg;by_cases hh:hit (Mb.cf q.nd) k.ms=true;rotate_left
 ·have e0:Jc k q t nm=([],3):=if_pos (.inl (XE.2 hh));rw[e0,XE.2 hh];refine G0 ?_;(exact⟨[],aI⟩)
 have hlt:=Mx hh;rw[hh];refine G0 ?_;(refine .inl ⟨_,_,false,[],.same (V5 k q t nm 0) (.same (As rfl) (.nil _)),Ahq k q t nm q.nd hl hm,Ab,nI,?_⟩);refine G1 ?_;intro gg;by_cases ha:Cc k.ms q.nd=true
 ·have e0:Jc k q t nm=([],3):=if_pos (.inr ha);rw[e0,ha];refine G0 ?_;(exact⟨[],aI⟩)
 rw[XE.2 ha];have e0:Jc k q t nm=(if t≠1 then([],0)else match k.ms[low (Mb.cf q.nd) k.ms]? with
  |some m=>([⟨nm,t,0,m.ad,⟨#[]⟩,0,⟨#[]⟩⟩],0)
  |none=>([],0):List Rr×Int):=if_neg (fun z=>z.elim (fun z=>by rw[hh]at z;cases z) ha)
 refine G0 ?_;by_cases t1:t=1;rotate_left
 ·rw[if_pos t1]at e0;rw[e0,show(t !=1)=true from ZZ.2 t1];refine G0 ?_;(exact⟨[],aI⟩)
 rw[if_neg (by simpa using t1),ZC hlt]at e0;change Jc k q t nm=([⟨nm,t,0,(k.ms[low (Mb.cf q.nd) k.ms]).ad,⟨#[]⟩,0,⟨#[]⟩⟩],0)at e0;rw[e0,show(t !=1)=false from by simpa using t1];refine G0 ?_;refine⟨low (Mb.cf q.nd) k.ms,_,rfl,Ad hlt,?_⟩;refine G1 ?_;intro gg;(exact⟨[848],aI⟩)
namespace Pl
def Jx(k:Kn)(q:Qr)(t:Int)(nm:ByteArray)(F:List Sv):List Rr×Int×Int:=
 if Cp (F.map fun s=>(C3 k.here t nm s).2)≠0 then([],0,Cp (F.map fun s=>(C3 k.here t nm s).2))
 else if(C8 k.l q.sv ⟨#[]⟩).2.length=0 then([],3,0)
 else(F.map fun s=>(C3 k.here t nm s).1,0,0)
end Pl
set_option maxHeartbeats 1000000 in
theorem Aea(k:Kn)(q:Qr)(t:Int)(nm:ByteArray)(F:List Sv)(hk:k.In)(hq:q.ok)(hn:F.length≤1000)(hs:∀s∈F,s.nd.size≤9223372036854775807)(hF:Fun Tryz.prog 52 [.c (.rptr (k.ask q t nm) 0)] [.c (.sl false (F.map Sv.row))]):
  Fun Tryz.prog 23 [.c (.rptr (k.ask q t nm) 0)] [.o 42 7 ((Jx k q t nm F).1.map Rr.row),.c (.v (.int .i64 (Jx k q t nm F).2.1)),.c (.v (.int .i64 (Jx k q t nm F).2.2))]:=by
 refine Ar N7 rfl ?_;refine G0 ?_;(refine .inl ⟨_,_,false,[],.same (V5 k q t nm 0) (.nil _),hF,Ab,nI,?_⟩);refine G1 ?_;intro gg;(refine⟨[(5,496,42,7)],none,{p:Nat×Nat//p.1≤F.length∧∀j,(h:j<F.length)→j<p.1→(C3 k.here t nm F[j]).2=0},[0,13,14],fun⟨⟨i,g⟩,hi,h0⟩=>[(5,.own 496 g),(15,.v (.int .i64 (i:Int)))],[],fun⟨⟨i,g⟩,hi,h0⟩=>[(496,⟨g,.t 42,7,((F.take i).map fun s=>(C3 k.here t nm s).1).map Rr.row⟩)],fun⟨⟨i,g⟩,hi,h0⟩=>F.length-i,(by exact⟨rfl,by decide,(fun _ _ _ _ h=>by cases h),trivial⟩),fun gs=>⟨trivial,fun _=>⟨⟨(0,gs 496),ZU _,fun j _ h=>by omega⟩,tI,tI,tI,tI⟩⟩,fun⟨⟨i,g⟩,hi,h0⟩=>?_⟩);simp only at hi h0;have hli:(((F.take i).map fun s=>(C3 k.here t nm s).1).map Rr.row).length=i:=by rw[ZE,ZE,ZM];omega
 refine G0 ?_;simp only[ZE];by_cases c:i<F.length
 ·rw[show decide ((i:Int)<(F.length:Int))=true from ZX (by omega)];have hR:=Ain k q t nm F[i] hk.here (hs _ (ZK c));refine G0 ?_;refine⟨i,_,rfl,Ad c,?_⟩;refine G1 ?_;intro gg;(refine .inl ⟨_,_,false,[],.same (V5 k q t nm 0) (.same (As rfl) (.nil _)),hR,Ab,nI,?_⟩);(refine goI ?_;repeat (intro gg;refine goI ?_));by_cases e:(C3 k.here t nm F[i]).2=0;rotate_left
  ·have e1:Cp (F.map fun s=>(C3 k.here t nm s).2)=(C3 k.here t nm F[i]).2:=by
    have:=M9 (l:=F.map fun s=>(C3 k.here t nm s).2) (k:=i) (by simpa using c) (fun j h hj=>by rw[XQ];exact h0 j (by simpa using h) hj) (by rw[XQ];exact e);rw[this,XQ]
   have e0:Jx k q t nm F=([],0,(C3 k.here t nm F[i]).2):=by unfold Jx;rw[e1,if_pos e]
   rw[e0,show((C3 k.here t nm F[i]).2 !=0)=true from ZZ.2 e];refine G0 ?_;(exact⟨[],aI⟩)
  have ht:((F.take i).map fun s=>(C3 k.here t nm s).1).map Rr.row++[Rr.row (C3 k.here t nm F[i]).1]=((F.take (i+1)).map fun s=>(C3 k.here t nm s).1).map Rr.row:=by
   rw[XT,ZC c,ZI,ZI];rfl
  have hti:(F.take i).length=i:=by rw[ZM];omega
  rw[e];refine G1 ?_;intro gg;refine⟨lI,lI,?_⟩;refine G1 ?_;intro gg;(exact⟨none,trivial,fun gr=>⟨⟨(i+1,gg),by show i+1≤_;omega,up1 (p:=fun j h=>(C3 k.here t nm F[j]).2=0) h0 (fun _=>e)⟩,by show F.length-(i+1)<F.length-i;omega,tI,tI,⟨congrArg (fun r=>some (Ent.mk gg (.t 42) 7 r)) ht,trivial⟩,tI⟩⟩)
 ·rw[show decide ((i:Int)<(F.length:Int))=false from ZY (by omega)];have e1:Cp (F.map fun s=>(C3 k.here t nm s).2)=0:=I1 fun j hj=>by rw[XQ];exact h0 j (by simpa using hj) (by simp at hj;omega)
  obtain rfl:i=F.length:=by omega
  refine G0 ?_;(refine .inl ⟨_,_,false,[],aI,Apm k.l q.sv ⟨#[]⟩ hk.ll hk.lo hq.1 (by decide),Ab,nI,?_⟩);refine G1 ?_;intro gg;rw[ZE];have e2:Jx k q t nm F=(if(C8 k.l q.sv ⟨#[]⟩).2.length=0 then([],3,0)else(F.map fun s=>(C3 k.here t nm s).1,0,0):List Rr×Int×Int):=by unfold Jx;rw[e1];rfl
  by_cases f:(C8 k.l q.sv ⟨#[]⟩).2.length=0
  ·rw[if_pos f]at e2;rw[e2,f];refine G0 ?_;(exact⟨[],aI⟩)
  ·rw[if_neg f]at e2;rw[e2,show(((C8 k.l q.sv ⟨#[]⟩).2.length:Int)==0)=false from ZG.2 (by omega)];refine G0 ?_;rw[XF];(exact⟨[496],aI⟩)
namespace Pl
def Jt(k:Kn)(q:Qr)(t:Int):Int:=if q.err≠0 then q.err else if Fk t=false then 7 else k.err
def C7(k:Kn)(q:Qr)(t:Int)(F:List Sv):List Rr×Int×Int:=
 if Jt k q t≠0 then([],0,Jt k q t)
 else if(Ah q).2≠0 then([],0,(Ah q).2)
 else if em q.ce=false∧(q.ce.toList==k.here.toList)=false then([],3,0)
 else if em q.nd=false then((Jc k q t (Ah q).1).1,(Jc k q t (Ah q).1).2,0)
 else Jx k q t (Ah q).1 F
end Pl
theorem Yy(k:Kn)(q:Qr)(t:Int)(nm:ByteArray):∀u∈k.ask q t nm,Cl u:=fun u hu=>by
 simp only[Kn.ask,XC,XD,or_false]at hu;rcases hu with rfl|rfl|rfl|rfl|rfl|rfl|rfl|rfl|rfl|rfl|rfl|rfl|rfl|rfl|rfl
 all_goals first
  |exact As rfl
  |exact He
theorem At9{k:Kn}(h:k.err=0):k.ms.length≤20∧∀name,Aj9 (Mb.cf name) k.ms:=by
 have hc:F6 k.ms=0:=by
  unfold Kn.err at h;cases h0:(!lab k.here.data.toList)with
  |true=>rw[h0]at h;exact absurd h (by decide:(1:Int)≠0)
  |false=>
   rw[h0,cond_false]at h;by_cases h1:Ei k.l≠0
   ·rw[if_pos h1]at h;exact absurd h h1
   ·rw[if_neg h1]at h;by_cases h2:F6 k.ms≠0
    ·rw[if_pos h2]at h;exact absurd h h2
    ·exact Decidable.not_not.1 h2
 obtain⟨h1,_,h3⟩:=P4 hc;exact⟨h1,fun name=>(Mb.smono h3 name).mono⟩
set_option maxHeartbeats 1000000 in
theorem Ah4(k:Kn)(q:Qr)(t:Int)(F:List Sv)(hk:k.In)(hq:q.ok)(hn:F.length≤1000)(hs:∀s∈F,s.nd.size≤9223372036854775807)(hF:Jt k q t=0→Fun Tryz.prog 52 [.c (.rptr (k.ask q t (Ah q).1) 0)] [.c (.sl false (F.map Sv.row))]):
  Fun Tryz.prog 8 [.c (.agg q.row),.c (.v (.int .i64 t)),.c (.v (.string k.here)),.c (.sl false (k.l.map Sv.row)),.c (.sl false (k.ms.map Mb.row)),.c (.agg k.f.row),.c (.sl false (k.wh.map Wh.row))]
   [.o 42 7 ((C7 k q t F).1.map Rr.row),.c (.v (.int .i64 (C7 k q t F).2.1)),.c (.v (.int .i64 (C7 k q t F).2.2))]:=by
 have hE:Jt k q t=if q.err≠0 then q.err else if Fk t=false then 7 else k.err:=rfl
 have hA:C7 k q t F=(if Jt k q t≠0 then([],0,Jt k q t)
  else if(Ah q).2≠0 then([],0,(Ah q).2)
  else if em q.ce=false∧(q.ce.toList==k.here.toList)=false then([],3,0)
  else if em q.nd=false then((Jc k q t (Ah q).1).1,(Jc k q t (Ah q).1).2,0)
  else Jx k q t (Ah q).1 F:List Rr×Int×Int):=rfl
 refine Ar Vd rfl ?_;(refine goI ?_;repeat (intro gg;refine goI ?_));(refine .inl ⟨_,_,false,[],aI,Abb q hq,Ab,nI,?_⟩);refine G1 ?_;intro gg;by_cases c1:q.err=0;rotate_left
 ·rw[if_pos c1]at hE;rw[hE,if_pos c1]at hA;rw[hA,show(q.err==0)=false from ZG.2 c1];refine G0 ?_;rw[show(q.err==0)=false from ZG.2 c1];refine G0 ?_;rw[show(q.err !=0)=true from ZZ.2 c1];refine G0 ?_;(exact⟨[],aI⟩)
 rw[if_neg (by simpa using c1)]at hE;rw[show(q.err==0)=true from ZR.2 c1];refine G0 ?_;(refine .inl ⟨_,_,false,[],aI,Te t,Ab,nI,?_⟩);refine G1 ?_;intro gg;by_cases c2:Fk t=true;rotate_left
 ·rw[if_pos (XE.2 c2)]at hE;rw[hE,if_pos (by decide)]at hA;rw[hA,XE.2 c2];refine G0 ?_;(exact⟨[],aI⟩)
 rw[if_neg (by simpa using c2)]at hE;rw[c2];refine G0 ?_;rw[show(q.err==0)=true from ZR.2 c1];refine G0 ?_;(refine .inl ⟨_,_,false,[],aI,Adr k hk,Ab,nI,?_⟩);refine G1 ?_;intro gg;by_cases c3:k.err=0;rotate_left
 ·rw[hE,if_pos c3]at hA;rw[hA,show(k.err !=0)=true from ZZ.2 c3];refine G0 ?_;(exact⟨[],aI⟩)
 have hFF:=hF (hE.trans c3);rw[hE,if_neg (by simpa using c3)]at hA;rw[c3];have hP:=Ev q hq;refine G1 ?_;intro gg;revert gg;intro ga;(refine .inl ⟨_,_,false,[],aI,hP,Ab,nI,?_⟩);generalize Ah q=P at *;refine G1 ?_;intro gg;by_cases c4:P.2=0;rotate_left
 ·rw[if_pos c4]at hA;rw[hA,show(P.2 !=0)=true from ZZ.2 c4];refine G0 ?_;(exact⟨[],aI⟩)
 rw[if_neg (by simpa using c4)]at hA;rw[c4];have hEc:em q.ce=(q.ce.toList==(⟨#[]⟩:ByteArray).toList):=rfl;have hEn:em q.nd=(q.nd.toList==(⟨#[]⟩:ByteArray).toList):=rfl;have hms:=At9 c3;have hN:=Ane k q t P.1 (by omega) (hms.2 q.nd);have hSv:=Aea k q t P.1 F hk hq hn hs hFF;refine G0 ?_;by_cases d1:em q.ce=false∧(q.ce.toList==k.here.toList)=false
 ·rw[if_pos d1]at hA;rw[←hEc,d1.1];refine G0 ?_;rw[d1.2,hA];refine G0 ?_;(exact⟨[],aI⟩)
 rw[if_neg d1]at hA;have Bz:∀b,b=em q.nd→True:=fun _ _=>trivial;rw[←hEc];by_cases d2:em q.ce=true
 ·rw[d2];refine G0 ?_;rw[←hEn];by_cases d4:em q.nd=false
  ·rw[if_pos d4]at hA;rw[d4,hA];refine G0 ?_;(refine .inl ⟨_,_,true,[],.borp rfl rfl rfl (Yy k q t P.1) (by decide) (.nil _),hN,(fun _=>fI),nI,?_⟩);refine G1 ?_;intro gg;(exact⟨[1184],aI⟩)
  rw[if_neg d4]at hA;rw[show em q.nd=true from by simpa using d4,hA];refine G0 ?_;(refine .inl ⟨_,_,true,[],.borp rfl rfl rfl (Yy k q t P.1) (by decide) (.nil _),hSv,(fun _=>fI),nI,?_⟩);refine G1 ?_;intro gg;(exact⟨[1264],aI⟩)
 ·have d3:(q.ce.toList==k.here.toList)=true:=by
   rw[XE.2 d2]at d1;simpa using d1
  rw[XE.2 d2];refine G0 ?_;rw[d3];refine G0 ?_;rw[←hEn];by_cases d4:em q.nd=false
  ·rw[if_pos d4]at hA;rw[d4,hA];refine G0 ?_;(refine .inl ⟨_,_,true,[],.borp rfl rfl rfl (Yy k q t P.1) (by decide) (.nil _),hN,(fun _=>fI),nI,?_⟩);refine G1 ?_;intro gg;(exact⟨[1184],aI⟩)
  rw[if_neg d4]at hA;rw[show em q.nd=true from by simpa using d4,hA];refine G0 ?_;(refine .inl ⟨_,_,true,[],.borp rfl rfl rfl (Yy k q t P.1) (by decide) (.nil _),hSv,(fun _=>fI),nI,?_⟩);refine G1 ?_;intro gg;(exact⟨[1264],aI⟩)
namespace Pl
def Cr(s:ByteArray)(a:Nat):Option (Nat×Nat):=(s[a]?).map fun c=>(c.toNat,a+1)
def Bt(s:ByteArray)(a:Nat):Option (Nat×Nat):=(Cr s a).bind fun p=>(Cr s p.2).bind fun q=>some (p.1*256+q.1,q.2)
def Gp(s:ByteArray)(a:Nat):Option (Nat×Nat):=(Bt s a).bind fun p=>(Bt s p.2).bind fun q=>some (p.1*65536+q.1,q.2)
def Fo(s:ByteArray)(a n:Nat):Option (ByteArray×Nat):=if a+n≤s.size then some (s.extract a (a+n),a+n)else none
def F8(c:UInt8):UInt8:=if 65≤c.toNat∧c.toNat≤90 then c+32 else c
def C6(s:ByteArray):ByteArray:=⟨(s.data.toList.map F8).toArray⟩
def nameR(s:ByteArray):Nat→Nat→List ByteArray→Option Nat→Nat→Option (List ByteArray×Nat)
 |0,_,_,_,_=>none
 |f+1,a,l,e,fr=>
  if l.length≤8 then
   (Cr s a).bind fun p=>
    if p.1=0 then some (l,e.getD p.2)
    else if 192≤p.1 then(Cr s p.2).bind fun q=>
     if p.1%64*256+q.1<fr then nameR s f (p.1%64*256+q.1) l (some (e.getD q.2)) (p.1%64*256+q.1)else none
    else(Fo s p.2 p.1).bind fun q=>if lab (C6 q.1).data.toList=true then nameR s f q.2 (l++[C6 q.1]) e fr else none
  else none
def Eq(s:ByteArray)(a:Nat):Option (ByteArray×Nat):=(nameR s (a+10) a [] none a).map fun p=>(Df ⟨#[46]⟩ p.1,p.2)
def Il(s:ByteArray)(t a:Nat):Option ((Nat×ByteArray×Nat×ByteArray)×Nat):=
 if t=1 then(Gp s a).bind fun p=>some ((p.1,⟨#[]⟩,0,⟨#[]⟩),p.2)
 else if t=16 then(Cr s a).bind fun p=>(Fo s p.2 p.1).bind fun q=>some ((0,q.1,0,⟨#[]⟩),q.2)
 else if t=33 then(Bt s a).bind fun p=>if p.1=0 then(Bt s p.2).bind fun q=>if q.1=0 then(Bt s q.2).bind fun r=>(Eq s r.2).bind fun n=>some ((0,⟨#[]⟩,r.1,n.1),n.2)else none else none
 else none
def Pp(s:ByteArray)(a:Nat):Option (Rr×Nat):=
 (Eq s a).bind fun n=>(Bt s n.2).bind fun t=>(Bt s t.2).bind fun c=>if c.1=1 then
  (Gp s c.2).bind fun ls=>(Bt s ls.2).bind fun k=>if k.2+k.1≤s.size then
   (Il s t.1 k.2).bind fun b=>if b.2=k.2+k.1 then some (⟨n.1,t.1,ls.1,b.1.1,b.1.2.1,b.1.2.2.1,b.1.2.2.2⟩,b.2)else none
  else none
 else none
def Fg(s:ByteArray):Nat→Nat→Option (List Rr×Nat)
 |0,a=>some ([],a)
 |k+1,a=>(Pp s a).bind fun r=>(Fg s k r.2).bind fun l=>some (r.1::l.1,l.2)
end Pl
theorem Aat{s:ByteArray}{a v a':Nat}(h:Cr s a=some (v,a')):∃c,s[a]? =some c∧v=c.toNat∧a'=a+1∧a<s.size:=by
 unfold Cr at h;obtain⟨c,h1,h2⟩:=Option.map_eq_some_iff.1 h;cases h2;refine⟨c,h1,rfl,rfl,?_⟩;exact(getElem?_eq_some_iff.1 h1).1
theorem C4{s:ByteArray}{a v a':Nat}(h:Cr s a=some (v,a')):v<256∧a'=a+1∧a'≤s.size:=by
 obtain⟨c,_,rfl,rfl,h4⟩:=Aat h;exact⟨c.toNat_lt,rfl,h4⟩
def SmR(w:World)(B n:Nat)(l:List UInt8):Prop:=
 ∃C hi,w.heap[B]? =some (.cells C 5 (C.size,hi))∧n≤C.size∧l.length=n∧∀(j:Nat) (x:UInt8),l[j]? =some x→C[j]? =some (Value.int .u8 (x.toNat:Int))
theorem SmR.cell{w:World}{B n:Nat}{l:List UInt8}(h:SmR w B n l){j:Nat}{x:UInt8}(hx:l[j]? =some x):w.cell? ⟨B,j,none⟩=some (.int .u8 (x.toNat:Int)):=by
 obtain⟨C,hi,h1,h2,h3,h4⟩:=h;unfold World.cell?;rw[h1];exact h4 j x hx
theorem SmR.frozen{w:World}{B n:Nat}{l:List UInt8}(h:SmR w B n l){j:Nat}(hj:j<n):w.frozen? ⟨B,j,none⟩=false:=by
 obtain⟨C,hi,h1,h2,h3,h4⟩:=h;unfold World.frozen?;simp only[h1];simp;omega
theorem Kf{s:ByteArray}{a n:Nat}{v:ByteArray}{a':Nat}(h:Fo s a n=some (v,a')):a+n≤s.size∧v=s.extract a (a+n)∧a'=a+n∧v.size=n:=by
 unfold Fo at h;split at h
 ·cases h;refine⟨by assumption,rfl,rfl,?_⟩;rw[ByteArray.size_extract];omega
 ·cases h
structure NmI(s:ByteArray)(R:Option (List ByteArray×Nat))(a:Nat)(l:List ByteArray)(e:Option Nat)(fr f:Nat):Prop where
 hr:nameR s f a l e fr=R
 ha:a≤s.size
 hfr:fr≤s.size
 hl:l.length≤9
 hf:fr+9<f+l.length
 hz:∀x∈l,x.size≤30
 he:∀n,e=some n→n≤s.size
theorem Zn{l:List ByteArray}(h:∀x∈l,x.size≤30)(hl:l.length≤9):(Df ⟨#[46]⟩ l).size≤1000:=by
 have key:∀l:List ByteArray,(∀x∈l,x.size≤30)→(Lib.join (l.map (·.data.toList)) [46]).length≤31*l.length:=by
  intro l
  induction l with
  |nil=>intro _;simp[Lib.join]
  |cons x l ih=>
   intro h;have h1:=h x (by simp);have h2:=ih fun y hy=>h y (by simp[hy]);have h3:x.data.toList.length=x.size:=by simp
   cases l with
   |nil=>simp[Lib.join];omega
   |cons y l=>
    have e:Lib.join ((x::y::l).map (·.data.toList)) [46]=x.data.toList++[46]++Lib.join ((y::l).map (·.data.toList)) [46]:=by simp[Lib.join]
    rw[e];simp only[ZF,ZJ,ZN]at h2 ⊢;omega
 have:=key l h;unfold Df;show(Lib.join (l.map (·.data.toList)) [46]).toArray.size≤1000;rw[List.size_toArray];omega
theorem Wm{x:ByteArray}(h:lab x.data.toList=true):x.size≤30:=by
 unfold lab at h;simp at h;have:x.data.toList.length=x.size:=by rw[Array.length_toList];rfl
 omega
theorem Ahx{e:Option Nat}{k S:Nat}(h:∀n,e=some n→n≤S)(hk:k≤S):∀n,some (e.getD k)=some n→n≤S:=by
 intro n hn;cases hn;cases e with
 |none=>exact hk
 |some m=>exact h m rfl
theorem Apx{s:ByteArray}:∀{f a:Nat} {l:List ByteArray} {e:Option Nat} {fr:Nat} {ls:List ByteArray} {a':Nat},nameR s f a l e fr=some (ls,a')→(∀x∈l,lab x.data.toList=true)→(∀n,e=some n→n≤s.size)→
  a'≤s.size∧(∀x∈ls,lab x.data.toList=true)∧ls.length≤8:=by
 intro f
 induction f with
 |zero=>intro a l e fr ls a' h;cases h
 |succ f ih=>
  intro a l e fr ls a' h hl he;rw[nameR]at h;by_cases c1:l.length≤8
  ·rw[if_pos c1]at h;rcases e1:Cr s a with _|⟨n,k1⟩
   ·rw[e1]at h;cases h
   have b1:=C4 e1;rw[e1,ZA]at h;simp only at h;by_cases c2:n=0
   ·rw[if_pos c2]at h;obtain⟨rfl,rfl⟩:l=ls∧e.getD k1=a':=by simpa using h
    refine⟨?_,hl,c1⟩;cases e with
    |none=>exact b1.2.2
    |some m=>exact he m rfl
   rw[if_neg c2]at h;by_cases c3:192≤n
   ·rw[if_pos c3]at h;rcases e2:Cr s k1 with _|⟨q,k2⟩
    ·rw[e2]at h;cases h
    have b2:=C4 e2;rw[e2,ZA]at h;simp only at h;split at h
    ·exact ih h hl (Ahx he b2.2.2)
    ·cases h
   ·rw[if_neg c3]at h;rcases e3:Fo s k1 n with _|⟨x,k2⟩
    ·rw[e3]at h;cases h
    rw[e3,ZA]at h;simp only at h;split at h
    ·rename_i c4;exact ih h (fun y hy=>by
      rcases XM.1 hy with hy|hy
      ·exact hl y hy
      ·simp at hy;subst hy;exact c4) he
    ·cases h
  ·rw[if_neg c1]at h;cases h
theorem Ij{s:ByteArray}{a a':Nat}{v:ByteArray}(h:Eq s a=some (v,a')):a'≤s.size∧v.size≤1000:=by
 obtain⟨⟨ls,a2⟩,hr,hv⟩:=Option.map_eq_some_iff.1 h;simp only[Prod.mk.injEq]at hv;obtain⟨rfl,rfl⟩:=hv;have b:=Apx hr (by simp) (by simp);exact⟨b.1,Zn (fun x hx=>Wm (b.2.1 x hx)) (by omega)⟩
theorem Yv{s:ByteArray}{a a':Nat}{v:Rr}(h:Pp s a=some (v,a')):a'≤s.size∧v.nm.size≤1000∧v.tx.size≤s.size∧v.tg.size≤1000:=by
 unfold Pp at h;rcases e1:Eq s a with _|⟨nm,a1⟩
 ·rw[e1]at h;cases h
 rw[e1,ZA]at h;simp only at h;rcases e2:Bt s a1 with _|⟨t,a2⟩
 ·rw[e2]at h;cases h
 rw[e2,ZA]at h;simp only at h;rcases e3:Bt s a2 with _|⟨one,a3⟩
 ·rw[e3]at h;cases h
 rw[e3,ZA]at h;simp only at h;split at h
 ·rcases e4:Gp s a3 with _|⟨ls,a4⟩
  ·rw[e4]at h;cases h
  rw[e4,ZA]at h;simp only at h;rcases e5:Bt s a4 with _|⟨n,a5⟩
  ·rw[e5]at h;cases h
  rw[e5,ZA]at h;simp only at h;split at h
  ·rename_i c5;rcases e6:Il s t a5 with _|⟨⟨ad,tx,pt,tg⟩,a6⟩
   ·rw[e6]at h;cases h
   rw[e6,ZA]at h;simp only at h;split at h
   ·rename_i c6;cases h;have b1:=(Ij e1).2;have key:tx.size≤s.size∧tg.size≤1000:=by
     unfold Il at e6;split at e6
     ·rcases f1:Gp s a5 with _|⟨x1,y1⟩<;>rw[f1]at e6<;>cases e6;exact⟨ZU _,ZU _⟩
     ·split at e6
      ·rcases f1:Cr s a5 with _|⟨x1,y1⟩
       ·rw[f1]at e6;cases e6
       rw[f1,ZA]at e6;simp only at e6;rcases f2:Fo s y1 x1 with _|⟨x2,y2⟩<;>rw[f2]at e6<;>cases e6
       have:=Kf f2;exact⟨show x2.size≤s.size by omega,ZU _⟩
      ·split at e6
       ·rcases f1:Bt s a5 with _|⟨x1,y1⟩
        ·rw[f1]at e6;cases e6
        rw[f1,ZA]at e6;simp only at e6;split at e6
        ·rcases f2:Bt s y1 with _|⟨x2,y2⟩
         ·rw[f2]at e6;cases e6
         rw[f2,ZA]at e6;simp only at e6;split at e6
         ·rcases f3:Bt s y2 with _|⟨x3,y3⟩
          ·rw[f3]at e6;cases e6
          rw[f3,ZA]at e6;simp only at e6;rcases f4:Eq s y3 with _|⟨x4,y4⟩<;>rw[f4]at e6<;>cases e6
          exact⟨ZU _,(Ij f4).2⟩
         ·cases e6
        ·cases e6
       ·cases e6
    exact⟨by omega,b1,key.1,key.2⟩
   ·cases h
  ·cases h
 ·cases h
structure RcI(s:ByteArray)(n:Nat)(R:Option (List Rr×Nat))(k a:Nat)(L:List Rr):Prop where
 hr:(Fg s (n-k) a).map (fun p=>(L++p.1,p.2))=R
 hk:k≤n
 hl:L.length=k
 ha:a≤s.size
 hz:∀r∈L,r.nm.size≤1000∧r.tx.size≤s.size∧r.tg.size≤1000
theorem RcI.next{s:ByteArray}{n k a a2:Nat}{R:Option (List Rr×Nat)}{L:List Rr}{r:Rr}(h:RcI s n R k a L)(hk:k<n)(e:Pp s a=some (r,a2)):RcI s n R (k+1) a2 (L++[r]):=by
 have hb:=Yv e;refine⟨?_,by omega,by simp[h.hl],hb.1,fun x hx=>?_⟩
 ·rw[←h.hr,show n-k=(n-(k+1))+1 by omega];rw[Fg,e,ZA];simp only;cases Fg s (n-(k+1)) a2 with
  |none=>rfl
  |some p=>simp
 ·rcases XM.1 hx with hx|hx
  ·exact h.hz x hx
  ·simp at hx;subst hx;exact⟨hb.2.1,hb.2.2.1,hb.2.2.2⟩
theorem RcI.none{s:ByteArray}{n k a:Nat}{R:Option (List Rr×Nat)}{L:List Rr}(h:RcI s n R k a L)(hk:k<n)(e:Pp s a=none):R=none:=by
 rw[←h.hr,show n-k=(n-(k+1))+1 by omega,Fg,e];rfl


section
variable {P:Program} {ops:Array Oper} {Q:Exit→Act→List Frame→World→Prop} {a:Act} {cs:List Frame} {w w':World} {i:Nat} {Bz:List Nat} {o:Oper} {v:Value}
end
def K4:Array Value:= #[.int .i64 0,.bool false,.bool false,.int .i64 0,.string ⟨#[]⟩,.int .i64 0,.slice none 0 0]
structure Ar1(w:World)(p q:Nat)(w':World):Prop where
 m:Blk w' p 52 K4
 e:Blk w' q 32 #[.int .i64 1]
 fr:Fr (fun k=>k=p∨k=q) w w'

namespace Pl
theorem P5{l:List Int}(h:Cp l=0):∀e∈l,e=0:=by
 induction l with
 |nil=>intro e he;cases he
 |cons a l ih=>
  have h:(if a≠0 then a else Cp l)=0:=h;split at h
  ·rename_i ha;exact absurd h ha
  ·rename_i ha;intro e he;rcases XC.1 he with rfl|he
   ·simpa using ha
   ·exact ih h e he
end Pl
namespace Pl
theorem Axy{a b:ByteArray}(h:a.data.toList=b.data.toList):a=b:=by
 obtain⟨a⟩:=a;obtain⟨b⟩:=b;congr 1;exact Array.ext' h
theorem Aw9{l:List UInt8}{c:UInt8}{m:Nat}(h:Lib.indexByte l c=(m:Int)):l[m]? =some c:=by
 induction l generalizing m with
 |nil=>simp[Lib.indexByte]at h
 |cons b l ih=>
  unfold Lib.indexByte at h;by_cases hb:(b==c)=true
  ·rw[if_pos hb]at h;have:b=c:=by simpa using hb
   obtain rfl:m=0:=by omega
   simp[this]
  ·rw[if_neg hb]at h;have hg:=Lib.indexByte_ge l c;split at h
   ·omega
   ·rename_i h1;have h1':¬Lib.indexByte l c= -1:=by simpa using h1
    obtain⟨k,hk⟩:∃k:Nat,Lib.indexByte l c=(k:Int):=⟨(Lib.indexByte l c).toNat,by omega⟩;obtain rfl:m=k+1:=by omega
    simpa using ih hk
theorem Aj4(c:UInt8)(s:ByteArray){k:Nat}(h:k<cnb s c):(Bz c s k).data.toList=(S0 c s k).data.toList++[c]++(Bz c s (k+1)).data.toList:=by
 obtain⟨m,h1,h2,h3,h4⟩:=Alb c s h;have hm:=Aw9 (l:=(Bz c s k).data.toList) (c:=c) (m:=m) h1;have hlen:(Bz c s k).data.toList.length=(Bz c s k).size:=by simp
 rw[h3,h4,D3,D3,List.drop_zero];rw[List.take_of_length_le (i:=(Bz c s k).size) (by omega)];have hd:(Bz c s k).data.toList.drop m=c::(Bz c s k).data.toList.drop (m+1):=by
  rw[List.drop_eq_getElem_cons (by omega)];congr 1;rw[ZC (by omega)]at hm;exact Option.some.inj hm
 rw[ZS];show _=List.take m _++(c::List.drop (m+1) _);rw[←hd,List.take_append_drop]
theorem Anu(s:ByteArray)(c:UInt8):∀(j k:Nat),k+j=cnb s c→Lib.join ((((List.range' k j).map (S0 c s))++[Bz c s (cnb s c)]).map (·.data.toList)) [c]=(Bz c s k).data.toList:=by
 intro j
 induction j with
 |zero=>
  intro k hk;have hk:k=cnb s c:=by omega
  rw[hk];simp[Lib.join]
 |succ j ih=>
  intro k hk;have h1:=ih (k+1) (by omega);rw[List.range'_succ,List.map_cons,List.cons_append,List.map_cons];rw[Aj4 c s (k:=k) (by omega),←h1];obtain⟨x,xs,hx⟩:∃x xs,(((List.range' (k+1) j).map (S0 c s))++[Bz c s (cnb s c)]).map (·.data.toList)=x::xs:=by
   cases j<;>simp[List.range'_succ]
  rw[hx];simp[Lib.join]
theorem Agl(s:ByteArray):Df ⟨#[46]⟩ (A5 s)=s:=by
 apply Axy;unfold A5;split
 ·rename_i h;have:=toList_inj (ZR.1 h);subst this;rfl
 ·have h:=Anu s 46 (cnb s 46) 0 (by omega);rw[←List.range_eq_range']at h;exact h
def At(s:ByteArray)(a:Nat)(l:List UInt8):Prop:=∃pre post,s.data.toList=pre++l++post∧pre.length=a
theorem At.app{s:ByteArray}{a:Nat}{l l':List UInt8}(h:At s a (l++l')):At s a l∧At s (a+l.length) l':=by
 obtain⟨pre,post,h1,h2⟩:=h;exact⟨⟨pre,l'++post,by rw[h1];simp,h2⟩,⟨pre++l,post,by rw[h1];simp,by simp[h2]⟩⟩
theorem At.le{s:ByteArray}{a:Nat}{l:List UInt8}(h:At s a l):a+l.length≤s.size:=by
 obtain⟨pre,post,h1,h2⟩:=h;have:=congrArg List.length h1;simp at this;omega
theorem At.byte{s:ByteArray}{a:Nat}{c:UInt8}(h:At s a [c]):Cr s a=some (c.toNat,a+1):=by
 obtain⟨pre,post,h1,h2⟩:=h;unfold Cr;have:s.data.toList[a]? =some c:=by rw[h1];subst h2;simp
 have hlt:a<s.size:=by
  have:=(ZB.1 this).1;simpa using this
 have e:s[a]? =some c:=by
  rw[getElem?_pos s a hlt];congr 1;have:=(ZB.1 this).2;rw[Array.getElem_toList]at this;exact this
 rw[e];rfl
theorem At.bytes{s:ByteArray}{a:Nat}{x:ByteArray}(h:At s a x.data.toList):Fo s a x.size=some (x,a+x.size):=by
 have hx:x.data.toList.length=x.size:=by simp
 have:=h.le;unfold Fo;rw[if_pos (by omega)];congr 2;apply Axy;rw[D3];obtain⟨pre,post,h1,h2⟩:=h;rw[h1,←hx,ZS];subst h2;rw[List.take_append,List.drop_append];simp
theorem Anf{c:UInt8}(h:okB c.toNat=true):F8 c=c:=by
 unfold F8;rw[if_neg];intro⟨h1,h2⟩;unfold okB at h;simp at h;omega
theorem Ap1{x:ByteArray}(h:lab x.data.toList=true):C6 x=x:=by
 apply Axy;unfold C6;show x.data.toList.map F8=x.data.toList;have h2:∀c∈x.data.toList,okB c.toNat=true:=by
  unfold lab at h;exact fun c hc=>List.all_eq_true.1 (Bool.and_eq_true_iff.1 h).1 c hc
 have:x.data.toList.map F8=x.data.toList.map id:=List.map_congr_left fun c hc=>Anf (h2 c hc);rw[this,List.map_id]
theorem Aj2{x:ByteArray}(h:lab x.data.toList=true):1≤x.size∧x.size≤30:=by
 unfold lab at h;have:=ZV (Bool.and_eq_true_iff.1 h).2;have e:x.data.toList.length=x.size:=by simp
 omega
theorem At.nameR{s:ByteArray}:∀(ls l0:List ByteArray) (a f fr:Nat),At s a (D7 ls++[0])→(∀x∈ls,lab x.data.toList=true)→l0.length+ls.length≤8→ls.length<f→
  nameR s f a l0 none fr=some (l0++ls,a+(D7 ls).length+1):=by
 intro ls
 induction ls with
 |nil=>
  intro l0 a f fr h hl h8 hf;obtain⟨f,rfl⟩:∃f',f=f'+1:=⟨f-1,by simp at hf;omega⟩;have b:=At.byte (c:=0) h;rw[Pl.nameR,if_pos (by simpa using h8),b,ZA];simp only[List.append_nil];rw[if_pos (by decide)];rfl
 |cons x ls ih=>
  intro l0 a f fr h hl h8 hf;obtain⟨f,rfl⟩:∃f',f=f'+1:=⟨f-1,by omega⟩;have hx:=hl x (by simp);have hz:=Aj2 hx;have e:D7 (x::ls)++[0]=[UInt8.ofNat x.size]++(x.data.toList++(D7 ls++[0])):=by simp[D7,Aqx]
  rw[e]at h;have b1:=h.app.1.byte;have h2:=h.app.2;rw[show [UInt8.ofNat x.size].length=1 from rfl]at h2;have b2:=h2.app.1.bytes;have h3:=h2.app.2;have el:x.data.toList.length=x.size:=by simp
  rw[el]at h3;have ez:(UInt8.ofNat x.size).toNat=x.size:=by rw[UInt8.toNat_ofNat'];exact Nat.mod_eq_of_lt (by omega)
  rw[ez]at b1;simp only[ZJ]at h8 hf;rw[Pl.nameR,if_pos (by omega),b1,ZA];simp only;rw[if_neg (by omega),if_neg (by omega),b2,ZA];simp only;rw[Ap1 hx,if_pos hx,ih (l0++[x]) (a+1+x.size) f fr h3 (fun y hy=>hl y (by simp[hy])) (by simp;omega) (by omega)];have:(D7 (x::ls)).length=1+x.size+(D7 ls).length:=by simp[D7,Aqx];omega
  rw[this];simp only[ZS,List.cons_append,List.nil_append];congr 2;omega
theorem Ab4{nm:ByteArray}(h:Ao nm=0):(∀x∈A5 nm,lab x.data.toList=true)∧(A5 nm).length≤8∧nm.size≤120:=by
 unfold Ao at h;split at h
 ·cases h
 ·rename_i h1;split at h
  ·cases h
  ·split at h
   ·cases h
   ·refine⟨fun x hx=>?_,by omega,by omega⟩;have h2:(A5 nm).any (fun x=> !lab x.data.toList)=false:=by simpa using h1
    have:=List.any_eq_false.1 h2 x hx;simpa using this
theorem At.name{s:ByteArray}{a:Nat}{nm:ByteArray}(h:At s a (Bv nm))(hn:Ao nm=0):Eq s a=some (nm,a+(Bv nm).length):=by
 obtain⟨h1,h2,h3⟩:=Ab4 hn;unfold Eq;rw[At.nameR (A5 nm) [] a (a+10) a h h1 (by simpa using h2) (by omega)];show some (Df ⟨#[46]⟩ ([]++A5 nm),_)=_;rw[List.nil_append,Agl];simp[Bv];omega
end Pl
namespace Pl
end Pl
theorem Fr.out{L:Nat→Prop}{a b c:World}(h:Fr (fun _=>False) a b)(k:Fr L b c)(hl:∀i,L i→a.heap.size≤i):Fr (fun _=>False) a c:=
 ⟨k.os.trans h.os,k.tape.trans h.tape,k.output.trans h.output,XI h.size k.size,fun i hi _=>(k.block i (XH hi h.size) (fun hL=>by have:=hl i hL;omega)).trans (h.block i hi id)⟩

namespace Pl
end Pl
namespace Pl
def bA(l:List UInt8):ByteArray:=⟨l.toArray⟩
theorem Ca(l r:List UInt8):bA l++bA r=bA (l++r):=by
 apply ByteArray.ext;rw[ByteArray.data_append];simp[bA]
theorem D2(l:List UInt8):(bA l).size=l.length:=by simp[bA,ByteArray.size]
theorem Abt(s:ByteArray):bA s.data.toList=s:=by simp[bA]
end Pl
namespace Pl
end Pl
section
open Go.Joins Go.ChangeShapes Go.WideShapes Go.Deep
def Bd1(B:Nat):V→Prop
 |.v (.string x)=>x.size≤B
 |_=>True
def Bd(B:Nat):V→Prop
 |.v (.string x)=>x.size≤B
 |.sl _ rows=>rows.length≤B∧∀row∈rows,∀u∈row,Bd1 B u
 |_=>True
theorem Bd.one{B:Nat}{u:V}(h:Bd B u):Bd1 B u:=by
 unfold Bd at h;unfold Bd1;split at h<;>simp_all
structure Avw{H:Type}(bk:DataW H→Nat):Prop where
 str:∀l,l.length≤bk (.lit (.string l))
 agg:∀ds d,d∈ds→bk d≤bk (.agg ds)
 sl:∀es sp,es.length≤bk (.slice es sp)∧∀d∈es,bk d≤bk (.slice es sp)
section
variable {H:Type} {enc:TypeId×Value→H} {P:Program} {w:World} {base:Nat} {spare:Nat→Bool} {held:Bool} {bk:DataW H→Nat} {B:Nat}
end
end

structure Aox(m:Ms):Prop where
 sz:m.Sized
 ln:m.rs.length≤1048576
theorem Atd(r:Rr):(r.nm.toList==r.nm.toList&&(r.ty==r.ty&&(r.ls==r.ls&&(r.ad==r.ad&&(r.tx.toList==r.tx.toList&&(r.pt==r.pt&&(r.tg.toList==r.tg.toList&&true)))))))=true:=by simp
theorem Aeo(c d:Bool)(l:List Rr)(hl:l.length≤9223372036854775807):Fun Tryz.prog 11 [.c (.sl c (l.map Rr.row)),.c (.sl d (l.map Rr.row))] [.c (.v (.bool true))]:=by
 refine Ar Lz rfl ?_;refine G0 ?_;rw[show(((l.map Rr.row).length:Int) !=((l.map Rr.row).length:Int))=false by simp];refine G0 ?_;(refine⟨[],none,{k:Nat//k≤l.length},[0,1],fun⟨k,hk⟩=>[(5,.v (.int .i64 k))],[],fun⟨k,hk⟩=>[],fun⟨k,hk⟩=>l.length-k,trivial,fun _=>⟨trivial,fun _=>⟨⟨0,by omega⟩,tI,Af _ _,tI,Ae _ _⟩⟩,fun⟨k,hk⟩=>?_⟩);refine G0 ?_;simp only[ZE];(refine Aa (fun h2=>?_) (fun h2=>?_)<;>rw[h2])
 ·have hlt:k<l.length:=(by have:=ZV h2;omega);refine G0 ?_;refine⟨k,_,rfl,Ad hlt,?_⟩;refine G0 ?_;refine⟨k,_,rfl,Ad hlt,?_⟩;refine G0 ?_;rw[Atd];refine G0 ?_;(exact⟨none,trivial,fun _=>⟨⟨k+1,by omega⟩,by show l.length-(k+1)<l.length-k;omega,tI,tI,tI,tI⟩⟩)
 ·have hge:¬k<l.length:=(by have:=ZW h2;omega);refine G0 ?_;(exact⟨[],aI⟩)
namespace Pl
end Pl
namespace Pl
def atB(s:ByteArray)(a:Nat):Nat:=match s[a]? with|some c=>c.toNat|none=>0
theorem Is(s:ByteArray)(a:Nat):atB s a<256:=by
 unfold atB;split
 ·exact UInt8.toNat_lt _
 ·omega
def Dx(s:ByteArray)(a:Nat):Nat→Nat
 |0=>0
 |k+1=>256*Dx s a k+atB s (a+k)
def B6(s:ByteArray)(k a:Nat):Nat:=if a+k≤s.size then Dx s a k else 0
def Aq(s:ByteArray)(k a:Nat):Nat:=if a+k≤s.size then a+k else max a s.size
def B7(s:ByteArray)(k a:Nat)(b:Bool):Bool:=b||decide (s.size<a+k)
theorem Bj{s:ByteArray}{k a m:Nat}(h1:a≤m)(h2:s.size≤m):Aq s k a≤m:=by
 unfold Aq;split<;>omega
end Pl
namespace Pl
abbrev Kk:ByteArray:=⟨#[46]⟩
theorem Aaa(l:List ByteArray):Df Kk l=bA (Lib.join (l.map (·.data.toList)) [46]):=rfl
theorem Aos(x:ByteArray):Df Kk [x]=x:=by
 rw[Aaa];simp[Lib.join,List.intercalate,Abt]
theorem Anj(l:List (List UInt8))(x sep:List UInt8)(h:l≠[]):Lib.join (l++[x]) sep=Lib.join l sep++(sep++x):=by
 rcases l with _|⟨y,l⟩
 ·exact absurd rfl h
 ·rw[List.cons_append,Lib.join_cons,Lib.join_cons];unfold Lib.joinTail;simp
theorem Aj5(l:List ByteArray)(x:ByteArray)(h:l≠[]):Df Kk (l++[x])=Df Kk l++Kk++x:=by
 rw[Aaa,Aaa,ZI,List.map_cons,List.map_nil,Anj _ _ _ (by simpa using h)]
 conv=>rhs;rhs;rw[←Abt x]
 rw[show Kk=bA [46]from rfl,Ca,Ca,ZS]
theorem Vn{α:Type}{l:List α}{k:Nat}(h:k<l.length):l.take (k+1)=l.take k++[l[k]]:=by rw[XT,ZC h];rfl
theorem X3{l:List ByteArray}(h:0<l.length):Df Kk (l.take 0)++l[0]=Df Kk (l.take (0+1)):=by
 rw[Vn h,List.take_zero,List.nil_append,Aos,show Df Kk []=bA []from rfl]
 conv=>lhs;rhs;rw[←Abt l[0]]
 rw[Ca,List.nil_append,Abt]
theorem Ab9{l:List ByteArray}{k:Nat}(h:k+1<l.length):Df Kk (l.take (k+1))++Kk++l[k+1]=Df Kk (l.take (k+1+1)):=by
 rw[Vn h,Aj5 _ _ (by intro e;have:=congrArg List.length e;rw[ZM]at this;simp only[ZN]at this;omega)]
theorem Ads(l:List ByteArray)(h:∀x∈l,x.size≤1000)(k:Nat)(hk:k≤l.length):(Df Kk (l.take k)).size≤1001*k:=by
 induction k with
 |zero=>exact ZT 0
 |succ k ih=>
  have h1:=ih (by omega);have h2:=h _ (ZK (show k<l.length by omega));rcases k with _|k
  ·rw[←X3 (by omega),XP];omega
  ·rw[←Ab9 (by omega),XP,XP];have:Kk.size=1:=rfl;omega
end Pl
namespace Pl
def Du(s:ByteArray)(a:Nat):Nat→List UInt8
 |0=>[]
 |i+1=>Du s a i++[F8 (UInt8.ofNat (atB s (a+i)))]
theorem Y4(s:ByteArray)(a n:Nat):(Du s a n).length=n:=by
 induction n with
 |zero=>rfl
 |succ n ih=>show(Du s a n++[_]).length=n+1;rw[ZF,ih];rfl
def Je(s:ByteArray):Nat→Nat→List ByteArray→Option Nat→Nat→Option (List ByteArray×Nat)×Nat
 |0,_,_,_,_=>(none,0)
 |f+1,a,l,e,fr=>
  if a+1≤s.size then
   if atB s a=0 then(some (l,e.getD (a+1)),0)
   else if 192≤atB s a then
    if a+2≤s.size∧(atB s a-192)*256+atB s (a+1)<fr then Je s f ((atB s a-192)*256+atB s (a+1)) l (some (e.getD (a+2))) ((atB s a-192)*256+atB s (a+1))
    else(none,(atB s a-192)*256+atB s (a+1))
   else if a+1+atB s a≤s.size∧lab (Du s (a+1) (atB s a))=true∧l.length+1≤8 then Je s f (Aq s (atB s a) (a+1)) (l++[bA (Du s (a+1) (atB s a))]) e fr
   else(none,Aq s (atB s a) (a+1))
  else(none,max a s.size)
def Abk(s:ByteArray)(a:Nat)(b:Bool):Option (List ByteArray×Nat)×Nat:=bif b then(none,a)else Je s (a+10) a [] none a
def Dp(s:ByteArray)(a:Nat)(b:Bool):ByteArray×Nat×Bool:=match Abk s a b with
 |(some p,_)=>(Df Kk p.1,p.2,false)
 |(none,x)=>(⟨#[]⟩,x,true)
structure NqI(s:ByteArray)(Q:Option (List ByteArray×Nat)×Nat)(a:Nat)(b:Bool)(l:List ByteArray)(e:Option Nat)(fr:Nat):Prop where
 ha:a≤1000000
 hl:l.length≤9
 hz:∀x∈l,x.size≤1000
 he:e.getD 0≤1000000
 hf:fr≤1000000
 no:b=false→l.length≤8∧∃f,fr+10≤f+l.length∧Je s f a l e fr=Q
 yes:b=true→Q=(none,a)
section
variable {s:ByteArray} {Q:Option (List ByteArray×Nat)×Nat} {a fr:Nat} {l:List ByteArray} {e:Option Nat}
theorem NqI.out(h:NqI s Q a false l e fr)(c:¬a+1≤s.size):Q=(none,max a s.size):=by
 obtain⟨h8,f,hf,hq⟩:=h.no rfl;obtain⟨f,rfl⟩:∃f',f=f'+1:=⟨f-1,by omega⟩;rw[←hq,Je,if_neg c]
theorem NqI.zero(h:NqI s Q a false l e fr)(c:a+1≤s.size)(c0:atB s a=0):Q=(some (l,e.getD (a+1)),0):=by
 obtain⟨h8,f,hf,hq⟩:=h.no rfl;obtain⟨f,rfl⟩:∃f',f=f'+1:=⟨f-1,by omega⟩;rw[←hq,Je,if_pos c,if_pos c0]
theorem Ag1(s:ByteArray)(a:Nat):(atB s a-192)*256+atB s (a+1)≤1000000:=by
 have:=Is s a;have:=Is s (a+1);omega
theorem Ael{e:Option Nat}{x:Nat}(h:e.getD 0≤1000000)(hx:x≤1000000):(some (e.getD x)).getD 0≤1000000:=by
 cases e with
 |none=>exact hx
 |some y=>exact h
theorem Akz(h:∀x∈l,x.size≤1000){n:Nat}(hn:n<256)(b:Nat):∀x∈l++[bA (Du s b n)],x.size≤1000:=fun x hx=>by
 rcases XM.1 hx with hx|hx
 ·exact h x hx
 ·rw[XN]at hx;subst hx;rw[D2,Y4];omega
theorem Ts{b:Bool}{p:List ByteArray×Nat}{x:Nat}(h:Abk s a b=(some p,x)):Dp s a b=(Df Kk p.1,p.2,false):=by unfold Dp;rw[h]
theorem O0{b:Bool}{x:Nat}(h:Abk s a b=(none,x)):Dp s a b=(⟨#[]⟩,x,true):=by unfold Dp;rw[h]
end
end Pl
namespace Pl
def M1(s:ByteArray)(a:Nat)(b:Bool):Nat×Bool:=bif b then(a,true)else(Aq s 2 a,(B6 s 2 a:Int) !=1)
def Uk(a e:Nat)(b:Bool):Bool:=bif b then true else((a:Int) !=(e:Int))
def Aa1(s:ByteArray)(nm:ByteArray)(t ls a e:Nat):Option (Rr×Nat×Bool):=
 if t=1 then some (⟨nm,t,ls,B6 s 4 a,⟨#[]⟩,0,⟨#[]⟩⟩,Aq s 4 a,Uk (Aq s 4 a) e (B7 s 4 a false))
 else if t=16 then
  if B7 s 1 a false=true∨s.size<Aq s 1 a+B6 s 1 a then none
  else some (⟨nm,t,ls,0,s.extract (Aq s 1 a) (Aq s 1 a+B6 s 1 a),0,⟨#[]⟩⟩,Aq s 1 a+B6 s 1 a,Uk (Aq s 1 a+B6 s 1 a) e false)
 else if t=33 then
  some (⟨nm,t,ls,0,⟨#[]⟩,B6 s 2 (Aq s 4 a),(Dp s (Aq s 2 (Aq s 4 a)) (B7 s 2 (Aq s 4 a) ((B6 s 4 a:Int) !=0))).1⟩,
   (Dp s (Aq s 2 (Aq s 4 a)) (B7 s 2 (Aq s 4 a) ((B6 s 4 a:Int) !=0))).2.1,
   Uk (Dp s (Aq s 2 (Aq s 4 a)) (B7 s 2 (Aq s 4 a) ((B6 s 4 a:Int) !=0))).2.1 e (Dp s (Aq s 2 (Aq s 4 a)) (B7 s 2 (Aq s 4 a) ((B6 s 4 a:Int) !=0))).2.2)
 else some (⟨nm,t,ls,0,⟨#[]⟩,0,⟨#[]⟩⟩,a,Uk a e false)
def Xx(s:ByteArray)(nm:ByteArray)(a1:Nat)(b1:Bool):Option (Rr×Nat×Bool):=
 let o:=M1 s (Aq s 2 a1) (B7 s 2 a1 b1)
 if B7 s 6 o.1 o.2=true∨s.size<Aq s 6 o.1+B6 s 2 (Aq s 4 o.1)then none
 else Aa1 s nm (B6 s 2 a1) (B6 s 4 o.1) (Aq s 6 o.1) (Aq s 6 o.1+B6 s 2 (Aq s 4 o.1))
def Oj(s:ByteArray)(a:Nat):Option (Rr×Nat×Bool):=Xx s (Dp s a false).1 (Dp s a false).2.1 (Dp s a false).2.2
def Gy(s:ByteArray):Nat→Nat→Bool→List Rr→Option (List Rr×Nat×Bool)
 |0,a,b,L=>some (L,a,b)
 |n+1,a,b,L=>bif b then some (L,a,true)else(Oj s a).bind fun r=>Gy s n r.2.1 r.2.2 (L++[r.1])
structure Hd where
 id:Nat
 fl:Nat
 co:Nat
 one:Nat
 n:Nat
 z:Nat
def Hd.ok(h:Hd):Prop:=(h.fl=0∨h.fl=2∨h.fl=128∨h.fl=130)∧h.co≤15∧h.one=1∧h.n≤20∧h.z=0
instance (h:Hd):Decidable h.ok:=by unfold Hd.ok;exact inferInstance
theorem Aaw{s:ByteArray}(hs:s.size≤1000000):∀(f a:Nat) (l:List ByteArray) (e:Option Nat) (fr:Nat),a≤1000000→e.getD 0≤1000000→l.length≤8→(∀x∈l,x.size≤1000)→
  (Je s f a l e fr).2≤1000000∧∀p,(Je s f a l e fr).1=some p→p.2≤1000000∧p.1.length≤8∧∀x∈p.1,x.size≤1000
 |0,a,l,e,fr,ha,he,hl,hz=>⟨ZU _,fun p h=>by cases h⟩
 |f+1,a,l,e,fr,ha,he,hl,hz=>by
  have ht:=Ag1 s a;have hb:=Is s a;unfold Je;split
  ·split
   ·refine⟨ZU _,fun p h=>?_⟩;cases h;refine⟨?_,hl,hz⟩;cases e with
    |none=>show a+1≤_;omega
    |some y=>exact he
   ·split
    ·split
     ·exact Aaw hs f _ l _ _ ht (Ael he (by omega)) hl hz
     ·exact⟨ht,fun p h=>by cases h⟩
    ·split
     ·rename_i h3;exact Aaw hs f _ _ e fr (Bj (by omega) hs) he (by rw[ZF];exact h3.2.2) (Akz hz hb _)
     ·exact⟨Bj (by omega) hs,fun p h=>by cases h⟩
  ·exact⟨by show max a s.size≤_;omega,fun p h=>by cases h⟩
theorem Uf{s:ByteArray}(hs:s.size≤1000000){a:Nat}(ha:a≤1000000)(b:Bool):(Dp s a b).2.1≤1000000∧(Dp s a b).1.size≤10000:=by
 cases b with
 |true=>exact⟨ha,show(⟨#[]⟩:ByteArray).size≤10000 from by decide⟩
 |false=>
  obtain⟨h1,h2⟩:=Aaw hs (a+10) a [] none a ha (by simp) (by simp) (by simp);rcases hq:Je s (a+10) a [] none a with⟨_|p,x⟩
  ·rw[O0 (b:=false) hq];rw[hq]at h1;exact⟨h1,show(⟨#[]⟩:ByteArray).size≤10000 from by decide⟩
  ·rw[Ts (b:=false) hq];rw[hq]at h2;obtain⟨g1,g2,g3⟩:=h2 p rfl;refine⟨g1,?_⟩;have:=Ads p.1 g3 p.1.length (ZT _);rw[XF]at this;show(Df Kk p.1).size≤_;omega
theorem Amq{s:ByteArray}(hs:s.size≤1000000){a:Nat}(ha:a≤1000000)(b:Bool):(M1 s a b).1≤1000000:=by
 cases b with
 |true=>exact ha
 |false=>exact Bj ha hs
structure Rr.Sh(r:Rr):Prop where
 nm:r.nm.size≤1000000
 tx:r.tx.size≤1000000
 tg:r.tg.size≤1000000
theorem Asm{s:ByteArray}(hs:s.size≤1000000){nm:ByteArray}(hn:nm.size≤10000){t ls a e:Nat}(ha:a≤1000000){r:Rr}{a':Nat}{b':Bool}(h:Aa1 s nm t ls a e=some (r,a',b')):r.Sh∧a'≤1000000:=by
 have h0:(⟨#[]⟩:ByteArray).size=0:=rfl;unfold Aa1 at h;split at h
 ·cases h;exact⟨⟨by show nm.size≤_;omega,by show(⟨#[]⟩:ByteArray).size≤_;omega,by show(⟨#[]⟩:ByteArray).size≤_;omega⟩,Bj ha hs⟩
 ·split at h
  ·split at h
   ·cases h
   ·rename_i h3;cases h;refine⟨⟨by show nm.size≤_;omega,?_,by show(⟨#[]⟩:ByteArray).size≤_;omega⟩,?_⟩
    ·show(s.extract (Aq s 1 a) (Aq s 1 a+B6 s 1 a)).size≤_;rw[ByteArray.size_extract];omega
    ·simp only[not_or]at h3;omega
  ·split at h
   ·cases h;obtain⟨g1,g2⟩:=Uf hs (Bj (Bj ha hs) hs:Aq s 2 (Aq s 4 a)≤1000000) (B7 s 2 (Aq s 4 a) ((B6 s 4 a:Int) !=0));exact⟨⟨by show nm.size≤_;omega,by show(⟨#[]⟩:ByteArray).size≤_;omega,XI g2 (by decide)⟩,g1⟩
   ·cases h;exact⟨⟨by show nm.size≤_;omega,by show(⟨#[]⟩:ByteArray).size≤_;omega,by show(⟨#[]⟩:ByteArray).size≤_;omega⟩,ha⟩
theorem Aul{s:ByteArray}(hs:s.size≤1000000){a:Nat}(ha:a≤1000000){r:Rr}{a':Nat}{b':Bool}(h:Oj s a=some (r,a',b')):r.Sh∧a'≤1000000:=by
 obtain⟨g1,g2⟩:=Uf hs ha false;unfold Oj Xx at h;simp only at h;split at h
 ·cases h
 ·exact Asm hs g2 (Bj (Amq hs (Bj g1 hs) _) hs) h
structure RsI(s:ByteArray)(n:Nat)(R:Option (List Rr×Nat×Bool))(k a:Nat)(b:Bool)(L:List Rr):Prop where
 hr:Gy s (n-k) a b L=R
 hk:k≤n
 hl:L.length=k
 ha:a≤1000000
 hz:∀r∈L,r.Sh
section
variable {s:ByteArray} {n k a:Nat} {R:Option (List Rr×Nat×Bool)} {L:List Rr} {b:Bool}
theorem RsI.next(h:RsI s n R k a false L)(hs:s.size≤1000000)(hk:k<n){r:Rr}{a':Nat}{b':Bool}(e:Oj s a=some (r,a',b')):RsI s n R (k+1) a' b' (L++[r]):=by
 have hb:=Aul hs h.ha e;refine⟨?_,hk,by rw[ZF,h.hl];rfl,hb.2,fun x hx=>?_⟩
 ·have:=h.hr;rw[show n-k=(n-(k+1))+1 by omega,Gy,e]at this;exact this
 ·rcases XM.1 hx with hx|hx
  ·exact h.hz x hx
  ·rw[XN.1 hx];exact hb.1
theorem RsI.none(h:RsI s n R k a false L)(hk:k<n)(e:Oj s a=none):R=none:=by
 rw[←h.hr,show n-k=(n-(k+1))+1 by omega,Gy,e];rfl
end
end Pl
namespace Pl
section
variable {s:ByteArray} {a:Nat}
end
end Pl
namespace Pl
section
variable {s:ByteArray} {nm:ByteArray} {t ls a e:Nat}
end
end Pl
namespace Pl
end Pl
namespace Pl
end Pl
namespace Pl
end Pl
namespace Pl
def Fy(n:ByteArray)(K:List Sv):List Sv:=K.filter fun s=>s.nd.toList==n.toList
def Vy(ns:List ByteArray)(s:Sv):List ByteArray:=bif ns.any (fun n=>n.toList==s.nd.toList)then ns else ns++[s.nd]
def nms(K:List Sv):List ByteArray:=K.foldl Vy []
theorem P9(K:List Sv)(s:Sv):nms (K++[s])=Vy (nms K) s:=by simp[nms,List.foldl_append]
theorem tEq{a b:ByteArray}:(a.toList==b.toList)=true↔a=b:=⟨fun h=>toList_inj (ZR.1 h),fun h=>by rw[h];exact beq_self_eq_true _⟩
theorem Aq4{ns:List ByteArray}{m:ByteArray}:ns.any (fun n=>n.toList==m.toList)=true↔m∈ns:=by
 rw[List.any_eq_true];exact⟨fun⟨n,h1,h2⟩=>tEq.1 h2▸h1,fun h=>⟨m,h,tEq.2 rfl⟩⟩
theorem Rz{ns:List ByteArray}{s:Sv}(h:s.nd∈ns):Vy ns s=ns:=by unfold Vy;rw[Aq4.2 h];rfl
theorem N3{ns:List ByteArray}{s:Sv}(h:s.nd∉ns):Vy ns s=ns++[s.nd]:=by
 unfold Vy;rw[XE.2 (fun e=>h (Aq4.1 e))];rfl
theorem Z4:∀(K:List Sv) (ns:List ByteArray),(∀n,n∈K.foldl Vy ns↔n∈ns∨∃s∈K,s.nd=n)∧(ns.Nodup→(K.foldl Vy ns).Nodup)∧(K.foldl Vy ns).length≤ns.length+K.length
 |[],ns=>⟨fun n=>by simp,id,by simp⟩
 |s::K,ns=>by
  obtain⟨h1,h2,h3⟩:=Z4 K (Vy ns s);by_cases h:s.nd∈ns
  ·rw[List.foldl_cons];rw[Rz h]at *;refine⟨fun n=>(h1 n).trans ⟨fun q=>q.imp id fun⟨t,a,b⟩=>⟨t,ZL _ a,b⟩,fun q=>?_⟩,h2,by simp only[ZJ];omega⟩;rcases q with q|⟨t,a,b⟩
   ·exact .inl q
   ·rcases XC.1 a with e|e
    ·subst e;exact .inl (b▸h)
    ·exact .inr ⟨t,e,b⟩
  ·rw[List.foldl_cons];rw[N3 h]at *;refine⟨fun n=>(h1 n).trans ?_,fun hn=>h2 ?_,by simp only[ZJ,ZF,ZN]at *;omega⟩
   ·rw[XM,XN];constructor
    ·rintro ((q|q)|⟨t,a,b⟩)
     ·exact .inl q
     ·exact .inr ⟨s,XB ..,q.symm⟩
     ·exact .inr ⟨t,ZL _ a,b⟩
    ·rintro (q|⟨t,a,b⟩)
     ·exact .inl (.inl q)
     ·rcases XC.1 a with e|e
      ·subst e;exact .inl (.inr b.symm)
      ·exact .inr ⟨t,e,b⟩
   ·rw[List.nodup_append];refine⟨hn,by simp,fun a ha b hb e=>?_⟩;rw[XN]at hb;subst hb;subst e;exact h ha
theorem Ys{K:List Sv}{n:ByteArray}:n∈nms K↔∃s∈K,s.nd=n:=((Z4 K []).1 n).trans (by simp)
theorem Alj(K:List Sv):(nms K).length≤K.length:=by have:=(Z4 K []).2.2;simpa[nms]using this
theorem Af8{K:List Sv}{n:ByteArray}(h:n∈nms K):∃s l,Fy n K=s::l∧s.nd=n:=by
 obtain⟨s,h1,h2⟩:=Ys.1 h;have hm:s∈Fy n K:=List.mem_filter.2 ⟨h1,tEq.2 h2⟩;cases hl:Fy n K with
 |nil=>rw[hl]at hm;cases hm
 |cons t l=>
  have:t∈Fy n K:=by rw[hl];exact XB ..
  exact⟨t,l,rfl,tEq.1 (List.mem_filter.1 this).2⟩
theorem Auc{K:List Sv}{n:ByteArray}(h:n∉nms K):Fy n K=[]:=List.filter_eq_nil_iff.2 fun s hs e=>h (Ys.2 ⟨s,hs,tEq.1 e⟩)
theorem Oe(K:List Sv)(s:Sv)(n:ByteArray):Fy n (K++[s])=Fy n K++(bif s.nd.toList==n.toList then [s]else []):=by
 unfold Fy;rw[List.filter_append,List.filter_cons];cases s.nd.toList==n.toList<;>rfl
theorem S5(k:ByteArray)(v:V):∀(l:List (ByteArray×V)) (o i:Nat) (u:V),look k l o=some (i,u)→look k (l.set (i-o) (k,v)) o=some (i,v)
 |[],o,i,u,h=>by simp[look]at h
 |(a,w)::es,o,i,u,h=>by
  unfold look at h;split at h
  ·simp only[ZD,Prod.mk.injEq]at h;obtain⟨rfl,rfl⟩:=h;simp[look]
  ·rename_i hk;have h1:=(Ro h).1;rw[show i-o=(i-(o+1))+1 by omega,List.set_cons_succ];unfold look;rw[if_neg hk];exact S5 k v es (o+1) i u h
theorem Xh{k k':ByteArray}(hne:k'≠k)(v:V):∀(l:List (ByteArray×V)) (o i:Nat) (u:V),look k l o=some (i,u)→look k' (l.set (i-o) (k,v)) o=look k' l o
 |[],o,i,u,h=>by simp[look]at h
 |(a,w)::es,o,i,u,h=>by
  unfold look at h;split at h
  ·rename_i hk;simp only[ZD,Prod.mk.injEq]at h;obtain⟨rfl,rfl⟩:=h;subst hk;simp[look,hne]
  ·rename_i hk;have h1:=(Ro h).1;rw[show i-o=(i-(o+1))+1 by omega,List.set_cons_succ];unfold look;rw[Xh hne v es (o+1) i u h]
theorem Wy{k k':ByteArray}(v:V):∀(l:List (ByteArray×V)) (o:Nat),look k' (l++[(k,v)]) o=(match look k' l o with
  |some r=>some r
  |none=>if k'=k then some (o+l.length,v)else none)
 |[],o=>by simp[look]
 |(a,w)::es,o=>by
  rw[List.cons_append];unfold look;split
  ·rfl
  ·rw[Wy v es (o+1),ZJ,show o+1+es.length=o+(es.length+1)by omega]
theorem S4(k:ByteArray)(v:V)(l:List (ByteArray×V)):∃j,look k (put l k v) 0=some (j,v):=by
 unfold put;cases h:look k l 0 with
 |none=>exact⟨0+l.length,by simp only[];rw[Wy,h];simp⟩
 |some p=>obtain⟨i,u⟩:=p;exact⟨i,by simpa using S5 k v l 0 i u h⟩
theorem L8{k k':ByteArray}(hne:k'≠k)(v:V)(l:List (ByteArray×V)):look k' (put l k v) 0=look k' l 0:=by
 unfold put;cases h:look k l 0 with
 |none=>simp only[];rw[Wy];cases look k' l 0<;>simp[hne]
 |some p=>obtain⟨i,u⟩:=p;simpa using Xh hne v l 0 i u h
theorem Axe{a b:Sv}(h:a.row=b.row):a.nd=b.nd:=by
 unfold Sv.row at h;injection h with h _
 injection h with h;injection h
structure Grp(T:TypeId)(K:List Sv)(E:List (ByteArray×V))(ss:List SE):Prop where
 has:∀n∈nms K,∃j s,look n E 0=some (j,.v s.val)∧s∈ss∧s.T=T∧s.sz=9∧s.rows=(Fy n K).map Sv.row
 no:∀n,n∉nms K→look n E 0=none
theorem Grp.nil(T:TypeId):Grp T [] [] []:=⟨fun n h=>by simp[nms]at h,fun n _=>rfl⟩
theorem Grp.new{T:TypeId}{K:List Sv}{E:List (ByteArray×V)}{ss:List SE}(h:Grp T K E ss)(s:Sv)(hn:s.nd∉nms K)(b cap:Nat):Grp T (K++[s]) (put E s.nd (.v (SE.val ⟨T,9,b,cap,[s.row]⟩))) (⟨T,9,b,cap,[s.row]⟩::ss):=by
 have e:nms (K++[s])=nms K++[s.nd]:=by rw[P9,N3 hn]
 constructor
 ·intro n hm;rw[e]at hm;by_cases hc:n=s.nd
  ·subst hc;obtain⟨j,hj⟩:=S4 s.nd (.v (SE.val ⟨T,9,b,cap,[s.row]⟩)) E;refine⟨j,_,hj,XB ..,rfl,rfl,?_⟩;rw[Oe,Auc hn,tEq.2 rfl];rfl
  ·have hm':n∈nms K:=by
    rcases XM.1 hm with q|q
    ·exact q
    ·exact absurd (XN.1 q) hc
   obtain⟨j,t,h1,h2,h3,h4,h5⟩:=h.has n hm';refine⟨j,t,by rw[L8 hc];exact h1,ZL _ h2,h3,h4,?_⟩;rw[Oe,XE.2 (fun q=>hc (tEq.1 q).symm),cond_false,List.append_nil];exact h5
 ·intro n hm;rw[e]at hm;rw[L8 (fun q=>hm (XM.2 (.inr (by rw[q];exact List.mem_singleton_self _))))];exact h.no n fun q=>hm (XM.2 (.inl q))
theorem Grp.old{T:TypeId}{K:List Sv}{E:List (ByteArray×V)}{ss1 ss2:List SE}{t:SE}(h:Grp T K E (ss1++t::ss2))(s:Sv)(hn:s.nd∈nms K)(ht:t.rows=(Fy s.nd K).map Sv.row)(b cap:Nat):
  Grp T (K++[s]) (put E s.nd (.v (SE.val ⟨T,9,b,cap,t.rows++[s.row]⟩))) (⟨T,9,b,cap,t.rows++[s.row]⟩::(ss1++ss2)):=by
 have e:nms (K++[s])=nms K:=by rw[P9,Rz hn]
 constructor
 ·intro n hm;rw[e]at hm;by_cases hc:n=s.nd
  ·subst hc;obtain⟨j,hj⟩:=S4 s.nd (.v (SE.val ⟨T,9,b,cap,t.rows++[s.row]⟩)) E;refine⟨j,_,hj,XB ..,rfl,rfl,?_⟩;rw[Oe,tEq.2 rfl,cond_true,ZI,←ht];rfl
  ·obtain⟨j,u,h1,h2,h3,h4,h5⟩:=h.has n hm;refine⟨j,u,by rw[L8 hc];exact h1,ZL _ ?_,h3,h4,?_⟩
   ·rcases XM.1 h2 with q|q
    ·exact XM.2 (.inl q)
    ·rcases XC.1 q with q|q
     ·exfalso;subst q;obtain⟨x,l,p1,p2⟩:=Af8 hm;obtain⟨y,l',r1,r2⟩:=Af8 hn;rw[h5,p1,r1,List.map_cons,List.map_cons]at ht;injection ht with ht _
      exact hc (by rw[←p2,←r2];exact Axe ht)
     ·exact XM.2 (.inr q)
   ·rw[Oe,XE.2 (fun q=>hc (tEq.1 q).symm),cond_false,List.append_nil];exact h5
 ·intro n hm;rw[e]at hm;rw[L8 (fun q=>hm (by rw[q];exact hn))];exact h.no n hm
def fK(k:Kn)(q:Qr):List Sv:=keep (fun s=>Cc k.ms s.nd) (C8 k.l q.sv q.tg).2
noncomputable def Bh(k:Kn)(q:Qr):List Sv:=((Ii (cfN (Bx k.f k.wh)) (nms (fK k q))).flatMap fun n=>Fy n (fK k q)).take 20
theorem Alf{K:List Sv}{m:Nat}(hK:K.length≤m):∀ns:List ByteArray,(ns.flatMap fun n=>Fy n K).length≤ns.length*m
 |[]=>by simp
 |n::ns=>by
  have h1:(Fy n K).length≤m:=XI (List.length_filter_le _ _) hK;have h2:=Alf hK ns;rw[List.flatMap_cons,ZF,ZJ,Nat.add_mul];omega
end Pl
namespace Pl
def Mn(K:List Sv):Prop:=K.Pairwise fun a b=>slt b.nd a.nd=false
theorem Avc{l:List Sv}(h:Cz Sv.lt l=true):Mn l:=by
 rw[Mn,List.pairwise_iff_getElem];intro i j hi hj hij;have:=Ra Sv.lt_trans h j i hj hij;rcases Sv.lt_iff.1 this with q|⟨q,_⟩
 ·exact W6 q
 ·rw[q];exact Fj _
theorem Mn.filter{K:List Sv}(h:Mn K)(p:Sv→Bool):Mn (K.filter p):=List.Pairwise.filter p h
theorem Mn.take{K:List Sv}(h:Mn K)(n:Nat):Mn (K.take n):=h.sublist (List.take_sublist _ _)
theorem Am1:∀(K:List Sv) (ns L:List ByteArray),ns.Sublist L→(K.foldl Vy ns).Sublist (L++K.map (·.nd))
 |[],ns,L,h=>by simpa using h
 |s::K,ns,L,h=>by
  have h':(Vy ns s).Sublist (L++[s.nd]):=by
   by_cases q:s.nd∈ns
   ·rw[Rz q];exact h.trans (List.sublist_append_left _ _)
   ·rw[N3 q];exact h.append (List.Sublist.refl _)
  have:=Am1 K _ _ h';simpa using this
theorem Asx{K:List Sv}(h:Mn K):(nms K).Pairwise fun a b=>slt b a=false:=by
 have h1:(K.map (·.nd)).Pairwise fun a b=>slt b a=false:=List.pairwise_map.2 h;have h2:=Am1 K [] [] (List.Sublist.refl _);rw[List.nil_append]at h2;exact h1.sublist h2
theorem Aqv{K:List Sv}{s:Sv}(h:Mn (K++[s])){n:ByteArray}(hl:(nms K).getLast? =some n):s.nd∈nms K↔n=s.nd:=by
 obtain⟨ini,hi⟩:=List.getLast?_eq_some_iff.1 hl;have hn:n∈nms K:=by rw[hi];simp
 refine⟨fun q=>?_,fun e=>e▸hn⟩;have hK:Mn K:=(List.pairwise_append.1 h).1;have h1:slt s.nd n=false:=by
  obtain⟨t,ht,e⟩:=Ys.1 hn;rw[←e];exact(List.pairwise_append.1 h).2.2 t ht s (List.mem_singleton_self _)
 have h2:slt n s.nd=false:=by
  rw[hi]at q;rcases XM.1 q with q|q
  ·have hp:=Asx hK;rw[hi]at hp;exact(List.pairwise_append.1 hp).2.2 _ q n (List.mem_singleton_self _)
  ·rw[XN.1 q];exact Fj _
 exact Ry h2 h1
def Lik(N:List ByteArray)(F:List Sv)(i k:Nat):List Sv:=(N.take i).flatMap (fun n=>Fy n F)++(match N[i]? with
 |some n=>Fy n (F.take k)
 |none=>[])
theorem Aio(N:List ByteArray)(F:List Sv)(i:Nat):Lik N F i 0=(N.take i).flatMap (fun n=>Fy n F):=by
 unfold Lik;cases N[i]? with
 |none=>simp
 |some n=>simp[Fy]
theorem Y2{N:List ByteArray}{F:List Sv}{i:Nat}(hi:i<N.length):Lik N F i F.length=Lik N F (i+1) 0:=by
 rw[Aio];unfold Lik;rw[ZC hi,XF,XT,ZC hi,Option.toList_some,List.flatMap_append,List.flatMap_cons,List.flatMap_nil,List.append_nil]
theorem An0{N:List ByteArray}{F:List Sv}{i k:Nat}(hi:i<N.length)(hk:k<F.length):Lik N F i (k+1)=if F[k].nd=N[i]then Lik N F i k++[F[k]]else Lik N F i k:=by
 unfold Lik;rw[ZC hi,XT,ZC hk];simp only[Option.toList];rw[Oe];by_cases e:F[k].nd=N[i]
 ·rw[if_pos e,tEq.2 e];simp
 ·rw[if_neg e,XE.2 (fun q=>e (tEq.1 q))];simp
theorem Ae8{N:List ByteArray}{F:List Sv}{i:Nat}(hi:i<N.length):∀(k d:Nat),k+d≤F.length→∃t,Lik N F i (k+d)=Lik N F i k++t
 |k,0,_=>⟨[],by simp⟩
 |k,d+1,h=>by
  have h1:k+d<F.length:=h;obtain⟨t,ht⟩:=Ae8 hi k d (Nat.le_of_lt h1);rw[←Nat.add_assoc,An0 hi h1,ht];split
  ·exact⟨t++[F[k+d]],by simp⟩
  ·exact⟨t,rfl⟩
theorem Aqo{N:List ByteArray}{F:List Sv}{i k:Nat}(hi:i<N.length)(hk:k≤F.length)(h:20≤(Lik N F i k).length):(Lik N F (i+1) 0).take 20=(Lik N F i k).take 20:=by
 rw[←Y2 hi];obtain⟨t,ht⟩:=Ae8 (N:=N) (F:=F) hi k (F.length-k) (by omega);rw[show k+(F.length-k)=F.length by omega]at ht;rw[ht,List.take_append_of_le_length h]
theorem Amu{N:List ByteArray}{F:List Sv}:Lik N F N.length 0=N.flatMap fun n=>Fy n F:=by rw[Aio,XF]
theorem Apa{aw:ByteArray→Bool}{F:List Sv}{n:ByteArray}(h:aw n=false):Fy n (Pl.keep (fun s=>aw s.nd) F)=Fy n F:=by
 unfold Fy Pl.keep;rw[List.filter_filter];congr 1;funext s;cases e:s.nd.toList==n.toList with
 |false=>rfl
 |true=>show(true&& !(aw s.nd))=true;rw[tEq.1 e,h];rfl
theorem Apr{aw:ByteArray→Bool}{F:List Sv}{n:ByteArray}(h:n∈nms (Pl.keep (fun s=>aw s.nd) F)):aw n=false:=by
 obtain⟨s,h1,rfl⟩:=Ys.1 h;have:=(List.mem_filter.1 h1).2;simpa using this
theorem Acs{aw:ByteArray→Bool}{F:List Sv}:∀{N:List ByteArray},(∀n∈N,aw n=false)→N.flatMap (fun n=>Fy n (Pl.keep (fun s=>aw s.nd) F))=N.flatMap fun n=>Fy n F
 |[],_=>rfl
 |n::N,h=>by
  rw[List.flatMap_cons,List.flatMap_cons,Apa (h n (XB ..)),Acs fun m hm=>h m (ZL _ hm)]
theorem Ahy{α:Type}{cf:α→α→Int}{d:List α}{x:α}(h:x∈Ii cf d):x∈d:=(List.mergeSort_perm d _).mem_iff.1 h
theorem Aad{α:Type}{cf:α→α→Int}{d:List α}:(Ii cf d).length=d.length:=(List.mergeSort_perm d _).length_eq
theorem Aub(k:Kn)(q:Qr):Bh k q=(Lik (Ii (cfN (Bx k.f k.wh)) (nms (fK k q))) (C8 k.l q.sv q.tg).2 (nms (fK k q)).length 0).take 20:=by
 unfold Bh;congr 1;have h:=Amu (N:=Ii (cfN (Bx k.f k.wh)) (nms (fK k q))) (F:=(C8 k.l q.sv q.tg).2);rw[Aad]at h;rw[h];exact Acs (aw:=Cc k.ms) fun n hn=>Apr (Ahy hn)
theorem Aes{k:Kn}{q:Qr}{s:Sv}(h:s∈Bh k q):s∈k.l∧Cc k.ms s.nd=false∧Sv.sought q.sv q.tg s=true:=by
 unfold Bh at h;have h:=List.mem_of_mem_take h;obtain⟨n,_,h2⟩:=List.mem_flatMap.1 h;have h3:=(List.mem_filter.1 h2).1;obtain⟨h4,h5⟩:=List.mem_filter.1 h3;have h6:s∈k.l∧Sv.sought q.sv q.tg s=true:=by
  unfold C8 at h4
  repeat' split at h4
  all_goals first
   |(simp at h4;done)
   |exact List.mem_filter.1 h4
 exact⟨h6.1,by simpa using h5,h6.2⟩
theorem Amj(k:Kn)(q:Qr):(Bh k q).length≤20:=by unfold Bh;rw[ZM];omega
theorem Afc{k:Kn}(h:k.err=0):lab k.here.data.toList=true∧Ei k.l=0∧F6 k.ms=0∧k.wh.length≤20∧k.f.err=0∧Cp (k.wh.map fun w=>w.pl.err)=0:=by
 unfold Kn.err at h;cases h0:lab k.here.data.toList with
 |false=>rw[h0]at h;exact absurd h (by decide:¬(1:Int)=0)
 |true=>
  rw[h0]at h;simp only[Bool.not_true,cond_false]at h;by_cases h1:Ei k.l≠0
  ·rw[if_pos h1]at h;exact absurd h h1
  rw[if_neg h1]at h;by_cases h2:F6 k.ms≠0
  ·rw[if_pos h2]at h;exact absurd h h2
  rw[if_neg h2]at h;by_cases h3:20<k.wh.length
  ·rw[if_pos h3]at h;exact absurd h (by decide)
  rw[if_neg h3]at h;by_cases h4:k.f.err≠0
  ·rw[if_pos h4]at h;exact absurd h h4
  rw[if_neg h4]at h;exact⟨rfl,by simpa using h1,by simpa using h2,by omega,by simpa using h4,h⟩
theorem Av6{l:List Sv}(h:Ei l=0):∀s∈l,s.err=0:=fun s hs=>by
 obtain⟨i,hi,e⟩:=List.getElem_of_mem hs;rw[←e];exact(Jo h).2.1 i hi
end Pl
namespace Pl
theorem L3:Ao ⟨#[]⟩=0:=by decide+kernel
theorem V0:em ⟨#[]⟩=true:=by simp[em]
theorem Rw{r:Rr}(h1:Ao r.nm=0)(h2:Fk r.ty=true)(h3:wIn r.ls 0 2147483647=true)(h4:r.un=true)(h5:wIn r.ad 0 4294967295=true)(h6:wIn r.pt 0 65535=true)(h7:r.tx.size≤200)(h8:Ao r.tg=0):Cu r=0:=by
 unfold Cu;rw[if_neg (by simp[h1]),h2,h3,h4,h5,h6,if_neg (by omega),h8];rfl
theorem Aw7 {s : Sv} (h : s.err = 0) : lab s.nd.data.toList = true ∧ lab s.id.data.toList = true ∧ wIn s.ad 0 4294967295 = true ∧ wIn s.pt 0 65535 = true := by
  unfold Sv.err at h
  repeat' split at h
  all_goals first
    | (simp at h; done)
    | (simp only [Ae2] at *
       refine ⟨by assumption, by assumption, ?_, ?_⟩ <;> unfold wIn <;> simp_all)
theorem Auw{here nm:ByteArray}{t:Int}{s:Sv}(hs:s.err=0)(hn:Ao nm=0)(ht:Fk t=true)(e:(C3 here t nm s).2=0):Cu (C3 here t nm s).1=0:=by
 obtain⟨b1,b2,b3,b4⟩:=Aw7 hs;have w0:∀b:Int,0≤b→wIn 0 0 b=true:=fun b hb=>by unfold wIn;simp[hb]
 have hz:(⟨#[]⟩:ByteArray).size≤200:=by decide
 by_cases t1:t=1
 ·subst t1;rw[show C3 here 1 nm s=(⟨nm,1,0,s.ad,⟨#[]⟩,0,⟨#[]⟩⟩,0)from if_pos rfl];exact Rw hn rfl (w0 _ (by decide)) (by simp[Rr.un,V0]) b3 (w0 _ (by decide)) hz L3
 by_cases t16:t=16
 ·subst t16;rw[show C3 here 16 nm s=(⟨nm,16,0,0,s.id,0,⟨#[]⟩⟩,0)from(if_neg (by decide)).trans (if_pos rfl)];exact Rw hn rfl (w0 _ (by decide)) (by simp[Rr.un,V0]) (w0 _ (by decide)) (w0 _ (by decide)) (by have:=(Aj2 b2).2;show s.id.size≤200;omega) L3
 by_cases t33:t=33
 ·subst t33;have e0:C3 here 33 nm s=if(Ah ⟨⟨#[]⟩,⟨#[]⟩,s.nd,here⟩).2≠0 then(⟨nm,33,0,0,⟨#[]⟩,0,⟨#[]⟩⟩,(Ah ⟨⟨#[]⟩,⟨#[]⟩,s.nd,here⟩).2)
   else(⟨nm,33,0,0,⟨#[]⟩,s.pt,(Ah ⟨⟨#[]⟩,⟨#[]⟩,s.nd,here⟩).1⟩,0):=rfl
  rw[e0]at e ⊢;by_cases c:(Ah ⟨⟨#[]⟩,⟨#[]⟩,s.nd,here⟩).2=0
  ·rw[if_neg (by simpa using c)];obtain⟨p1,p2⟩:∃p,Ah ⟨⟨#[]⟩,⟨#[]⟩,s.nd,here⟩=(p,0):=⟨_,Prod.ext rfl c⟩;obtain⟨_,q2,q3⟩:=Ix p2;refine Rw hn rfl (w0 _ (by decide)) (by simp[Rr.un,V0]) (w0 _ (by decide)) b4 hz ?_;show Ao (Ah ⟨⟨#[]⟩,⟨#[]⟩,s.nd,here⟩).1=0;rw[p2,←q3];exact q2
  ·rw[if_pos c]at e;exact absurd e c
 ·exfalso;simp[Fk,t1,t16,t33]at ht
structure Aer(x:List Rr×Int×Int):Prop where
 co:x.2.1=0∨x.2.1=3
 len:x.1.length≤20
 rs:∀r∈x.1,Cu r=0
theorem Ar8{k:Kn}{q:Qr}{t:Int}{nm:ByteArray}{F:List Sv}(hn:Ao nm=0)(ht:Fk t=true)(hF:F.length≤20)(hs:∀s∈F,s.err=0):Aer (Jx k q t nm F):=by
 unfold Jx;by_cases h1:Cp (F.map fun s=>(C3 k.here t nm s).2)=0
 ·rw[if_neg (by simpa using h1)];split
  ·exact⟨.inr rfl,ZU _,fun r hr=>by cases hr⟩
  ·refine⟨.inl rfl,by simpa using hF,fun r hr=>?_⟩;obtain⟨s,h2,rfl⟩:=XO.1 hr;exact Auw (hs s h2) hn ht (P5 h1 _ (List.mem_map_of_mem h2))
 ·rw[if_pos h1];exact⟨.inl rfl,ZU _,fun r hr=>by cases hr⟩
theorem As5{k:Kn}{q:Qr}{t:Int}{nm:ByteArray}(hn:Ao nm=0)(hm:F6 k.ms=0):Aer ((Jc k q t nm).1,(Jc k q t nm).2,0):=by
 unfold Jc;split
 ·exact⟨.inr rfl,ZU _,fun r hr=>by cases hr⟩
 ·split
  ·exact⟨.inl rfl,ZU _,fun r hr=>by cases hr⟩
  ·rename_i t1;have t1:t=1:=by simpa using t1
   split
   ·rename_i m hm1;refine⟨.inl rfl,by simp,fun r hr=>?_⟩;obtain⟨hi,e⟩:=ZB.1 hm1;have hb:m.err=0:=by rw[←e];exact(P4 hm).2.1 _ hi
    have ha:wIn m.ad 0 4294967295=true:=by
     unfold Mb.err at hb
     repeat' split at hb
     all_goals first
      |(simp at hb;done)
      |(rename_i h;rw[ZO,Ae2,Ae2]at h;unfold wIn;simp[h.2.1,h.2.2])
    rw[XN.1 hr,t1];have w0:∀b:Int,0≤b→wIn 0 0 b=true:=fun b hb=>by unfold wIn;simp[hb]
    exact Rw hn rfl (w0 _ (by decide)) (by simp[Rr.un,V0]) ha (w0 _ (by decide)) (by show(⟨#[]⟩:ByteArray).size≤200;decide) L3
   ·exact⟨.inl rfl,ZU _,fun r hr=>by cases hr⟩
theorem Aab(k:Kn)(q:Qr)(t:Int):Aer (C7 k q t (Bh k q)):=by
 have bad:∀e:Int,Aer ([],0,e):=fun e=>⟨.inl rfl,ZU _,fun r hr=>by cases hr⟩;unfold C7;by_cases h1:Jt k q t=0
 ·rw[if_neg (by simpa using h1)];by_cases h2:(Ah q).2=0
  ·rw[if_neg (by simpa using h2)];obtain⟨p1,p2⟩:∃p,Ah q=(p,0):=⟨_,Prod.ext rfl h2⟩;obtain⟨_,q2,q3⟩:=Ix p2;have hn:Ao (Ah q).1=0:=by rw[p2,←q3];exact q2
   have hk:Fk t=true∧k.err=0:=by
    unfold Jt at h1;split at h1
    ·rename_i h;exact absurd h1 h
    ·split at h1
     ·cases h1
     ·rename_i h;exact⟨by simpa using h,h1⟩
   have hi:=Afc hk.2;split
   ·exact⟨.inr rfl,ZU _,fun r hr=>by cases hr⟩
   ·split
    ·exact As5 hn hi.2.2.1
    ·exact Ar8 hn hk.1 (Amj k q) fun s hs=>Av6 hi.2.1 s (Aes hs).1
  ·rw[if_pos h2];exact bad _
 ·rw[if_pos h1];exact bad _
end Pl
end Go.Proofs.YtbnocibpoghfhaaGreatDoor

namespace Go.Proofs.YtbnocibpoghfhaaGreatDoor
open Go.RowKit Pl
theorem Ahl(cl:Bool)(l:List Sv)(f:FuncId)(caps:List V)(hcaps:∀u∈caps,Cl u)(p:Sv→Bool)(hl:l.length≤1000)(hf:∀x∈l,Fun Tryz.prog f (.c (.agg (Sv.row x))::caps.map .c) [.c (.v (.bool (p x)))]):
  Fun Tryz.prog 120 [.c (.sl cl (l.map Sv.row)),.c (.clo f caps)] [.c (.v (.int .i64 (at_ p l)))]:=by
 refine Ar Fd rfl ?_;refine G0 ?_;rw[ZE];(refine⟨[],none,{k:Nat//k≤l.length∧∀j,(h:j<l.length)→j<k→p l[j]=false},[0,1,7],fun⟨k,hk,h0⟩=>[(8,.v (.int .i64 k))],[],fun⟨k,hk,h0⟩=>[],fun⟨k,hk,h0⟩=>l.length-k,trivial,fun _=>⟨trivial,fun _=>⟨⟨0,by omega,fun j _ h=>by omega⟩,tI,Af _ _,tI,Ae _ _⟩⟩,fun⟨k,hk,h0⟩=>?_⟩);refine G0 ?_;(refine Aa (fun h=>?_) (fun h=>?_)<;>rw[h])
 ·have hlt:k<l.length:=(by have:=ZV h;omega);refine G0 ?_;refine⟨k,_,rfl,Ad hlt,?_⟩;refine G0 ?_;(refine .inl ⟨_,_,false,[],aI,hf _ (ZK hlt),Ab,nI,?_⟩);refine G1 ?_;intro gg;(refine Aa (fun h2=>?_) (fun h2=>?_)<;>rw[h2])
  ·refine G0 ?_;rw[Vq hlt h0 h2];(exact⟨[],aI⟩)
  ·refine G0 ?_;(exact⟨none,trivial,fun _=>⟨⟨k+1,by omega,up1 (p:=fun j h=>p l[j]=false) h0 (fun _=>h2)⟩,by show l.length-(k+1)<l.length-k;omega,tI,tI,tI,tI⟩⟩)
 ·have hge:¬k<l.length:=(by have:=ZW h;omega);refine G0 ?_;rw[Ad9 (p:=p) (l:=l) (fun i hi=>h0 i hi (by omega))];(exact⟨[],aI⟩)
theorem Ac7(l:List Sv)(f:FuncId)(caps:List V)(hcaps:∀u∈caps,Cl u)(p:Sv→Bool)(hl:l.length≤1000)(hf:∀x∈l,Fun Tryz.prog f (.c (.agg (Sv.row x))::caps.map .c) [.c (.v (.bool (p x)))]):
  Fun Tryz.prog 95 [.o 39 9 (l.map Sv.row),.c (.clo f caps)] [.o 39 9 ((keep p l).map Sv.row)]:=by
 refine Ar E8 rfl ?_;refine G0 ?_;(refine .inl ⟨_,_,true,[],aI,Ahl false l f caps hcaps p hl hf,(fun _=>fI),nI,?_⟩);rcases Ajp (p:=p) (l:=l)with⟨h1,h2⟩|⟨k,hk,h1,h2,h3⟩
 ·rw[h1,Pl.keep_all (p:=p) (l:=l) h2];refine G1 ?_;intro gg;(exact⟨[0],aI⟩)
 ·rw[h1];refine G1 ?_;intro gg;(refine⟨[],none,{q:List Sv×Nat×Nat//Ju p l q.1 q.2.1 q.2.2},[0,1,36,37,39,40,41],fun⟨⟨l',i,j⟩,hm⟩=>[(5,.v (.int .i64 i)),(6,.v (.int .i64 j))],[],fun⟨⟨l',i,j⟩,hm⟩=>[(0,⟨0,39,9,l'.map Sv.row⟩)],fun⟨⟨l',i,j⟩,hm⟩=>l.length-j,trivial,fun _=>⟨trivial,fun _=>⟨⟨(l,k,k+1),Ju.start hk h2 h3⟩,tI,Af _ _,tI,Ae _ _⟩⟩,fun⟨⟨l',i,j⟩,hm⟩=>?_⟩);refine G0 ?_;have hm:Ju p l l' i j:=hm;have hlen:l'.length=l.length:=hm.len;(refine Aa (fun h=>?_) (fun h=>?_)<;>rw[h])
  ·have hlt:j<l'.length:=by have:=ZV h;simpa using this
   refine G0 ?_;refine⟨j,_,rfl,Ad hlt,?_⟩;refine G1 ?_;intro gg;have hj:j<l.length:=by omega
   have hx:l'[j]=l[j]:=hm.behind j hj (ZT _);rw[hx];(refine .inl ⟨_,_,false,[],aI,hf _ (ZK hj),Ab,nI,?_⟩);refine G1 ?_;intro gg;(refine Aa (fun h4=>?_) (fun h4=>?_)<;>rw[h4])
   ·have h4':p l[j]=false:=Dr h4;have hi:i<l'.length:=by have:=hm.ij;omega
    refine G0 ?_;refine⟨i,_,rfl,Ad hi,?_⟩;refine G0 ?_;have e:(l'.map Sv.row).set i (Sv.row l[j])=(l'.set i l[j]).map Sv.row:=List.map_set.symm;exact⟨none,trivial,fun gr=>⟨⟨(l'.set i l[j],i+1,j+1),hm.stays hj h4'⟩,by show l.length-(j+1)<l.length-j;omega,tI,tI,⟨congrArg (fun r=>some (Ent.mk 0 39 9 r)) e,trivial⟩,tI⟩⟩
   ·have h4':p l[j]=true:=Bw h4;refine G0 ?_;(exact⟨none,trivial,fun _=>⟨⟨(l',i,j+1),hm.gone hj h4'⟩,by show l.length-(j+1)<l.length-j;omega,tI,tI,tI,tI⟩⟩)
  ·have hge:¬j<l'.length:=by have:=ZW h;simpa using this
   have hi:i≤l'.length:=by have:=hm.ij;have:=hm.jl;omega
   refine G0 ?_;refine⟨1,i,(l'.map Sv.row).length,rfl,⟨_,rfl⟩,rfl,by simpa using hi,ZT _,?_⟩;refine G0 ?_;refine⟨by simpa using hi,ZT _,?_⟩;refine G0 ?_;refine⟨0,0,i,rfl,rfl,⟨_,rfl⟩,ZU _,?_,rfl,rfl,fun g=>?_⟩
   ·show i≤((l'.map Sv.row).take i++List.replicate ((l'.map Sv.row).length-i) _++(l'.map Sv.row).drop (l'.map Sv.row).length).length;simp only[ZF,ZM,ZE,List.length_replicate];omega
   refine G0 ?_;refine⟨[0],Afr rfl rfl rfl rfl rfl Dy ?_⟩;show((l'.map Sv.row).take i++List.replicate ((l'.map Sv.row).length-i) _++(l'.map Sv.row).drop (l'.map Sv.row).length).take i=(keep p l).map Sv.row;rw[ZS,List.take_append_of_le_length (by simp;omega),List.take_take,Nat.min_self,←hm.fin (by omega),List.map_take]
open Go
theorem Aji(k:Kn)(q:Qr)(t:Int)(nm:ByteArray)(s:Sv)(hl:k.ms.length≤1000)(hm:Aj9 (Mb.cf s.nd) k.ms):Fun Tryz.prog 96 [.c (.agg s.row),.c (.rptr [.rptr (k.ask q t nm) 0] 0)] [.c (.v (.bool (Cc k.ms s.nd)))]:=by
 refine Ar Of rfl ?_;refine G1 ?_;intro gg;(refine .inl ⟨_,_,false,[],.same (V5 k q t nm 0) (.same (As rfl) (.nil _)),Ahq k q t nm s.nd hl hm,Ab,nI,?_⟩);refine G1 ?_;intro gg;(exact⟨[],aI⟩)
theorem Asy{l:List Sv}{a b:ByteArray}(h:Ei l=0):(C8 l a b).2.length≤40:=by
 have:=(Jo h).1;unfold C8
 repeat' split
 all_goals first
  |exact ZU _
  |exact XI (Np l a b) this
theorem An7{l:List Int}(h:Cp l=0):∀e∈l,e=0:=by
 induction l with
 |nil=>intro e he;cases he
 |cons a l ih=>
  have h:(if a≠0 then a else Cp l)=0:=h;split at h
  ·rename_i ha;exact absurd h ha
  ·rename_i ha;intro e he;rcases XC.1 he with rfl|he
   ·simpa using ha
   ·exact ih h e he
set_option maxHeartbeats 2000000 in
theorem Akl(k:Kn)(q:Qr)(t:Int)(nm:ByteArray)(hk:k.In)(hq:q.ok)(he:k.err=0):Fun Tryz.prog 52 [.c (.rptr (k.ask q t nm) 0)] [.o 39 9 ((Bh k q).map Sv.row)]:=by
 obtain⟨i1,i2,i3,i4,i5,i6⟩:=Afc he;have hms:=At9 he;have hF:=Asy (a:=q.sv) (b:=q.tg) i2;have hD:=Ac7 (C8 k.l q.sv q.tg).2 96 [.rptr [.rptr (k.ask q t nm) 0] 0] (fun u hu=>by rw[XN.1 hu];exact Amc fun v hv=>by rw[XN.1 hv];exact V5 k q t nm 0) (fun s=>Cc k.ms s.nd) (by omega) (fun x hx=>Aji k q t nm x (by omega) (hms.2 x.nd));have hfK:fK k q=Pl.keep (fun s=>Cc k.ms s.nd) (C8 k.l q.sv q.tg).2:=rfl;have hKl:(fK k q).length≤40:=by rw[hfK];exact XI (List.length_filter_le _ _) hF
 refine Ar Pm rfl ?_;refine G1 ?_;intro gg;(refine .inl ⟨_,_,false,[],aI,Ajs k.l q.sv q.tg hk.ll hk.lo hq.1 hq.2.1,Ab,nI,?_⟩);refine G1 ?_;intro gg;refine .inl ⟨_,_,true,[432],?_,hD,(fun _=>fI),nI,?_⟩
 ·exact Avj rfl Dy (by decide) (by decide) (.borc (Asa rfl rfl rfl (fun v hv=>by rw[XN.1 hv];exact V5 k q t nm 0) (by decide) Alq) (.nil _))
 rw[←hfK];generalize hK:fK k q=K at *;(refine goI ?_;repeat (intro gg;refine goI ?_));revert gg;intro gm;have hMn:Mn (C8 k.l q.sv q.tg).2:=by
  unfold C8
  repeat' split
  all_goals first
   |exact List.Pairwise.nil
   |exact(Avc (Jo i2).2.2).filter _
 (refine⟨[(6,96,9,1)],none,{p:Nat×Nat×List (ByteArray×V)×List SE//p.1≤K.length∧Grp 39 (K.take p.1) p.2.2.1 p.2.2.2},[1,5,34,35],fun⟨⟨i,g,E,ss⟩,hi,hG⟩=>[(6,.own 96 g),(36,.v (.int .i64 (i:Int)))],[16,512],fun⟨⟨i,g,E,ss⟩,hi,hG⟩=>[(96,⟨g,.t 9,1,(nms (K.take i)).map Dg⟩),(528,⟨gm,.q (J2 (ents E) ss),0,[]⟩)],fun⟨⟨i,g,E,ss⟩,hi,hG⟩=>K.length-i,(by exact⟨rfl,by decide,(fun _ _ _ _ h=>by cases h),trivial⟩),fun gs=>⟨trivial,fun _=>⟨⟨(0,gs 96,[],[]),ZU _,Grp.nil _⟩,tI,tI,tI,tI⟩⟩,fun⟨⟨i,g,E,ss⟩,hi,hG⟩=>?_⟩);simp only at hi hG;have hnl:=Alj (K.take i);rw[ZM]at hnl;have hnl2:((nms (K.take i)).map Dg).length≤40:=by rw[ZE];omega
 refine G0 ?_;simp only[ZE];by_cases c:i<K.length
 ·rw[show decide ((i:Int)<(K.length:Int))=true from ZX (by omega)];refine G0 ?_;refine⟨i,_,rfl,Ad c,?_⟩;refine G1 ?_;intro gg;have hMi:Mn (K.take i++[K[i]]):=by
   have:Mn (K.take (i+1)):=by
    rw[hfK];exact(hMn.filter _).take _
   rw[XT,ZC c]at this;exact this
  have et:K.take (i+1)=K.take i++[K[i]]:=by rw[XT,ZC c];rfl
  by_cases hm:K[i].nd∈nms (K.take i)
  ·obtain⟨j,u,h1,h2,h3,h4,h5⟩:=hG.has _ hm;obtain⟨x,l',p1,p2⟩:=Af8 hm;have hu0:u.rows.length≠0:=by rw[h5,p1];simp
   have hu4:u.rows.length≤40:=by
    rw[h5,ZE];have:(Fy K[i].nd (K.take i)).length≤(K.take i).length:=List.length_filter_le _ _;rw[ZM]at this;omega
   have hu9:u.rows≠[]:=fun e=>hu0 (by rw[e];rfl);have hur:∀row∈u.rows,∀v∈row,Cl v:=by rw[h5];exact Dy
   obtain⟨ss1,ss2,rfl⟩:=List.append_of_mem h2;have en:nms (K.take (i+1))=nms (K.take i):=by rw[et,P9,Rz hm]
   refine⟨_,Nb _ _,some (j,.v u.val),(D8 _ _ _).trans (by rw[h1]),?_⟩;refine G0 ?_;rw[show((u.rows.length:Int)==0)=false from ZG.2 (by omega)];refine G0 ?_;refine⟨_,Nb _ _,some (j,.v u.val),(D8 _ _ _).trans (by rw[h1]),?_⟩;refine G1 ?_;intro gg;refine⟨_,ss1,u,ss2,rfl,rfl,rfl,rfl,h4,h3,by decide,by decide,by decide,lI,lI,?_⟩;refine G1 ?_;intro gg;refine⟨⟨trivial,rfl,rfl,trivial,trivial,trivial,trivial,trivial,trivial,trivial⟩,?_⟩;refine G0 ?_;refine⟨Pl.ents E,ss1++ss2,some (j,.v u.val),39,rfl,(D8 _ _ _).trans (by rw[h1]),?_⟩;refine G0 ?_;refine⟨?_,?_,by decide,fun b cap=>?_⟩
   ·show u.rows++[Sv.row K[i]]≠[];simp
   ·show∀row∈u.rows++[Sv.row K[i]],∀v∈row,Cl v;rw[h5];exact Oi Dy (K1 rfl)
   refine G0 ?_;have e:=Za E K[i].nd (.v (SE.val ⟨39,9,b,cap,u.rows++[K[i].row]⟩));rw[h1]at e;have hG':Grp 39 (K.take (i+1)) (put E K[i].nd (.v (SE.val ⟨39,9,b,cap,u.rows++[K[i].row]⟩))) (⟨39,9,b,cap,u.rows++[K[i].row]⟩::(ss1++ss2)):=by rw[et];exact hG.old K[i] hm h5 b cap
   (exact⟨none,trivial,fun gr=>⟨⟨(i+1,g,_,_),Nat.succ_le_of_lt c,hG'⟩,by show K.length-(i+1)<K.length-i;omega,tI,tI,⟨congrArg (fun r=>some (Ent.mk g (.t 9) 1 (List.map Dg r))) en.symm,congrArg (fun x=>some (Ent.mk gm (.q (J2 x (⟨39,9,b,cap,u.rows++[K[i].row]⟩::(ss1++ss2)))) 0 [])) e,trivial⟩,tI⟩⟩)
  ·have hl:=hG.no _ hm;have en:nms (K.take (i+1))=nms (K.take i)++[K[i].nd]:=by rw[et,P9,N3 hm]
   have enr:(nms (K.take i)).map Dg++[Dg K[i].nd]=(nms (K.take (i+1))).map Dg:=by rw[en,ZI];rfl
   refine⟨_,Nb _ _,none,(D8 _ _ _).trans (by rw[hl]),?_⟩;refine G1 ?_;intro gg;refine⟨lI,lI,?_⟩;refine G1 ?_;intro gg;revert gg;intro g2;refine⟨_,Nb _ _,none,(D8 _ _ _).trans (by rw[hl]),?_⟩;refine G1 ?_;intro gg;refine⟨lI,lI,?_⟩;refine G1 ?_;intro gg;refine⟨⟨trivial,rfl,rfl,trivial,trivial,trivial,trivial,trivial,trivial,trivial⟩,?_⟩;refine G0 ?_;refine⟨Pl.ents E,ss,none,39,rfl,(D8 _ _ _).trans (by rw[hl]),?_⟩;refine G0 ?_;refine⟨?_,?_,by decide,fun b cap=>?_⟩
   ·show [Sv.row K[i]]≠[];simp
   ·show∀row∈[Sv.row K[i]],∀v∈row,Cl v;exact K1 rfl
   refine G0 ?_;have e:=Za E K[i].nd (.v (SE.val ⟨39,9,b,cap,[K[i].row]⟩));rw[hl]at e;have hG':Grp 39 (K.take (i+1)) (put E K[i].nd (.v (SE.val ⟨39,9,b,cap,[K[i].row]⟩))) (⟨39,9,b,cap,[K[i].row]⟩::ss):=by rw[et];exact hG.new K[i] hm b cap
   (exact⟨none,trivial,fun gr=>⟨⟨(i+1,g2,_,_),Nat.succ_le_of_lt c,hG'⟩,by show K.length-(i+1)<K.length-i;omega,tI,tI,⟨congrArg (fun r=>some (Ent.mk g2 (.t 9) 1 r)) enr,congrArg (fun x=>some (Ent.mk gm (.q (J2 x (⟨39,9,b,cap,[K[i].row]⟩::ss))) 0 [])) e,trivial⟩,tI⟩⟩)
 ·rw[show decide ((i:Int)<(K.length:Int))=false from ZY (by omega)];obtain rfl:i=K.length:=by omega
  rw[XF]at hG hnl hnl2;have hS:=Ant k.f k.wh (nms K) hk.wl (by omega);have hz:Hg k.f k.wh (nms K)=0:=by
   rw[Us (by omega) i5];exact Dm fun j hj=>An7 i6 _ (List.mem_map_of_mem (f:=fun w:Wh=>w.pl.err) (ZK hj))
  rw[hz,Agh hz]at hS;rw[XF];refine G0 ?_;(refine .inl ⟨_,_,true,[],aI,hS,(fun _=>fI),nI,?_⟩);refine G1 ?_;intro gg;have hf:=fun n (hn:n∈Ii (cfN (Bx k.f k.wh)) (nms K))=>hG.has n (Ahy hn);have hfd:Bh k q=((Ii (cfN (Bx k.f k.wh)) (nms K)).flatMap fun n=>Fy n K).take 20:=by unfold Bh;rw[hK]
  have hNl:(Ii (cfN (Bx k.f k.wh)) (nms K)).length≤40:=by rw[Aad];omega
  generalize Ii (cfN (Bx k.f k.wh)) (nms K)=N at *;have hfl:=fun i=>Alf hKl (N.take i);(refine⟨[(9,144,39,9)],none,{p:Nat×Nat//p.1≤N.length},[5,75,76],fun⟨⟨i,g⟩,hi⟩=>[(9,.own 144 g),(77,.v (.int .i64 (i:Int)))],[528,1152],fun⟨⟨i,g⟩,hi⟩=>[(144,⟨g,.t 39,9,((N.take i).flatMap fun n=>Fy n K).map Sv.row⟩)],fun⟨⟨i,g⟩,hi⟩=>N.length-i,(by exact⟨rfl,by decide,(fun _ _ _ _ h=>by cases h),trivial⟩),fun gs=>⟨trivial,fun _=>⟨⟨(0,gs 144),ZU _⟩,tI,tI,tI,tI⟩⟩,fun⟨⟨i,g⟩,hi⟩=>?_⟩);simp only at hi;have h16:((N.take i).flatMap fun n=>Fy n K).length≤1600:=by
   have:=hfl i;rw[ZM]at this;refine XI this (XI (XG 40 (Nat.min_le_right i N.length)) ?_);omega
  refine G0 ?_;simp only[ZE];by_cases c:i<N.length
  ·rw[show decide ((i:Int)<(N.length:Int))=true from ZX (by omega)];obtain⟨j,u,h1,h2,h3,h4,h5⟩:=hf N[i] (ZK c);have hu4:u.rows.length≤40:=by
    rw[h5,ZE];have:(Fy N[i] K).length≤K.length:=List.length_filter_le _ _;omega
   have er:((N.take i).flatMap fun n=>Fy n K).map Sv.row++u.rows=((N.take (i+1)).flatMap fun n=>Fy n K).map Sv.row:=by
    rw[XT,ZC c,Option.toList_some,List.flatMap_append,ZI,h5];simp
   refine G0 ?_;refine⟨i,_,rfl,Ad c,?_⟩;refine G0 ?_;refine⟨_,Nb _ _,some (j,.v u.val),(D8 _ _ _).trans (by rw[h1]),?_⟩;refine G0 ?_;refine⟨Pl.ents E,ss,u,rfl,h2,rfl,rfl,rfl,h4,?_⟩;refine G0 ?_;refine⟨lI,lI,?_⟩;refine G1 ?_;intro gg;(exact⟨none,trivial,fun gr=>⟨⟨(i+1,gg),Nat.succ_le_of_lt c⟩,by show N.length-(i+1)<N.length-i;omega,tI,tI,⟨congrArg (fun r=>some (Ent.mk gg (.t 39) 9 r)) er,trivial⟩,tI⟩⟩)
  ·rw[show decide ((i:Int)<(N.length:Int))=false from ZY (by omega)];obtain rfl:i=N.length:=by omega
   rw[XF];rw[XF]at h16;rw[hfd];generalize N.flatMap (fun n=>Fy n K)=A at *;refine G0 ?_;rw[ZE];have hm:min (A.length:Int) 20=((min A.length 20:Nat):Int):=by omega
   rw[hm];refine G0 ?_;refine⟨0,0,min A.length 20,rfl,rfl,⟨.i64,rfl⟩,ZU _,Nat.min_le_left _ _,rfl,rfl,fun g2=>?_⟩;refine G0 ?_;refine⟨[144],Afr rfl rfl rfl rfl rfl Dy ?_⟩;show(A.map Sv.row).take (min A.length 20)=(A.take 20).map Sv.row;rw[←List.map_take];congr 1;by_cases h:A.length≤20
   ·rw[Nat.min_eq_left h,XF,List.take_of_length_le h]
   ·rw[Nat.min_eq_right (by omega)]
theorem Ank(k:Kn)(q:Qr)(t:Int)(nm:ByteArray)(hk:k.In)(hq:q.ok)(he:k.err=0):Fun Tryz.prog 52 [.c (.rptr (k.ask q t nm) 0)] [.c (.sl false ((Bh k q).map Sv.row))]:=Fun.frz (Akl k q t nm hk hq he)

namespace Pl
theorem Bad{q:Qr}(h:q.err=0)(hn:em q.nd=true):lab q.sv.data.toList=true∧Sp q.tg=true:=by
 unfold Qr.err at h;cases h1:q.c1 with
 |true=>rw[h1]at h;exact absurd h (by decide:¬(1:Int)=0)
 |false=>
  rw[h1]at h;cases h2:q.c2 with
  |true=>rw[h2]at h;exact absurd h (by decide:¬(1:Int)=0)
  |false=>
   have hs:em q.sv=false:=by
    unfold Qr.c1 at h1;rw[hn]at h1;cases e:em q.sv with
    |false=>rfl
    |true=>rw[e]at h1;simp at h1
   have hb:∀x∈q.all,Gx x=false:=by
    unfold Qr.c2 at h2;intro x hx;have:=List.any_eq_false.1 h2 x hx;simpa using this
   have b1:=hb q.sv (by simp[Qr.all]);have b2:=hb q.tg (by simp[Qr.all]);unfold Gx at b1 b2;rw[hs,cond_false]at b1;refine⟨by simpa using b1,?_⟩;have em_emp:em q.tg=emp q.tg:=rfl;unfold Sp;rw[←em_emp];cases e:em q.tg with
   |true=>rfl
   |false=>rw[e,cond_false]at b2;simpa using b2
theorem Vm{l:List Sv}{a b:ByteArray}(h1:Ei l=0)(h2:lab a.data.toList=true)(h3:Sp b=true):C8 l a b=(0,Dc l a b):=by simp[C8,h1,h2,h3]
theorem Aa4:Sp ⟨#[]⟩=true:=by simp[Sp,emp]
theorem Akr{A B:List Int}{e:Int}(h:∀a∈A,a=0)(he:e≠0):Cp (A++e::B)=e:=by
 induction A with
 |nil=>exact if_pos he
 |cons a A ih=>
  have h0:=h a (XB ..);subst h0;exact ih fun x hx=>h x (ZL _ hx)
theorem Aq5{N:List ByteArray}{F:List Sv}{i k:Nat}(hi:i<N.length)(hk:k<F.length)(h:F[k].nd=N[i]):∃t,Lik N F N.length 0=Lik N F i k++F[k]::t:=by
 obtain⟨t,ht⟩:=Ae8 (F:=F) hi (k+1) (F.length-(k+1)) (by omega);rw[show k+1+(F.length-(k+1))=F.length by omega,Y2 hi,An0 hi hk,if_pos h,Aio]at ht;have e:N.flatMap (fun n=>Fy n F)=(N.take (i+1)).flatMap (fun n=>Fy n F)++(N.drop (i+1)).flatMap (fun n=>Fy n F):=by
  rw[←List.flatMap_append,List.take_append_drop]
 rw[Amu,e,ht];exact⟨t++(N.drop (i+1)).flatMap (fun n=>Fy n F),by simp⟩
end Pl
set_option maxHeartbeats 4000000 in
theorem Uy(k:Kn)(q:Qr)(t:Int)(hk:k.In)(hq:q.ok):
  Fun Tryz.prog 9 [.c (.agg q.row),.c (.v (.int .i64 t)),.c (.v (.string k.here)),.c (.sl false (k.l.map Sv.row)),.c (.sl false (k.ms.map Mb.row)),.c (.agg k.f.row),.c (.sl false (k.wh.map Wh.row))]
   [.o 42 7 ((C7 k q t (Bh k q)).1.map Rr.row),.c (.v (.int .i64 (C7 k q t (Bh k q)).2.1)),.c (.v (.int .i64 (C7 k q t (Bh k q)).2.2))]:=by
 have hE:Jt k q t=if q.err≠0 then q.err else if Fk t=false then 7 else k.err:=rfl
 have hA:C7 k q t (Bh k q)=(if Jt k q t≠0 then([],0,Jt k q t)
  else if(Ah q).2≠0 then([],0,(Ah q).2)
  else if em q.ce=false∧(q.ce.toList==k.here.toList)=false then([],3,0)
  else if em q.nd=false then((Jc k q t (Ah q).1).1,(Jc k q t (Ah q).1).2,0)
  else Jx k q t (Ah q).1 (Bh k q):List Rr×Int×Int):=rfl
 refine Akt (rcD:=H8 [true,true,true,true,true,true,true,false] Hu) Nw (by kernel_rfl) rfl ?_;(refine goI ?_;repeat (intro gg;refine goI ?_));(refine .inl ⟨_,_,false,[],aI,Pd q hq,Ab,nI,?_⟩);refine G1 ?_;intro gg;by_cases c1:q.err=0;rotate_left
 ·rw[if_pos c1]at hE;rw[hE,if_pos c1]at hA;rw[hA,show(q.err==0)=false from ZG.2 c1];refine G0 ?_;rw[show(q.err==0)=false from ZG.2 c1];refine G0 ?_;rw[show(q.err !=0)=true from ZZ.2 c1];refine G0 ?_;(exact⟨[],aI⟩)
 rw[if_neg (by simpa using c1)]at hE;rw[show(q.err==0)=true from ZR.2 c1];refine G0 ?_;(refine .inl ⟨_,_,false,[],aI,Qg t,Ab,nI,?_⟩);refine G1 ?_;intro gg;by_cases c2:Fk t=true;rotate_left
 ·rw[if_pos (XE.2 c2)]at hE;rw[hE,if_pos (by decide)]at hA;rw[hA,XE.2 c2];refine G0 ?_;(exact⟨[],aI⟩)
 rw[if_neg (by simpa using c2)]at hE;rw[c2];refine G0 ?_;rw[show(q.err==0)=true from ZR.2 c1];refine G0 ?_;(refine .inl ⟨_,_,false,[],aI,Abm k hk,Ab,nI,?_⟩);refine G1 ?_;intro gg;by_cases c3:k.err=0;rotate_left
 ·rw[hE,if_pos c3]at hA;rw[hA,show(k.err !=0)=true from ZZ.2 c3];refine G0 ?_;(exact⟨[],aI⟩)
 rw[hE,if_neg (by simpa using c3)]at hA;rw[c3];have hP:=Ks q hq;obtain⟨i1,i2,i3,i4,i5,i6⟩:=Afc c3;have hms:=At9 c3;have hat:=fun name=>Mb.at_eq (P4 i3).2.2 name;have hEc:em q.ce=(q.ce.toList==(⟨#[]⟩:ByteArray).toList):=rfl;have hEn:em q.nd=(q.nd.toList==(⟨#[]⟩:ByteArray).toList):=rfl;have hN0:Jc k q t (Ah q).1=(if hit (Mb.cf q.nd) k.ms=false∨Cc k.ms q.nd=true then([],3)
  else if t≠1 then([],0)
  else match k.ms[low (Mb.cf q.nd) k.ms]? with
   |some m=>([⟨(Ah q).1,t,0,m.ad,⟨#[]⟩,0,⟨#[]⟩⟩],0)
   |none=>([],0):List Rr×Int):=rfl
 have haw:∀name,Cc k.ms name=(bif hit (Mb.cf name) k.ms then(match k.ms[low (Mb.cf name) k.ms]? with
  |some m=>decide (3≤m.st)
  |none=>false)else false):=fun _=>rfl
 refine G0 ?_;(refine .inl ⟨_,_,false,[],aI,hP,Ab,nI,?_⟩);refine G1 ?_;intro gg;by_cases c4:(Ah q).2=0;rotate_left
 ·rw[if_pos c4]at hA;rw[hA,show((Ah q).2 !=0)=true from ZZ.2 c4];refine G0 ?_;(exact⟨[],aI⟩)
 rw[if_neg (by simpa using c4)]at hA;rw[c4];refine G0 ?_;refine⟨PLift (¬(em q.ce=false∧(q.ce.toList==k.here.toList)=false)),[1,2,3,4,6,7,12,18],fun _=>[],[112,192],fun _=>[],?_,fun⟨d1⟩=>?_⟩
 ·refine G0 ?_;rw[←hEc];by_cases d2:em q.ce=true
  ·rw[d2];refine G0 ?_;exact⟨⟨fun z=>Bool.noConfusion z.1⟩,tI,tI,tI,tI⟩
  ·rw[XE.2 d2];refine G0 ?_;by_cases d3:(q.ce.toList==k.here.toList)=true
   ·rw[d3];refine G0 ?_;exact⟨⟨fun z=>Bool.noConfusion z.2⟩,tI,tI,tI,tI⟩
   ·rw[if_pos ⟨XE.2 d2,XE.2 d3⟩]at hA;rw[XE.2 d3,hA];refine G0 ?_;(exact⟨[],aI⟩)
 rw[if_neg d1]at hA;refine G0 ?_;rw[←hEn];by_cases d4:em q.nd=false
 ·rw[if_pos d4]at hA;rw[d4];refine G0 ?_;(refine .inl ⟨_,_,false,[],aI,Akn false k.ms q.nd (by omega),Ab,nI,?_⟩);rw[hat q.nd];refine G1 ?_;intro gg;by_cases hh:hit (Mb.cf q.nd) k.ms=true;rotate_left
  ·rw[if_neg hh];rw[if_pos (.inl (XE.2 hh))]at hN0;refine G0 ?_;rw[hA,hN0];(exact⟨[],aI⟩)
  have hlt:=Mx hh;have hw:=haw q.nd;rw[hh,cond_true,ZC hlt]at hw;change Cc k.ms q.nd=decide (3≤(k.ms[low (Mb.cf q.nd) k.ms]).st)at hw;rw[if_pos hh];rw[show decide ((low (Mb.cf q.nd) k.ms:Int)<0)=false from ZY (by omega)];refine G0 ?_;refine⟨low (Mb.cf q.nd) k.ms,_,rfl,Ad hlt,?_⟩;refine G0 ?_;rw[show decide ((2:Int)<(k.ms[low (Mb.cf q.nd) k.ms]).st)=Cc k.ms q.nd from by rw[hw];exact decide_eq_decide.2 (by omega)];by_cases ha:Cc k.ms q.nd=true
  ·rw[if_pos (.inr ha)]at hN0;rw[ha];refine G0 ?_;rw[hA,hN0];(exact⟨[],aI⟩)
  rw[if_neg (fun z=>z.elim (fun z=>by rw[hh]at z;cases z) ha)]at hN0;rw[XE.2 ha];refine G0 ?_;by_cases t1:t=1;rotate_left
  ·rw[if_pos t1]at hN0;rw[show(t !=1)=true from ZZ.2 t1];refine G0 ?_;rw[hA,hN0];(exact⟨[],aI⟩)
  rw[if_neg (by simpa using t1),ZC hlt]at hN0;change Jc k q t (Ah q).1=([⟨(Ah q).1,t,0,(k.ms[low (Mb.cf q.nd) k.ms]).ad,⟨#[]⟩,0,⟨#[]⟩⟩],0)at hN0;rw[show(t !=1)=false from by simpa using t1];refine G0 ?_;refine⟨low (Mb.cf q.nd) k.ms,_,rfl,Ad hlt,?_⟩;refine G1 ?_;intro gg;rw[hA,hN0,t1];(exact⟨[1456],aI⟩)
 rw[if_neg d4]at hA;have d4:em q.nd=true:=by simpa using d4
 rw[d4];obtain⟨ql1,ql2⟩:=Bad c1 d4;have hF0:(C8 k.l q.sv q.tg).2=Dc k.l q.sv q.tg:=by rw[Vm i2 ql1 ql2]
 have hFk:fK k q=Pl.keep (fun s=>Cc k.ms s.nd) (Dc k.l q.sv q.tg):=by unfold fK;rw[hF0]
 have hFl:=Aub k q;rw[hF0]at hFl;have hk40:=(Jo i2).1;have hMn:Mn (Dc k.l q.sv q.tg):=(Avc (Jo i2).2.2).filter _;have hlen:=Np k.l q.sv q.tg;have hsz:∀s∈Dc k.l q.sv q.tg,s.nd.size≤9223372036854775807:=fun s hs=>(hk.lo s (List.mem_filter.1 hs).1).1;have hX:Jx k q t (Ah q).1 (Bh k q)=(if Cp ((Bh k q).map fun s=>(C3 k.here t (Ah q).1 s).2)≠0 then([],0,Cp ((Bh k q).map fun s=>(C3 k.here t (Ah q).1 s).2))
  else if(Dc k.l q.sv ⟨#[]⟩).length=0 then([],3,0)
  else((Bh k q).map fun s=>(C3 k.here t (Ah q).1 s).1,0,0):List Rr×Int×Int):=by
  unfold Jx;rw[Vm i2 ql1 Aa4]
 rw[hX]at hA;clear hX hN0 hP hF0;generalize (Ah q).1=nm at *;refine G0 ?_;(refine .inl ⟨_,_,false,[],aI,Z7 k.l q.sv q.tg (by omega),Ab,nI,?_⟩);have hR2:=Z7 k.l q.sv ⟨#[]⟩ (by omega);generalize hFd:Dc k.l q.sv q.tg=F at *;refine G1 ?_;intro gg;have hfk:∀i,nms (Pl.keep (fun s=>Cc k.ms s.nd) (F.take i))=nms (Pl.keep (fun s=>Cc k.ms s.nd) (F.take i)):=fun _=>rfl;(refine⟨[(21,336,9,1)],none,{p:Nat×Nat//p.1≤F.length},[1,2,3,4,6,7,12,18,20],fun⟨⟨i,g⟩,hi⟩=>[(21,.own 336 g),(22,.v (.int .i64 (i:Int)))],[112,192],fun⟨⟨i,g⟩,hi⟩=>[(336,⟨g,.t 9,1,(nms (Pl.keep (fun s=>Cc k.ms s.nd) (F.take i))).map Dg⟩)],fun⟨⟨i,g⟩,hi⟩=>F.length-i,(by exact⟨rfl,by decide,(fun _ _ _ _ h=>by cases h),trivial⟩),fun gs=>⟨trivial,fun _=>⟨⟨(0,gs 336),ZU _⟩,tI,tI,tI,tI⟩⟩,fun⟨⟨i,g⟩,hi⟩=>?_⟩);simp only at hi;have hnl:=Alj (Pl.keep (fun s=>Cc k.ms s.nd) (F.take i));have hkl:(Pl.keep (fun s=>Cc k.ms s.nd) (F.take i)).length≤(F.take i).length:=List.length_filter_le _ _;rw[ZM]at hkl;have hnl2:((nms (Pl.keep (fun s=>Cc k.ms s.nd) (F.take i))).map Dg).length≤40:=by rw[ZE];omega
 refine G0 ?_;simp only[ZE];by_cases c:i<F.length
 ·rw[show decide ((i:Int)<(F.length:Int))=true from ZX (by omega)];refine G0 ?_;refine⟨i,_,rfl,Ad c,?_⟩;refine G0 ?_;(refine .inl ⟨_,_,false,[],aI,Akn false k.ms F[i].nd (by omega),Ab,nI,?_⟩);rw[hat F[i].nd];refine G1 ?_;intro gg;have hkt:=Rh (p:=fun s:Sv=>Cc k.ms s.nd) c;have hMi:Mn (Pl.keep (fun s=>Cc k.ms s.nd) (F.take i)++[F[i]]):=by
   have h1:Mn (F.take i++[F[i]]):=by
    have:Mn (F.take (i+1)):=hMn.take _;rw[XT,ZC c]at this;exact this
   exact h1.sublist ((List.filter_sublist).append (List.Sublist.refl _))
  have hw:=haw F[i].nd;have live:Cc k.ms F[i].nd=false→nms (Pl.keep (fun s=>Cc k.ms s.nd) (F.take (i+1)))=Vy (nms (Pl.keep (fun s=>Cc k.ms s.nd) (F.take i))) F[i]:=fun h=>by rw[hkt,if_neg (by rw[h];decide),P9]
  have gone:Cc k.ms F[i].nd=true→nms (Pl.keep (fun s=>Cc k.ms s.nd) (F.take (i+1)))=nms (Pl.keep (fun s=>Cc k.ms s.nd) (F.take i)):=fun h=>by rw[hkt,if_pos h]
  have stp:∀n,(nms (Pl.keep (fun s=>Cc k.ms s.nd) (F.take i))).getLast? =some n→(F[i].nd∈nms (Pl.keep (fun s=>Cc k.ms s.nd) (F.take i))↔n=F[i].nd):=fun n hn=>Aqv hMi hn;clear hkt hMi;generalize hN':nms (Pl.keep (fun s=>Cc k.ms s.nd) (F.take (i+1)))=N' at *;generalize nms (Pl.keep (fun s=>Cc k.ms s.nd) (F.take i))=Ns at *;by_cases hh:hit (Mb.cf F[i].nd) k.ms=true
  ·have hlt:=Mx hh;rw[hh,cond_true,ZC hlt]at hw;change Cc k.ms F[i].nd=decide (3≤(k.ms[low (Mb.cf F[i].nd) k.ms]).st)at hw;rw[if_pos hh];rw[show decide ((0:Int)≤(low (Mb.cf F[i].nd) k.ms:Int))=true from ZX (by omega)];refine G0 ?_;refine⟨low (Mb.cf F[i].nd) k.ms,_,rfl,Ad hlt,?_⟩;refine G0 ?_;rw[show decide ((2:Int)<(k.ms[low (Mb.cf F[i].nd) k.ms]).st)=Cc k.ms F[i].nd from by rw[hw];exact decide_eq_decide.2 (by omega)];by_cases ha:Cc k.ms F[i].nd=true
   ·rw[ha];refine G0 ?_;(exact⟨none,trivial,fun gr=>⟨⟨(i+1,g),Nat.succ_le_of_lt c⟩,by show F.length-(i+1)<F.length-i;omega,tI,tI,⟨congrArg (fun r=>some (Ent.mk g (.t 9) 1 (List.map Dg r))) (hN'.trans (gone ha)).symm,trivial⟩,tI⟩⟩)
   ·have hw:Cc k.ms F[i].nd=false:=XE.2 ha;rw[hw];have hl:=live hw;refine G0 ?_;rw[ZE];by_cases z:Ns.length=0
    ·rw[show((Ns.length:Int)==0)=true from ZR.2 (by omega)];have e:N'=Ns++[F[i].nd]:=by rw[hl,List.length_eq_zero_iff.1 z];rfl
     refine G0 ?_;refine⟨i,_,rfl,Ad c,?_⟩;refine G1 ?_;intro gg;refine⟨lI,lI,?_⟩;refine G1 ?_;intro gg;(exact⟨none,trivial,fun gr=>⟨⟨(i+1,gg),Nat.succ_le_of_lt c⟩,by show F.length-(i+1)<F.length-i;omega,tI,tI,⟨congrArg (fun r=>some (Ent.mk gg (.t 9) 1 r)) (show Ns.map Dg++[Dg F[i].nd]=_ from by rw[hN',e,ZI];rfl),trivial⟩,tI⟩⟩)
    ·rw[show((Ns.length:Int)==0)=false from ZG.2 (by omega)];have hlt:Ns.length-1<Ns.length:=by omega
     have hst:=stp Ns[Ns.length-1] (by rw[List.getLast?_eq_getElem?,ZC hlt]);refine G0 ?_;refine⟨(Ns.length:Int)-1,(by show IntKind.i64.wrap (((Ns.map Dg).length:Int)-1)=_;rw[ZE];exact A6 (by omega) (by omega)),?_⟩;refine G0 ?_;refine⟨Ns.length-1,_,(by omega),Ad hlt,?_⟩;refine G0 ?_;refine⟨i,_,rfl,Ad c,?_⟩;refine G0 ?_;by_cases u:Ns[Ns.length-1]=F[i].nd
     ·have e:N'=Ns:=by rw[hl,Rz (hst.2 u)]
      rw[show(Ns[Ns.length-1].toList==F[i].nd.toList)=true from by rw[u];exact beq_self_eq_true _];refine G0 ?_;(exact⟨none,trivial,fun gr=>⟨⟨(i+1,g),Nat.succ_le_of_lt c⟩,by show F.length-(i+1)<F.length-i;omega,tI,tI,⟨congrArg (fun r=>some (Ent.mk g (.t 9) 1 (List.map Dg r))) (hN'.trans (e)).symm,trivial⟩,tI⟩⟩)
     ·have e:N'=Ns++[F[i].nd]:=by rw[hl,N3 (fun z=>u (hst.1 z))]
      rw[show(Ns[Ns.length-1].toList==F[i].nd.toList)=false from V2 u];refine G0 ?_;refine⟨i,_,rfl,Ad c,?_⟩;refine G1 ?_;intro gg;refine⟨lI,lI,?_⟩;refine G1 ?_;intro gg;(exact⟨none,trivial,fun gr=>⟨⟨(i+1,gg),Nat.succ_le_of_lt c⟩,by show F.length-(i+1)<F.length-i;omega,tI,tI,⟨congrArg (fun r=>some (Ent.mk gg (.t 9) 1 r)) (show Ns.map Dg++[Dg F[i].nd]=_ from by rw[hN',e,ZI];rfl),trivial⟩,tI⟩⟩)
  ·rw[if_neg hh];have hw:Cc k.ms F[i].nd=false:=by rw[hw,XE.2 hh];rfl
   have hl:=live hw;refine G0 ?_;rw[ZE];by_cases z:Ns.length=0
   ·rw[show((Ns.length:Int)==0)=true from ZR.2 (by omega)];have e:N'=Ns++[F[i].nd]:=by rw[hl,List.length_eq_zero_iff.1 z];rfl
    refine G0 ?_;refine⟨i,_,rfl,Ad c,?_⟩;refine G1 ?_;intro gg;refine⟨lI,lI,?_⟩;refine G1 ?_;intro gg;(exact⟨none,trivial,fun gr=>⟨⟨(i+1,gg),Nat.succ_le_of_lt c⟩,by show F.length-(i+1)<F.length-i;omega,tI,tI,⟨congrArg (fun r=>some (Ent.mk gg (.t 9) 1 r)) (show Ns.map Dg++[Dg F[i].nd]=_ from by rw[hN',e,ZI];rfl),trivial⟩,tI⟩⟩)
   ·rw[show((Ns.length:Int)==0)=false from ZG.2 (by omega)];have hlt:Ns.length-1<Ns.length:=by omega
    have hst:=stp Ns[Ns.length-1] (by rw[List.getLast?_eq_getElem?,ZC hlt]);refine G0 ?_;refine⟨(Ns.length:Int)-1,(by show IntKind.i64.wrap (((Ns.map Dg).length:Int)-1)=_;rw[ZE];exact A6 (by omega) (by omega)),?_⟩;refine G0 ?_;refine⟨Ns.length-1,_,(by omega),Ad hlt,?_⟩;refine G0 ?_;refine⟨i,_,rfl,Ad c,?_⟩;refine G0 ?_;by_cases u:Ns[Ns.length-1]=F[i].nd
    ·have e:N'=Ns:=by rw[hl,Rz (hst.2 u)]
     rw[show(Ns[Ns.length-1].toList==F[i].nd.toList)=true from by rw[u];exact beq_self_eq_true _];refine G0 ?_;(exact⟨none,trivial,fun gr=>⟨⟨(i+1,g),Nat.succ_le_of_lt c⟩,by show F.length-(i+1)<F.length-i;omega,tI,tI,⟨congrArg (fun r=>some (Ent.mk g (.t 9) 1 (List.map Dg r))) (hN'.trans (e)).symm,trivial⟩,tI⟩⟩)
    ·have e:N'=Ns++[F[i].nd]:=by rw[hl,N3 (fun z=>u (hst.1 z))]
     rw[show(Ns[Ns.length-1].toList==F[i].nd.toList)=false from V2 u];refine G0 ?_;refine⟨i,_,rfl,Ad c,?_⟩;refine G1 ?_;intro gg;refine⟨lI,lI,?_⟩;refine G1 ?_;intro gg;(exact⟨none,trivial,fun gr=>⟨⟨(i+1,gg),Nat.succ_le_of_lt c⟩,by show F.length-(i+1)<F.length-i;omega,tI,tI,⟨congrArg (fun r=>some (Ent.mk gg (.t 9) 1 r)) (show Ns.map Dg++[Dg F[i].nd]=_ from by rw[hN',e,ZI];rfl),trivial⟩,tI⟩⟩)
 ·rw[show decide ((i:Int)<(F.length:Int))=false from ZY (by omega)];obtain rfl:i=F.length:=by omega
  rw[XF]at hnl hnl2 hkl;rw[←hFk]at hnl hnl2 hkl;rw[XF,←hFk];have hf:k.f.okb=true:=Pc.err_iff.1 i5;have hw:∀w∈k.wh,w.pl.okb=true:=fun w hw=>Pc.err_iff.1 (An7 i6 _ (List.mem_map_of_mem (f:=fun w:Wh=>w.pl.err) hw));have hS:=Afu k.f k.wh (nms (fK k q)) (by omega) (by omega) hf hw;rw[show Q8 k.f k.wh (nms (fK k q))=Ii (cfN (Bx k.f k.wh)) (nms (fK k q))from Arl _ _]at hS;have hNl:(Ii (cfN (Bx k.f k.wh)) (nms (fK k q))).length=(nms (fK k q)).length:=Aad;rw[←hNl]at hFl;refine G0 ?_;(refine .inl ⟨_,_,true,[],aI,hS,(fun _=>fI),nI,?_⟩);clear hS hfk;generalize Ii (cfN (Bx k.f k.wh)) (nms (fK k q))=N at *;refine G1 ?_;intro gg;(refine⟨[(24,384,42,7)],none,{p:Nat×Nat//p.1≤N.length∧∀s∈(Lik N F p.1 0).take 20,(C3 k.here t nm s).2=0},[1,2,3,7,18,20,21],fun⟨⟨i,g⟩,hi,hz⟩=>[(24,.own 384 g),(25,.v (.int .i64 (i:Int)))],[112,2384],fun⟨⟨i,g⟩,hi,hz⟩=>[(384,⟨g,.t 42,7,(((Lik N F i 0).take 20).map fun s=>(C3 k.here t nm s).1).map Rr.row⟩)],fun⟨⟨i,g⟩,hi,hz⟩=>N.length-i,(by exact⟨rfl,by decide,(fun _ _ _ _ h=>by cases h),trivial⟩),fun gs=>⟨trivial,fun _=>⟨⟨(0,gs 384),ZU _,fun s hs=>by rw[Aio]at hs;simp at hs⟩,tI,tI,?_,tI⟩⟩,fun⟨⟨i,g⟩,hi,hz⟩=>?_⟩)
  ·exact⟨congrArg (fun r:List Sv=>some (Ent.mk (gs 384) (.t 42) 7 (((r.take 20).map fun s=>(C3 k.here t nm s).1).map Rr.row))) (show []=Lik N F 0 0 from by rw[Aio];rfl),trivial⟩
  simp only at hi hz;refine G0 ?_;refine Aa (fun h=>?_) (fun h=>?_)<;>rw[h]
  ·have c:i<N.length:=by have:=ZV h;simpa using this
   refine G0 ?_;(refine⟨[],none,{p:Nat×Nat//p.1≤F.length∧∀s∈(Lik N F i p.1).take 20,(C3 k.here t nm s).2=0},[1,2,3,7,18,20,21,25],fun⟨⟨kk,g⟩,hkk,hz⟩=>[(24,.own 384 g),(26,.v (.int .i64 (kk:Int)))],[112,2384],fun⟨⟨kk,g⟩,hkk,hz⟩=>[(384,⟨g,.t 42,7,(((Lik N F i kk).take 20).map fun s=>(C3 k.here t nm s).1).map Rr.row⟩)],fun⟨⟨kk,g⟩,hkk,hz⟩=>F.length-kk,trivial,fun _=>⟨trivial,fun _=>⟨⟨(0,g),ZU _,hz⟩,tI,Af _ _,tI,Ae _ _⟩⟩,fun⟨⟨kk,g⟩,hkk,hz⟩=>?_⟩);simp only at hkk hz;have hl20:((((Lik N F i kk).take 20).map fun s=>(C3 k.here t nm s).1).map Rr.row).length=min 20 (Lik N F i kk).length:=by rw[ZE,ZE,ZM]
   refine G0 ?_;simp only[ZE];by_cases kF:kk<F.length
   ·rw[show decide ((kk:Int)<(F.length:Int))=true from ZX (by omega)];refine G0 ?_;refine Aa (fun h2=>?_) (fun h2=>?_)<;>rw[h2];rotate_left
    ·have k20:¬(Lik N F i kk).length<20:=by
      have h':=ZW h2;change¬(((((Lik N F i kk).take 20).map fun s=>(C3 k.here t nm s).1).map Rr.row).length:Int)<20 at h';rw[hl20]at h';omega
     have e2:=Aqo c hkk (by omega);refine G0 ?_;(exact⟨none,trivial,fun gr=>⟨⟨(i+1,g),Nat.succ_le_of_lt c,(by show∀s∈(Lik N F (i+1) 0).take 20,(C3 k.here t nm s).2=0;rw[e2];exact hz)⟩,by show N.length-(i+1)<N.length-i;omega,tI,tI,⟨congrArg (fun r:List Sv=>some (Ent.mk g (.t 42) 7 ((r.map fun s=>(C3 k.here t nm s).1).map Rr.row))) e2.symm,trivial⟩,tI⟩⟩)
    have k20:(Lik N F i kk).length<20:=by
     have h':=ZV h2;change (((((Lik N F i kk).take 20).map fun s=>(C3 k.here t nm s).1).map Rr.row).length:Int)<20 at h';rw[hl20]at h';omega
    refine G0 ?_;refine⟨kk,_,rfl,Ad kF,?_⟩;refine G0 ?_;refine⟨i,_,rfl,Ad c,?_⟩;refine G0 ?_;by_cases e:F[kk].nd=N[i];rotate_left
    ·have e2:Lik N F i (kk+1)=Lik N F i kk:=(An0 c kF).trans (if_neg e);rw[show(F[kk].nd.toList==N[i].toList)=false from V2 e];refine G0 ?_;(exact⟨none,trivial,fun gr=>⟨⟨(kk+1,g),Nat.succ_le_of_lt kF,(by show∀s∈(Lik N F i (kk+1)).take 20,(C3 k.here t nm s).2=0;rw[e2];exact hz)⟩,by show F.length-(kk+1)<F.length-kk;omega,tI,tI,⟨congrArg (fun r:List Sv=>some (Ent.mk g (.t 42) 7 (((r.take 20).map fun s=>(C3 k.here t nm s).1).map Rr.row))) e2.symm,trivial⟩,tI⟩⟩)
    rw[show(F[kk].nd.toList==N[i].toList)=true from by rw[e];exact beq_self_eq_true _];have e2:Lik N F i (kk+1)=Lik N F i kk++[F[kk]]:=(An0 c kF).trans (if_pos e);have e3:(Lik N F i (kk+1)).take 20=(Lik N F i kk).take 20++[F[kk]]:=by
     rw[e2,List.take_of_length_le (by simp;omega),List.take_of_length_le (by omega)]
    have hr':(((Lik N F i kk).take 20).map fun s=>(C3 k.here t nm s).1).map Rr.row++[Rr.row (C3 k.here t nm F[kk]).1]=(((Lik N F i (kk+1)).take 20).map fun s=>(C3 k.here t nm s).1).map Rr.row:=by
     rw[e3,ZI,ZI];rfl
    have hz':(C3 k.here t nm F[kk]).2=0→∀s∈(Lik N F i (kk+1)).take 20,(C3 k.here t nm s).2=0:=fun h s hs=>by
     rw[e3]at hs;rcases XM.1 hs with q|q
     ·exact hz s q
     ·rw[XN.1 q];exact h
    have hl21:((((Lik N F i kk).take 20).map fun s=>(C3 k.here t nm s).1).map Rr.row).length≤20:=by omega
    have hl22:(Lik N F i kk).length≤20:=by omega
    simp only[ZE]at hl21;refine G1 ?_;intro gg;by_cases t1:t=1
    ·have hB:C3 k.here t nm F[kk]=(⟨nm,t,0,F[kk].ad,⟨#[]⟩,0,⟨#[]⟩⟩,0):=if_pos t1;rw[hB]at hr';rw[show(t==1)=true from ZR.2 t1];refine G0 ?_;refine⟨kk,_,rfl,Ad kF,?_⟩;refine G1 ?_;intro gg;refine⟨lI,lI,?_⟩;refine G1 ?_;intro gg;(exact⟨none,trivial,fun gr=>⟨⟨(kk+1,gg),Nat.succ_le_of_lt kF,hz' (by rw[hB])⟩,by show F.length-(kk+1)<F.length-kk;omega,tI,tI,⟨congrArg (fun r=>some (Ent.mk gg (.t 42) 7 r)) hr',trivial⟩,tI⟩⟩)
    rw[show(t==1)=false from ZG.2 t1];refine G0 ?_;by_cases t16:t=16
    ·have hB:C3 k.here t nm F[kk]=(⟨nm,t,0,0,F[kk].id,0,⟨#[]⟩⟩,0):=(if_neg t1).trans (if_pos t16);rw[hB]at hr';rw[show(t==16)=true from ZR.2 t16];refine G0 ?_;refine⟨kk,_,rfl,Ad kF,?_⟩;refine G1 ?_;intro gg;refine⟨lI,lI,?_⟩;refine G1 ?_;intro gg;(exact⟨none,trivial,fun gr=>⟨⟨(kk+1,gg),Nat.succ_le_of_lt kF,hz' (by rw[hB])⟩,by show F.length-(kk+1)<F.length-kk;omega,tI,tI,⟨congrArg (fun r=>some (Ent.mk gg (.t 42) 7 r)) hr',trivial⟩,tI⟩⟩)
    rw[show(t==16)=false from ZG.2 t16];refine G0 ?_;by_cases t33:t=33;rotate_left
    ·exfalso;simp[Fk,t1,t16,t33]at c2
    have hz0:(⟨#[]⟩:ByteArray).size≤9223372036854775807:=by decide
    have hPr:=Ks ⟨⟨#[]⟩,⟨#[]⟩,F[kk].nd,k.here⟩ ⟨hz0,hz0,hsz _ (ZK kF),hk.here⟩;have hB0:C3 k.here t nm F[kk]=(if(Ah ⟨⟨#[]⟩,⟨#[]⟩,F[kk].nd,k.here⟩).2≠0 then(⟨nm,t,0,0,⟨#[]⟩,0,⟨#[]⟩⟩,(Ah ⟨⟨#[]⟩,⟨#[]⟩,F[kk].nd,k.here⟩).2)
      else(⟨nm,t,0,0,⟨#[]⟩,F[kk].pt,(Ah ⟨⟨#[]⟩,⟨#[]⟩,F[kk].nd,k.here⟩).1⟩,0):Rr×Int):=(if_neg t1).trans ((if_neg t16).trans (if_pos t33))
    rw[show(t==33)=true from ZR.2 t33];refine G0 ?_;refine⟨kk,_,rfl,Ad kF,?_⟩;refine G0 ?_;refine⟨kk,_,rfl,Ad kF,?_⟩;refine G0 ?_;(refine .inl ⟨_,_,false,[],aI,hPr,Ab,nI,?_⟩);generalize Ah ⟨⟨#[]⟩,⟨#[]⟩,F[kk].nd,k.here⟩=P at *;refine G1 ?_;intro gg;by_cases c9:P.2=0
    ·rw[c9];have hB:C3 k.here t nm F[kk]=(⟨nm,t,0,0,⟨#[]⟩,F[kk].pt,P.1⟩,0):=by rw[hB0,if_neg (by simpa using c9)]
     rw[hB]at hr';refine G1 ?_;intro gg;refine⟨lI,lI,?_⟩;refine G1 ?_;intro gg;(exact⟨none,trivial,fun gr=>⟨⟨(kk+1,gg),Nat.succ_le_of_lt kF,hz' (by rw[hB])⟩,by show F.length-(kk+1)<F.length-kk;omega,tI,tI,⟨congrArg (fun r=>some (Ent.mk gg (.t 42) 7 r)) hr',trivial⟩,tI⟩⟩)
    ·have hfe:Cp ((Bh k q).map fun s=>(C3 k.here t nm s).2)=P.2:=by
      obtain⟨tl,htl⟩:=Aq5 c kF e;obtain⟨d,hd⟩:∃d,20-(Lik N F i kk).length=d+1:=⟨19-(Lik N F i kk).length,by omega⟩;rw[hFl,htl,List.take_append,hd,List.take_succ_cons,ZI,List.map_cons,show(C3 k.here t nm F[kk]).2=P.2 from by rw[hB0,if_pos (by simpa using c9)]];exact Akr (fun a ha=>by
       obtain⟨s,h1,rfl⟩:=XO.1 ha;exact hz s h1) c9
     rw[hfe,if_pos c9]at hA;rw[hA,show(P.2 !=0)=true from ZZ.2 c9];refine G0 ?_;(exact⟨[],aI⟩)
   ·rw[show decide ((kk:Int)<(F.length:Int))=false from ZY (by omega)];obtain rfl:kk=F.length:=by omega
    rw[Y2 c]at hz;refine G0 ?_;(exact⟨none,trivial,fun gr=>⟨⟨(i+1,g),Nat.succ_le_of_lt c,hz⟩,by show N.length-(i+1)<N.length-i;omega,tI,tI,⟨congrArg (fun r:List Sv=>some (Ent.mk g (.t 42) 7 (((r.take 20).map fun s=>(C3 k.here t nm s).1).map Rr.row))) (Y2 c),trivial⟩,tI⟩⟩)
  ·have c:¬i<N.length:=by have:=ZW h;simpa using this
   obtain rfl:i=N.length:=by omega
   have hfe:Cp ((Bh k q).map fun s=>(C3 k.here t nm s).2)=0:=I1 fun j hj=>by
    have hm:((Bh k q).map fun s=>(C3 k.here t nm s).2)[j]∈(Bh k q).map fun s=>(C3 k.here t nm s).2:=ZK hj;obtain⟨s,h1,h2⟩:=XO.1 hm;rw[←h2];rw[hFl]at h1;exact hz s h1
   rw[hfe,if_neg (by simp)]at hA;have hA:C7 k q t (Bh k q)=(if(Dc k.l q.sv ⟨#[]⟩).length=0 then([],3,0)else(((Lik N F N.length 0).take 20).map fun s=>(C3 k.here t nm s).1,0,0):List Rr×Int×Int):=hA.trans (by rw[hFl]);refine G0 ?_;(refine .inl ⟨_,_,false,[],aI,hR2,Ab,nI,?_⟩);refine G1 ?_;intro gg;rw[ZE];by_cases z:(Dc k.l q.sv ⟨#[]⟩).length=0
   ·rw[if_pos z]at hA;rw[hA,show(((Dc k.l q.sv ⟨#[]⟩).length:Int)==0)=true from ZR.2 (by omega)];refine G0 ?_;(exact⟨[],aI⟩)
   ·rw[if_neg z]at hA;rw[hA,show(((Dc k.l q.sv ⟨#[]⟩).length:Int)==0)=false from ZG.2 (by omega)];refine G0 ?_;(exact⟨[384],aI⟩)



namespace Pl
end Pl
theorem Ax1{k:Kn}(hk:k.In)(q:Qr):∀s∈Bh k q,s.nd.size≤9223372036854775807:=fun s hs=>(hk.lo s (Aes hs).1).1
theorem Ag2{k:Kn}{q:Qr}{t:Int}(h:Jt k q t=0):k.err=0:=by
 unfold Jt at h;split at h
 ·rename_i h1;exact absurd h h1
 ·split at h
  ·exact absurd h (by decide)
  ·exact h
theorem Mj(k:Kn)(q:Qr)(t:Int)(hk:k.In)(hq:q.ok):
  Fun Tryz.prog 8 [.c (.agg q.row),.c (.v (.int .i64 t)),.c (.v (.string k.here)),.c (.sl false (k.l.map Sv.row)),.c (.sl false (k.ms.map Mb.row)),.c (.agg k.f.row),.c (.sl false (k.wh.map Wh.row))]
   [.o 42 7 ((C7 k q t (Bh k q)).1.map Rr.row),.c (.v (.int .i64 (C7 k q t (Bh k q)).2.1)),.c (.v (.int .i64 (C7 k q t (Bh k q)).2.2))]:=
 Ah4 k q t (Bh k q) hk hq (by have:=Amj k q;omega) (Ax1 hk q) fun h=>Ank k q t _ hk hq (Ag2 h)
namespace Pl
def sv0:Sv:=⟨⟨#[110]⟩,⟨#[105]⟩,⟨#[115]⟩,⟨#[]⟩,9,0,true,1,false⟩
def kn0:Kn:=⟨⟨#[99]⟩,[sv0],[],⟨0,0,0,0,0⟩,[]⟩
def qr0:Qr:=⟨⟨#[115]⟩,⟨#[]⟩,⟨#[]⟩,⟨#[]⟩⟩
def nm0:ByteArray:=⟨#[115,46,115,101,114,118,105,99,101,46,109,101,115,104]⟩
theorem Am0:qr0.err=0:=by
 simp only[Qr.err,Qr.c1,Qr.c2,Qr.c3,Qr.all,qr0,List.any_cons,List.any_nil,em,Z2,Gx,ByteArray.toList_eq,Br,Cm,Bc];decide
theorem Aqk:qr0.pr=nm0:=by
 apply Sd;simp only[Qr.pr,Qr.base,qr0,em,ByteArray.toList_eq];simp[Abl,Jl,dot,Bc,nm0]
theorem At0:A5 nm0=[⟨#[115]⟩,Br,Bc]:=by
 simp only[A5,ByteArray.toList_eq];rw[if_neg (by simp[nm0])];decide
theorem Aqj:Ao nm0=0:=by
 simp only[Ao,At0];decide
theorem Ao8:Ah qr0=(nm0,0):=by
 rw[Hy Am0 (by rw[Aqk];exact Aqj),Aqk]
theorem Av7:emp ⟨#[]⟩=true:=beq_self_eq_true _
theorem Atv:sv0.err=0:=by
 have hl1:lab (⟨#[110]⟩:ByteArray).data.toList=true:=by decide+kernel
 have hl2:lab (⟨#[105]⟩:ByteArray).data.toList=true:=by decide+kernel
 have hl3:lab (⟨#[115]⟩:ByteArray).data.toList=true:=by decide+kernel
 simp[Sv.err,sv0,hl1,hl2,hl3,Aa4,wi]
theorem Arw:Ei [sv0]=0:=by simp[Ei,ckL,Bm,Cz,Atv]
theorem Atn:kn0.err=0:=by
 have hl:lab (⟨#[99]⟩:ByteArray).data.toList=true:=by decide+kernel
 have hp:(⟨0,0,0,0,0⟩:Pc).err=0:=by decide+kernel
 have hm:F6 []=0:=by decide+kernel
 simp[Kn.err,kn0,hl,Arw,hm,hp,Cp]
theorem Ai8:(C8 kn0.l qr0.sv qr0.tg).2=[sv0]:=by
 have hs:Sv.sought ⟨#[115]⟩ ⟨#[]⟩ sv0=true:=by
  show(((⟨#[115]⟩:ByteArray).toList==(⟨#[115]⟩:ByteArray).toList)&&((emp ⟨#[]⟩||_)&&true))=true;rw[Av7,beq_self_eq_true];rfl
 show(C8 [sv0] ⟨#[115]⟩ ⟨#[]⟩).2=[sv0];rw[Vm Arw (by decide+kernel) Aa4];simp[Dc,hs]
theorem Aux:Bh kn0 qr0=[sv0]:=by
 have h1:fK kn0 qr0=[sv0]:=by unfold fK;rw[Ai8];rfl
 have h2:nms [sv0]=[sv0.nd]:=rfl;have h3:Fy sv0.nd [sv0]=[sv0]:=by unfold Fy;simp
 unfold Bh;rw[h1,h2,show Ii (cfN (Bx kn0.f kn0.wh)) [sv0.nd]=[sv0.nd]from List.mergeSort_singleton _,List.flatMap_cons,h3];rfl
theorem Apn:C7 kn0 qr0 1 (Bh kn0 qr0)=([⟨nm0,1,0,9,⟨#[]⟩,0,⟨#[]⟩⟩],0,0):=by
 have hE:Jt kn0 qr0 1=0:=by unfold Jt;rw[if_neg (by rw[Am0];decide),if_neg (by decide),Atn]
 have hc:em qr0.ce=true:=V0;have hn:em qr0.nd=true:=V0;have hf:(C8 kn0.l qr0.sv ⟨#[]⟩).2=[sv0]:=Ai8;unfold C7;rw[hE,if_neg (by decide),Ao8,if_neg (by decide),hc,if_neg (by decide),hn,if_neg (by decide),Aux];unfold Jx;rw[hf];rfl
theorem Avy:kn0.In:=⟨by decide,by decide,fun x hx=>by rw[XN.1 hx];exact⟨by decide,by decide,by decide,by decide⟩,by decide,fun x hx=>(by cases hx),by decide⟩
end Pl
theorem Lh:Fun Tryz.prog 10 [] [.c (.v (.bool true))]:=by
 have h:=Mj kn0 qr0 1 Avy ⟨by decide,by decide,by decide,by decide⟩;rw[Apn]at h;refine Ar Lu rfl ?_;refine G1 ?_;intro gg;(refine .inl ⟨_,_,true,[],aI,h,(fun _=>fI),nI,?_⟩);refine G1 ?_;intro gg;refine⟨0,_,rfl,rfl,?_⟩;refine G0 ?_;refine⟨0,_,rfl,rfl,?_⟩;refine G0 ?_;rw[show(nm0.toList==(⟨#[115,46,115,101,114,118,105,99,101,46,109,101,115,104]⟩:ByteArray).toList)=true from beq_self_eq_true _];refine G0 ?_;(exact⟨[],aI⟩)
theorem Apv(row:List V)(h:Qp [.s,.s,.s,.s] row):∃q:Qr,row=q.row∧q.ok:=by
 obtain⟨u0,_,rfl,f0,h⟩:=Ap h;obtain⟨u1,_,rfl,f1,h⟩:=Ap h;obtain⟨u2,_,rfl,f2,h⟩:=Ap h;obtain⟨u3,_,rfl,f3,h⟩:=Ap h;obtain rfl:=Ln h;obtain⟨a,rfl,ha⟩:=K3 f0;obtain⟨b,rfl,hb⟩:=K3 f1;obtain⟨c,rfl,hc⟩:=K3 f2;obtain⟨d,rfl,hd⟩:=K3 f3;exact⟨⟨a,b,c,d⟩,rfl,ha,hb,hc,hd⟩
theorem Abr(us:List V)(h:Qp [.s,.l [.s,.s,.s,.s,.i,.i,.b,.i,.b],.l [.s,.i,.i,.i,.b],.i,.i,.i,.i,.i,.l [.s,.i,.i,.i,.i,.i]] us):∃k:Kn,us=k.row∧k.In:=by
 obtain⟨u0,_,rfl,f0,h⟩:=Ap h;obtain⟨u1,_,rfl,f1,h⟩:=Ap h;obtain⟨u2,_,rfl,f2,h⟩:=Ap h;obtain⟨u3,_,rfl,f3,h⟩:=Ap h;obtain⟨u4,_,rfl,f4,h⟩:=Ap h;obtain⟨u5,_,rfl,f5,h⟩:=Ap h;obtain⟨u6,_,rfl,f6,h⟩:=Ap h;obtain⟨u7,_,rfl,f7,h⟩:=Ap h;obtain⟨u8,_,rfl,f8,h⟩:=Ap h;obtain rfl:=Ln h;obtain⟨s,rfl,hs⟩:=K3 f0;obtain⟨l,rfl,hl,ho⟩:=Vh Awq f1;obtain⟨m,rfl,hm,hmo⟩:=Vh Aww f2;obtain⟨a,rfl,_⟩:=Ge f3;obtain⟨b,rfl,_⟩:=Ge f4;obtain⟨c,rfl,_⟩:=Ge f5;obtain⟨d,rfl,_⟩:=Ge f6;obtain⟨e,rfl,_⟩:=Ge f7;obtain⟨w,rfl,hw,_⟩:=Vh Awz f8;exact⟨⟨s,l,m,⟨a,b,c,d,e⟩,w⟩,rfl,⟨hs,hl,ho,hm,hmo,hw⟩⟩
end Go.Proofs.YtbnocibpoghfhaaGreatDoor
