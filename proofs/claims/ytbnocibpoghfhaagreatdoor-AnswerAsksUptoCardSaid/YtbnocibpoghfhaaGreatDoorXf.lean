/- Texts of this claim, joined. -/
import Derived.Test.YtbnocibpoghfhaaGreatDoorXa
import Derived.Test.YtbnocibpoghfhaaGreatDoorXb
import Derived.Test.YtbnocibpoghfhaaGreatDoorXc
import Derived.Test.YtbnocibpoghfhaaGreatDoorXd
import Derived.Test.YtbnocibpoghfhaaGreatDoorXe
set_option linter.unusedSimpArgs false
set_option linter.unusedVariables false
namespace Go.Proofs.YtbnocibpoghfhaaGreatDoor
open Go Go.RowKit Pl
namespace Pl
theorem Nm(s:ByteArray)(a:Nat):B6 s 1 a=atB s a:=by
 unfold B6;split
 ·show 256*0+atB s (a+0)=_;rw[Nat.mul_zero,Nat.zero_add,Nat.add_zero]
 ·rename_i h;unfold atB;rw[show s[a]? =none from by simp;omega]
theorem An6{s:ByteArray}{a:Nat}(h:s.size≤a):atB s a=0:=by
 unfold atB;rw[show s[a]? =none from by simp;omega]
theorem Aon(s:ByteArray)(i a:Nat):B6 s 1 (Aq s i a)=atB s (a+i):=by
 rw[Nm];unfold Aq;split
 ·rfl
 ·rw[An6 (by omega),An6 (by omega)]
theorem Apl(s:ByteArray)(i a:Nat):Aq s 1 (Aq s i a)=Aq s (i+1) a:=by
 unfold Aq;split<;>split<;>split<;>omega
theorem Anh(s:ByteArray)(i a:Nat)(b:Bool):B7 s 1 (Aq s i a) (B7 s i a b)=B7 s (i+1) a b:=by
 unfold B7 Aq;by_cases h:a+i≤s.size
 ·rw[if_pos h,show decide (s.size<a+i)=false from ZY (by omega),Bool.or_false,Nat.add_assoc]
 ·rw[if_neg h,show decide (s.size<a+i)=true from ZX (by omega),show decide (s.size<a+(i+1))=true from ZX (by omega)];simp
def Du(s:ByteArray)(a:Nat):Nat→List UInt8
 |0=>[]
 |i+1=>Du s a i++[F8 (UInt8.ofNat (atB s (a+i)))]
theorem Y4(s:ByteArray)(a n:Nat):(Du s a n).length=n:=by
 induction n with
 |zero=>rfl
 |succ n ih=>show(Du s a n++[_]).length=n+1;rw[ZF,ih];rfl
def Ej(c:Nat):Nat:=if 65≤c∧c≤90 then c+32 else c
theorem Ann{c:Nat}(h:c<256):Ej c<256:=by unfold Ej;split<;>omega
theorem As7{c:Nat}(h:c<256):F8 (UInt8.ofNat c)=UInt8.ofNat (Ej c):=by
 have key:∀c:Fin 256,F8 (UInt8.ofNat c.val)=UInt8.ofNat (Ej c.val):=by decide+kernel
 exact key ⟨c,h⟩
def Je(s:ByteArray):Nat→Nat→List ByteArray→Option Nat→Nat→Option (List ByteArray×Nat)×Nat
 |0,_,_,_,_=>(none,0)
 |f+1,a,l,e,fr=>
  if a+1≤s.size then
   if atB s a=0 then(some (l,e.getD (a+1)),0)
   else if 192≤atB s a then
    if a+2≤s.size∧(atB s a-192)*256+atB s (a+1)<fr then Je s f ((atB s a-192)*256+atB s (a+1)) l (some (e.getD (a+2))) ((atB s a-192)*256+atB s (a+1))
    else(none,(atB s a-192)*256+atB s (a+1))
   else if a+1+atB s a≤s.size∧lab (Du s (a+1) (atB s a))=true∧l.length+1≤8 then Je s f (Aq s (atB s a) (a+1)) (l++[bA (Du s (a+1) (atB s a))]) e fr
   else(none,Aq s (atB s a) (a+1))
  else(none,max a s.size)
def Abk(s:ByteArray)(a:Nat)(b:Bool):Option (List ByteArray×Nat)×Nat:=bif b then(none,a)else Je s (a+10) a [] none a
def Dp(s:ByteArray)(a:Nat)(b:Bool):ByteArray×Nat×Bool:=match Abk s a b with
 |(some p,_)=>(Df Kk p.1,p.2,false)
 |(none,x)=>(⟨#[]⟩,x,true)
def eI:Option Nat→Int
 |none=> -1
 |some x=>(x:Int)
structure NqI(s:ByteArray)(Q:Option (List ByteArray×Nat)×Nat)(a:Nat)(b:Bool)(l:List ByteArray)(e:Option Nat)(fr:Nat):Prop where
 ha:a≤1000000
 hl:l.length≤9
 hz:∀x∈l,x.size≤1000
 he:e.getD 0≤1000000
 hf:fr≤1000000
 no:b=false→l.length≤8∧∃f,fr+10≤f+l.length∧Je s f a l e fr=Q
 yes:b=true→Q=(none,a)
def nmM(b:Bool)(l:List ByteArray)(fr:Nat):Nat:=if b then 0 else 1+fr+(9-l.length)
theorem NqI.start{s:ByteArray}{a:Nat}(b:Bool)(ha:a≤1000000):NqI s (Abk s a b) a b [] none a:=
 ⟨ha,by simp,by simp,by simp,ha,fun h=>by subst h;exact⟨by simp,a+10,by simp,rfl⟩,fun h=>by subst h;rfl⟩
section
variable {s:ByteArray} {Q:Option (List ByteArray×Nat)×Nat} {a fr:Nat} {l:List ByteArray} {e:Option Nat}
theorem NqI.out(h:NqI s Q a false l e fr)(c:¬a+1≤s.size):Q=(none,max a s.size):=by
 obtain⟨h8,f,hf,hq⟩:=h.no rfl;obtain⟨f,rfl⟩:∃f',f=f'+1:=⟨f-1,by omega⟩;rw[←hq,Je,if_neg c]
theorem NqI.zero(h:NqI s Q a false l e fr)(c:a+1≤s.size)(c0:atB s a=0):Q=(some (l,e.getD (a+1)),0):=by
 obtain⟨h8,f,hf,hq⟩:=h.no rfl;obtain⟨f,rfl⟩:∃f',f=f'+1:=⟨f-1,by omega⟩;rw[←hq,Je,if_pos c,if_pos c0]
theorem Ag1(s:ByteArray)(a:Nat):(atB s a-192)*256+atB s (a+1)≤1000000:=by
 have:=Is s a;have:=Is s (a+1);omega
theorem Ael{e:Option Nat}{x:Nat}(h:e.getD 0≤1000000)(hx:x≤1000000):(some (e.getD x)).getD 0≤1000000:=by
 cases e with
 |none=>exact hx
 |some y=>exact h
theorem NqI.ptr_ok(h:NqI s Q a false l e fr)(hs:s.size≤1000000)(c:a+1≤s.size)(c0:atB s a≠0)(c1:192≤atB s a)(c2:a+2≤s.size)(c3:(atB s a-192)*256+atB s (a+1)<fr):NqI s Q ((atB s a-192)*256+atB s (a+1)) false l (some (e.getD (a+2))) ((atB s a-192)*256+atB s (a+1)):=by
 obtain⟨h8,f,hf,hq⟩:=h.no rfl;obtain⟨f,rfl⟩:∃f',f=f'+1:=⟨f-1,by omega⟩;rw[Je,if_pos c,if_neg c0,if_pos c1,if_pos ⟨c2,c3⟩]at hq;exact⟨Ag1 s a,h.hl,h.hz,Ael h.he (by omega),Ag1 s a,fun _=>⟨h8,f,by omega,hq⟩,fun h=>(by cases h)⟩
theorem NqI.ptr_bad(h:NqI s Q a false l e fr)(hs:s.size≤1000000)(c:a+1≤s.size)(c0:atB s a≠0)(c1:192≤atB s a)(c2:¬(a+2≤s.size∧(atB s a-192)*256+atB s (a+1)<fr)):NqI s Q ((atB s a-192)*256+atB s (a+1)) true l (some (e.getD (Aq s 1 (a+1)))) ((atB s a-192)*256+atB s (a+1)):=by
 obtain⟨h8,f,hf,hq⟩:=h.no rfl;obtain⟨f,rfl⟩:∃f',f=f'+1:=⟨f-1,by omega⟩;rw[Je,if_pos c,if_neg c0,if_pos c1,if_neg c2]at hq;exact⟨Ag1 s a,h.hl,h.hz,Ael h.he (Bj (by omega) hs),Ag1 s a,fun h=>(by cases h),fun _=>hq.symm⟩
theorem Akz(h:∀x∈l,x.size≤1000){n:Nat}(hn:n<256)(b:Nat):∀x∈l++[bA (Du s b n)],x.size≤1000:=fun x hx=>by
 rcases XM.1 hx with hx|hx
 ·exact h x hx
 ·rw[XN]at hx;subst hx;rw[D2,Y4];omega
theorem NqI.lab_ok(h:NqI s Q a false l e fr)(hs:s.size≤1000000)(c:a+1≤s.size)(c0:atB s a≠0)(c1:¬192≤atB s a)(c2:a+1+atB s a≤s.size∧lab (Du s (a+1) (atB s a))=true∧l.length+1≤8):NqI s Q (Aq s (atB s a) (a+1)) false (l++[bA (Du s (a+1) (atB s a))]) e fr:=by
 obtain⟨h8,f,hf,hq⟩:=h.no rfl;obtain⟨f,rfl⟩:∃f',f=f'+1:=⟨f-1,by omega⟩;rw[Je,if_pos c,if_neg c0,if_neg c1,if_pos c2]at hq;exact⟨Bj (by omega) hs,by rw[ZF];simp only[ZJ,ZN];omega,Akz h.hz (Is s a) _,h.he,h.hf,fun _=>⟨by rw[ZF];simp only[ZJ,ZN];omega,f,by rw[ZF];simp only[ZJ,ZN];omega,hq⟩,fun h=>(by cases h)⟩
theorem NqI.lab_bad(h:NqI s Q a false l e fr)(hs:s.size≤1000000)(c:a+1≤s.size)(c0:atB s a≠0)(c1:¬192≤atB s a)(c2:¬(a+1+atB s a≤s.size∧lab (Du s (a+1) (atB s a))=true∧l.length+1≤8)):NqI s Q (Aq s (atB s a) (a+1)) true (l++[bA (Du s (a+1) (atB s a))]) e fr:=by
 obtain⟨h8,f,hf,hq⟩:=h.no rfl;obtain⟨f,rfl⟩:∃f',f=f'+1:=⟨f-1,by omega⟩;rw[Je,if_pos c,if_neg c0,if_neg c1,if_neg c2]at hq;exact⟨Bj (by omega) hs,by rw[ZF];simp only[ZJ,ZN];omega,Akz h.hz (Is s a) _,h.he,h.hf,fun h=>(by cases h),fun _=>hq.symm⟩
theorem Ts{b:Bool}{p:List ByteArray×Nat}{x:Nat}(h:Abk s a b=(some p,x)):Dp s a b=(Df Kk p.1,p.2,false):=by unfold Dp;rw[h]
theorem O0{b:Bool}{x:Nat}(h:Abk s a b=(none,x)):Dp s a b=(⟨#[]⟩,x,true):=by unfold Dp;rw[h]
end
end Pl
set_option maxHeartbeats 4000000 in
theorem Rv(s:ByteArray)(a0:Nat)(b0:Bool)(hs:s.size≤1000000)(ha:a0≤1000000):H3 Tryz.prog 65 [.mn scT (scC s a0 b0) (scC s (Dp s a0 b0).2.1 (Dp s a0 b0).2.2)] [.p (.c (.v (.string (Dp s a0 b0).1)))]:=by
 obtain⟨Q,hQ⟩:∃Q,Q=Abk s a0 b0:=⟨_,rfl⟩;have hI0:=NqI.start (s:=s) b0 ha;rw[←hQ]at hI0;refine Jr Oa rfl rfl (Ka rfl) ?_;refine G0 ?_;(refine⟨[(3,48,9,1)],none,{p:Nat×Bool×List ByteArray×Option Nat×Nat×Nat//NqI s Q p.1 p.2.1 p.2.2.1 p.2.2.2.1 p.2.2.2.2.1},[],fun⟨⟨a,b,l,e,fr,g⟩,h⟩=>[(0,.ptr 0 0 0 0),(3,.own 48 g),(4,.v (.int .i64 (fr:Int))),(5,.v (.int .i64 (eI e)))],[],fun⟨⟨a,b,l,e,fr,g⟩,h⟩=>[(0,⟨0,.b scT,3,[[.v (.string s),.v (.int .i64 (a:Int)),.v (.bool b)]]⟩),(48,⟨g,.t 9,1,l.map A1⟩)],fun⟨⟨a,b,l,e,fr,g⟩,h⟩=>nmM b l fr,(by exact⟨rfl,by decide,(fun _ _ _ _ h=>by cases h),trivial⟩),fun gs=>⟨trivial,fun _=>⟨⟨(a0,b0,[],none,a0,gs 48),hI0⟩,tI,tI,tI,tI⟩⟩,fun⟨⟨a,b,l,e,fr,g⟩,h⟩=>?_⟩);simp only at h;simp only[Ou,O8,Iz,Iv];have hla:=h.ha;cases b
 ·refine G0 ?_;(refine .inr (.inl ⟨_,_,false,0::([]++[]),?_,Aw s a 1 false hs hla (by omega) (by omega),Ab,oI,dI,?_⟩);focus (exact wI));refine G1 ?_;intro gg;by_cases c:a+1≤s.size;rotate_left
  ·obtain⟨e1,e2,e3⟩:=Hn (s:=s) (k:=1) (a:=a) (b:=false) c;have hq:=h.out c;rw[hQ]at hq;rw[O0 hq,e3];refine G0 ?_;rw[e2];(exact⟨0::([]++[]),Ez (by first|exact As rfl|assumption) (Jf (gone:=[]) (gone1:=[]) rfl aI (by decide) (by decide) (by decide) (.nil _))⟩)
  have e1:B6 s 1 a=atB s a:=Nm s a;obtain⟨_,e2,e3⟩:=Cf (s:=s) (k:=1) (a:=a) (b:=false) c;rw[e1,e2,e3];refine G0 ?_;by_cases c0:atB s a=0
  ·have hq:=h.zero c c0;rw[hQ]at hq;rw[Ts hq,show((atB s a:Int)==0)=true from ZR.2 (by omega)];have hN:=Ajl false l (by have:=h.hl;omega) h.hz;rcases e with _|x
   ·refine G0 ?_;refine .inl (cY hN ?_);refine G1 ?_;intro gg;(exact⟨0::([]++[]),Ez (by first|exact As rfl|assumption) (Jf (gone:=[]) (gone1:=[]) rfl aI (by decide) (by decide) (by decide) (.nil _))⟩)
   ·refine G0 ?_;rw[show decide ((0:Int)≤eI (some x))=true from ZX (show(0:Int)≤(x:Int)by omega)];refine G0 ?_;refine .inl (cY hN ?_);refine G1 ?_;intro gg;(exact⟨0::([]++[]),Ez (by first|exact As rfl|assumption) (Jf (gone:=[]) (gone1:=[]) rfl aI (by decide) (by decide) (by decide) (.nil _))⟩)
  rw[show((atB s a:Int)==0)=false from ZG.2 (by omega)];refine G0 ?_;by_cases c1:192≤atB s a
  ·rw[show decide ((192:Int)≤(atB s a:Int))=true from ZX (by omega)];have hb8:=Is s a;have hb9:=Is s (a+1);refine G0 ?_;(refine .inr (.inl ⟨_,_,false,0::([]++[]),?_,Aw s (a+1) 1 false hs (by omega) (by omega) (by omega),Ab,oI,dI,?_⟩);focus (exact wI));rw[Nm];refine G1 ?_;intro gg;rw[show((atB s a:Int)-192)*256+(atB s (a+1):Int)=(((atB s a-192)*256+atB s (a+1):Nat):Int)from by omega];refine G0 ?_;by_cases c2:a+2≤s.size;rotate_left
   ·obtain⟨_,f2,f3⟩:=Hn (s:=s) (k:=1) (a:=a+1) (b:=false) (by omega);rw[f3];rcases e with _|x
    ·refine G0 ?_;(exact⟨none,trivial,fun gr=>⟨⟨(((atB s a-192)*256+atB s (a+1)),true,l,some (Aq s 1 (a+1)),((atB s a-192)*256+atB s (a+1)),g),h.ptr_bad hs c c0 c1 (fun q=>c2 q.1)⟩,by show 0<1+fr+(9-l.length);omega,tI,tI,⟨rfl,⟨rfl,trivial⟩⟩,tI⟩⟩)
    ·refine G0 ?_;rw[show decide (eI (some x)<0)=false from ZY (show¬(x:Int)<0 by omega)];refine G0 ?_;(exact⟨none,trivial,fun gr=>⟨⟨(((atB s a-192)*256+atB s (a+1)),true,l,some (x),((atB s a-192)*256+atB s (a+1)),g),h.ptr_bad hs c c0 c1 (fun q=>c2 q.1)⟩,by show 0<1+fr+(9-l.length);omega,tI,tI,⟨rfl,⟨rfl,trivial⟩⟩,tI⟩⟩)
   obtain⟨_,f2,f3⟩:=Cf (s:=s) (k:=1) (a:=a+1) (b:=false) (by omega);have hpb:=fun(c3:¬((atB s a-192)*256+atB s (a+1))<fr)=>h.ptr_bad hs c c0 c1 (fun q=>c3 q.2);rw[f2]at hpb;rw[f3,f2];rcases e with _|x
   ·refine G0 ?_;by_cases c3:((atB s a-192)*256+atB s (a+1))<fr
    ·rw[show decide ((fr:Int)≤((((atB s a-192)*256+atB s (a+1)):Nat):Int))=false from ZY (by omega)];refine G0 ?_;(exact⟨none,trivial,fun gr=>⟨⟨(((atB s a-192)*256+atB s (a+1)),false,l,some (a+2),((atB s a-192)*256+atB s (a+1)),g),h.ptr_ok hs c c0 c1 c2 c3⟩,by show 1+((atB s a-192)*256+atB s (a+1))+(9-l.length)<1+fr+(9-l.length);omega,tI,tI,⟨rfl,⟨rfl,trivial⟩⟩,tI⟩⟩)
    ·rw[show decide ((fr:Int)≤((((atB s a-192)*256+atB s (a+1)):Nat):Int))=true from ZX (by omega)];refine G0 ?_;(exact⟨none,trivial,fun gr=>⟨⟨(((atB s a-192)*256+atB s (a+1)),true,l,some (a+2),((atB s a-192)*256+atB s (a+1)),g),hpb c3⟩,by show 0<1+fr+(9-l.length);omega,tI,tI,⟨rfl,⟨rfl,trivial⟩⟩,tI⟩⟩)
   ·refine G0 ?_;rw[show decide (eI (some x)<0)=false from ZY (show¬(x:Int)<0 by omega)];refine G0 ?_;by_cases c3:((atB s a-192)*256+atB s (a+1))<fr
    ·rw[show decide ((fr:Int)≤((((atB s a-192)*256+atB s (a+1)):Nat):Int))=false from ZY (by omega)];refine G0 ?_;(exact⟨none,trivial,fun gr=>⟨⟨(((atB s a-192)*256+atB s (a+1)),false,l,some (x),((atB s a-192)*256+atB s (a+1)),g),h.ptr_ok hs c c0 c1 c2 c3⟩,by show 1+((atB s a-192)*256+atB s (a+1))+(9-l.length)<1+fr+(9-l.length);omega,tI,tI,⟨rfl,⟨rfl,trivial⟩⟩,tI⟩⟩)
    ·rw[show decide ((fr:Int)≤((((atB s a-192)*256+atB s (a+1)):Nat):Int))=true from ZX (by omega)];refine G0 ?_;(exact⟨none,trivial,fun gr=>⟨⟨(((atB s a-192)*256+atB s (a+1)),true,l,some (x),((atB s a-192)*256+atB s (a+1)),g),hpb c3⟩,by show 0<1+fr+(9-l.length);omega,tI,tI,⟨rfl,⟨rfl,trivial⟩⟩,tI⟩⟩)
  rw[show decide ((192:Int)≤(atB s a:Int))=false from ZY (by omega)];obtain⟨n,hn⟩:∃n,n=atB s a:=⟨_,rfl⟩;have hok:=h.lab_ok hs c c0 c1;have hbad:=h.lab_bad hs c c0 c1;have hn8:=Is s a;rw[←hn]at c0 c1 hok hbad hn8 ⊢;have hl8:=(h.no rfl).1;obtain⟨_,q2,q3⟩:=Cf (s:=s) (k:=0) (a:=a+1) (b:=false) c;have hst:some (Ent.mk 0 (.b scT) 3 [[.v (.string s),.v (.int .i64 ((a+1:Nat):Int)),.v (.bool false)]])=some (Ent.mk 0 (.b scT) 3 [[.v (.string s),.v (.int .i64 (Aq s 0 (a+1):Int)),.v (.bool (B7 s 0 (a+1) false))]]):=by rw[q2,q3]
  clear h e1 e2 e3 hn q2 q3;refine G0 ?_;(refine⟨[],none,{i:Nat//i≤n},[],fun⟨i,hi⟩=>[(0,.ptr 0 0 0 0),(3,.own 48 g),(4,.v (.int .i64 (fr:Int))),(5,.v (.int .i64 (eI e))),(6,.v (.int .i64 (n:Int))),(8,.v (.string (bA (Du s (a+1) i)))),(9,.v (.int .i64 (i:Int)))],[],fun⟨i,hi⟩=>[(0,⟨0,.b scT,3,[[.v (.string s),.v (.int .i64 (Aq s i (a+1):Int)),.v (.bool (B7 s i (a+1) false))]]⟩),(48,⟨g,.t 9,1,l.map A1⟩)],fun⟨i,hi⟩=>n-i,trivial,fun _=>⟨trivial,fun _=>⟨⟨0,ZU _⟩,tI,Af _ _,?_,Ae _ _⟩⟩,fun⟨i,hi⟩=>?_⟩;focus (exact⟨hst,⟨rfl,trivial⟩⟩));simp only[Ou,O8,Iz,Iv];by_cases d1:i<n
  ·have hA:Aq s i (a+1)≤1000000:=Bj (by omega) hs;have hc8:=Is s (a+1+i);have hsm:=Ann hc8;have hlen:=Y4 s (a+1) i;refine G0 ?_;rw[show decide ((i:Int)<(n:Int))=true from ZX (by omega)];refine G0 ?_;(refine .inr (.inl ⟨_,_,false,0::([]++[]),?_,Aw s (Aq s i (a+1)) 1 (B7 s i (a+1) false) hs hA (by omega) (by omega),Ab,oI,dI,?_⟩);focus (exact wI));rw[Aon,Apl,Anh];generalize hx:atB s (a+1+i)=x at *;refine G1 ?_;intro gg;have hlem:bA (Du s (a+1) i)++Nl [(Ej x:Int)]=bA (Du s (a+1) (i+1)):=by
    rw[show Nl [(Ej x:Int)]=bA [UInt8.ofNat (Ej x)]from rfl,Ca,←As7 hc8,←hx];rfl
   by_cases d2:65≤x;rotate_left
   ·have hy:Ej x=x:=by unfold Ej;rw[if_neg (by omega)]
    rw[show decide ((65:Int)≤(x:Int))=false from ZY (by omega)];refine G0 ?_;refine⟨(Ej x:Int),by rw[Oo];omega,?_⟩;refine G1 ?_;intro gg;refine⟨[(Ej x:Int)],rfl,?_⟩;refine G0 ?_;refine⟨by have e1:(Nl [(Ej x:Int)]).size=1:=rfl;have e2:=D2 (Du s (a+1) i);omega,?_⟩;rw[hlem];refine G0 ?_;(exact⟨none,trivial,fun gr=>⟨⟨i+1,by omega⟩,by show n-(i+1)<n-i;omega,tI,tI,⟨rfl,⟨rfl,trivial⟩⟩,tI⟩⟩)
   rw[show decide ((65:Int)≤(x:Int))=true from ZX (by omega)];refine G0 ?_;by_cases d3:x≤90;rotate_left
   ·have hy:Ej x=x:=by unfold Ej;rw[if_neg (by omega)]
    rw[show decide ((x:Int)≤(90:Int))=false from ZY (by omega)];refine G0 ?_;refine⟨(Ej x:Int),by rw[Oo];omega,?_⟩;refine G1 ?_;intro gg;refine⟨[(Ej x:Int)],rfl,?_⟩;refine G0 ?_;refine⟨by have e1:(Nl [(Ej x:Int)]).size=1:=rfl;have e2:=D2 (Du s (a+1) i);omega,?_⟩;rw[hlem];refine G0 ?_;(exact⟨none,trivial,fun gr=>⟨⟨i+1,by omega⟩,by show n-(i+1)<n-i;omega,tI,tI,⟨rfl,⟨rfl,trivial⟩⟩,tI⟩⟩)
   have hy:Ej x=x+32:=by unfold Ej;rw[if_pos (by omega)]
   rw[show decide ((x:Int)≤(90:Int))=true from ZX (by omega)];refine G0 ?_;refine⟨(Ej x:Int),by rw[Oo];omega,?_⟩;refine G1 ?_;intro gg;refine⟨[(Ej x:Int)],rfl,?_⟩;refine G0 ?_;refine⟨by have e1:(Nl [(Ej x:Int)]).size=1:=rfl;have e2:=D2 (Du s (a+1) i);omega,?_⟩;rw[hlem];refine G0 ?_;(exact⟨none,trivial,fun gr=>⟨⟨i+1,by omega⟩,by show n-(i+1)<n-i;omega,tI,tI,⟨rfl,⟨rfl,trivial⟩⟩,tI⟩⟩)
  ·obtain rfl:i=n:=by omega
   refine G0 ?_;rw[show decide ((i:Int)<(i:Int))=false from ZY (by omega)];refine G0 ?_;have hll:(l.map A1++[A1 (bA (Du s (a+1) i))]).length=l.length+1:=by rw[ZF,ZE];rfl
   have hTs:(bA (Du s (a+1) i)).size=i:=by rw[D2,Y4]
   have hn8:i<256:=hn8;by_cases d2:a+1+i≤s.size;rotate_left
   ·obtain⟨_,_,f3⟩:=Hn (s:=s) (k:=i) (a:=a+1) (b:=false) d2;rw[f3];refine G1 ?_;intro gg;refine⟨lI,lI,?_⟩;refine G1 ?_;intro gg;refine Aa (fun hh=>?_) (fun hh=>?_)<;>rw[hh]
    ·have d4:¬l.length+1≤8:=by have:=ZV (show decide ((8:Int)<((l.map A1++[A1 (bA (Du s (a+1) i))]).length:Int))=true from hh);rw[hll]at this;omega
     refine G0 ?_;(exact⟨none,trivial,fun gr=>⟨⟨(Aq s i (a+1),true,l++[bA (Du s (a+1) i)],e,fr,gg),hbad (fun q=>d2 q.1)⟩,by show 0<1+fr+(9-l.length);omega,tI,tI,⟨rfl,⟨congrArg (fun r=>some (Ent.mk gg (.t 9) 1 r)) (show l.map A1++[A1 (bA (Du s (a+1) i))]=(l++[bA (Du s (a+1) i)]).map A1 by rw[ZI];rfl),trivial⟩⟩,tI⟩⟩)
    ·have d4:l.length+1≤8:=by have:=ZW (show decide ((8:Int)<((l.map A1++[A1 (bA (Du s (a+1) i))]).length:Int))=false from hh);rw[hll]at this;omega
     refine G0 ?_;(exact⟨none,trivial,fun gr=>⟨⟨(Aq s i (a+1),true,l++[bA (Du s (a+1) i)],e,fr,gg),hbad (fun q=>d2 q.1)⟩,by show 0<1+fr+(9-l.length);omega,tI,tI,⟨rfl,⟨congrArg (fun r=>some (Ent.mk gg (.t 9) 1 r)) (show l.map A1++[A1 (bA (Du s (a+1) i))]=(l++[bA (Du s (a+1) i)]).map A1 by rw[ZI];rfl),trivial⟩⟩,tI⟩⟩)
   obtain⟨_,_,f3⟩:=Cf (s:=s) (k:=i) (a:=a+1) (b:=false) d2;rw[f3];refine G0 ?_;(refine .inl ⟨_,_,false,[],aI,Eb (bA (Du s (a+1) i)) (by rw[hTs];omega),Ab,nI,?_⟩);rw[show(bA (Du s (a+1) i)).data.toList=Du s (a+1) i from by simp[bA]];(refine goI ?_;repeat (intro gg;refine goI ?_));by_cases d3:lab (Du s (a+1) i)=true
   ·rw[d3];refine G0 ?_;refine⟨lI,lI,?_⟩;refine G1 ?_;intro gg;refine Aa (fun hh=>?_) (fun hh=>?_)<;>rw[hh]
    ·have d4:¬l.length+1≤8:=by have:=ZV (show decide ((8:Int)<((l.map A1++[A1 (bA (Du s (a+1) i))]).length:Int))=true from hh);rw[hll]at this;omega
     refine G0 ?_;(exact⟨none,trivial,fun gr=>⟨⟨(Aq s i (a+1),true,l++[bA (Du s (a+1) i)],e,fr,gg),hbad (fun q=>d4 q.2.2)⟩,by show 0<1+fr+(9-l.length);omega,tI,tI,⟨rfl,⟨congrArg (fun r=>some (Ent.mk gg (.t 9) 1 r)) (show l.map A1++[A1 (bA (Du s (a+1) i))]=(l++[bA (Du s (a+1) i)]).map A1 by rw[ZI];rfl),trivial⟩⟩,tI⟩⟩)
    ·have d4:l.length+1≤8:=by have:=ZW (show decide ((8:Int)<((l.map A1++[A1 (bA (Du s (a+1) i))]).length:Int))=false from hh);rw[hll]at this;omega
     refine G0 ?_;(exact⟨none,trivial,fun gr=>⟨⟨(Aq s i (a+1),false,l++[bA (Du s (a+1) i)],e,fr,gg),hok ⟨d2,d3,d4⟩⟩,by show 1+fr+(9-(l++[bA (Du s (a+1) i)]).length)<1+fr+(9-l.length);rw[ZF];simp only[ZJ,ZN];omega,tI,tI,⟨rfl,⟨congrArg (fun r=>some (Ent.mk gg (.t 9) 1 r)) (show l.map A1++[A1 (bA (Du s (a+1) i))]=(l++[bA (Du s (a+1) i)]).map A1 by rw[ZI];rfl),trivial⟩⟩,tI⟩⟩)
   ·rw[XE.2 d3];refine G0 ?_;refine⟨lI,lI,?_⟩;refine G1 ?_;intro gg;refine Aa (fun hh=>?_) (fun hh=>?_)<;>rw[hh]
    ·have d4:¬l.length+1≤8:=by have:=ZV (show decide ((8:Int)<((l.map A1++[A1 (bA (Du s (a+1) i))]).length:Int))=true from hh);rw[hll]at this;omega
     refine G0 ?_;(exact⟨none,trivial,fun gr=>⟨⟨(Aq s i (a+1),true,l++[bA (Du s (a+1) i)],e,fr,gg),hbad (fun q=>d3 q.2.1)⟩,by show 0<1+fr+(9-l.length);omega,tI,tI,⟨rfl,⟨congrArg (fun r=>some (Ent.mk gg (.t 9) 1 r)) (show l.map A1++[A1 (bA (Du s (a+1) i))]=(l++[bA (Du s (a+1) i)]).map A1 by rw[ZI];rfl),trivial⟩⟩,tI⟩⟩)
    ·have d4:l.length+1≤8:=by have:=ZW (show decide ((8:Int)<((l.map A1++[A1 (bA (Du s (a+1) i))]).length:Int))=false from hh);rw[hll]at this;omega
     refine G0 ?_;(exact⟨none,trivial,fun gr=>⟨⟨(Aq s i (a+1),true,l++[bA (Du s (a+1) i)],e,fr,gg),hbad (fun q=>d3 q.2.1)⟩,by show 0<1+fr+(9-l.length);omega,tI,tI,⟨rfl,⟨congrArg (fun r=>some (Ent.mk gg (.t 9) 1 r)) (show l.map A1++[A1 (bA (Du s (a+1) i))]=(l++[bA (Du s (a+1) i)]).map A1 by rw[ZI];rfl),trivial⟩⟩,tI⟩⟩)
 ·have hq:=h.yes rfl;rw[hQ]at hq;rw[O0 hq];refine G0 ?_;(exact⟨0::([]++[]),Ez (by first|exact As rfl|assumption) (Jf (gone:=[]) (gone1:=[]) rfl aI (by decide) (by decide) (by decide) (.nil _))⟩)
namespace Pl
theorem Kw(s:ByteArray)(i j a:Nat):Aq s j (Aq s i a)=Aq s (i+j) a:=by
 unfold Aq;split<;>split<;>split<;>omega
theorem K2(s:ByteArray)(i j a:Nat)(b:Bool):B7 s j (Aq s i a) (B7 s i a b)=B7 s (i+j) a b:=by
 unfold B7 Aq;by_cases h:a+i≤s.size
 ·rw[if_pos h,show decide (s.size<a+i)=false from ZY (by omega),Bool.or_false,Nat.add_assoc]
 ·rw[if_neg h,show decide (s.size<a+i)=true from ZX (by omega),show decide (s.size<a+(i+j))=true from ZX (by omega)];simp
def M1(s:ByteArray)(a:Nat)(b:Bool):Nat×Bool:=bif b then(a,true)else(Aq s 2 a,(B6 s 2 a:Int) !=1)
def Uk(a e:Nat)(b:Bool):Bool:=bif b then true else((a:Int) !=(e:Int))
def Aa1(s:ByteArray)(nm:ByteArray)(t ls a e:Nat):Option (Rr×Nat×Bool):=
 if t=1 then some (⟨nm,t,ls,B6 s 4 a,⟨#[]⟩,0,⟨#[]⟩⟩,Aq s 4 a,Uk (Aq s 4 a) e (B7 s 4 a false))
 else if t=16 then
  if B7 s 1 a false=true∨s.size<Aq s 1 a+B6 s 1 a then none
  else some (⟨nm,t,ls,0,s.extract (Aq s 1 a) (Aq s 1 a+B6 s 1 a),0,⟨#[]⟩⟩,Aq s 1 a+B6 s 1 a,Uk (Aq s 1 a+B6 s 1 a) e false)
 else if t=33 then
  some (⟨nm,t,ls,0,⟨#[]⟩,B6 s 2 (Aq s 4 a),(Dp s (Aq s 2 (Aq s 4 a)) (B7 s 2 (Aq s 4 a) ((B6 s 4 a:Int) !=0))).1⟩,
   (Dp s (Aq s 2 (Aq s 4 a)) (B7 s 2 (Aq s 4 a) ((B6 s 4 a:Int) !=0))).2.1,
   Uk (Dp s (Aq s 2 (Aq s 4 a)) (B7 s 2 (Aq s 4 a) ((B6 s 4 a:Int) !=0))).2.1 e (Dp s (Aq s 2 (Aq s 4 a)) (B7 s 2 (Aq s 4 a) ((B6 s 4 a:Int) !=0))).2.2)
 else some (⟨nm,t,ls,0,⟨#[]⟩,0,⟨#[]⟩⟩,a,Uk a e false)
def Xx(s:ByteArray)(nm:ByteArray)(a1:Nat)(b1:Bool):Option (Rr×Nat×Bool):=
 let o:=M1 s (Aq s 2 a1) (B7 s 2 a1 b1)
 if B7 s 6 o.1 o.2=true∨s.size<Aq s 6 o.1+B6 s 2 (Aq s 4 o.1)then none
 else Aa1 s nm (B6 s 2 a1) (B6 s 4 o.1) (Aq s 6 o.1) (Aq s 6 o.1+B6 s 2 (Aq s 4 o.1))
def Oj(s:ByteArray)(a:Nat):Option (Rr×Nat×Bool):=Xx s (Dp s a false).1 (Dp s a false).2.1 (Dp s a false).2.2
def Gy(s:ByteArray):Nat→Nat→Bool→List Rr→Option (List Rr×Nat×Bool)
 |0,a,b,L=>some (L,a,b)
 |n+1,a,b,L=>bif b then some (L,a,true)else(Oj s a).bind fun r=>Gy s n r.2.1 r.2.2 (L++[r.1])
structure Hd where
 id:Nat
 fl:Nat
 co:Nat
 one:Nat
 n:Nat
 z:Nat
def hdS(s:ByteArray):Hd:=⟨B6 s 2 0,B6 s 1 (Aq s 2 0),B6 s 1 (Aq s 3 0),B6 s 2 (Aq s 4 0),B6 s 2 (Aq s 6 0),B6 s 4 (Aq s 8 0)⟩
def Hd.ok(h:Hd):Prop:=(h.fl=0∨h.fl=2∨h.fl=128∨h.fl=130)∧h.co≤15∧h.one=1∧h.n≤20∧h.z=0
instance (h:Hd):Decidable h.ok:=by unfold Hd.ok;exact inferInstance
def Cs(s:ByteArray):Ms×Int:=
 if 512<s.size then(A9,2)
 else if 12≤s.size∧(hdS s).ok then
  let Q:=Dp s 12 false
  let o:=M1 s (Aq s 2 Q.2.1) (B7 s 2 Q.2.1 Q.2.2)
  match Gy s (hdS s).n o.1 o.2 []with
  |none=>(A9,1)
  |some (L,a,b)=>
   if b=false∧a=s.size∧A4 ⟨(hdS s).id,decide (128≤(hdS s).fl),decide (2≤(hdS s).fl%4),(hdS s).co,Q.1,B6 s 2 Q.2.1,L⟩=0 then(⟨(hdS s).id,decide (128≤(hdS s).fl),decide (2≤(hdS s).fl%4),(hdS s).co,Q.1,B6 s 2 Q.2.1,L⟩,0)
   else(A9,1)
 else(A9,1)
theorem Aaw{s:ByteArray}(hs:s.size≤1000000):∀(f a:Nat) (l:List ByteArray) (e:Option Nat) (fr:Nat),a≤1000000→e.getD 0≤1000000→l.length≤8→(∀x∈l,x.size≤1000)→
  (Je s f a l e fr).2≤1000000∧∀p,(Je s f a l e fr).1=some p→p.2≤1000000∧p.1.length≤8∧∀x∈p.1,x.size≤1000
 |0,a,l,e,fr,ha,he,hl,hz=>⟨ZU _,fun p h=>by cases h⟩
 |f+1,a,l,e,fr,ha,he,hl,hz=>by
  have ht:=Ag1 s a;have hb:=Is s a;unfold Je;split
  ·split
   ·refine⟨ZU _,fun p h=>?_⟩;cases h;refine⟨?_,hl,hz⟩;cases e with
    |none=>show a+1≤_;omega
    |some y=>exact he
   ·split
    ·split
     ·exact Aaw hs f _ l _ _ ht (Ael he (by omega)) hl hz
     ·exact⟨ht,fun p h=>by cases h⟩
    ·split
     ·rename_i h3;exact Aaw hs f _ _ e fr (Bj (by omega) hs) he (by rw[ZF];exact h3.2.2) (Akz hz hb _)
     ·exact⟨Bj (by omega) hs,fun p h=>by cases h⟩
  ·exact⟨by show max a s.size≤_;omega,fun p h=>by cases h⟩
theorem Uf{s:ByteArray}(hs:s.size≤1000000){a:Nat}(ha:a≤1000000)(b:Bool):(Dp s a b).2.1≤1000000∧(Dp s a b).1.size≤10000:=by
 cases b with
 |true=>exact⟨ha,show(⟨#[]⟩:ByteArray).size≤10000 from by decide⟩
 |false=>
  obtain⟨h1,h2⟩:=Aaw hs (a+10) a [] none a ha (by simp) (by simp) (by simp);rcases hq:Je s (a+10) a [] none a with⟨_|p,x⟩
  ·rw[O0 (b:=false) hq];rw[hq]at h1;exact⟨h1,show(⟨#[]⟩:ByteArray).size≤10000 from by decide⟩
  ·rw[Ts (b:=false) hq];rw[hq]at h2;obtain⟨g1,g2,g3⟩:=h2 p rfl;refine⟨g1,?_⟩;have:=Ads p.1 g3 p.1.length (ZT _);rw[XF]at this;show(Df Kk p.1).size≤_;omega
theorem Amq{s:ByteArray}(hs:s.size≤1000000){a:Nat}(ha:a≤1000000)(b:Bool):(M1 s a b).1≤1000000:=by
 cases b with
 |true=>exact ha
 |false=>exact Bj ha hs
structure Rr.Sh(r:Rr):Prop where
 nm:r.nm.size≤1000000
 tx:r.tx.size≤1000000
 tg:r.tg.size≤1000000
theorem Asm{s:ByteArray}(hs:s.size≤1000000){nm:ByteArray}(hn:nm.size≤10000){t ls a e:Nat}(ha:a≤1000000){r:Rr}{a':Nat}{b':Bool}(h:Aa1 s nm t ls a e=some (r,a',b')):r.Sh∧a'≤1000000:=by
 have h0:(⟨#[]⟩:ByteArray).size=0:=rfl;unfold Aa1 at h;split at h
 ·cases h;exact⟨⟨by show nm.size≤_;omega,by show(⟨#[]⟩:ByteArray).size≤_;omega,by show(⟨#[]⟩:ByteArray).size≤_;omega⟩,Bj ha hs⟩
 ·split at h
  ·split at h
   ·cases h
   ·rename_i h3;cases h;refine⟨⟨by show nm.size≤_;omega,?_,by show(⟨#[]⟩:ByteArray).size≤_;omega⟩,?_⟩
    ·show(s.extract (Aq s 1 a) (Aq s 1 a+B6 s 1 a)).size≤_;rw[ByteArray.size_extract];omega
    ·simp only[not_or]at h3;omega
  ·split at h
   ·cases h;obtain⟨g1,g2⟩:=Uf hs (Bj (Bj ha hs) hs:Aq s 2 (Aq s 4 a)≤1000000) (B7 s 2 (Aq s 4 a) ((B6 s 4 a:Int) !=0));exact⟨⟨by show nm.size≤_;omega,by show(⟨#[]⟩:ByteArray).size≤_;omega,XI g2 (by decide)⟩,g1⟩
   ·cases h;exact⟨⟨by show nm.size≤_;omega,by show(⟨#[]⟩:ByteArray).size≤_;omega,by show(⟨#[]⟩:ByteArray).size≤_;omega⟩,ha⟩
theorem Aul{s:ByteArray}(hs:s.size≤1000000){a:Nat}(ha:a≤1000000){r:Rr}{a':Nat}{b':Bool}(h:Oj s a=some (r,a',b')):r.Sh∧a'≤1000000:=by
 obtain⟨g1,g2⟩:=Uf hs ha false;unfold Oj Xx at h;simp only at h;split at h
 ·cases h
 ·exact Asm hs g2 (Bj (Amq hs (Bj g1 hs) _) hs) h
structure RsI(s:ByteArray)(n:Nat)(R:Option (List Rr×Nat×Bool))(k a:Nat)(b:Bool)(L:List Rr):Prop where
 hr:Gy s (n-k) a b L=R
 hk:k≤n
 hl:L.length=k
 ha:a≤1000000
 hz:∀r∈L,r.Sh
section
variable {s:ByteArray} {n k a:Nat} {R:Option (List Rr×Nat×Bool)} {L:List Rr} {b:Bool}
theorem RsI.start(ha:a≤1000000):RsI s n (Gy s n a b []) 0 a b []:=⟨rfl,ZU _,rfl,ha,by simp⟩
theorem RsI.next(h:RsI s n R k a false L)(hs:s.size≤1000000)(hk:k<n){r:Rr}{a':Nat}{b':Bool}(e:Oj s a=some (r,a',b')):RsI s n R (k+1) a' b' (L++[r]):=by
 have hb:=Aul hs h.ha e;refine⟨?_,hk,by rw[ZF,h.hl];rfl,hb.2,fun x hx=>?_⟩
 ·have:=h.hr;rw[show n-k=(n-(k+1))+1 by omega,Gy,e]at this;exact this
 ·rcases XM.1 hx with hx|hx
  ·exact h.hz x hx
  ·rw[XN.1 hx];exact hb.1
theorem RsI.none(h:RsI s n R k a false L)(hk:k<n)(e:Oj s a=none):R=none:=by
 rw[←h.hr,show n-k=(n-(k+1))+1 by omega,Gy,e];rfl
theorem RsI.stop(h:RsI s n R k a true L):R=some (L,a,true):=by
 rw[←h.hr];rcases n-k with _|m
 ·rfl
 ·rfl
theorem RsI.end_(h:RsI s n R k a b L)(hk:¬k<n):R=some (L,a,b):=by
 have:=h.hk;rw[←h.hr,show n-k=0 by omega];rfl
end
end Pl
theorem C2{env:Nat→V}{H:Nat→Option Ent}{ts:List RT}{cs cs':List V}{v:V}(hG:Jp env H ts [.agg cs,v])(hc:Ek H [] cs cs')(hv:Cl v):∃us gone,Jp env H ts us∧A7 H gone true gone us [.c (.agg cs'),.c v]:=⟨_,[],hG,.bora hc (.same hv (.nil _))⟩
namespace Pl
section
variable {s:ByteArray} {a:Nat}
theorem Hw(h:a+1≤s.size):Cr s a=some (atB s a,a+1):=by
 unfold Cr atB;have:s[a]? =some s[a]:=by simp
 rw[this];rfl
theorem Qj(h:¬a+1≤s.size):Cr s a=none:=by
 unfold Cr;rw[show s[a]? =none from by simp;omega];rfl
theorem Qv:Dx s a 2=atB s a*256+atB s (a+1):=by
 show 256*(256*0+atB s (a+0))+atB s (a+1)=_;rw[Nat.add_zero];omega
theorem Nn:Dx s a 4=Dx s a 2*65536+Dx s (a+2) 2:=by
 rw[Qv,Qv];show 256*(256*Dx s a 2+atB s (a+2))+atB s (a+3)=_;rw[Qv,show a+2+1=a+3 from rfl];omega
theorem Dt(h:a+2≤s.size):Bt s a=some (Dx s a 2,a+2):=by
 unfold Bt;rw[Hw (by omega),ZA];simp only;rw[Hw (by omega),ZA,Qv]
theorem I3(h:¬a+2≤s.size):Bt s a=none:=by
 unfold Bt;by_cases h1:a+1≤s.size
 ·rw[Hw h1,ZA];simp only;rw[Qj (by omega)];rfl
 ·rw[Qj h1];rfl
theorem Wc(h:a+4≤s.size):Gp s a=some (Dx s a 4,a+4):=by
 unfold Gp;rw[Dt (by omega),ZA];simp only;rw[Dt (by omega),ZA,Nn]
theorem Agr(h:¬a+4≤s.size):Gp s a=none:=by
 unfold Gp;by_cases h1:a+2≤s.size
 ·rw[Dt h1,ZA];simp only;rw[I3 (by omega)];rfl
 ·rw[I3 h1];rfl
end
theorem Al6{s:ByteArray}{a n:Nat}(h:a+n≤s.size):Du s a n=(C6 (s.extract a (a+n))).data.toList:=by
 have key:∀n,a+n≤s.size→Du s a n=(s.extract a (a+n)).data.toList.map F8:=by
  intro n
  induction n with
  |zero=>intro _;show []=_;rw[Nat.add_zero,D3,List.drop_eq_nil_of_le (by rw[ZM];omega)];rfl
  |succ n ih=>
   intro hn;show Du s a n++[F8 (UInt8.ofNat (atB s (a+n)))]=_;have hl:s.data.toList.length=s.size:=by simp
   rw[ih (by omega),D3,D3,←Nat.add_assoc,Vn (show a+n<s.data.toList.length by omega),List.drop_append_of_le_length (by rw[ZM];omega),ZI];congr 1;have e1:s[a+n]? =some s[a+n]:=by simp
   rw[Gu e1];simp;rfl
 rw[key n h];unfold C6;simp
theorem Adx{s:ByteArray}:∀(f a:Nat) (l:List ByteArray) (e:Option Nat) (fr:Nat),l.length≤8→(Je s f a l e fr).1=nameR s f a l e fr
 |0,a,l,e,fr,hl=>rfl
 |f+1,a,l,e,fr,hl=>by
  unfold Je nameR;rw[if_pos hl];by_cases c:a+1≤s.size
  ·rw[if_pos c,Hw c,ZA];simp only;by_cases c0:atB s a=0
   ·rw[if_pos c0,if_pos c0]
   ·rw[if_neg c0,if_neg c0];by_cases c1:192≤atB s a
    ·rw[if_pos c1,if_pos c1];have hb:=Is s a;by_cases c2:a+2≤s.size
     ·rw[Hw (a:=a+1) (by omega),ZA];simp only;rw[show atB s a%64=atB s a-192 by omega];by_cases c3:(atB s a-192)*256+atB s (a+1)<fr
      ·rw[if_pos ⟨c2,c3⟩,if_pos c3];exact Adx f _ l _ _ hl
      ·rw[if_neg (fun q=>c3 q.2),if_neg c3]
     ·rw[if_neg (fun q=>c2 q.1),Qj (by omega)];rfl
    ·rw[if_neg c1,if_neg c1];unfold Fo;by_cases c2:a+1+atB s a≤s.size
     ·rw[if_pos c2,ZA];simp only;rw[←Al6 c2];by_cases c3:lab (Du s (a+1) (atB s a))=true
      ·rw[if_pos c3];have eB:C6 (s.extract (a+1) (a+1+atB s a))=bA (Du s (a+1) (atB s a)):=by rw[Al6 c2,Abt]
       by_cases c4:l.length+1≤8
       ·rw[if_pos ⟨c2,c3,c4⟩,(Cf (b:=false) c2).2.1,eB];exact Adx f _ _ e fr (by rw[ZF];exact c4)
       ·rw[if_neg (fun q=>c4 q.2.2)];cases f with
        |zero=>rfl
        |succ f=>unfold nameR;rw[if_neg (by rw[ZF];exact c4)]
      ·rw[if_neg (fun q=>c3 q.2.1),if_neg c3]
     ·rw[if_neg (fun q=>c2 q.1),if_neg c2];rfl
  ·rw[if_neg c,Qj c];rfl
theorem Aeh(s:ByteArray)(a:Nat):(∀v a',Eq s a=some (v,a')→Dp s a false=(v,a',false))∧(Eq s a=none→(Dp s a false).2.2=true):=by
 have h:=Adx (s:=s) (a+10) a [] none a (by simp);rcases hq:Je s (a+10) a [] none a with⟨_|p,x⟩
 ·rw[hq]at h;have e:Eq s a=none:=by unfold Eq;rw[←h];rfl
  refine⟨fun v a' h=>(by rw[e]at h;cases h),fun _=>by rw[O0 (b:=false) hq]⟩
 ·rw[hq]at h;have e:Eq s a=some (Df Kk p.1,p.2):=by unfold Eq;rw[←h];rfl
  refine⟨fun v a' h=>?_,fun h=>(by rw[e]at h;cases h)⟩;rw[e]at h;cases h;exact Ts (b:=false) hq
end Pl
namespace Pl
def Wr(x:Option (Rr×Nat×Bool)):Prop:=x=none∨∃r a b,x=some (r,a,b)∧(b=true∨Fk r.ty=false)
theorem Aa7{a e:Nat}(h:a=e):Uk a e false=false:=by subst h;show((a:Int) !=(a:Int))=false;simp
theorem Ae0{a e:Nat}(h:a≠e)(b:Bool):Uk a e b=true:=by
 cases b
 ·show((a:Int) !=(e:Int))=true;exact ZZ.2 (by omega)
 ·rfl
theorem Aut{t:Nat}(h1:t≠1)(h16:t≠16)(h33:t≠33):Fk (t:Int)=false:=by
 unfold Fk;rw[show((t:Int)==1)=false from ZG.2 (by omega),show((t:Int)==16)=false from ZG.2 (by omega),show((t:Int)==33)=false from ZG.2 (by omega)];rfl
section
variable {s:ByteArray} {nm:ByteArray} {t ls a e:Nat}
def Arm(s:ByteArray)(nm:ByteArray)(t ls a e:Nat):Option (Rr×Nat):=
 (Il s t a).bind fun b=>if b.2=e then some (⟨nm,t,ls,b.1.1,b.1.2.1,b.1.2.2.1,b.1.2.2.2⟩,b.2)else none
theorem Atb(ha:a≤s.size):(∀r a',Arm s nm t ls a e=some (r,a')→Aa1 s nm t ls a e=some (r,a',false))∧(Arm s nm t ls a e=none→Wr (Aa1 s nm t ls a e)):=by
 unfold Arm Il Aa1;by_cases t1:t=1
 ·rw[if_pos t1,if_pos t1];by_cases c:a+4≤s.size
  ·obtain⟨e1,e2,e3⟩:=Cf (b:=false) c;rw[Wc c,e1,e2,e3,ZA];simp only[ZA];by_cases d:a+4=e
   ·rw[if_pos d,Aa7 d];exact⟨fun r a' h=>by cases h;rfl,fun h=>by cases h⟩
   ·rw[if_neg d,Ae0 d];exact⟨fun r a' h=>by(cases h),fun _=>.inr ⟨_,_,_,rfl,.inl rfl⟩⟩
  ·rw[Agr c,(Hn (b:=false) c).2.2];exact⟨fun r a' h=>by(cases h),fun _=>.inr ⟨_,_,_,rfl,.inl rfl⟩⟩
 ·rw[if_neg t1,if_neg t1];by_cases t16:t=16
  ·rw[if_pos t16,if_pos t16];by_cases c:a+1≤s.size
   ·obtain⟨e1,e2,e3⟩:=Cf (b:=false) c;rw[Hw c,e2,e3,Nm,ZA];simp only;unfold Fo;by_cases d:a+1+atB s a≤s.size
    ·rw[if_pos d,if_neg (by simp;omega),ZA];simp only[ZA];by_cases f:a+1+atB s a=e
     ·rw[if_pos f,Aa7 f];exact⟨fun r a' h=>by cases h;rfl,fun h=>by cases h⟩
     ·rw[if_neg f,Ae0 f];exact⟨fun r a' h=>by(cases h),fun _=>.inr ⟨_,_,_,rfl,.inl rfl⟩⟩
    ·rw[if_neg d,if_pos (.inr (by omega))];exact⟨fun r a' h=>by(cases h),fun _=>.inl rfl⟩
   ·rw[Qj c,if_pos (.inl (Hn (b:=false) c).2.2)];exact⟨fun r a' h=>by(cases h),fun _=>.inl rfl⟩
  ·rw[if_neg t16,if_neg t16];by_cases t33:t=33
   ·rw[if_pos t33,if_pos t33];have bad:∀(x:Option (Rr×Nat)) (r0:Rr) (b7:Bool) (a7:Nat),x=none→b7=true→
      (∀r a',x=some (r,a')→some (({r0 with tg:=(Dp s a7 b7).1} :Rr),(Dp s a7 b7).2.1,Uk (Dp s a7 b7).2.1 e (Dp s a7 b7).2.2)=some (r,a',false))∧(x=none→Wr (some (({r0 with tg:=(Dp s a7 b7).1} :Rr),(Dp s a7 b7).2.1,Uk (Dp s a7 b7).2.1 e (Dp s a7 b7).2.2))):=by
     intro x r0 b7 a7 hx hb;subst hb;exact⟨fun r a' h=>by(rw[hx]at h;cases h),fun _=>.inr ⟨_,_,_,rfl,.inl rfl⟩⟩
    by_cases c4:a+4≤s.size
    ·obtain⟨e1,e2,e3⟩:=Cf (s:=s) (k:=4) (a:=a) (b:=false) c4;rw[Dt (by omega),e1,e2,ZA];simp only;by_cases z1:Dx s a 2=0
     ·rw[if_pos z1,Dt (by omega),ZA];simp only;by_cases z2:Dx s (a+2) 2=0
      ·rw[if_pos z2,show(((Dx s a 4:Nat):Int) !=0)=false from by rw[Nn,z1,z2];rfl];by_cases c6:a+4+2≤s.size
       ·obtain⟨g1,g2,g3⟩:=Cf (s:=s) (k:=2) (a:=a+4) (b:=false) c6;rw[Dt c6,g1,g2,g3,ZA];simp only;obtain⟨n1,n2⟩:=Aeh s (a+4+2);rcases hn:Eq s (a+4+2)with _|⟨v,a8⟩
        ·rw[Option.bind_none,Option.bind_none,show(Dp s (a+4+2) false).2.2=true from n2 hn];exact⟨fun r a' h=>by(cases h),fun _=>.inr ⟨_,_,_,rfl,.inl rfl⟩⟩
        ·rw[n1 v a8 hn,ZA];simp only[ZA];by_cases f:a8=e
         ·rw[if_pos f,Aa7 f];exact⟨fun r a' h=>by cases h;rfl,fun h=>by cases h⟩
         ·rw[if_neg f,Ae0 f];exact⟨fun r a' h=>by(cases h),fun _=>.inr ⟨_,_,_,rfl,.inl rfl⟩⟩
       ·rw[I3 c6];exact bad _ ⟨nm,t,ls,0,⟨#[]⟩,_,⟨#[]⟩⟩ _ _ rfl (Hn c6).2.2
      ·rw[if_neg z2];have hz:(((Dx s a 4:Nat):Int) !=0)=true:=by rw[Nn];exact ZZ.2 (by omega)
       rw[hz];exact bad _ ⟨nm,t,ls,0,⟨#[]⟩,_,⟨#[]⟩⟩ _ _ rfl rfl
     ·rw[if_neg z1];have hz:(((Dx s a 4:Nat):Int) !=0)=true:=by rw[Nn];exact ZZ.2 (by omega)
      rw[hz];exact bad _ ⟨nm,t,ls,0,⟨#[]⟩,_,⟨#[]⟩⟩ _ _ rfl rfl
    ·have hx:((Bt s a).bind fun p=>if p.1=0 then(Bt s p.2).bind fun q=>if q.1=0 then(Bt s q.2).bind fun r=>(Eq s r.2).bind fun n=>some ((0,(⟨#[]⟩:ByteArray),r.1,n.1),n.2)else none else none:Option ((Nat×ByteArray×Nat×ByteArray)×Nat))=none:=by
      by_cases c2:a+2≤s.size
      ·rw[Dt c2,ZA];simp only;split
       ·rw[I3 (by omega)];rfl
       ·rfl
      ·rw[I3 c2];rfl
     rw[hx];obtain⟨e1,e2,_⟩:=Hn (s:=s) (k:=4) (a:=a) (b:=false) c4;rw[e1,e2];exact bad _ ⟨nm,t,ls,0,⟨#[]⟩,_,⟨#[]⟩⟩ _ _ rfl (Hn (by omega)).2.2
   ·rw[if_neg t33,if_neg t33];exact⟨fun r a' h=>by(cases h),fun _=>.inr ⟨_,_,_,rfl,.inr (Aut t1 t16 t33)⟩⟩
end
theorem Yq{s nm:ByteArray}{a1:Nat}{b1:Bool}(h:(M1 s (Aq s 2 a1) (B7 s 2 a1 b1)).2=true):Wr (Xx s nm a1 b1):=by
 unfold Xx;simp only;rw[h];exact .inl (if_pos (.inl rfl))
theorem Axr(s:ByteArray)(a:Nat):(∀r a',Pp s a=some (r,a')→Oj s a=some (r,a',false))∧(Pp s a=none→Wr (Oj s a)):=by
 have vac:∀{p:Prop} (r:Rr) (a':Nat),(none:Option (Rr×Nat))=some (r,a')→p:=fun r a' h=>by cases h
 obtain⟨n1,n2⟩:=Aeh s a;unfold Pp Oj;rcases hn:Eq s a with _|⟨nm,a1⟩
 ·have hb:=n2 hn;rw[Option.bind_none,hb];exact⟨fun r a' h=>vac r a' h,fun _=>Yq rfl⟩
 rw[n1 nm a1 hn,ZA];simp only;by_cases c2:a1+2≤s.size;rotate_left
 ·rw[I3 c2,Option.bind_none];exact⟨fun r a' h=>vac r a' h,fun _=>Yq (by rw[(Hn (b:=false) c2).2.2];rfl)⟩
 obtain⟨e1,e2,e3⟩:=Cf (b:=false) c2;rw[Dt c2,ZA];simp only;by_cases c3:a1+2+2≤s.size;rotate_left
 ·rw[I3 c3,Option.bind_none];exact⟨fun r a' h=>vac r a' h,fun _=>Yq (by
   rw[e2,e3];show((B6 s 2 (a1+2):Int) !=1)=true;rw[(Hn (b:=false) c3).1];rfl)⟩
 obtain⟨g1,g2,g3⟩:=Cf (b:=false) c3;rw[Dt c3,ZA];simp only;by_cases d:Dx s (a1+2) 2=1;rotate_left
 ·rw[if_neg d];exact⟨fun r a' h=>vac r a' h,fun _=>Yq (by
   rw[e2,e3];show((B6 s 2 (a1+2):Int) !=1)=true;rw[g1];exact ZZ.2 (by omega))⟩
 rw[if_pos d];have ho:M1 s (Aq s 2 a1) (B7 s 2 a1 false)=(a1+2+2,false):=by
  rw[e2,e3];show(Aq s 2 (a1+2),((B6 s 2 (a1+2):Int) !=1))=_;rw[g1,g2,d];rfl
 have hrest:Xx s nm a1 false=if B7 s 6 (a1+2+2) false=true∨s.size<Aq s 6 (a1+2+2)+B6 s 2 (Aq s 4 (a1+2+2))then none
   else Aa1 s nm (B6 s 2 a1) (B6 s 4 (a1+2+2)) (Aq s 6 (a1+2+2)) (Aq s 6 (a1+2+2)+B6 s 2 (Aq s 4 (a1+2+2))):=by
  unfold Xx;simp only;rw[ho]
 rw[hrest,e1];generalize a1+2+2=a3;by_cases c6:a3+6≤s.size;rotate_left
 ·have hx:((Gp s a3).bind fun ls=>(Bt s ls.2).bind fun k=>if k.2+k.1≤s.size then(Il s (Dx s a1 2) k.2).bind fun b=>if b.2=k.2+k.1 then some ((⟨nm,(Dx s a1 2:Nat),ls.1,b.1.1,b.1.2.1,b.1.2.2.1,b.1.2.2.2⟩:Rr),b.2)else none else none)=none:=by
   by_cases c4:a3+4≤s.size
   ·rw[Wc c4,ZA];simp only;rw[I3 (by omega)];rfl
   ·rw[Agr c4];rfl
  rw[hx];exact⟨fun r a' h=>vac r a' h,fun _=>.inl (if_pos (.inl (Hn c6).2.2))⟩
 obtain⟨i1,i2,i3⟩:=Cf (b:=false) c6;obtain⟨j1,j2,j3⟩:=Cf (s:=s) (k:=4) (a:=a3) (b:=false) (by omega);obtain⟨k1,k2,k3⟩:=Cf (s:=s) (k:=2) (a:=a3+4) (b:=false) (by omega);rw[Wc (by omega),ZA];simp only;rw[Dt (by omega),ZA,i2,i3,j1,j2,k1];simp only;rw[show a3+4+2=a3+6 from rfl];by_cases c7:a3+6+Dx s (a3+4) 2≤s.size;rotate_left
 ·rw[if_neg c7];exact⟨fun r a' h=>vac r a' h,fun _=>.inl (if_pos (.inr (by omega)))⟩
 rw[if_pos c7,if_neg (fun q=>q.elim (fun q=>by cases q) (by omega))];exact Atb c6
theorem Th(s:ByteArray)(n a:Nat)(L:List Rr):Gy s n a true L=some (L,a,true):=by
 cases n<;>rfl
theorem Acv{s:ByteArray}:∀(n a:Nat) (b:Bool) (L L2:List Rr) (a2:Nat) (b2:Bool),Gy s n a b L=some (L2,a2,b2)→∀r∈L,r∈L2
 |0,a,b,L,L2,a2,b2,h,r,hr=>by unfold Gy at h;cases h;exact hr
 |n+1,a,true,L,L2,a2,b2,h,r,hr=>by rw[Th]at h;cases h;exact hr
 |n+1,a,false,L,L2,a2,b2,h,r,hr=>by
  rw[show Gy s (n+1) a false L=(Oj s a).bind fun r=>Gy s n r.2.1 r.2.2 (L++[r.1])from rfl]at h;rcases hq:Oj s a with _|⟨q,a1,b1⟩
  ·rw[hq]at h;cases h
  ·rw[hq,ZA]at h;exact Acv n _ _ _ _ _ _ h r (List.mem_append_left _ hr)
def WrL(x:Option (List Rr×Nat×Bool)):Prop:=x=none∨∃L a b,x=some (L,a,b)∧(b=true∨∃r∈L,Fk r.ty=false)
theorem Amr(s:ByteArray):∀(n a:Nat) (L:List Rr),(∀L' a',Fg s n a=some (L',a')→Gy s n a false L=some (L++L',a',false))∧(Fg s n a=none→WrL (Gy s n a false L))
 |0,a,L=>⟨fun L' a' h=>by unfold Fg at h;cases h;rw[List.append_nil];rfl,fun h=>by unfold Fg at h;cases h⟩
 |n+1,a,L=>by
  have e0:Gy s (n+1) a false L=(Oj s a).bind fun r=>Gy s n r.2.1 r.2.2 (L++[r.1]):=rfl;obtain⟨r1,r2⟩:=Axr s a;rw[e0];unfold Fg;rcases hr:Pp s a with _|⟨r,a1⟩
  ·rw[Option.bind_none];refine⟨fun L' a' h=>(by cases h),fun _=>?_⟩;rcases r2 hr with h|⟨q,a2,b2,h,hb⟩
   ·rw[h];exact .inl rfl
   ·rw[h,ZA];simp only;rcases hb with rfl|hb
    ·rw[Th];exact .inr ⟨_,_,_,rfl,.inl rfl⟩
    ·rcases hx:Gy s n a2 b2 (L++[q])with _|⟨L2,a3,b3⟩
     ·exact .inl rfl
     ·exact .inr ⟨_,_,_,rfl,.inr ⟨q,Acv _ _ _ _ _ _ _ hx q (List.mem_append_right _ (XN.2 rfl)),hb⟩⟩
  ·rw[r1 r a1 hr,ZA,ZA];simp only;obtain⟨s1,s2⟩:=Amr s n a1 (L++[r]);rcases hx:Fg s n a1 with _|⟨L',a'⟩
   ·rw[Option.bind_none];exact⟨fun L' a' h=>(by cases h),fun _=>s2 hx⟩
   ·rw[s1 L' a' hx,ZA];refine⟨fun L2 a2 h=>?_,fun h=>by cases h⟩;cases h;rw[ZS];rfl
end Pl
namespace Pl
def Amh(s:ByteArray)(i fl co n:Nat):Option Ms:=
 (Eq s 12).bind fun m=>(Bt s m.2).bind fun t=>(Bt s t.2).bind fun d=>if d.1=1 then
  (Fg s n d.2).bind fun l=>if l.2=s.size then some ⟨i,decide (128≤fl),decide (fl%4≥2),co,m.1,t.1,l.1⟩else none
 else none
theorem Alt{s:ByteArray}(h:12≤s.size):hdS s=⟨Dx s 0 2,atB s 2,atB s 3,Dx s 4 2,Dx s 6 2,Dx s 8 4⟩:=by
 unfold hdS;rw[(Cf (s:=s) (k:=2) (a:=0) (b:=false) (by omega)).1,(Cf (s:=s) (k:=2) (a:=0) (b:=false) (by omega)).2.1,(Cf (s:=s) (k:=3) (a:=0) (b:=false) (by omega)).2.1,(Cf (s:=s) (k:=4) (a:=0) (b:=false) (by omega)).2.1,(Cf (s:=s) (k:=6) (a:=0) (b:=false) (by omega)).2.1,(Cf (s:=s) (k:=8) (a:=0) (b:=false) (by omega)).2.1];simp only[Nat.zero_add];rw[Nm,Nm,(Cf (s:=s) (k:=2) (a:=4) (b:=false) (by omega)).1,(Cf (s:=s) (k:=2) (a:=6) (b:=false) (by omega)).1,(Cf (s:=s) (k:=4) (a:=8) (b:=false) (by omega)).1]
theorem Ad2{s:ByteArray}(h:12≤s.size):Od s=if(hdS s).ok then Amh s (Dx s 0 2) (atB s 2) (atB s 3) (Dx s 6 2)else none:=by
 have hh:=Alt h;have hz:=Nn (s:=s) (a:=8);unfold Od;rw[Dt (by omega),ZA];simp only[Nat.zero_add];rw[Hw (by omega),ZA];simp only;rw[Hw (by omega),ZA];simp only;have hfl:Af0 (atB s 2)=true↔(atB s 2=0∨atB s 2=2∨atB s 2=128∨atB s 2=130):=by
  unfold Af0;simp[or_assoc]
 by_cases c1:(Af0 (atB s 2)&&decide (atB s (2+1)<16))=true;rotate_left
 ·rw[if_neg c1,if_neg (fun q=>c1 (by rw[hh]at q;have q1:=q.1;have q2:=q.2.1;simp only at q1 q2;rw[hfl.2 q1,show decide (atB s (2+1)<16)=true from ZX (show atB s 3<16 by omega)];rfl))]
 rw[if_pos c1,Dt (by omega),ZA];simp only;rw[ZO]at c1;have c1b:=ZV c1.2;by_cases c2:Dx s (2+1+1) 2=1;rotate_left
 ·rw[if_neg c2,if_neg (fun q=>c2 (by rw[hh]at q;exact q.2.2.1))]
 rw[if_pos c2,Dt (by omega),ZA];simp only;by_cases c3:Dx s (2+1+1+2) 2≤20;rotate_left
 ·rw[if_neg c3,if_neg (fun q=>c3 (by rw[hh]at q;exact q.2.2.2.1))]
 rw[if_pos c3,Dt (by omega),ZA];simp only;by_cases c4:Dx s (2+1+1+2+2) 2=0;rotate_left
 ·rw[if_neg c4,if_neg (fun q=>c4 (by rw[hh]at q;have q1:=q.2.2.2.2;simp only at q1;show Dx s 8 2=0;omega))]
 rw[if_pos c4,Dt (by omega),ZA];simp only;by_cases c5:Dx s (2+1+1+2+2+2) 2=0;rotate_left
 ·rw[if_neg c5,if_neg (fun q=>c5 (by rw[hh]at q;have q1:=q.2.2.2.2;simp only at q1;show Dx s 10 2=0;rw[show 8+2=10 from rfl]at hz;omega))]
 have hok:(hdS s).ok:=by
  rw[hh];have d4:Dx s 8 2=0:=c4;have d5:Dx s (8+2) 2=0:=c5;exact⟨hfl.1 c1.1,show atB s 3≤15 from Nat.le_of_lt_succ c1b,c2,c3,by show Dx s 8 4=0;rw[hz,d4,d5]⟩
 rw[if_pos c5,if_pos hok];rfl
theorem Aa9{s:ByteArray}(h:¬12≤s.size):Od s=none:=by
 rcases hm:Od s with _|m
 ·rfl
 ·exfalso;unfold Od at hm;rcases e1:Bt s 0 with _|⟨x1,a1⟩
  ·rw[e1]at hm;cases hm
  rw[e1,ZA]at hm;simp only at hm;rcases e2:Cr s a1 with _|⟨x2,a2⟩
  ·rw[e2]at hm;cases hm
  rw[e2,ZA]at hm;simp only at hm;rcases e3:Cr s a2 with _|⟨x3,a3⟩
  ·rw[e3]at hm;cases hm
  rw[e3,ZA]at hm;simp only at hm;split at hm;rotate_left
  ·cases hm
  rcases e4:Bt s a3 with _|⟨x4,a4⟩
  ·rw[e4]at hm;cases hm
  rw[e4,ZA]at hm;simp only at hm;split at hm;rotate_left
  ·cases hm
  rcases e5:Bt s a4 with _|⟨x5,a5⟩
  ·rw[e5]at hm;cases hm
  rw[e5,ZA]at hm;simp only at hm;split at hm;rotate_left
  ·cases hm
  rcases e6:Bt s a5 with _|⟨x6,a6⟩
  ·rw[e6]at hm;cases hm
  rw[e6,ZA]at hm;simp only at hm;split at hm;rotate_left
  ·cases hm
  rcases e7:Bt s a6 with _|⟨x7,a7⟩
  ·rw[e7]at hm;cases hm
  have:=Bk e1;have:=C4 e2;have:=C4 e3;have:=Bk e4;have:=Bk e5;have:=Bk e6;have:=Bk e7;omega
theorem Ax3{m:Ms}(h:∃r∈m.rs,Fk r.ty=false):A4 m≠0:=by
 intro e;obtain⟨r,hr,ht⟩:=h;have hg:=((G9 e).1.rs r hr).ty;have ht':Fk r.ty=true:=by rcases hg with q|q|q<;>rw[q]<;>rfl
 rw[ht]at ht';cases ht'
theorem Ax8(s:ByteArray):Cs s=rdP s:=by
 by_cases c0:512<s.size
 ·rw[Qm c0];exact if_pos c0
 by_cases c12:12≤s.size;rotate_left
 ·rw[Fu c0 (Aa9 c12)];unfold Cs;rw[if_neg c0,if_neg (fun q=>c12 q.1)]
 have hP:=Ad2 c12;by_cases hok:(hdS s).ok;rotate_left
 ·rw[if_neg hok]at hP;rw[Fu c0 hP];unfold Cs;rw[if_neg c0,if_neg (fun q=>hok q.2)]
 rw[if_pos hok]at hP;have hh:=Alt c12;have hS:∀nm a1 b1,Dp s 12 false=(nm,a1,b1)→Cs s=match Gy s (Dx s 6 2) (M1 s (Aq s 2 a1) (B7 s 2 a1 b1)).1 (M1 s (Aq s 2 a1) (B7 s 2 a1 b1)).2 []with
   |none=>(A9,1)
   |some (L,a,b)=>
    if b=false∧a=s.size∧A4 ⟨Dx s 0 2,decide (128≤atB s 2),decide (2≤atB s 2%4),atB s 3,nm,B6 s 2 a1,L⟩=0 then(⟨Dx s 0 2,decide (128≤atB s 2),decide (2≤atB s 2%4),atB s 3,nm,B6 s 2 a1,L⟩,0)
    else(A9,1):=by
  intro nm a1 b1 hN;unfold Cs;rw[if_neg c0,if_pos ⟨c12,hok⟩,hN,hh]
  all_goals rfl
 have hbad:∀nm a1 b1,Dp s 12 false=(nm,a1,b1)→(M1 s (Aq s 2 a1) (B7 s 2 a1 b1)).2=true→Cs s=(A9,1):=by
  intro nm a1 b1 hN hb;rw[hS nm a1 b1 hN,hb,Th];exact if_neg fun q=>by cases q.1
 obtain⟨n1,n2⟩:=Aeh s 12;unfold Amh at hP;rcases hn:Eq s 12 with _|⟨nm,a1⟩
 ·rw[hn,Option.bind_none]at hP;rw[Fu c0 hP];rcases hN:Dp s 12 false with⟨nm,a1,b1⟩
  have hb:b1=true:=by have:=n2 hn;rw[hN]at this;exact this
  subst hb;exact hbad nm a1 true hN rfl
 have hN:=n1 nm a1 hn;rw[hn,ZA]at hP;simp only at hP;by_cases c2:a1+2≤s.size;rotate_left
 ·rw[I3 c2,Option.bind_none]at hP;rw[Fu c0 hP];exact hbad nm a1 false hN (by rw[(Hn (b:=false) c2).2.2];rfl)
 obtain⟨e1,e2,e3⟩:=Cf (b:=false) c2;rw[Dt c2,ZA]at hP;simp only at hP;by_cases c3:a1+2+2≤s.size;rotate_left
 ·rw[I3 c3,Option.bind_none]at hP;rw[Fu c0 hP];exact hbad nm a1 false hN (by
   rw[e2,e3];show((B6 s 2 (a1+2):Int) !=1)=true;rw[(Hn (b:=false) c3).1];rfl)
 obtain⟨g1,g2,g3⟩:=Cf (b:=false) c3;rw[Dt c3,ZA]at hP;simp only at hP;by_cases d:Dx s (a1+2) 2=1;rotate_left
 ·rw[if_neg d]at hP;rw[Fu c0 hP];exact hbad nm a1 false hN (by
   rw[e2,e3];show((B6 s 2 (a1+2):Int) !=1)=true;rw[g1];exact ZZ.2 (by omega))
 rw[if_pos d]at hP;have ho:M1 s (Aq s 2 a1) (B7 s 2 a1 false)=(a1+2+2,false):=by
  rw[e2,e3];show(Aq s 2 (a1+2),((B6 s 2 (a1+2):Int) !=1))=_;rw[g1,g2,d];rfl
 have hS':=hS nm a1 false hN;rw[ho,e1]at hS';simp only at hS';obtain⟨r1,r2⟩:=Amr s (Dx s 6 2) (a1+2+2) [];rcases hr:Fg s (Dx s 6 2) (a1+2+2)with _|⟨L,a9⟩
 ·rw[hr,Option.bind_none]at hP;rw[Fu c0 hP,hS'];rcases r2 hr with h|⟨L2,a2,b2,h,hb⟩
  ·rw[h]
  ·rw[h];refine if_neg fun q=>?_;rcases hb with rfl|hb
   ·cases q.1
   ·exact Ax3 (m:=⟨Dx s 0 2,decide (128≤atB s 2),decide (2≤atB s 2%4),atB s 3,nm,Dx s a1 2,L2⟩) hb q.2.2
 ·rw[hr,ZA]at hP;simp only at hP;rw[hS',r1 L a9 hr,List.nil_append];simp only;by_cases f:a9=s.size
  ·rw[if_pos f]at hP;rw[N5 c0 hP];by_cases g:A4 ⟨Dx s 0 2,decide (128≤atB s 2),decide (2≤atB s 2%4),atB s 3,nm,Dx s a1 2,L⟩=0
   ·rw[if_pos ⟨trivial,f,g⟩];exact(if_pos g).symm
   ·rw[if_neg (fun q=>g q.2.2)];exact(if_neg g).symm
  ·rw[if_neg f]at hP;rw[Fu c0 hP];exact if_neg fun q=>f q.2.1
end Pl
namespace Pl
def Ma(e:Int):Int:=if e=8 then 4 else 0
noncomputable def Hj(k:Kn)(m:Ms)(G:Qr→List Sv):Ms:=
 if(A8 m.qn).2≠0 then⟨m.id,true,false,if Ma (A8 m.qn).2=0 then 3 else Ma (A8 m.qn).2,m.qn,m.qt,[]⟩
 else if(C7 k (A8 m.qn).1 m.qt (G (A8 m.qn).1)).2.2≠0 then⟨m.id,true,false,2,m.qn,m.qt,[]⟩
 else⟨m.id,true,false,(C7 k (A8 m.qn).1 m.qt (G (A8 m.qn).1)).2.1,m.qn,m.qt,(C7 k (A8 m.qn).1 m.qt (G (A8 m.qn).1)).1⟩
end Pl
theorem Ami{env:Nat→V}{H:Nat→Option Ent}{ts:List RT}{cs cs':List V}(hG:Jp env H ts [.agg cs])(hc:Ek H [] cs cs'):∃us gone,Jp env H ts us∧A7 H gone true gone us [.c (.agg cs')]:=⟨_,[],hG,.bora hc (.nil _)⟩
theorem Aq6(e:Int):Fun Tryz.prog 62 [.c (.v (.int .i64 e))] [.c (.v (.int .i64 (Ma e)))]:=by
 refine Ar Y9 rfl ?_;refine G1 ?_;intro gg;refine⟨[],none,rfl,As rfl,rfl,?_⟩;refine G0 ?_;by_cases h:e=8
 ·subst h;refine⟨some (0,V.v (.int .i64 4)),rfl,?_⟩;refine G0 ?_;(exact⟨[],aI⟩)
 ·refine⟨none,?_,?_⟩
  ·show Gn (.int .i64) (.int .i64 e) [(.int .i64 8,.v (.int .i64 4))] 0=some none;simp[Gn,Instr.sameNow,show(e==8)=false from ZG.2 h]
  refine G0 ?_;rw[show Ma e=0 from if_neg h];(exact⟨[],aI⟩)
set_option maxHeartbeats 1000000 in
theorem Ao3(k:Kn)(m:Ms)(G:Qr→List Sv)(hm:m.qn.size≤1000000000000)(hR:(A8 m.qn).2=0→Fun Tryz.prog 8 [.c (.agg (A8 m.qn).1.row),.c (.v (.int .i64 m.qt)),.c (.v (.string k.here)),.c (.sl false (k.l.map Sv.row)),.c (.sl false (k.ms.map Mb.row)),.c (.agg k.f.row),.c (.sl false (k.wh.map Wh.row))]
   [.o 42 7 ((C7 k (A8 m.qn).1 m.qt (G (A8 m.qn).1)).1.map Rr.row),.c (.v (.int .i64 (C7 k (A8 m.qn).1 m.qt (G (A8 m.qn).1)).2.1)),.c (.v (.int .i64 (C7 k (A8 m.qn).1 m.qt (G (A8 m.qn).1)).2.2))]):
  Fun Tryz.prog 30 [.c (.agg m.row),.c (.v (.string k.here)),.c (.sl false (k.l.map Sv.row)),.c (.sl false (k.ms.map Mb.row)),.c (.agg k.f.row),.c (.sl false (k.wh.map Wh.row))] [.c (.agg (Hj k m G).row)]:=by
 have hP:=Aky m.qn hm;refine Ae5 X7 rfl ?_;(refine goI ?_;repeat (intro gg;refine goI ?_));refine .inl (cX hP ?_);unfold Hj;generalize A8 m.qn=P at *;(refine goI ?_;repeat (intro gg;refine goI ?_));by_cases c:P.2=0;rotate_left
 ·rw[if_pos c,show(P.2 !=0)=true from ZZ.2 c];refine G0 ?_;refine .inl (cX (Aq6 P.2) ?_);refine G1 ?_;intro gg;by_cases d:Ma P.2=0
  ·rw[if_pos d,d];refine G0 ?_;exact Ami (.cell1 rfl rfl rfl rfl rfl rfl .nil) cBI
  ·rw[if_neg d,show(Ma P.2==0)=false from ZG.2 d];refine G0 ?_;exact Ami (.cell1 rfl rfl rfl rfl rfl rfl .nil) cBI
 have hR0:=hR c;rw[if_neg (by simpa using c),c];generalize C7 k P.1 m.qt (G P.1)=X at *;refine G0 ?_;refine .inl (cX hR0 ?_);refine G1 ?_;intro gg;by_cases d:X.2.2=0;rotate_left
 ·rw[if_pos d,show(X.2.2 !=0)=true from ZZ.2 d];refine G0 ?_;exact Ami (.cell1 rfl rfl rfl rfl rfl rfl .nil) cBI
 rw[if_neg (by simpa using d),d];refine G0 ?_;exact Ami (.cell1 rfl rfl rfl rfl rfl rfl .nil) cBI
namespace Pl
noncomputable def Dq(k:Kn)(s:ByteArray)(G:Qr→List Sv):Ms:=
 if(rdP s).2=0∧(rdP s).1.rs.length=0 then Hj k (rdP s).1 G else⟨((atB s 0*256+atB s 1:Nat):Int),true,false,1,⟨#[]⟩,1,[]⟩
noncomputable def Eu(k:Kn)(s:ByteArray)(G:Qr→List Sv):ByteArray×Bool×Int:=
 if k.err≠0 then(⟨#[]⟩,false,k.err)
 else if s.size<12∨128≤atB s 2 then(⟨#[]⟩,false,0)
 else((Jn (Dq k s G) 512).1,(Jn (Dq k s G) 512).2==0,(Jn (Dq k s G) 512).2)
end Pl
theorem R6{u:V}(u':V){ps:List Par}{xs:List Value}{b:Nat}(h:A2 (.c u::ps) xs b):A2 (.c u'::ps) xs b:=by
 obtain⟨i,T,sz,rows,x,h1,h2⟩:=h;rcases i with _|i
 ·cases h1
 ·exact⟨i+1,T,sz,rows,x,h1,h2⟩
theorem Fun.sub_hd{P:Program}{f:FuncId}{u u':V}{ps rs:List Par}(h:Fun P f (.c u::ps) rs)(hs:∀(w:World) (R:Nat→Prop) (x:Value),RV w R noG u' x→RV w R noG u x):Fun P f (.c u'::ps) rs:=by
 refine⟨h.1,fun w R xs hlt hp=>?_⟩;have hp':Kx w R (.c u::ps) xs:=by
  refine⟨hp.len,fun i p x h1 h2=>?_,fun i j T sz rows T' sz' rows' x y b hij h1 h2 h3 h4=>?_,fun b hb=>hp.free b (R6 u' hb)⟩
  ·rcases i with _|i
   ·cases h1;exact hs w R x (hp.ok 0 _ _ rfl h2)
   ·exact hp.ok (i+1) p x h1 h2
  ·rcases i with _|i
   ·cases h1
   ·rcases j with _|j
    ·cases h2
    ·exact hp.apart (i+1) (j+1) T sz rows T' sz' rows' x y b hij h1 h2 h3 h4
 refine(h.2 w R xs hlt hp').mono ?_
 rintro e w' ⟨ys,R',h1,h2,h3,h4,h5,h6⟩
 exact⟨ys,R',h1,⟨h2.os,h2.tape,h2.output,h2.size,fun k hk hn=>h2.block k hk fun q=>hn (R6 u' q)⟩,h3,fun b hb=>(h4 b hb).imp id fun g=>⟨g.1,g.2.imp (R6 u') id⟩,h5,fun b hb=>(h6 b hb).imp (R6 u') id⟩
set_option maxHeartbeats 2000000 in
theorem Ano(k:Kn)(s:ByteArray)(G:Qr→List Sv)(hk:k.In)(hs:s.size≤9223372036854775807)(hRd:Fun Tryz.prog 17 [.c (.v (.string s))] [.c (.agg (rdP s).1.row),.c (.v (.int .i64 (rdP s).2))])(hr:Fun Tryz.prog 30 [.c (.agg (rdP s).1.row),.c (.v (.string k.here)),.c (.sl false (k.l.map Sv.row)),.c (.sl false (k.ms.map Mb.row)),.c (.agg k.f.row),.c (.sl false (k.wh.map Wh.row))] [.c (.agg (Hj k (rdP s).1 G).row)])(hFit:Fun Tryz.prog 31 [.c (.agg (Dq k s G).row),.c (.v (.int .i64 512))] [.c (.v (.string (Jn (Dq k s G) 512).1)),.c (.v (.int .i64 (Jn (Dq k s G) 512).2))]):
  Fun Tryz.prog 13 [.c (.v (.string s)),.c (.v (.string k.here)),.c (.sl false (k.l.map Sv.row)),.c (.sl false (k.ms.map Mb.row)),.c (.agg k.f.row),.c (.sl false (k.wh.map Wh.row))]
   [.c (.v (.string (Eu k s G).1)),.c (.v (.bool (Eu k s G).2.1)),.c (.v (.int .i64 (Eu k s G).2.2))]:=by
 have hA:Eu k s G=(if k.err≠0 then(⟨#[]⟩,false,k.err)
  else if s.size<12∨128≤atB s 2 then(⟨#[]⟩,false,0)
  else((Jn (Dq k s G) 512).1,(Jn (Dq k s G) 512).2==0,(Jn (Dq k s G) 512).2):ByteArray×Bool×Int):=rfl
 refine Ar Yl rfl ?_;refine G1 ?_;intro gg;refine .inl (cX (Adr k hk) ?_);refine G1 ?_;intro gg;by_cases c1:k.err=0;rotate_left
 ·rw[if_pos c1]at hA;rw[hA,show(k.err !=0)=true from ZZ.2 c1];refine G0 ?_;(exact⟨[],aI⟩)
 rw[if_neg (by simpa using c1)]at hA;rw[c1];refine G0 ?_;by_cases c2:s.size<12
 ·rw[if_pos (.inl c2)]at hA;rw[hA,show decide ((s.size:Int)<12)=true from ZX (by omega)];refine G0 ?_;(exact⟨[],aI⟩)
 rw[show decide ((s.size:Int)<12)=false from ZY (by omega)];obtain⟨b0,hb0⟩:∃c,s[0]? =some c:=⟨s[0],by simp⟩;obtain⟨b1,hb1⟩:∃c,s[1]? =some c:=⟨s[1],by simp⟩;obtain⟨b2,hb2⟩:∃c,s[2]? =some c:=⟨s[2],by simp⟩;have q0:=Gu hb0;have q1:=Gu hb1;have q2:=Gu hb2;have l0:=b0.toNat_lt;have l1:=b1.toNat_lt;refine G0 ?_;refine⟨2,b2,rfl,hb2,?_⟩;refine G0 ?_;by_cases c3:128≤atB s 2
 ·rw[if_pos (.inr c3)]at hA;rw[hA,show decide ((128:Int)≤(b2.toNat:Int))=true from ZX (by omega)];refine G0 ?_;(exact⟨[],aI⟩)
 rw[if_neg (fun z=>z.elim c2 c3)]at hA;rw[show decide ((128:Int)≤(b2.toNat:Int))=false from ZY (by omega)];refine G0 ?_;refine .inl (cX hRd ?_);(refine goI ?_;repeat (intro gg;refine goI ?_));refine⟨0,b0,rfl,hb0,?_⟩;refine G0 ?_;refine⟨by decide,_,Arc l0,?_⟩;refine G0 ?_;refine⟨1,b1,rfl,hb1,?_⟩;refine G0 ?_;refine⟨_,or8 l0 l1,?_⟩;refine G1 ?_;intro gg;rw[←q0,←q1];have hM:Dq k s G=(if(rdP s).2=0∧(rdP s).1.rs.length=0 then Hj k (rdP s).1 G else⟨((atB s 0*256+atB s 1:Nat):Int),true,false,1,⟨#[]⟩,1,[]⟩:Ms):=rfl;generalize Dq k s G=M at *;generalize rdP s=P at *;by_cases c4:P.2=0;rotate_left
 ·rw[if_neg (fun z=>c4 z.1)]at hM;have hFn:=hFit.sub_hd (u':=.agg (Zv M)) fun w R x h=>Aiy (by rw[hM]) h;subst hM;rw[hA,show(P.2==0)=false from ZG.2 c4];refine G0 ?_;refine .inl (cX hFn ?_);refine G1 ?_;intro gg;(exact⟨[],aI⟩)
 rw[c4];refine G0 ?_;rw[ZE];by_cases c5:P.1.rs.length=0;rotate_left
 ·rw[if_neg (fun z=>c5 z.2)]at hM;have hFn:=hFit.sub_hd (u':=.agg (Zv M)) fun w R x h=>Aiy (by rw[hM]) h;subst hM;rw[hA,show((P.1.rs.length:Int)==0)=false from ZG.2 (by omega)];refine G0 ?_;refine .inl (cX hFn ?_);refine G1 ?_;intro gg;(exact⟨[],aI⟩)
 rw[if_pos ⟨c4,c5⟩]at hM;rw[hA,c5];refine G0 ?_;refine .inl (cX hr ?_);refine G1 ?_;intro gg;rw[←hM];refine G0 ?_;refine .inl (cX hFit ?_);refine G1 ?_;intro gg;(exact⟨[],aI⟩)
namespace Pl
def Fy(n:ByteArray)(K:List Sv):List Sv:=K.filter fun s=>s.nd.toList==n.toList
def Vy(ns:List ByteArray)(s:Sv):List ByteArray:=bif ns.any (fun n=>n.toList==s.nd.toList)then ns else ns++[s.nd]
def nms(K:List Sv):List ByteArray:=K.foldl Vy []
theorem P9(K:List Sv)(s:Sv):nms (K++[s])=Vy (nms K) s:=by simp[nms,List.foldl_append]
theorem tEq{a b:ByteArray}:(a.toList==b.toList)=true↔a=b:=⟨fun h=>toList_inj (ZR.1 h),fun h=>by rw[h];exact beq_self_eq_true _⟩
theorem Aq4{ns:List ByteArray}{m:ByteArray}:ns.any (fun n=>n.toList==m.toList)=true↔m∈ns:=by
 rw[List.any_eq_true];exact⟨fun⟨n,h1,h2⟩=>tEq.1 h2▸h1,fun h=>⟨m,h,tEq.2 rfl⟩⟩
theorem Rz{ns:List ByteArray}{s:Sv}(h:s.nd∈ns):Vy ns s=ns:=by unfold Vy;rw[Aq4.2 h];rfl
theorem N3{ns:List ByteArray}{s:Sv}(h:s.nd∉ns):Vy ns s=ns++[s.nd]:=by
 unfold Vy;rw[XE.2 (fun e=>h (Aq4.1 e))];rfl
theorem Z4:∀(K:List Sv) (ns:List ByteArray),(∀n,n∈K.foldl Vy ns↔n∈ns∨∃s∈K,s.nd=n)∧(ns.Nodup→(K.foldl Vy ns).Nodup)∧(K.foldl Vy ns).length≤ns.length+K.length
 |[],ns=>⟨fun n=>by simp,id,by simp⟩
 |s::K,ns=>by
  obtain⟨h1,h2,h3⟩:=Z4 K (Vy ns s);by_cases h:s.nd∈ns
  ·rw[List.foldl_cons];rw[Rz h]at *;refine⟨fun n=>(h1 n).trans ⟨fun q=>q.imp id fun⟨t,a,b⟩=>⟨t,ZL _ a,b⟩,fun q=>?_⟩,h2,by simp only[ZJ];omega⟩;rcases q with q|⟨t,a,b⟩
   ·exact .inl q
   ·rcases XC.1 a with e|e
    ·subst e;exact .inl (b▸h)
    ·exact .inr ⟨t,e,b⟩
  ·rw[List.foldl_cons];rw[N3 h]at *;refine⟨fun n=>(h1 n).trans ?_,fun hn=>h2 ?_,by simp only[ZJ,ZF,ZN]at *;omega⟩
   ·rw[XM,XN];constructor
    ·rintro ((q|q)|⟨t,a,b⟩)
     ·exact .inl q
     ·exact .inr ⟨s,XB ..,q.symm⟩
     ·exact .inr ⟨t,ZL _ a,b⟩
    ·rintro (q|⟨t,a,b⟩)
     ·exact .inl (.inl q)
     ·rcases XC.1 a with e|e
      ·subst e;exact .inl (.inr b.symm)
      ·exact .inr ⟨t,e,b⟩
   ·rw[List.nodup_append];refine⟨hn,by simp,fun a ha b hb e=>?_⟩;rw[XN]at hb;subst hb;subst e;exact h ha
theorem Ys{K:List Sv}{n:ByteArray}:n∈nms K↔∃s∈K,s.nd=n:=((Z4 K []).1 n).trans (by simp)
theorem Alj(K:List Sv):(nms K).length≤K.length:=by have:=(Z4 K []).2.2;simpa[nms]using this
theorem Af8{K:List Sv}{n:ByteArray}(h:n∈nms K):∃s l,Fy n K=s::l∧s.nd=n:=by
 obtain⟨s,h1,h2⟩:=Ys.1 h;have hm:s∈Fy n K:=List.mem_filter.2 ⟨h1,tEq.2 h2⟩;cases hl:Fy n K with
 |nil=>rw[hl]at hm;cases hm
 |cons t l=>
  have:t∈Fy n K:=by rw[hl];exact XB ..
  exact⟨t,l,rfl,tEq.1 (List.mem_filter.1 this).2⟩
theorem Auc{K:List Sv}{n:ByteArray}(h:n∉nms K):Fy n K=[]:=List.filter_eq_nil_iff.2 fun s hs e=>h (Ys.2 ⟨s,hs,tEq.1 e⟩)
theorem Oe(K:List Sv)(s:Sv)(n:ByteArray):Fy n (K++[s])=Fy n K++(bif s.nd.toList==n.toList then [s]else []):=by
 unfold Fy;rw[List.filter_append,List.filter_cons];cases s.nd.toList==n.toList<;>rfl
theorem S5(k:ByteArray)(v:V):∀(l:List (ByteArray×V)) (o i:Nat) (u:V),look k l o=some (i,u)→look k (l.set (i-o) (k,v)) o=some (i,v)
 |[],o,i,u,h=>by simp[look]at h
 |(a,w)::es,o,i,u,h=>by
  unfold look at h;split at h
  ·simp only[ZD,Prod.mk.injEq]at h;obtain⟨rfl,rfl⟩:=h;simp[look]
  ·rename_i hk;have h1:=(Ro h).1;rw[show i-o=(i-(o+1))+1 by omega,List.set_cons_succ];unfold look;rw[if_neg hk];exact S5 k v es (o+1) i u h
theorem Xh{k k':ByteArray}(hne:k'≠k)(v:V):∀(l:List (ByteArray×V)) (o i:Nat) (u:V),look k l o=some (i,u)→look k' (l.set (i-o) (k,v)) o=look k' l o
 |[],o,i,u,h=>by simp[look]at h
 |(a,w)::es,o,i,u,h=>by
  unfold look at h;split at h
  ·rename_i hk;simp only[ZD,Prod.mk.injEq]at h;obtain⟨rfl,rfl⟩:=h;subst hk;simp[look,hne]
  ·rename_i hk;have h1:=(Ro h).1;rw[show i-o=(i-(o+1))+1 by omega,List.set_cons_succ];unfold look;rw[Xh hne v es (o+1) i u h]
theorem Wy{k k':ByteArray}(v:V):∀(l:List (ByteArray×V)) (o:Nat),look k' (l++[(k,v)]) o=(match look k' l o with
  |some r=>some r
  |none=>if k'=k then some (o+l.length,v)else none)
 |[],o=>by simp[look]
 |(a,w)::es,o=>by
  rw[List.cons_append];unfold look;split
  ·rfl
  ·rw[Wy v es (o+1),ZJ,show o+1+es.length=o+(es.length+1)by omega]
theorem S4(k:ByteArray)(v:V)(l:List (ByteArray×V)):∃j,look k (put l k v) 0=some (j,v):=by
 unfold put;cases h:look k l 0 with
 |none=>exact⟨0+l.length,by simp only[];rw[Wy,h];simp⟩
 |some p=>obtain⟨i,u⟩:=p;exact⟨i,by simpa using S5 k v l 0 i u h⟩
theorem L8{k k':ByteArray}(hne:k'≠k)(v:V)(l:List (ByteArray×V)):look k' (put l k v) 0=look k' l 0:=by
 unfold put;cases h:look k l 0 with
 |none=>simp only[];rw[Wy];cases look k' l 0<;>simp[hne]
 |some p=>obtain⟨i,u⟩:=p;simpa using Xh hne v l 0 i u h
theorem Axe{a b:Sv}(h:a.row=b.row):a.nd=b.nd:=by
 unfold Sv.row at h;injection h with h _
 injection h with h;injection h
structure Grp(T:TypeId)(K:List Sv)(E:List (ByteArray×V))(ss:List SE):Prop where
 has:∀n∈nms K,∃j s,look n E 0=some (j,.v s.val)∧s∈ss∧s.T=T∧s.sz=9∧s.rows=(Fy n K).map Sv.row
 no:∀n,n∉nms K→look n E 0=none
theorem Grp.nil(T:TypeId):Grp T [] [] []:=⟨fun n h=>by simp[nms]at h,fun n _=>rfl⟩
theorem Grp.new{T:TypeId}{K:List Sv}{E:List (ByteArray×V)}{ss:List SE}(h:Grp T K E ss)(s:Sv)(hn:s.nd∉nms K)(b cap:Nat):Grp T (K++[s]) (put E s.nd (.v (SE.val ⟨T,9,b,cap,[s.row]⟩))) (⟨T,9,b,cap,[s.row]⟩::ss):=by
 have e:nms (K++[s])=nms K++[s.nd]:=by rw[P9,N3 hn]
 constructor
 ·intro n hm;rw[e]at hm;by_cases hc:n=s.nd
  ·subst hc;obtain⟨j,hj⟩:=S4 s.nd (.v (SE.val ⟨T,9,b,cap,[s.row]⟩)) E;refine⟨j,_,hj,XB ..,rfl,rfl,?_⟩;rw[Oe,Auc hn,tEq.2 rfl];rfl
  ·have hm':n∈nms K:=by
    rcases XM.1 hm with q|q
    ·exact q
    ·exact absurd (XN.1 q) hc
   obtain⟨j,t,h1,h2,h3,h4,h5⟩:=h.has n hm';refine⟨j,t,by rw[L8 hc];exact h1,ZL _ h2,h3,h4,?_⟩;rw[Oe,XE.2 (fun q=>hc (tEq.1 q).symm),cond_false,List.append_nil];exact h5
 ·intro n hm;rw[e]at hm;rw[L8 (fun q=>hm (XM.2 (.inr (by rw[q];exact List.mem_singleton_self _))))];exact h.no n fun q=>hm (XM.2 (.inl q))
theorem Grp.old{T:TypeId}{K:List Sv}{E:List (ByteArray×V)}{ss1 ss2:List SE}{t:SE}(h:Grp T K E (ss1++t::ss2))(s:Sv)(hn:s.nd∈nms K)(ht:t.rows=(Fy s.nd K).map Sv.row)(b cap:Nat):
  Grp T (K++[s]) (put E s.nd (.v (SE.val ⟨T,9,b,cap,t.rows++[s.row]⟩))) (⟨T,9,b,cap,t.rows++[s.row]⟩::(ss1++ss2)):=by
 have e:nms (K++[s])=nms K:=by rw[P9,Rz hn]
 constructor
 ·intro n hm;rw[e]at hm;by_cases hc:n=s.nd
  ·subst hc;obtain⟨j,hj⟩:=S4 s.nd (.v (SE.val ⟨T,9,b,cap,t.rows++[s.row]⟩)) E;refine⟨j,_,hj,XB ..,rfl,rfl,?_⟩;rw[Oe,tEq.2 rfl,cond_true,ZI,←ht];rfl
  ·obtain⟨j,u,h1,h2,h3,h4,h5⟩:=h.has n hm;refine⟨j,u,by rw[L8 hc];exact h1,ZL _ ?_,h3,h4,?_⟩
   ·rcases XM.1 h2 with q|q
    ·exact XM.2 (.inl q)
    ·rcases XC.1 q with q|q
     ·exfalso;subst q;obtain⟨x,l,p1,p2⟩:=Af8 hm;obtain⟨y,l',r1,r2⟩:=Af8 hn;rw[h5,p1,r1,List.map_cons,List.map_cons]at ht;injection ht with ht _
      exact hc (by rw[←p2,←r2];exact Axe ht)
     ·exact XM.2 (.inr q)
   ·rw[Oe,XE.2 (fun q=>hc (tEq.1 q).symm),cond_false,List.append_nil];exact h5
 ·intro n hm;rw[e]at hm;rw[L8 (fun q=>hm (by rw[q];exact hn))];exact h.no n hm
def fK(k:Kn)(q:Qr):List Sv:=keep (fun s=>Cc k.ms s.nd) (C8 k.l q.sv q.tg).2
noncomputable def Bh(k:Kn)(q:Qr):List Sv:=((Ii (cfN (Bx k.f k.wh)) (nms (fK k q))).flatMap fun n=>Fy n (fK k q)).take 20
theorem Alf{K:List Sv}{m:Nat}(hK:K.length≤m):∀ns:List ByteArray,(ns.flatMap fun n=>Fy n K).length≤ns.length*m
 |[]=>by simp
 |n::ns=>by
  have h1:(Fy n K).length≤m:=XI (List.length_filter_le _ _) hK;have h2:=Alf hK ns;rw[List.flatMap_cons,ZF,ZJ,Nat.add_mul];omega
end Pl
namespace Pl
def Mn(K:List Sv):Prop:=K.Pairwise fun a b=>slt b.nd a.nd=false
theorem Avc{l:List Sv}(h:Cz Sv.lt l=true):Mn l:=by
 rw[Mn,List.pairwise_iff_getElem];intro i j hi hj hij;have:=Ra Sv.lt_trans h j i hj hij;rcases Sv.lt_iff.1 this with q|⟨q,_⟩
 ·exact W6 q
 ·rw[q];exact Fj _
theorem Mn.filter{K:List Sv}(h:Mn K)(p:Sv→Bool):Mn (K.filter p):=List.Pairwise.filter p h
theorem Mn.take{K:List Sv}(h:Mn K)(n:Nat):Mn (K.take n):=h.sublist (List.take_sublist _ _)
theorem Am1:∀(K:List Sv) (ns L:List ByteArray),ns.Sublist L→(K.foldl Vy ns).Sublist (L++K.map (·.nd))
 |[],ns,L,h=>by simpa using h
 |s::K,ns,L,h=>by
  have h':(Vy ns s).Sublist (L++[s.nd]):=by
   by_cases q:s.nd∈ns
   ·rw[Rz q];exact h.trans (List.sublist_append_left _ _)
   ·rw[N3 q];exact h.append (List.Sublist.refl _)
  have:=Am1 K _ _ h';simpa using this
theorem Asx{K:List Sv}(h:Mn K):(nms K).Pairwise fun a b=>slt b a=false:=by
 have h1:(K.map (·.nd)).Pairwise fun a b=>slt b a=false:=List.pairwise_map.2 h;have h2:=Am1 K [] [] (List.Sublist.refl _);rw[List.nil_append]at h2;exact h1.sublist h2
theorem Aqv{K:List Sv}{s:Sv}(h:Mn (K++[s])){n:ByteArray}(hl:(nms K).getLast? =some n):s.nd∈nms K↔n=s.nd:=by
 obtain⟨ini,hi⟩:=List.getLast?_eq_some_iff.1 hl;have hn:n∈nms K:=by rw[hi];simp
 refine⟨fun q=>?_,fun e=>e▸hn⟩;have hK:Mn K:=(List.pairwise_append.1 h).1;have h1:slt s.nd n=false:=by
  obtain⟨t,ht,e⟩:=Ys.1 hn;rw[←e];exact(List.pairwise_append.1 h).2.2 t ht s (List.mem_singleton_self _)
 have h2:slt n s.nd=false:=by
  rw[hi]at q;rcases XM.1 q with q|q
  ·have hp:=Asx hK;rw[hi]at hp;exact(List.pairwise_append.1 hp).2.2 _ q n (List.mem_singleton_self _)
  ·rw[XN.1 q];exact Fj _
 exact Ry h2 h1
def Lik(N:List ByteArray)(F:List Sv)(i k:Nat):List Sv:=(N.take i).flatMap (fun n=>Fy n F)++(match N[i]? with
 |some n=>Fy n (F.take k)
 |none=>[])
theorem Aio(N:List ByteArray)(F:List Sv)(i:Nat):Lik N F i 0=(N.take i).flatMap (fun n=>Fy n F):=by
 unfold Lik;cases N[i]? with
 |none=>simp
 |some n=>simp[Fy]
theorem Y2{N:List ByteArray}{F:List Sv}{i:Nat}(hi:i<N.length):Lik N F i F.length=Lik N F (i+1) 0:=by
 rw[Aio];unfold Lik;rw[ZC hi,XF,XT,ZC hi,Option.toList_some,List.flatMap_append,List.flatMap_cons,List.flatMap_nil,List.append_nil]
theorem An0{N:List ByteArray}{F:List Sv}{i k:Nat}(hi:i<N.length)(hk:k<F.length):Lik N F i (k+1)=if F[k].nd=N[i]then Lik N F i k++[F[k]]else Lik N F i k:=by
 unfold Lik;rw[ZC hi,XT,ZC hk];simp only[Option.toList];rw[Oe];by_cases e:F[k].nd=N[i]
 ·rw[if_pos e,tEq.2 e];simp
 ·rw[if_neg e,XE.2 (fun q=>e (tEq.1 q))];simp
theorem Ae8{N:List ByteArray}{F:List Sv}{i:Nat}(hi:i<N.length):∀(k d:Nat),k+d≤F.length→∃t,Lik N F i (k+d)=Lik N F i k++t
 |k,0,_=>⟨[],by simp⟩
 |k,d+1,h=>by
  have h1:k+d<F.length:=h;obtain⟨t,ht⟩:=Ae8 hi k d (Nat.le_of_lt h1);rw[←Nat.add_assoc,An0 hi h1,ht];split
  ·exact⟨t++[F[k+d]],by simp⟩
  ·exact⟨t,rfl⟩
theorem Aqo{N:List ByteArray}{F:List Sv}{i k:Nat}(hi:i<N.length)(hk:k≤F.length)(h:20≤(Lik N F i k).length):(Lik N F (i+1) 0).take 20=(Lik N F i k).take 20:=by
 rw[←Y2 hi];obtain⟨t,ht⟩:=Ae8 (N:=N) (F:=F) hi k (F.length-k) (by omega);rw[show k+(F.length-k)=F.length by omega]at ht;rw[ht,List.take_append_of_le_length h]
theorem Amu{N:List ByteArray}{F:List Sv}:Lik N F N.length 0=N.flatMap fun n=>Fy n F:=by rw[Aio,XF]
theorem Apa{aw:ByteArray→Bool}{F:List Sv}{n:ByteArray}(h:aw n=false):Fy n (Pl.keep (fun s=>aw s.nd) F)=Fy n F:=by
 unfold Fy Pl.keep;rw[List.filter_filter];congr 1;funext s;cases e:s.nd.toList==n.toList with
 |false=>rfl
 |true=>show(true&& !(aw s.nd))=true;rw[tEq.1 e,h];rfl
theorem Apr{aw:ByteArray→Bool}{F:List Sv}{n:ByteArray}(h:n∈nms (Pl.keep (fun s=>aw s.nd) F)):aw n=false:=by
 obtain⟨s,h1,rfl⟩:=Ys.1 h;have:=(List.mem_filter.1 h1).2;simpa using this
theorem Acs{aw:ByteArray→Bool}{F:List Sv}:∀{N:List ByteArray},(∀n∈N,aw n=false)→N.flatMap (fun n=>Fy n (Pl.keep (fun s=>aw s.nd) F))=N.flatMap fun n=>Fy n F
 |[],_=>rfl
 |n::N,h=>by
  rw[List.flatMap_cons,List.flatMap_cons,Apa (h n (XB ..)),Acs fun m hm=>h m (ZL _ hm)]
theorem Ahy{α:Type}{cf:α→α→Int}{d:List α}{x:α}(h:x∈Ii cf d):x∈d:=(List.mergeSort_perm d _).mem_iff.1 h
theorem Aad{α:Type}{cf:α→α→Int}{d:List α}:(Ii cf d).length=d.length:=(List.mergeSort_perm d _).length_eq
theorem Aub(k:Kn)(q:Qr):Bh k q=(Lik (Ii (cfN (Bx k.f k.wh)) (nms (fK k q))) (C8 k.l q.sv q.tg).2 (nms (fK k q)).length 0).take 20:=by
 unfold Bh;congr 1;have h:=Amu (N:=Ii (cfN (Bx k.f k.wh)) (nms (fK k q))) (F:=(C8 k.l q.sv q.tg).2);rw[Aad]at h;rw[h];exact Acs (aw:=Cc k.ms) fun n hn=>Apr (Ahy hn)
theorem Aes{k:Kn}{q:Qr}{s:Sv}(h:s∈Bh k q):s∈k.l∧Cc k.ms s.nd=false∧Sv.sought q.sv q.tg s=true:=by
 unfold Bh at h;have h:=List.mem_of_mem_take h;obtain⟨n,_,h2⟩:=List.mem_flatMap.1 h;have h3:=(List.mem_filter.1 h2).1;obtain⟨h4,h5⟩:=List.mem_filter.1 h3;have h6:s∈k.l∧Sv.sought q.sv q.tg s=true:=by
  unfold C8 at h4
  repeat' split at h4
  all_goals first
   |(simp at h4;done)
   |exact List.mem_filter.1 h4
 exact⟨h6.1,by simpa using h5,h6.2⟩
theorem Amj(k:Kn)(q:Qr):(Bh k q).length≤20:=by unfold Bh;rw[ZM];omega
theorem Afc{k:Kn}(h:k.err=0):lab k.here.data.toList=true∧Ei k.l=0∧F6 k.ms=0∧k.wh.length≤20∧k.f.err=0∧Cp (k.wh.map fun w=>w.pl.err)=0:=by
 unfold Kn.err at h;cases h0:lab k.here.data.toList with
 |false=>rw[h0]at h;exact absurd h (by decide:¬(1:Int)=0)
 |true=>
  rw[h0]at h;simp only[Bool.not_true,cond_false]at h;by_cases h1:Ei k.l≠0
  ·rw[if_pos h1]at h;exact absurd h h1
  rw[if_neg h1]at h;by_cases h2:F6 k.ms≠0
  ·rw[if_pos h2]at h;exact absurd h h2
  rw[if_neg h2]at h;by_cases h3:20<k.wh.length
  ·rw[if_pos h3]at h;exact absurd h (by decide)
  rw[if_neg h3]at h;by_cases h4:k.f.err≠0
  ·rw[if_pos h4]at h;exact absurd h h4
  rw[if_neg h4]at h;exact⟨rfl,by simpa using h1,by simpa using h2,by omega,by simpa using h4,h⟩
theorem Av6{l:List Sv}(h:Ei l=0):∀s∈l,s.err=0:=fun s hs=>by
 obtain⟨i,hi,e⟩:=List.getElem_of_mem hs;rw[←e];exact(Jo h).2.1 i hi
end Pl
namespace Pl
theorem L3:Ao ⟨#[]⟩=0:=by decide+kernel
theorem V0:em ⟨#[]⟩=true:=by simp[em]
theorem Ah9{s:ByteArray}(h:Ao s=0):(Bv s).length≤249:=by
 obtain⟨h1,h2,_⟩:=Ab4 h;have:=Rs (l:=A5 s) (m:=30) fun x hx=>(Aj2 (h1 x hx)).2;unfold Bv;rw[ZF,List.length_singleton];omega
theorem Abs{m:Ms}(h:m.Good):(Cx (Eh m 0)).length≤512:=by
 have h1:=Ah9 h.qn;have h2:(Eh m 0).rs=[]:=by show m.rs.take 0=[];simp
 unfold Cx;rw[h2];simp only[ZF,Au,ZJ,ZN];show 2*6+(Bv m.qn).length+2*2+0≤512;omega
theorem Z6{m:Ms}(h:m.Good):∀n,∃j,j≤n∧(Cx (Eh m j)).length≤512∧Ny m 512 n=(bA (Cx (Eh m j)),0)
 |0=>⟨0,ZT _,Abs h,Qf (by have:=Abs h;omega)⟩
 |n+1=>by
  by_cases q:((Cx (Eh m (n+1))).length:Int)≤512
  ·exact⟨n+1,ZT _,by omega,Qf q⟩
  ·obtain⟨j,h1,h2,h3⟩:=Z6 h n;exact⟨j,by omega,h2,(Afj q).trans h3⟩
theorem Y8{m:Ms}(h:A4 m=0):∃j,j≤m.rs.length∧(Cx (Eh m j)).length≤512∧Jn m 512=(bA (Cx (Eh m j)),0):=by
 have e0:Jn m 512=if A4 m≠0 then(⟨#[]⟩,A4 m)else Ny m 512 m.rs.length:=rfl
 obtain⟨j,h1,h2,h3⟩:=Z6 (G9 h).1 m.rs.length;exact⟨j,h1,h2,by rw[e0,if_neg (by simp[h]),h3]⟩
theorem Rw{r:Rr}(h1:Ao r.nm=0)(h2:Fk r.ty=true)(h3:wIn r.ls 0 2147483647=true)(h4:r.un=true)(h5:wIn r.ad 0 4294967295=true)(h6:wIn r.pt 0 65535=true)(h7:r.tx.size≤200)(h8:Ao r.tg=0):Cu r=0:=by
 unfold Cu;rw[if_neg (by simp[h1]),h2,h3,h4,h5,h6,if_neg (by omega),h8];rfl
theorem Aw7 {s : Sv} (h : s.err = 0) : lab s.nd.data.toList = true ∧ lab s.id.data.toList = true ∧ wIn s.ad 0 4294967295 = true ∧ wIn s.pt 0 65535 = true := by
  unfold Sv.err at h
  repeat' split at h
  all_goals first
    | (simp at h; done)
    | (simp only [Ae2] at *
       refine ⟨by assumption, by assumption, ?_, ?_⟩ <;> unfold wIn <;> simp_all)
theorem Auw{here nm:ByteArray}{t:Int}{s:Sv}(hs:s.err=0)(hn:Ao nm=0)(ht:Fk t=true)(e:(C3 here t nm s).2=0):Cu (C3 here t nm s).1=0:=by
 obtain⟨b1,b2,b3,b4⟩:=Aw7 hs;have w0:∀b:Int,0≤b→wIn 0 0 b=true:=fun b hb=>by unfold wIn;simp[hb]
 have hz:(⟨#[]⟩:ByteArray).size≤200:=by decide
 by_cases t1:t=1
 ·subst t1;rw[show C3 here 1 nm s=(⟨nm,1,0,s.ad,⟨#[]⟩,0,⟨#[]⟩⟩,0)from if_pos rfl];exact Rw hn rfl (w0 _ (by decide)) (by simp[Rr.un,V0]) b3 (w0 _ (by decide)) hz L3
 by_cases t16:t=16
 ·subst t16;rw[show C3 here 16 nm s=(⟨nm,16,0,0,s.id,0,⟨#[]⟩⟩,0)from(if_neg (by decide)).trans (if_pos rfl)];exact Rw hn rfl (w0 _ (by decide)) (by simp[Rr.un,V0]) (w0 _ (by decide)) (w0 _ (by decide)) (by have:=(Aj2 b2).2;show s.id.size≤200;omega) L3
 by_cases t33:t=33
 ·subst t33;have e0:C3 here 33 nm s=if(Ah ⟨⟨#[]⟩,⟨#[]⟩,s.nd,here⟩).2≠0 then(⟨nm,33,0,0,⟨#[]⟩,0,⟨#[]⟩⟩,(Ah ⟨⟨#[]⟩,⟨#[]⟩,s.nd,here⟩).2)
   else(⟨nm,33,0,0,⟨#[]⟩,s.pt,(Ah ⟨⟨#[]⟩,⟨#[]⟩,s.nd,here⟩).1⟩,0):=rfl
  rw[e0]at e ⊢;by_cases c:(Ah ⟨⟨#[]⟩,⟨#[]⟩,s.nd,here⟩).2=0
  ·rw[if_neg (by simpa using c)];obtain⟨p1,p2⟩:∃p,Ah ⟨⟨#[]⟩,⟨#[]⟩,s.nd,here⟩=(p,0):=⟨_,Prod.ext rfl c⟩;obtain⟨_,q2,q3⟩:=Ix p2;refine Rw hn rfl (w0 _ (by decide)) (by simp[Rr.un,V0]) (w0 _ (by decide)) b4 hz ?_;show Ao (Ah ⟨⟨#[]⟩,⟨#[]⟩,s.nd,here⟩).1=0;rw[p2,←q3];exact q2
  ·rw[if_pos c]at e;exact absurd e c
 ·exfalso;simp[Fk,t1,t16,t33]at ht
structure Aer(x:List Rr×Int×Int):Prop where
 co:x.2.1=0∨x.2.1=3
 len:x.1.length≤20
 rs:∀r∈x.1,Cu r=0
theorem Ar8{k:Kn}{q:Qr}{t:Int}{nm:ByteArray}{F:List Sv}(hn:Ao nm=0)(ht:Fk t=true)(hF:F.length≤20)(hs:∀s∈F,s.err=0):Aer (Jx k q t nm F):=by
 unfold Jx;by_cases h1:Cp (F.map fun s=>(C3 k.here t nm s).2)=0
 ·rw[if_neg (by simpa using h1)];split
  ·exact⟨.inr rfl,ZU _,fun r hr=>by cases hr⟩
  ·refine⟨.inl rfl,by simpa using hF,fun r hr=>?_⟩;obtain⟨s,h2,rfl⟩:=XO.1 hr;exact Auw (hs s h2) hn ht (P5 h1 _ (List.mem_map_of_mem h2))
 ·rw[if_pos h1];exact⟨.inl rfl,ZU _,fun r hr=>by cases hr⟩
theorem As5{k:Kn}{q:Qr}{t:Int}{nm:ByteArray}(hn:Ao nm=0)(hm:F6 k.ms=0):Aer ((Jc k q t nm).1,(Jc k q t nm).2,0):=by
 unfold Jc;split
 ·exact⟨.inr rfl,ZU _,fun r hr=>by cases hr⟩
 ·split
  ·exact⟨.inl rfl,ZU _,fun r hr=>by cases hr⟩
  ·rename_i t1;have t1:t=1:=by simpa using t1
   split
   ·rename_i m hm1;refine⟨.inl rfl,by simp,fun r hr=>?_⟩;obtain⟨hi,e⟩:=ZB.1 hm1;have hb:m.err=0:=by rw[←e];exact(P4 hm).2.1 _ hi
    have ha:wIn m.ad 0 4294967295=true:=by
     unfold Mb.err at hb
     repeat' split at hb
     all_goals first
      |(simp at hb;done)
      |(rename_i h;rw[ZO,Ae2,Ae2]at h;unfold wIn;simp[h.2.1,h.2.2])
    rw[XN.1 hr,t1];have w0:∀b:Int,0≤b→wIn 0 0 b=true:=fun b hb=>by unfold wIn;simp[hb]
    exact Rw hn rfl (w0 _ (by decide)) (by simp[Rr.un,V0]) ha (w0 _ (by decide)) (by show(⟨#[]⟩:ByteArray).size≤200;decide) L3
   ·exact⟨.inl rfl,ZU _,fun r hr=>by cases hr⟩
theorem Aab(k:Kn)(q:Qr)(t:Int):Aer (C7 k q t (Bh k q)):=by
 have bad:∀e:Int,Aer ([],0,e):=fun e=>⟨.inl rfl,ZU _,fun r hr=>by cases hr⟩;unfold C7;by_cases h1:Jt k q t=0
 ·rw[if_neg (by simpa using h1)];by_cases h2:(Ah q).2=0
  ·rw[if_neg (by simpa using h2)];obtain⟨p1,p2⟩:∃p,Ah q=(p,0):=⟨_,Prod.ext rfl h2⟩;obtain⟨_,q2,q3⟩:=Ix p2;have hn:Ao (Ah q).1=0:=by rw[p2,←q3];exact q2
   have hk:Fk t=true∧k.err=0:=by
    unfold Jt at h1;split at h1
    ·rename_i h;exact absurd h1 h
    ·split at h1
     ·cases h1
     ·rename_i h;exact⟨by simpa using h,h1⟩
   have hi:=Afc hk.2;split
   ·exact⟨.inr rfl,ZU _,fun r hr=>by cases hr⟩
   ·split
    ·exact As5 hn hi.2.2.1
    ·exact Ar8 hn hk.1 (Amj k q) fun s hs=>Av6 hi.2.1 s (Aes hs).1
  ·rw[if_pos h2];exact bad _
 ·rw[if_pos h1];exact bad _
theorem Ak9{l:List Int}(h:∀e∈l,e=0):Cp l=0:=I1 fun j hj=>h _ (ZK hj)
theorem Nj{m:Ms}(h1:wIn m.id 0 65535=true)(h2:wIn m.co 0 15=true)(h3:m.rs.length≤20)(h4:Ao m.qn=0)(h5:Fk m.qt=true)(h6:∀r∈m.rs,Cu r=0):A4 m=0:=by
 unfold A4;rw[h1,h2,if_neg (by omega),if_neg (by simp[h4]),h5,Ak9]
 ·rfl
 ·intro e he;obtain⟨r,hr,rfl⟩:=XO.1 he;exact h6 r hr
theorem Aap{m:Ms}(h:A4 m=0):wIn m.id 0 65535=true∧Ao m.qn=0∧Fk m.qt=true:=by
 obtain⟨hg,_⟩:=G9 h;refine⟨?_,hg.qn,?_⟩
 ·unfold wIn;simp[hg.id.1,hg.id.2]
 ·rcases hg.qt with e|e|e<;>rw[e]<;>rfl
theorem Rf{k:Kn}{m:Ms}(h:A4 m=0):A4 (Hj k m (Bh k))=0∧(Hj k m (Bh k)).id=m.id∧(Hj k m (Bh k)).an=true∧(Hj k m (Bh k)).qn=m.qn∧(Hj k m (Bh k)).qt=m.qt:=by
 obtain⟨h1,h2,h3⟩:=Aap h;have c:∀n:Int,0≤n→n≤15→wIn n 0 15=true:=fun n a b=>by unfold wIn;simp[a,b]
 unfold Hj;split
 ·have cA:0≤(if Ma (A8 m.qn).2=0 then(3:Int)else Ma (A8 m.qn).2)∧(if Ma (A8 m.qn).2=0 then(3:Int)else Ma (A8 m.qn).2)≤15:=by
   unfold Ma
   repeat' split
   all_goals omega
  exact⟨Nj h1 (c _ cA.1 cA.2) (ZU _) h2 h3 (fun r hr=>by cases hr),rfl,rfl,rfl,rfl⟩
 ·split
  ·exact⟨Nj h1 rfl (ZU _) h2 h3 (fun r hr=>by cases hr),rfl,rfl,rfl,rfl⟩
  ·have hR:=Aab k (A8 m.qn).1 m.qt;exact⟨Nj h1 (c _ (by show 0≤(C7 k (A8 m.qn).1 m.qt (Bh k (A8 m.qn).1)).2.1;rcases hR.co with e|e<;>rw[e]<;>decide) (by show(C7 k (A8 m.qn).1 m.qt (Bh k (A8 m.qn).1)).2.1≤15;rcases hR.co with e|e<;>rw[e]<;>decide)) hR.len h2 h3 hR.rs,rfl,rfl,rfl,rfl⟩
theorem Sc(s:ByteArray):(∃x,rdP s=(x,0)∧A4 x=0)∨(rdP s).2≠0:=by
 by_cases hl:512<s.size
 ·rw[Qm hl];exact .inr (by decide)
 ·rcases e:Od s with _|m
  ·rw[Fu hl e];exact .inr (by decide)
  ·rw[N5 hl e];by_cases he:A4 m=0
   ·rw[if_pos he];exact .inl ⟨m,rfl,he⟩
   ·rw[if_neg he];exact .inr (by decide)
theorem Ug(k:Kn)(s:ByteArray):A4 (Dq k s (Bh k))=0:=by
 unfold Dq;split
 ·rename_i h;rcases Sc s with⟨x,e,hx⟩|e
  ·rw[e];exact(Rf hx).1
  ·exact absurd h.1 e
 ·refine Nj ?_ rfl (ZU _) L3 rfl (fun r hr=>by cases hr);have h0:=Is s 0;have h1:=Is s 1;show wIn ((atB s 0*256+atB s 1:Nat):Int) 0 65535=true;unfold wIn;rw[show decide ((0:Int)≤((atB s 0*256+atB s 1:Nat):Int))=true from ZX (by omega),show decide (((atB s 0*256+atB s 1:Nat):Int)≤65535)=true from ZX (by omega)];rfl
end Pl
end Go.Proofs.YtbnocibpoghfhaaGreatDoor

namespace Go.Proofs.YtbnocibpoghfhaaGreatDoor
open Go.RowKit Pl
theorem Ahl(cl:Bool)(l:List Sv)(f:FuncId)(caps:List V)(hcaps:∀u∈caps,Cl u)(p:Sv→Bool)(hl:l.length≤1000)(hf:∀x∈l,Fun Tryz.prog f (.c (.agg (Sv.row x))::caps.map .c) [.c (.v (.bool (p x)))]):
  Fun Tryz.prog 120 [.c (.sl cl (l.map Sv.row)),.c (.clo f caps)] [.c (.v (.int .i64 (at_ p l)))]:=by
 refine Ar Fd rfl ?_;refine G0 ?_;rw[ZE];(refine⟨[],none,{k:Nat//k≤l.length∧∀j,(h:j<l.length)→j<k→p l[j]=false},[0,1,7],fun⟨k,hk,h0⟩=>[(8,.v (.int .i64 k))],[],fun⟨k,hk,h0⟩=>[],fun⟨k,hk,h0⟩=>l.length-k,trivial,fun _=>⟨trivial,fun _=>⟨⟨0,by omega,fun j _ h=>by omega⟩,tI,Af _ _,tI,Ae _ _⟩⟩,fun⟨k,hk,h0⟩=>?_⟩);refine G0 ?_;(refine Aa (fun h=>?_) (fun h=>?_)<;>rw[h])
 ·have hlt:k<l.length:=(by have:=ZV h;omega);refine G0 ?_;refine⟨k,_,rfl,Ad hlt,?_⟩;refine G0 ?_;refine .inl (cX (hf _ (ZK hlt)) ?_);refine G1 ?_;intro gg;(refine Aa (fun h2=>?_) (fun h2=>?_)<;>rw[h2])
  ·refine G0 ?_;rw[Vq hlt h0 h2];(exact⟨[],aI⟩)
  ·refine G0 ?_;(exact⟨none,trivial,fun _=>⟨⟨k+1,by omega,up1 (p:=fun j h=>p l[j]=false) h0 (fun _=>h2)⟩,by show l.length-(k+1)<l.length-k;omega,tI,tI,tI,tI⟩⟩)
 ·have hge:¬k<l.length:=(by have:=ZW h;omega);refine G0 ?_;rw[Ad9 (p:=p) (l:=l) (fun i hi=>h0 i hi (by omega))];(exact⟨[],aI⟩)
theorem Ac7(l:List Sv)(f:FuncId)(caps:List V)(hcaps:∀u∈caps,Cl u)(p:Sv→Bool)(hl:l.length≤1000)(hf:∀x∈l,Fun Tryz.prog f (.c (.agg (Sv.row x))::caps.map .c) [.c (.v (.bool (p x)))]):
  Fun Tryz.prog 95 [.o 39 9 (l.map Sv.row),.c (.clo f caps)] [.o 39 9 ((keep p l).map Sv.row)]:=by
 refine Ar E8 rfl ?_;refine G0 ?_;refine .inl (cY (Ahl false l f caps hcaps p hl hf) ?_);rcases Ajp (p:=p) (l:=l)with⟨h1,h2⟩|⟨k,hk,h1,h2,h3⟩
 ·rw[h1,Pl.keep_all (p:=p) (l:=l) h2];refine G1 ?_;intro gg;(exact⟨[0],aI⟩)
 ·rw[h1];refine G1 ?_;intro gg;(refine⟨[],none,{q:List Sv×Nat×Nat//Ju p l q.1 q.2.1 q.2.2},[0,1,36,37,39,40,41],fun⟨⟨l',i,j⟩,hm⟩=>[(5,.v (.int .i64 i)),(6,.v (.int .i64 j))],[],fun⟨⟨l',i,j⟩,hm⟩=>[(0,⟨0,39,9,l'.map Sv.row⟩)],fun⟨⟨l',i,j⟩,hm⟩=>l.length-j,trivial,fun _=>⟨trivial,fun _=>⟨⟨(l,k,k+1),Ju.start hk h2 h3⟩,tI,Af _ _,tI,Ae _ _⟩⟩,fun⟨⟨l',i,j⟩,hm⟩=>?_⟩);refine G0 ?_;have hm:Ju p l l' i j:=hm;have hlen:l'.length=l.length:=hm.len;(refine Aa (fun h=>?_) (fun h=>?_)<;>rw[h])
  ·have hlt:j<l'.length:=by have:=ZV h;simpa using this
   refine G0 ?_;refine⟨j,_,rfl,Ad hlt,?_⟩;refine G1 ?_;intro gg;have hj:j<l.length:=by omega
   have hx:l'[j]=l[j]:=hm.behind j hj (ZT _);rw[hx];refine .inl (cX (hf _ (ZK hj)) ?_);refine G1 ?_;intro gg;(refine Aa (fun h4=>?_) (fun h4=>?_)<;>rw[h4])
   ·have h4':p l[j]=false:=Dr h4;have hi:i<l'.length:=by have:=hm.ij;omega
    refine G0 ?_;refine⟨i,_,rfl,Ad hi,?_⟩;refine G0 ?_;have e:(l'.map Sv.row).set i (Sv.row l[j])=(l'.set i l[j]).map Sv.row:=List.map_set.symm;exact⟨none,trivial,fun gr=>⟨⟨(l'.set i l[j],i+1,j+1),hm.stays hj h4'⟩,by show l.length-(j+1)<l.length-j;omega,tI,tI,⟨congrArg (fun r=>some (Ent.mk 0 39 9 r)) e,trivial⟩,tI⟩⟩
   ·have h4':p l[j]=true:=Bw h4;refine G0 ?_;(exact⟨none,trivial,fun _=>⟨⟨(l',i,j+1),hm.gone hj h4'⟩,by show l.length-(j+1)<l.length-j;omega,tI,tI,tI,tI⟩⟩)
  ·have hge:¬j<l'.length:=by have:=ZW h;simpa using this
   have hi:i≤l'.length:=by have:=hm.ij;have:=hm.jl;omega
   refine G0 ?_;refine⟨1,i,(l'.map Sv.row).length,rfl,⟨_,rfl⟩,rfl,by simpa using hi,ZT _,?_⟩;refine G0 ?_;refine⟨by simpa using hi,ZT _,?_⟩;refine G0 ?_;refine⟨0,0,i,rfl,rfl,⟨_,rfl⟩,ZU _,?_,rfl,rfl,fun g=>?_⟩
   ·show i≤((l'.map Sv.row).take i++List.replicate ((l'.map Sv.row).length-i) _++(l'.map Sv.row).drop (l'.map Sv.row).length).length;simp only[ZF,ZM,ZE,List.length_replicate];omega
   refine G0 ?_;refine⟨[0],Afr rfl rfl rfl rfl rfl Dy ?_⟩;show((l'.map Sv.row).take i++List.replicate ((l'.map Sv.row).length-i) _++(l'.map Sv.row).drop (l'.map Sv.row).length).take i=(keep p l).map Sv.row;rw[ZS,List.take_append_of_le_length (by simp;omega),List.take_take,Nat.min_self,←hm.fin (by omega),List.map_take]
open Go
theorem Aji(k:Kn)(q:Qr)(t:Int)(nm:ByteArray)(s:Sv)(hl:k.ms.length≤1000)(hm:Aj9 (Mb.cf s.nd) k.ms):Fun Tryz.prog 96 [.c (.agg s.row),.c (.rptr [.rptr (k.ask q t nm) 0] 0)] [.c (.v (.bool (Cc k.ms s.nd)))]:=by
 refine Ar Of rfl ?_;refine G1 ?_;intro gg;(refine .inl ⟨_,_,false,[],.same (V5 k q t nm 0) (.same (As rfl) (.nil _)),Ahq k q t nm s.nd hl hm,Ab,nI,?_⟩);refine G1 ?_;intro gg;(exact⟨[],aI⟩)
theorem Asy{l:List Sv}{a b:ByteArray}(h:Ei l=0):(C8 l a b).2.length≤40:=by
 have:=(Jo h).1;unfold C8
 repeat' split
 all_goals first
  |exact ZU _
  |exact XI (Np l a b) this
theorem An7{l:List Int}(h:Cp l=0):∀e∈l,e=0:=by
 induction l with
 |nil=>intro e he;cases he
 |cons a l ih=>
  have h:(if a≠0 then a else Cp l)=0:=h;split at h
  ·rename_i ha;exact absurd h ha
  ·rename_i ha;intro e he;rcases XC.1 he with rfl|he
   ·simpa using ha
   ·exact ih h e he
set_option maxHeartbeats 2000000 in
theorem Akl(k:Kn)(q:Qr)(t:Int)(nm:ByteArray)(hk:k.In)(hq:q.ok)(he:k.err=0):Fun Tryz.prog 52 [.c (.rptr (k.ask q t nm) 0)] [.o 39 9 ((Bh k q).map Sv.row)]:=by
 obtain⟨i1,i2,i3,i4,i5,i6⟩:=Afc he;have hms:=At9 he;have hF:=Asy (a:=q.sv) (b:=q.tg) i2;have hD:=Ac7 (C8 k.l q.sv q.tg).2 96 [.rptr [.rptr (k.ask q t nm) 0] 0] (fun u hu=>by rw[XN.1 hu];exact Amc fun v hv=>by rw[XN.1 hv];exact V5 k q t nm 0) (fun s=>Cc k.ms s.nd) (by omega) (fun x hx=>Aji k q t nm x (by omega) (hms.2 x.nd));have hfK:fK k q=Pl.keep (fun s=>Cc k.ms s.nd) (C8 k.l q.sv q.tg).2:=rfl;have hKl:(fK k q).length≤40:=by rw[hfK];exact XI (List.length_filter_le _ _) hF
 refine Ar Pm rfl ?_;refine G1 ?_;intro gg;refine .inl (cX (Ajs k.l q.sv q.tg hk.ll hk.lo hq.1 hq.2.1) ?_);refine G1 ?_;intro gg;refine .inl ⟨_,_,true,[432],?_,hD,(fun _=>fI),nI,?_⟩
 ·exact Avj rfl Dy (by decide) (by decide) (.borc (Asa rfl rfl rfl (fun v hv=>by rw[XN.1 hv];exact V5 k q t nm 0) (by decide) Alq) (.nil _))
 rw[←hfK];generalize hK:fK k q=K at *;(refine goI ?_;repeat (intro gg;refine goI ?_));revert gg;intro gm;have hMn:Mn (C8 k.l q.sv q.tg).2:=by
  unfold C8
  repeat' split
  all_goals first
   |exact List.Pairwise.nil
   |exact(Avc (Jo i2).2.2).filter _
 (refine⟨[(6,96,9,1)],none,{p:Nat×Nat×List (ByteArray×V)×List SE//p.1≤K.length∧Grp 39 (K.take p.1) p.2.2.1 p.2.2.2},[1,5,34,35],fun⟨⟨i,g,E,ss⟩,hi,hG⟩=>[(6,.own 96 g),(36,.v (.int .i64 (i:Int)))],[16,512],fun⟨⟨i,g,E,ss⟩,hi,hG⟩=>[(96,⟨g,.t 9,1,(nms (K.take i)).map Dg⟩),(528,⟨gm,.q (J2 (ents E) ss),0,[]⟩)],fun⟨⟨i,g,E,ss⟩,hi,hG⟩=>K.length-i,(by exact⟨rfl,by decide,(fun _ _ _ _ h=>by cases h),trivial⟩),fun gs=>⟨trivial,fun _=>⟨⟨(0,gs 96,[],[]),ZU _,Grp.nil _⟩,tI,tI,tI,tI⟩⟩,fun⟨⟨i,g,E,ss⟩,hi,hG⟩=>?_⟩);simp only at hi hG;have hnl:=Alj (K.take i);rw[ZM]at hnl;have hnl2:((nms (K.take i)).map Dg).length≤40:=by rw[ZE];omega
 refine G0 ?_;simp only[ZE];by_cases c:i<K.length
 ·rw[show decide ((i:Int)<(K.length:Int))=true from ZX (by omega)];refine G0 ?_;refine⟨i,_,rfl,Ad c,?_⟩;refine G1 ?_;intro gg;have hMi:Mn (K.take i++[K[i]]):=by
   have:Mn (K.take (i+1)):=by
    rw[hfK];exact(hMn.filter _).take _
   rw[XT,ZC c]at this;exact this
  have et:K.take (i+1)=K.take i++[K[i]]:=by rw[XT,ZC c];rfl
  by_cases hm:K[i].nd∈nms (K.take i)
  ·obtain⟨j,u,h1,h2,h3,h4,h5⟩:=hG.has _ hm;obtain⟨x,l',p1,p2⟩:=Af8 hm;have hu0:u.rows.length≠0:=by rw[h5,p1];simp
   have hu4:u.rows.length≤40:=by
    rw[h5,ZE];have:(Fy K[i].nd (K.take i)).length≤(K.take i).length:=List.length_filter_le _ _;rw[ZM]at this;omega
   have hu9:u.rows≠[]:=fun e=>hu0 (by rw[e];rfl);have hur:∀row∈u.rows,∀v∈row,Cl v:=by rw[h5];exact Dy
   obtain⟨ss1,ss2,rfl⟩:=List.append_of_mem h2;have en:nms (K.take (i+1))=nms (K.take i):=by rw[et,P9,Rz hm]
   refine⟨_,Nb _ _,some (j,.v u.val),(D8 _ _ _).trans (by rw[h1]),?_⟩;refine G0 ?_;rw[show((u.rows.length:Int)==0)=false from ZG.2 (by omega)];refine G0 ?_;refine⟨_,Nb _ _,some (j,.v u.val),(D8 _ _ _).trans (by rw[h1]),?_⟩;refine G1 ?_;intro gg;refine⟨_,ss1,u,ss2,rfl,rfl,rfl,rfl,h4,h3,by decide,by decide,by decide,lI,lI,?_⟩;refine G1 ?_;intro gg;refine⟨⟨trivial,rfl,rfl,trivial,trivial,trivial,trivial,trivial,trivial,trivial⟩,?_⟩;refine G0 ?_;refine⟨Pl.ents E,ss1++ss2,some (j,.v u.val),39,rfl,(D8 _ _ _).trans (by rw[h1]),?_⟩;refine G0 ?_;refine⟨?_,?_,by decide,fun b cap=>?_⟩
   ·show u.rows++[Sv.row K[i]]≠[];simp
   ·show∀row∈u.rows++[Sv.row K[i]],∀v∈row,Cl v;rw[h5];exact Oi Dy (K1 rfl)
   refine G0 ?_;have e:=Za E K[i].nd (.v (SE.val ⟨39,9,b,cap,u.rows++[K[i].row]⟩));rw[h1]at e;have hG':Grp 39 (K.take (i+1)) (put E K[i].nd (.v (SE.val ⟨39,9,b,cap,u.rows++[K[i].row]⟩))) (⟨39,9,b,cap,u.rows++[K[i].row]⟩::(ss1++ss2)):=by rw[et];exact hG.old K[i] hm h5 b cap
   (exact⟨none,trivial,fun gr=>⟨⟨(i+1,g,_,_),Nat.succ_le_of_lt c,hG'⟩,by show K.length-(i+1)<K.length-i;omega,tI,tI,⟨congrArg (fun r=>some (Ent.mk g (.t 9) 1 (List.map Dg r))) en.symm,congrArg (fun x=>some (Ent.mk gm (.q (J2 x (⟨39,9,b,cap,u.rows++[K[i].row]⟩::(ss1++ss2)))) 0 [])) e,trivial⟩,tI⟩⟩)
  ·have hl:=hG.no _ hm;have en:nms (K.take (i+1))=nms (K.take i)++[K[i].nd]:=by rw[et,P9,N3 hm]
   have enr:(nms (K.take i)).map Dg++[Dg K[i].nd]=(nms (K.take (i+1))).map Dg:=by rw[en,ZI];rfl
   refine⟨_,Nb _ _,none,(D8 _ _ _).trans (by rw[hl]),?_⟩;refine G1 ?_;intro gg;refine⟨lI,lI,?_⟩;refine G1 ?_;intro gg;revert gg;intro g2;refine⟨_,Nb _ _,none,(D8 _ _ _).trans (by rw[hl]),?_⟩;refine G1 ?_;intro gg;refine⟨lI,lI,?_⟩;refine G1 ?_;intro gg;refine⟨⟨trivial,rfl,rfl,trivial,trivial,trivial,trivial,trivial,trivial,trivial⟩,?_⟩;refine G0 ?_;refine⟨Pl.ents E,ss,none,39,rfl,(D8 _ _ _).trans (by rw[hl]),?_⟩;refine G0 ?_;refine⟨?_,?_,by decide,fun b cap=>?_⟩
   ·show [Sv.row K[i]]≠[];simp
   ·show∀row∈[Sv.row K[i]],∀v∈row,Cl v;exact K1 rfl
   refine G0 ?_;have e:=Za E K[i].nd (.v (SE.val ⟨39,9,b,cap,[K[i].row]⟩));rw[hl]at e;have hG':Grp 39 (K.take (i+1)) (put E K[i].nd (.v (SE.val ⟨39,9,b,cap,[K[i].row]⟩))) (⟨39,9,b,cap,[K[i].row]⟩::ss):=by rw[et];exact hG.new K[i] hm b cap
   (exact⟨none,trivial,fun gr=>⟨⟨(i+1,g2,_,_),Nat.succ_le_of_lt c,hG'⟩,by show K.length-(i+1)<K.length-i;omega,tI,tI,⟨congrArg (fun r=>some (Ent.mk g2 (.t 9) 1 r)) enr,congrArg (fun x=>some (Ent.mk gm (.q (J2 x (⟨39,9,b,cap,[K[i].row]⟩::ss))) 0 [])) e,trivial⟩,tI⟩⟩)
 ·rw[show decide ((i:Int)<(K.length:Int))=false from ZY (by omega)];obtain rfl:i=K.length:=by omega
  rw[XF]at hG hnl hnl2;have hS:=Ant k.f k.wh (nms K) hk.wl (by omega);have hz:Hg k.f k.wh (nms K)=0:=by
   rw[Us (by omega) i5];exact Dm fun j hj=>An7 i6 _ (List.mem_map_of_mem (f:=fun w:Wh=>w.pl.err) (ZK hj))
  rw[hz,Agh hz]at hS;rw[XF];refine G0 ?_;refine .inl (cY hS ?_);refine G1 ?_;intro gg;have hf:=fun n (hn:n∈Ii (cfN (Bx k.f k.wh)) (nms K))=>hG.has n (Ahy hn);have hfd:Bh k q=((Ii (cfN (Bx k.f k.wh)) (nms K)).flatMap fun n=>Fy n K).take 20:=by unfold Bh;rw[hK]
  have hNl:(Ii (cfN (Bx k.f k.wh)) (nms K)).length≤40:=by rw[Aad];omega
  generalize Ii (cfN (Bx k.f k.wh)) (nms K)=N at *;have hfl:=fun i=>Alf hKl (N.take i);(refine⟨[(9,144,39,9)],none,{p:Nat×Nat//p.1≤N.length},[5,75,76],fun⟨⟨i,g⟩,hi⟩=>[(9,.own 144 g),(77,.v (.int .i64 (i:Int)))],[528,1152],fun⟨⟨i,g⟩,hi⟩=>[(144,⟨g,.t 39,9,((N.take i).flatMap fun n=>Fy n K).map Sv.row⟩)],fun⟨⟨i,g⟩,hi⟩=>N.length-i,(by exact⟨rfl,by decide,(fun _ _ _ _ h=>by cases h),trivial⟩),fun gs=>⟨trivial,fun _=>⟨⟨(0,gs 144),ZU _⟩,tI,tI,tI,tI⟩⟩,fun⟨⟨i,g⟩,hi⟩=>?_⟩);simp only at hi;have h16:((N.take i).flatMap fun n=>Fy n K).length≤1600:=by
   have:=hfl i;rw[ZM]at this;refine XI this (XI (XG 40 (Nat.min_le_right i N.length)) ?_);omega
  refine G0 ?_;simp only[ZE];by_cases c:i<N.length
  ·rw[show decide ((i:Int)<(N.length:Int))=true from ZX (by omega)];obtain⟨j,u,h1,h2,h3,h4,h5⟩:=hf N[i] (ZK c);have hu4:u.rows.length≤40:=by
    rw[h5,ZE];have:(Fy N[i] K).length≤K.length:=List.length_filter_le _ _;omega
   have er:((N.take i).flatMap fun n=>Fy n K).map Sv.row++u.rows=((N.take (i+1)).flatMap fun n=>Fy n K).map Sv.row:=by
    rw[XT,ZC c,Option.toList_some,List.flatMap_append,ZI,h5];simp
   refine G0 ?_;refine⟨i,_,rfl,Ad c,?_⟩;refine G0 ?_;refine⟨_,Nb _ _,some (j,.v u.val),(D8 _ _ _).trans (by rw[h1]),?_⟩;refine G0 ?_;refine⟨Pl.ents E,ss,u,rfl,h2,rfl,rfl,rfl,h4,?_⟩;refine G0 ?_;refine⟨lI,lI,?_⟩;refine G1 ?_;intro gg;(exact⟨none,trivial,fun gr=>⟨⟨(i+1,gg),Nat.succ_le_of_lt c⟩,by show N.length-(i+1)<N.length-i;omega,tI,tI,⟨congrArg (fun r=>some (Ent.mk gg (.t 39) 9 r)) er,trivial⟩,tI⟩⟩)
  ·rw[show decide ((i:Int)<(N.length:Int))=false from ZY (by omega)];obtain rfl:i=N.length:=by omega
   rw[XF];rw[XF]at h16;rw[hfd];generalize N.flatMap (fun n=>Fy n K)=A at *;refine G0 ?_;rw[ZE];have hm:min (A.length:Int) 20=((min A.length 20:Nat):Int):=by omega
   rw[hm];refine G0 ?_;refine⟨0,0,min A.length 20,rfl,rfl,⟨.i64,rfl⟩,ZU _,Nat.min_le_left _ _,rfl,rfl,fun g2=>?_⟩;refine G0 ?_;refine⟨[144],Afr rfl rfl rfl rfl rfl Dy ?_⟩;show(A.map Sv.row).take (min A.length 20)=(A.take 20).map Sv.row;rw[←List.map_take];congr 1;by_cases h:A.length≤20
   ·rw[Nat.min_eq_left h,XF,List.take_of_length_le h]
   ·rw[Nat.min_eq_right (by omega)]
theorem Ank(k:Kn)(q:Qr)(t:Int)(nm:ByteArray)(hk:k.In)(hq:q.ok)(he:k.err=0):Fun Tryz.prog 52 [.c (.rptr (k.ask q t nm) 0)] [.c (.sl false ((Bh k q).map Sv.row))]:=Fun.frz (Akl k q t nm hk hq he)
theorem Ak3(s:ByteArray)(hs:s.size≤1000000000000):Fun Tryz.prog 33 [.c (.v (.string s))] [.c (.agg (A8 s).1.row),.c (.v (.int .i64 (A8 s).2))]:=by
 have hL:=Q9 s hs;refine Ae5 Pi rfl ?_;refine G1 ?_;intro gg;refine .inl (cX (Ck s hs) ?_);refine G1 ?_;intro gg;(refine Aa (fun h1=>?_) (fun h1=>?_)<;>rw[h1])
 ·have h1':Ao s≠0:=by simpa using h1
  rw[Tm h1'];refine G0 ?_;exact Cn (As rfl) (As rfl) (.cell1 rfl rfl rfl rfl rfl rfl (.tmp1 rfl .nil))
 ·have h1':Ao s=0:=by simpa using h1
  cases he:em s with
  |true=>
   have e0:=Jq.1 he;have e1:A5 s=[]:=if_pos he;have e2:A8 s=(noQ,8):=Ol h1' (by
    rw[e0,show Ci 46 (⟨#[]⟩:ByteArray)=[⟨#[]⟩]from by rfl];simp[Bc])
   rw[e1]at hL;rw[e2];refine G0 ?_;refine .inl (cX hL ?_);refine G1 ?_;intro gg;exact Cn (As rfl) (As rfl) (.cell1 rfl rfl rfl rfl rfl rfl (.tmp1 rfl .nil))
  |false=>
   obtain⟨l,x,hlx⟩:∃l x,Ci 46 s=l++[x]:=⟨_,_,rfl⟩;rw[I2 he,hlx]at hL;have hll:l.length≤s.size:=by
    have h1:=Om 46 s;have h2:=Afh s 46;rw[hlx,ZF]at h1;simp at h1;omega
   have hlen:((l++[x]).map A1).length=l.length+1:=by simp
   have hsub:IntKind.i64.wrap ((((l++[x]).map A1).length:Int)-1)=(l.length:Int):=by rw[hlen,A6 (by omega) (by omega)];omega
   have hlast:((l++[x]).map A1)[l.length]? =some (A1 x):=by simp
   have hsz:∀y∈l,y.size≤9223372036854775807:=fun y hy=>by
    have hm:y∈A5 s:=by rw[I2 he,hlx];exact List.mem_append_left _ hy
    have:=Fm hm;omega
   refine G0 ?_;refine .inl (cX hL ?_);refine G1 ?_;intro gg;(refine Aa (fun h0=>?_) (fun h0=>?_)<;>rw[h0];focus (exfalso;have:=ZR.1 h0;simp only[hlen]at this;omega));refine G0 ?_;refine⟨l.length,_,(by show((((l++[x]).map A1).length:Nat):Int)-1=_;rw[hlen];omega),hlast,?_⟩;refine G0 ?_;(refine Aa (fun h2=>?_) (fun h2=>?_)<;>rw[h2])
   ·have h2':x≠Bc:=fun e=>by rw[e,show(Bc.toList==(⟨#[109,101,115,104]⟩:ByteArray).toList)=true from beq_self_eq_true _]at h2;cases h2
    rw[Ol h1' (by rw[hlx];simpa using h2')];refine G0 ?_;exact Cn (As rfl) (As rfl) (.cell1 rfl rfl rfl rfl rfl rfl (.tmp1 rfl .nil))
   ·have h2':x=Bc:=toList_inj (ZR.1 (Bw h2));subst h2';have hlst:(Ci 46 s).getLast? =some Bc:=by rw[hlx];simp
    clear hlast hsub;rcases l with _|⟨a,_|⟨b,_|⟨c,_|⟨d,_|⟨e,l⟩⟩⟩⟩⟩
    ·skip
     refine G0 ?_;(refine⟨[],none,{k:Nat//k=0},[0,2,6],fun⟨k,hk⟩=>[(7,.v (.int .i64 0))],[32],fun⟨k,hk⟩=>[],fun⟨k,hk⟩=>0,trivial,fun _=>⟨trivial,fun _=>⟨⟨0,rfl⟩,tI,Af _ _,tI,Ae _ _⟩⟩,fun⟨k,hk⟩=>?_⟩);refine G0 ?_;rw[Eo h1' hlst (fun q hq=>by
      obtain⟨_,_,_,_,_,_,_,hm⟩:=E7 hq;rw[hlx]at hm;simp[Vw]at hm)]
     refine G0 ?_;exact Cn (As rfl) (As rfl) (.cell1 rfl rfl rfl rfl rfl rfl (.tmp1 rfl .nil))
    ·skip
     refine G0 ?_;(refine⟨[],none,{k:Nat//k=0},[0,2,6],fun⟨k,hk⟩=>[(7,.v (.int .i64 0))],[32],fun⟨k,hk⟩=>[],fun⟨k,hk⟩=>0,trivial,fun _=>⟨trivial,fun _=>⟨⟨0,rfl⟩,tI,Af _ _,tI,Ae _ _⟩⟩,fun⟨k,hk⟩=>?_⟩);refine G0 ?_;rw[Eo h1' hlst (fun q hq=>by
      obtain⟨_,_,_,_,_,_,_,hm⟩:=E7 hq;rw[hlx]at hm;simp[Vw]at hm)]
     refine G0 ?_;exact Cn (As rfl) (As rfl) (.cell1 rfl rfl rfl rfl rfl rfl (.tmp1 rfl .nil))
    ·skip
     have hM:Vw (Ci 46 s)=([⟨a,⟨#[]⟩,⟨#[]⟩,⟨#[]⟩⟩,⟨⟨#[]⟩,⟨#[]⟩,a,⟨#[]⟩⟩]:List Qr):=by rw[hlx];rfl
     have hok:∀q∈([⟨a,⟨#[]⟩,⟨#[]⟩,⟨#[]⟩⟩,⟨⟨#[]⟩,⟨#[]⟩,a,⟨#[]⟩⟩]:List Qr),q.ok:=fun q hq=>by simp at hq;rcases hq with rfl|rfl<;>exact⟨by first|exact ZU _|(apply hsz;simp),by first|exact ZU _|(apply hsz;simp),by first|exact ZU _|(apply hsz;simp),by first|exact ZU _|(apply hsz;simp)⟩
     refine G0 ?_
     (repeat ((first|refine⟨0,_,rfl,rfl,?_⟩|refine⟨1,_,rfl,rfl,?_⟩|refine⟨2,_,rfl,rfl,?_⟩|refine⟨3,_,rfl,rfl,?_⟩);(refine goI ?_;repeat (intro gg;refine goI ?_))))
     (refine⟨[],none,{k:Nat//k≤2∧∀j,(h:j<(([⟨a,⟨#[]⟩,⟨#[]⟩,⟨#[]⟩⟩,⟨⟨#[]⟩,⟨#[]⟩,a,⟨#[]⟩⟩]:List Qr)).length)→j<k→Ah (([⟨a,⟨#[]⟩,⟨#[]⟩,⟨#[]⟩⟩,⟨⟨#[]⟩,⟨#[]⟩,a,⟨#[]⟩⟩]:List Qr))[j]≠(s,0)},[0,2,6],fun⟨k,hk,h0⟩=>[(7,.v (.int .i64 k))],[32,688],fun⟨k,hk,h0⟩=>[],fun⟨k,hk,h0⟩=>2-k,trivial,fun _=>⟨trivial,fun _=>⟨⟨0,ZU _,fun j _ h=>absurd h (Nat.not_lt_zero _)⟩,tI,Af _ _,tI,Ae _ _⟩⟩,fun⟨k,hk,h0⟩=>?_⟩);refine G0 ?_;(refine Aa (fun h3=>?_) (fun h3=>?_)<;>rw[h3])
     ·have hlt:k<(([⟨a,⟨#[]⟩,⟨#[]⟩,⟨#[]⟩⟩,⟨⟨#[]⟩,⟨#[]⟩,a,⟨#[]⟩⟩]:List Qr)).length:=by have h3':=ZV h3;have h4':(k:Int)<2:=(by simpa using h3');exact(by omega:k<2)
      have hlt2:k<2:=hlt;have hrowk:=Ad (f:=Qr.row) hlt;refine G0 ?_;refine⟨k,_,rfl,hrowk,?_⟩;refine G0 ?_;refine⟨_,hrowk,?_⟩;refine G0 ?_;refine .inl (cX (Ks _ (hok _ (ZK hlt))) ?_);refine G1 ?_;intro gg;(refine Aa (fun h4=>?_) (fun h4=>?_)<;>rw[h4])
      ·have h4':(Ah (([⟨a,⟨#[]⟩,⟨#[]⟩,⟨#[]⟩⟩,⟨⟨#[]⟩,⟨#[]⟩,a,⟨#[]⟩⟩]:List Qr))[k]).2=0:=by simpa using h4
       refine G0 ?_;(refine Aa (fun h5=>?_) (fun h5=>?_)<;>rw[h5])
       ·have h5':(Ah (([⟨a,⟨#[]⟩,⟨#[]⟩,⟨#[]⟩⟩,⟨⟨#[]⟩,⟨#[]⟩,a,⟨#[]⟩⟩]:List Qr))[k]).1=s:=toList_inj (ZR.1 h5);rw[Dd (q:=(([⟨a,⟨#[]⟩,⟨#[]⟩,⟨#[]⟩⟩,⟨⟨#[]⟩,⟨#[]⟩,a,⟨#[]⟩⟩]:List Qr))[k]) (Prod.ext h5' h4')];refine G0 ?_;refine⟨k,_,rfl,hrowk,?_⟩;refine G0 ?_;refine⟨_,hrowk,?_⟩;refine G0 ?_;exact Cn (As rfl) (As rfl) (.cell1 rfl rfl rfl rfl rfl rfl (.tmp1 rfl .nil))
       ·have h5':(Ah (([⟨a,⟨#[]⟩,⟨#[]⟩,⟨#[]⟩⟩,⟨⟨#[]⟩,⟨#[]⟩,a,⟨#[]⟩⟩]:List Qr))[k]).1≠s:=fun e=>by rw[e,beq_self_eq_true]at h5;cases h5
        refine G0 ?_;(exact⟨none,trivial,fun _=>⟨⟨k+1,by omega,up1 (p:=fun j h=>Ah (([⟨a,⟨#[]⟩,⟨#[]⟩,⟨#[]⟩⟩,⟨⟨#[]⟩,⟨#[]⟩,a,⟨#[]⟩⟩]:List Qr))[j]≠(s,0)) h0 (fun _ e=>h5' (by rw[e]))⟩,by show 2-(k+1)<2-k;omega,tI,tI,tI,tI⟩⟩)
      ·have h4':(Ah (([⟨a,⟨#[]⟩,⟨#[]⟩,⟨#[]⟩⟩,⟨⟨#[]⟩,⟨#[]⟩,a,⟨#[]⟩⟩]:List Qr))[k]).2≠0:=by simpa using h4
       refine G0 ?_;(exact⟨none,trivial,fun _=>⟨⟨k+1,by omega,up1 (p:=fun j h=>Ah (([⟨a,⟨#[]⟩,⟨#[]⟩,⟨#[]⟩⟩,⟨⟨#[]⟩,⟨#[]⟩,a,⟨#[]⟩⟩]:List Qr))[j]≠(s,0)) h0 (fun _ e=>h4' (by rw[e]))⟩,by show 2-(k+1)<2-k;omega,tI,tI,tI,tI⟩⟩)
     ·have hge:¬k<2:=by have h3':=ZW h3;have h4':¬(k:Int)<2:=(by simpa using h3');omega
      rw[Eo h1' hlst (fun q hq=>by
       obtain⟨_,_,_,_,_,_,_,hm⟩:=E7 hq;rw[hM]at hm;obtain⟨i,hi,rfl⟩:=List.getElem_of_mem hm;exact h0 i hi (XH (by simpa using hi:i<2) (by omega)) hq)]
      refine G0 ?_;exact Cn (As rfl) (As rfl) (.cell1 rfl rfl rfl rfl rfl rfl (.tmp1 rfl .nil))
    ·skip
     have hM:Vw (Ci 46 s)=([⟨a,⟨#[]⟩,⟨#[]⟩,c⟩,⟨⟨#[]⟩,⟨#[]⟩,a,c⟩,⟨b,a,⟨#[]⟩,⟨#[]⟩⟩]:List Qr):=by rw[hlx];rfl
     have hok:∀q∈([⟨a,⟨#[]⟩,⟨#[]⟩,c⟩,⟨⟨#[]⟩,⟨#[]⟩,a,c⟩,⟨b,a,⟨#[]⟩,⟨#[]⟩⟩]:List Qr),q.ok:=fun q hq=>by simp at hq;rcases hq with rfl|rfl|rfl<;>exact⟨by first|exact ZU _|(apply hsz;simp),by first|exact ZU _|(apply hsz;simp),by first|exact ZU _|(apply hsz;simp),by first|exact ZU _|(apply hsz;simp)⟩
     refine G0 ?_
     (repeat ((first|refine⟨0,_,rfl,rfl,?_⟩|refine⟨1,_,rfl,rfl,?_⟩|refine⟨2,_,rfl,rfl,?_⟩|refine⟨3,_,rfl,rfl,?_⟩);(refine goI ?_;repeat (intro gg;refine goI ?_))))
     (refine⟨[],none,{k:Nat//k≤3∧∀j,(h:j<(([⟨a,⟨#[]⟩,⟨#[]⟩,c⟩,⟨⟨#[]⟩,⟨#[]⟩,a,c⟩,⟨b,a,⟨#[]⟩,⟨#[]⟩⟩]:List Qr)).length)→j<k→Ah (([⟨a,⟨#[]⟩,⟨#[]⟩,c⟩,⟨⟨#[]⟩,⟨#[]⟩,a,c⟩,⟨b,a,⟨#[]⟩,⟨#[]⟩⟩]:List Qr))[j]≠(s,0)},[0,2,6],fun⟨k,hk,h0⟩=>[(7,.v (.int .i64 k))],[32,1072],fun⟨k,hk,h0⟩=>[],fun⟨k,hk,h0⟩=>3-k,trivial,fun _=>⟨trivial,fun _=>⟨⟨0,ZU _,fun j _ h=>absurd h (Nat.not_lt_zero _)⟩,tI,Af _ _,tI,Ae _ _⟩⟩,fun⟨k,hk,h0⟩=>?_⟩);refine G0 ?_;(refine Aa (fun h3=>?_) (fun h3=>?_)<;>rw[h3])
     ·have hlt:k<(([⟨a,⟨#[]⟩,⟨#[]⟩,c⟩,⟨⟨#[]⟩,⟨#[]⟩,a,c⟩,⟨b,a,⟨#[]⟩,⟨#[]⟩⟩]:List Qr)).length:=by have h3':=ZV h3;have h4':(k:Int)<3:=(by simpa using h3');exact(by omega:k<3)
      have hlt2:k<3:=hlt;have hrowk:=Ad (f:=Qr.row) hlt;refine G0 ?_;refine⟨k,_,rfl,hrowk,?_⟩;refine G0 ?_;refine⟨_,hrowk,?_⟩;refine G0 ?_;refine .inl (cX (Ks _ (hok _ (ZK hlt))) ?_);refine G1 ?_;intro gg;(refine Aa (fun h4=>?_) (fun h4=>?_)<;>rw[h4])
      ·have h4':(Ah (([⟨a,⟨#[]⟩,⟨#[]⟩,c⟩,⟨⟨#[]⟩,⟨#[]⟩,a,c⟩,⟨b,a,⟨#[]⟩,⟨#[]⟩⟩]:List Qr))[k]).2=0:=by simpa using h4
       refine G0 ?_;(refine Aa (fun h5=>?_) (fun h5=>?_)<;>rw[h5])
       ·have h5':(Ah (([⟨a,⟨#[]⟩,⟨#[]⟩,c⟩,⟨⟨#[]⟩,⟨#[]⟩,a,c⟩,⟨b,a,⟨#[]⟩,⟨#[]⟩⟩]:List Qr))[k]).1=s:=toList_inj (ZR.1 h5);rw[Dd (q:=(([⟨a,⟨#[]⟩,⟨#[]⟩,c⟩,⟨⟨#[]⟩,⟨#[]⟩,a,c⟩,⟨b,a,⟨#[]⟩,⟨#[]⟩⟩]:List Qr))[k]) (Prod.ext h5' h4')];refine G0 ?_;refine⟨k,_,rfl,hrowk,?_⟩;refine G0 ?_;refine⟨_,hrowk,?_⟩;refine G0 ?_;exact Cn (As rfl) (As rfl) (.cell1 rfl rfl rfl rfl rfl rfl (.tmp1 rfl .nil))
       ·have h5':(Ah (([⟨a,⟨#[]⟩,⟨#[]⟩,c⟩,⟨⟨#[]⟩,⟨#[]⟩,a,c⟩,⟨b,a,⟨#[]⟩,⟨#[]⟩⟩]:List Qr))[k]).1≠s:=fun e=>by rw[e,beq_self_eq_true]at h5;cases h5
        refine G0 ?_;(exact⟨none,trivial,fun _=>⟨⟨k+1,by omega,up1 (p:=fun j h=>Ah (([⟨a,⟨#[]⟩,⟨#[]⟩,c⟩,⟨⟨#[]⟩,⟨#[]⟩,a,c⟩,⟨b,a,⟨#[]⟩,⟨#[]⟩⟩]:List Qr))[j]≠(s,0)) h0 (fun _ e=>h5' (by rw[e]))⟩,by show 3-(k+1)<3-k;omega,tI,tI,tI,tI⟩⟩)
      ·have h4':(Ah (([⟨a,⟨#[]⟩,⟨#[]⟩,c⟩,⟨⟨#[]⟩,⟨#[]⟩,a,c⟩,⟨b,a,⟨#[]⟩,⟨#[]⟩⟩]:List Qr))[k]).2≠0:=by simpa using h4
       refine G0 ?_;(exact⟨none,trivial,fun _=>⟨⟨k+1,by omega,up1 (p:=fun j h=>Ah (([⟨a,⟨#[]⟩,⟨#[]⟩,c⟩,⟨⟨#[]⟩,⟨#[]⟩,a,c⟩,⟨b,a,⟨#[]⟩,⟨#[]⟩⟩]:List Qr))[j]≠(s,0)) h0 (fun _ e=>h4' (by rw[e]))⟩,by show 3-(k+1)<3-k;omega,tI,tI,tI,tI⟩⟩)
     ·have hge:¬k<3:=by have h3':=ZW h3;have h4':¬(k:Int)<3:=(by simpa using h3');omega
      rw[Eo h1' hlst (fun q hq=>by
       obtain⟨_,_,_,_,_,_,_,hm⟩:=E7 hq;rw[hM]at hm;obtain⟨i,hi,rfl⟩:=List.getElem_of_mem hm;exact h0 i hi (XH (by simpa using hi:i<3) (by omega)) hq)]
      refine G0 ?_;exact Cn (As rfl) (As rfl) (.cell1 rfl rfl rfl rfl rfl rfl (.tmp1 rfl .nil))
    ·skip
     have hM:Vw (Ci 46 s)=([⟨b,a,⟨#[]⟩,d⟩]:List Qr):=by rw[hlx];rfl
     have hok:∀q∈([⟨b,a,⟨#[]⟩,d⟩]:List Qr),q.ok:=fun q hq=>by simp at hq;subst hq;exact⟨by first|exact ZU _|(apply hsz;simp),by first|exact ZU _|(apply hsz;simp),by first|exact ZU _|(apply hsz;simp),by first|exact ZU _|(apply hsz;simp)⟩
     refine G0 ?_
     (repeat ((first|refine⟨0,_,rfl,rfl,?_⟩|refine⟨1,_,rfl,rfl,?_⟩|refine⟨2,_,rfl,rfl,?_⟩|refine⟨3,_,rfl,rfl,?_⟩);(refine goI ?_;repeat (intro gg;refine goI ?_))))
     (refine⟨[],none,{k:Nat//k≤1∧∀j,(h:j<(([⟨b,a,⟨#[]⟩,d⟩]:List Qr)).length)→j<k→Ah (([⟨b,a,⟨#[]⟩,d⟩]:List Qr))[j]≠(s,0)},[0,2,6],fun⟨k,hk,h0⟩=>[(7,.v (.int .i64 k))],[32,1280],fun⟨k,hk,h0⟩=>[],fun⟨k,hk,h0⟩=>1-k,trivial,fun _=>⟨trivial,fun _=>⟨⟨0,ZU _,fun j _ h=>absurd h (Nat.not_lt_zero _)⟩,tI,Af _ _,tI,Ae _ _⟩⟩,fun⟨k,hk,h0⟩=>?_⟩);refine G0 ?_;(refine Aa (fun h3=>?_) (fun h3=>?_)<;>rw[h3])
     ·have hlt:k<(([⟨b,a,⟨#[]⟩,d⟩]:List Qr)).length:=by have h3':=ZV h3;have h4':(k:Int)<1:=(by simpa using h3');exact(by omega:k<1)
      have hlt2:k<1:=hlt;have hrowk:=Ad (f:=Qr.row) hlt;refine G0 ?_;refine⟨k,_,rfl,hrowk,?_⟩;refine G0 ?_;refine⟨_,hrowk,?_⟩;refine G0 ?_;refine .inl (cX (Ks _ (hok _ (ZK hlt))) ?_);refine G1 ?_;intro gg;(refine Aa (fun h4=>?_) (fun h4=>?_)<;>rw[h4])
      ·have h4':(Ah (([⟨b,a,⟨#[]⟩,d⟩]:List Qr))[k]).2=0:=by simpa using h4
       refine G0 ?_;(refine Aa (fun h5=>?_) (fun h5=>?_)<;>rw[h5])
       ·have h5':(Ah (([⟨b,a,⟨#[]⟩,d⟩]:List Qr))[k]).1=s:=toList_inj (ZR.1 h5);rw[Dd (q:=(([⟨b,a,⟨#[]⟩,d⟩]:List Qr))[k]) (Prod.ext h5' h4')];refine G0 ?_;refine⟨k,_,rfl,hrowk,?_⟩;refine G0 ?_;refine⟨_,hrowk,?_⟩;refine G0 ?_;exact Cn (As rfl) (As rfl) (.cell1 rfl rfl rfl rfl rfl rfl (.tmp1 rfl .nil))
       ·have h5':(Ah (([⟨b,a,⟨#[]⟩,d⟩]:List Qr))[k]).1≠s:=fun e=>by rw[e,beq_self_eq_true]at h5;cases h5
        refine G0 ?_;(exact⟨none,trivial,fun _=>⟨⟨k+1,by omega,up1 (p:=fun j h=>Ah (([⟨b,a,⟨#[]⟩,d⟩]:List Qr))[j]≠(s,0)) h0 (fun _ e=>h5' (by rw[e]))⟩,by show 1-(k+1)<1-k;omega,tI,tI,tI,tI⟩⟩)
      ·have h4':(Ah (([⟨b,a,⟨#[]⟩,d⟩]:List Qr))[k]).2≠0:=by simpa using h4
       refine G0 ?_;(exact⟨none,trivial,fun _=>⟨⟨k+1,by omega,up1 (p:=fun j h=>Ah (([⟨b,a,⟨#[]⟩,d⟩]:List Qr))[j]≠(s,0)) h0 (fun _ e=>h4' (by rw[e]))⟩,by show 1-(k+1)<1-k;omega,tI,tI,tI,tI⟩⟩)
     ·have hge:¬k<1:=by have h3':=ZW h3;have h4':¬(k:Int)<1:=(by simpa using h3');omega
      rw[Eo h1' hlst (fun q hq=>by
       obtain⟨_,_,_,_,_,_,_,hm⟩:=E7 hq;rw[hM]at hm;obtain⟨i,hi,rfl⟩:=List.getElem_of_mem hm;exact h0 i hi (XH (by simpa using hi:i<1) (by omega)) hq)]
      refine G0 ?_;exact Cn (As rfl) (As rfl) (.cell1 rfl rfl rfl rfl rfl rfl (.tmp1 rfl .nil))
    ·skip
     have hn:∀m:Int,m≤5→((((a::b::c::d::e::l)++[Bc]).map A1).length:Int)≠m:=fun m hm h=>by simp at h;omega
     refine G0 ?_;(refine Aa (fun h3=>?_) (fun h3=>?_)<;>rw[h3];focus (exfalso;exact hn 5 (by omega) (ZR.1 h3)));refine G0 ?_;(refine⟨[],none,{k:Nat//k=0},[0,2,6],fun⟨k,hk⟩=>[(7,.v (.int .i64 0))],[32],fun⟨k,hk⟩=>[],fun⟨k,hk⟩=>0,trivial,fun _=>⟨trivial,fun _=>⟨⟨0,rfl⟩,tI,Af _ _,tI,Ae _ _⟩⟩,fun⟨k,hk⟩=>?_⟩);refine G0 ?_;rw[Eo h1' hlst (fun q hq=>by
      obtain⟨_,_,_,_,_,_,_,hm⟩:=E7 hq;rw[hlx]at hm;cases l<;>simp[Vw]at hm)]
     refine G0 ?_;exact Cn (As rfl) (As rfl) (.cell1 rfl rfl rfl rfl rfl rfl (.tmp1 rfl .nil))
namespace Pl
theorem Bad{q:Qr}(h:q.err=0)(hn:em q.nd=true):lab q.sv.data.toList=true∧Sp q.tg=true:=by
 unfold Qr.err at h;cases h1:q.c1 with
 |true=>rw[h1]at h;exact absurd h (by decide:¬(1:Int)=0)
 |false=>
  rw[h1]at h;cases h2:q.c2 with
  |true=>rw[h2]at h;exact absurd h (by decide:¬(1:Int)=0)
  |false=>
   have hs:em q.sv=false:=by
    unfold Qr.c1 at h1;rw[hn]at h1;cases e:em q.sv with
    |false=>rfl
    |true=>rw[e]at h1;simp at h1
   have hb:∀x∈q.all,Gx x=false:=by
    unfold Qr.c2 at h2;intro x hx;have:=List.any_eq_false.1 h2 x hx;simpa using this
   have b1:=hb q.sv (by simp[Qr.all]);have b2:=hb q.tg (by simp[Qr.all]);unfold Gx at b1 b2;rw[hs,cond_false]at b1;refine⟨by simpa using b1,?_⟩;have em_emp:em q.tg=emp q.tg:=rfl;unfold Sp;rw[←em_emp];cases e:em q.tg with
   |true=>rfl
   |false=>rw[e,cond_false]at b2;simpa using b2
theorem Vm{l:List Sv}{a b:ByteArray}(h1:Ei l=0)(h2:lab a.data.toList=true)(h3:Sp b=true):C8 l a b=(0,Dc l a b):=by simp[C8,h1,h2,h3]
theorem Aa4:Sp ⟨#[]⟩=true:=by simp[Sp,emp]
theorem Akr{A B:List Int}{e:Int}(h:∀a∈A,a=0)(he:e≠0):Cp (A++e::B)=e:=by
 induction A with
 |nil=>exact if_pos he
 |cons a A ih=>
  have h0:=h a (XB ..);subst h0;exact ih fun x hx=>h x (ZL _ hx)
theorem Aq5{N:List ByteArray}{F:List Sv}{i k:Nat}(hi:i<N.length)(hk:k<F.length)(h:F[k].nd=N[i]):∃t,Lik N F N.length 0=Lik N F i k++F[k]::t:=by
 obtain⟨t,ht⟩:=Ae8 (F:=F) hi (k+1) (F.length-(k+1)) (by omega);rw[show k+1+(F.length-(k+1))=F.length by omega,Y2 hi,An0 hi hk,if_pos h,Aio]at ht;have e:N.flatMap (fun n=>Fy n F)=(N.take (i+1)).flatMap (fun n=>Fy n F)++(N.drop (i+1)).flatMap (fun n=>Fy n F):=by
  rw[←List.flatMap_append,List.take_append_drop]
 rw[Amu,e,ht];exact⟨t++(N.drop (i+1)).flatMap (fun n=>Fy n F),by simp⟩
end Pl
set_option maxHeartbeats 4000000 in
theorem Uy(k:Kn)(q:Qr)(t:Int)(hk:k.In)(hq:q.ok):
  Fun Tryz.prog 9 [.c (.agg q.row),.c (.v (.int .i64 t)),.c (.v (.string k.here)),.c (.sl false (k.l.map Sv.row)),.c (.sl false (k.ms.map Mb.row)),.c (.agg k.f.row),.c (.sl false (k.wh.map Wh.row))]
   [.o 42 7 ((C7 k q t (Bh k q)).1.map Rr.row),.c (.v (.int .i64 (C7 k q t (Bh k q)).2.1)),.c (.v (.int .i64 (C7 k q t (Bh k q)).2.2))]:=by
 have hE:Jt k q t=if q.err≠0 then q.err else if Fk t=false then 7 else k.err:=rfl
 have hA:C7 k q t (Bh k q)=(if Jt k q t≠0 then([],0,Jt k q t)
  else if(Ah q).2≠0 then([],0,(Ah q).2)
  else if em q.ce=false∧(q.ce.toList==k.here.toList)=false then([],3,0)
  else if em q.nd=false then((Jc k q t (Ah q).1).1,(Jc k q t (Ah q).1).2,0)
  else Jx k q t (Ah q).1 (Bh k q):List Rr×Int×Int):=rfl
 refine Akt (rcD:=H8 [true,true,true,true,true,true,true,false] Hu) Nw (by kernel_rfl) rfl ?_;(refine goI ?_;repeat (intro gg;refine goI ?_));refine .inl (cX (Pd q hq) ?_);refine G1 ?_;intro gg;by_cases c1:q.err=0;rotate_left
 ·rw[if_pos c1]at hE;rw[hE,if_pos c1]at hA;rw[hA,show(q.err==0)=false from ZG.2 c1];refine G0 ?_;rw[show(q.err==0)=false from ZG.2 c1];refine G0 ?_;rw[show(q.err !=0)=true from ZZ.2 c1];refine G0 ?_;(exact⟨[],aI⟩)
 rw[if_neg (by simpa using c1)]at hE;rw[show(q.err==0)=true from ZR.2 c1];refine G0 ?_;refine .inl (cX (Qg t) ?_);refine G1 ?_;intro gg;by_cases c2:Fk t=true;rotate_left
 ·rw[if_pos (XE.2 c2)]at hE;rw[hE,if_pos (by decide)]at hA;rw[hA,XE.2 c2];refine G0 ?_;(exact⟨[],aI⟩)
 rw[if_neg (by simpa using c2)]at hE;rw[c2];refine G0 ?_;rw[show(q.err==0)=true from ZR.2 c1];refine G0 ?_;refine .inl (cX (Abm k hk) ?_);refine G1 ?_;intro gg;by_cases c3:k.err=0;rotate_left
 ·rw[hE,if_pos c3]at hA;rw[hA,show(k.err !=0)=true from ZZ.2 c3];refine G0 ?_;(exact⟨[],aI⟩)
 rw[hE,if_neg (by simpa using c3)]at hA;rw[c3];have hP:=Ks q hq;obtain⟨i1,i2,i3,i4,i5,i6⟩:=Afc c3;have hms:=At9 c3;have hat:=fun name=>Mb.at_eq (P4 i3).2.2 name;have hEc:em q.ce=(q.ce.toList==(⟨#[]⟩:ByteArray).toList):=rfl;have hEn:em q.nd=(q.nd.toList==(⟨#[]⟩:ByteArray).toList):=rfl;have hN0:Jc k q t (Ah q).1=(if hit (Mb.cf q.nd) k.ms=false∨Cc k.ms q.nd=true then([],3)
  else if t≠1 then([],0)
  else match k.ms[low (Mb.cf q.nd) k.ms]? with
   |some m=>([⟨(Ah q).1,t,0,m.ad,⟨#[]⟩,0,⟨#[]⟩⟩],0)
   |none=>([],0):List Rr×Int):=rfl
 have haw:∀name,Cc k.ms name=(bif hit (Mb.cf name) k.ms then(match k.ms[low (Mb.cf name) k.ms]? with
  |some m=>decide (3≤m.st)
  |none=>false)else false):=fun _=>rfl
 refine G0 ?_;refine .inl (cX hP ?_);refine G1 ?_;intro gg;by_cases c4:(Ah q).2=0;rotate_left
 ·rw[if_pos c4]at hA;rw[hA,show((Ah q).2 !=0)=true from ZZ.2 c4];refine G0 ?_;(exact⟨[],aI⟩)
 rw[if_neg (by simpa using c4)]at hA;rw[c4];refine G0 ?_;refine⟨PLift (¬(em q.ce=false∧(q.ce.toList==k.here.toList)=false)),[1,2,3,4,6,7,12,18],fun _=>[],[112,192],fun _=>[],?_,fun⟨d1⟩=>?_⟩
 ·refine G0 ?_;rw[←hEc];by_cases d2:em q.ce=true
  ·rw[d2];refine G0 ?_;exact⟨⟨fun z=>Bool.noConfusion z.1⟩,tI,tI,tI,tI⟩
  ·rw[XE.2 d2];refine G0 ?_;by_cases d3:(q.ce.toList==k.here.toList)=true
   ·rw[d3];refine G0 ?_;exact⟨⟨fun z=>Bool.noConfusion z.2⟩,tI,tI,tI,tI⟩
   ·rw[if_pos ⟨XE.2 d2,XE.2 d3⟩]at hA;rw[XE.2 d3,hA];refine G0 ?_;(exact⟨[],aI⟩)
 rw[if_neg d1]at hA;refine G0 ?_;rw[←hEn];by_cases d4:em q.nd=false
 ·rw[if_pos d4]at hA;rw[d4];refine G0 ?_;(refine .inl ⟨_,_,false,[],aI,Akn false k.ms q.nd (by omega),Ab,nI,?_⟩);rw[hat q.nd];refine G1 ?_;intro gg;by_cases hh:hit (Mb.cf q.nd) k.ms=true;rotate_left
  ·rw[if_neg hh];rw[if_pos (.inl (XE.2 hh))]at hN0;refine G0 ?_;rw[hA,hN0];(exact⟨[],aI⟩)
  have hlt:=Mx hh;have hw:=haw q.nd;rw[hh,cond_true,ZC hlt]at hw;change Cc k.ms q.nd=decide (3≤(k.ms[low (Mb.cf q.nd) k.ms]).st)at hw;rw[if_pos hh];rw[show decide ((low (Mb.cf q.nd) k.ms:Int)<0)=false from ZY (by omega)];refine G0 ?_;refine⟨low (Mb.cf q.nd) k.ms,_,rfl,Ad hlt,?_⟩;refine G0 ?_;rw[show decide ((2:Int)<(k.ms[low (Mb.cf q.nd) k.ms]).st)=Cc k.ms q.nd from by rw[hw];exact decide_eq_decide.2 (by omega)];by_cases ha:Cc k.ms q.nd=true
  ·rw[if_pos (.inr ha)]at hN0;rw[ha];refine G0 ?_;rw[hA,hN0];(exact⟨[],aI⟩)
  rw[if_neg (fun z=>z.elim (fun z=>by rw[hh]at z;cases z) ha)]at hN0;rw[XE.2 ha];refine G0 ?_;by_cases t1:t=1;rotate_left
  ·rw[if_pos t1]at hN0;rw[show(t !=1)=true from ZZ.2 t1];refine G0 ?_;rw[hA,hN0];(exact⟨[],aI⟩)
  rw[if_neg (by simpa using t1),ZC hlt]at hN0;change Jc k q t (Ah q).1=([⟨(Ah q).1,t,0,(k.ms[low (Mb.cf q.nd) k.ms]).ad,⟨#[]⟩,0,⟨#[]⟩⟩],0)at hN0;rw[show(t !=1)=false from by simpa using t1];refine G0 ?_;refine⟨low (Mb.cf q.nd) k.ms,_,rfl,Ad hlt,?_⟩;refine G1 ?_;intro gg;rw[hA,hN0,t1];(exact⟨[1456],aI⟩)
 rw[if_neg d4]at hA;have d4:em q.nd=true:=by simpa using d4
 rw[d4];obtain⟨ql1,ql2⟩:=Bad c1 d4;have hF0:(C8 k.l q.sv q.tg).2=Dc k.l q.sv q.tg:=by rw[Vm i2 ql1 ql2]
 have hFk:fK k q=Pl.keep (fun s=>Cc k.ms s.nd) (Dc k.l q.sv q.tg):=by unfold fK;rw[hF0]
 have hFl:=Aub k q;rw[hF0]at hFl;have hk40:=(Jo i2).1;have hMn:Mn (Dc k.l q.sv q.tg):=(Avc (Jo i2).2.2).filter _;have hlen:=Np k.l q.sv q.tg;have hsz:∀s∈Dc k.l q.sv q.tg,s.nd.size≤9223372036854775807:=fun s hs=>(hk.lo s (List.mem_filter.1 hs).1).1;have hX:Jx k q t (Ah q).1 (Bh k q)=(if Cp ((Bh k q).map fun s=>(C3 k.here t (Ah q).1 s).2)≠0 then([],0,Cp ((Bh k q).map fun s=>(C3 k.here t (Ah q).1 s).2))
  else if(Dc k.l q.sv ⟨#[]⟩).length=0 then([],3,0)
  else((Bh k q).map fun s=>(C3 k.here t (Ah q).1 s).1,0,0):List Rr×Int×Int):=by
  unfold Jx;rw[Vm i2 ql1 Aa4]
 rw[hX]at hA;clear hX hN0 hP hF0;generalize (Ah q).1=nm at *;refine G0 ?_;(refine .inl ⟨_,_,false,[],aI,Z7 k.l q.sv q.tg (by omega),Ab,nI,?_⟩);have hR2:=Z7 k.l q.sv ⟨#[]⟩ (by omega);generalize hFd:Dc k.l q.sv q.tg=F at *;refine G1 ?_;intro gg;have hfk:∀i,nms (Pl.keep (fun s=>Cc k.ms s.nd) (F.take i))=nms (Pl.keep (fun s=>Cc k.ms s.nd) (F.take i)):=fun _=>rfl;(refine⟨[(21,336,9,1)],none,{p:Nat×Nat//p.1≤F.length},[1,2,3,4,6,7,12,18,20],fun⟨⟨i,g⟩,hi⟩=>[(21,.own 336 g),(22,.v (.int .i64 (i:Int)))],[112,192],fun⟨⟨i,g⟩,hi⟩=>[(336,⟨g,.t 9,1,(nms (Pl.keep (fun s=>Cc k.ms s.nd) (F.take i))).map Dg⟩)],fun⟨⟨i,g⟩,hi⟩=>F.length-i,(by exact⟨rfl,by decide,(fun _ _ _ _ h=>by cases h),trivial⟩),fun gs=>⟨trivial,fun _=>⟨⟨(0,gs 336),ZU _⟩,tI,tI,tI,tI⟩⟩,fun⟨⟨i,g⟩,hi⟩=>?_⟩);simp only at hi;have hnl:=Alj (Pl.keep (fun s=>Cc k.ms s.nd) (F.take i));have hkl:(Pl.keep (fun s=>Cc k.ms s.nd) (F.take i)).length≤(F.take i).length:=List.length_filter_le _ _;rw[ZM]at hkl;have hnl2:((nms (Pl.keep (fun s=>Cc k.ms s.nd) (F.take i))).map Dg).length≤40:=by rw[ZE];omega
 refine G0 ?_;simp only[ZE];by_cases c:i<F.length
 ·rw[show decide ((i:Int)<(F.length:Int))=true from ZX (by omega)];refine G0 ?_;refine⟨i,_,rfl,Ad c,?_⟩;refine G0 ?_;(refine .inl ⟨_,_,false,[],aI,Akn false k.ms F[i].nd (by omega),Ab,nI,?_⟩);rw[hat F[i].nd];refine G1 ?_;intro gg;have hkt:=Rh (p:=fun s:Sv=>Cc k.ms s.nd) c;have hMi:Mn (Pl.keep (fun s=>Cc k.ms s.nd) (F.take i)++[F[i]]):=by
   have h1:Mn (F.take i++[F[i]]):=by
    have:Mn (F.take (i+1)):=hMn.take _;rw[XT,ZC c]at this;exact this
   exact h1.sublist ((List.filter_sublist).append (List.Sublist.refl _))
  have hw:=haw F[i].nd;have live:Cc k.ms F[i].nd=false→nms (Pl.keep (fun s=>Cc k.ms s.nd) (F.take (i+1)))=Vy (nms (Pl.keep (fun s=>Cc k.ms s.nd) (F.take i))) F[i]:=fun h=>by rw[hkt,if_neg (by rw[h];decide),P9]
  have gone:Cc k.ms F[i].nd=true→nms (Pl.keep (fun s=>Cc k.ms s.nd) (F.take (i+1)))=nms (Pl.keep (fun s=>Cc k.ms s.nd) (F.take i)):=fun h=>by rw[hkt,if_pos h]
  have stp:∀n,(nms (Pl.keep (fun s=>Cc k.ms s.nd) (F.take i))).getLast? =some n→(F[i].nd∈nms (Pl.keep (fun s=>Cc k.ms s.nd) (F.take i))↔n=F[i].nd):=fun n hn=>Aqv hMi hn;clear hkt hMi;generalize hN':nms (Pl.keep (fun s=>Cc k.ms s.nd) (F.take (i+1)))=N' at *;generalize nms (Pl.keep (fun s=>Cc k.ms s.nd) (F.take i))=Ns at *;by_cases hh:hit (Mb.cf F[i].nd) k.ms=true
  ·have hlt:=Mx hh;rw[hh,cond_true,ZC hlt]at hw;change Cc k.ms F[i].nd=decide (3≤(k.ms[low (Mb.cf F[i].nd) k.ms]).st)at hw;rw[if_pos hh];rw[show decide ((0:Int)≤(low (Mb.cf F[i].nd) k.ms:Int))=true from ZX (by omega)];refine G0 ?_;refine⟨low (Mb.cf F[i].nd) k.ms,_,rfl,Ad hlt,?_⟩;refine G0 ?_;rw[show decide ((2:Int)<(k.ms[low (Mb.cf F[i].nd) k.ms]).st)=Cc k.ms F[i].nd from by rw[hw];exact decide_eq_decide.2 (by omega)];by_cases ha:Cc k.ms F[i].nd=true
   ·rw[ha];refine G0 ?_;(exact⟨none,trivial,fun gr=>⟨⟨(i+1,g),Nat.succ_le_of_lt c⟩,by show F.length-(i+1)<F.length-i;omega,tI,tI,⟨congrArg (fun r=>some (Ent.mk g (.t 9) 1 (List.map Dg r))) (hN'.trans (gone ha)).symm,trivial⟩,tI⟩⟩)
   ·have hw:Cc k.ms F[i].nd=false:=XE.2 ha;rw[hw];have hl:=live hw;refine G0 ?_;rw[ZE];by_cases z:Ns.length=0
    ·rw[show((Ns.length:Int)==0)=true from ZR.2 (by omega)];have e:N'=Ns++[F[i].nd]:=by rw[hl,List.length_eq_zero_iff.1 z];rfl
     refine G0 ?_;refine⟨i,_,rfl,Ad c,?_⟩;refine G1 ?_;intro gg;refine⟨lI,lI,?_⟩;refine G1 ?_;intro gg;(exact⟨none,trivial,fun gr=>⟨⟨(i+1,gg),Nat.succ_le_of_lt c⟩,by show F.length-(i+1)<F.length-i;omega,tI,tI,⟨congrArg (fun r=>some (Ent.mk gg (.t 9) 1 r)) (show Ns.map Dg++[Dg F[i].nd]=_ from by rw[hN',e,ZI];rfl),trivial⟩,tI⟩⟩)
    ·rw[show((Ns.length:Int)==0)=false from ZG.2 (by omega)];have hlt:Ns.length-1<Ns.length:=by omega
     have hst:=stp Ns[Ns.length-1] (by rw[List.getLast?_eq_getElem?,ZC hlt]);refine G0 ?_;refine⟨(Ns.length:Int)-1,(by show IntKind.i64.wrap (((Ns.map Dg).length:Int)-1)=_;rw[ZE];exact A6 (by omega) (by omega)),?_⟩;refine G0 ?_;refine⟨Ns.length-1,_,(by omega),Ad hlt,?_⟩;refine G0 ?_;refine⟨i,_,rfl,Ad c,?_⟩;refine G0 ?_;by_cases u:Ns[Ns.length-1]=F[i].nd
     ·have e:N'=Ns:=by rw[hl,Rz (hst.2 u)]
      rw[show(Ns[Ns.length-1].toList==F[i].nd.toList)=true from by rw[u];exact beq_self_eq_true _];refine G0 ?_;(exact⟨none,trivial,fun gr=>⟨⟨(i+1,g),Nat.succ_le_of_lt c⟩,by show F.length-(i+1)<F.length-i;omega,tI,tI,⟨congrArg (fun r=>some (Ent.mk g (.t 9) 1 (List.map Dg r))) (hN'.trans (e)).symm,trivial⟩,tI⟩⟩)
     ·have e:N'=Ns++[F[i].nd]:=by rw[hl,N3 (fun z=>u (hst.1 z))]
      rw[show(Ns[Ns.length-1].toList==F[i].nd.toList)=false from V2 u];refine G0 ?_;refine⟨i,_,rfl,Ad c,?_⟩;refine G1 ?_;intro gg;refine⟨lI,lI,?_⟩;refine G1 ?_;intro gg;(exact⟨none,trivial,fun gr=>⟨⟨(i+1,gg),Nat.succ_le_of_lt c⟩,by show F.length-(i+1)<F.length-i;omega,tI,tI,⟨congrArg (fun r=>some (Ent.mk gg (.t 9) 1 r)) (show Ns.map Dg++[Dg F[i].nd]=_ from by rw[hN',e,ZI];rfl),trivial⟩,tI⟩⟩)
  ·rw[if_neg hh];have hw:Cc k.ms F[i].nd=false:=by rw[hw,XE.2 hh];rfl
   have hl:=live hw;refine G0 ?_;rw[ZE];by_cases z:Ns.length=0
   ·rw[show((Ns.length:Int)==0)=true from ZR.2 (by omega)];have e:N'=Ns++[F[i].nd]:=by rw[hl,List.length_eq_zero_iff.1 z];rfl
    refine G0 ?_;refine⟨i,_,rfl,Ad c,?_⟩;refine G1 ?_;intro gg;refine⟨lI,lI,?_⟩;refine G1 ?_;intro gg;(exact⟨none,trivial,fun gr=>⟨⟨(i+1,gg),Nat.succ_le_of_lt c⟩,by show F.length-(i+1)<F.length-i;omega,tI,tI,⟨congrArg (fun r=>some (Ent.mk gg (.t 9) 1 r)) (show Ns.map Dg++[Dg F[i].nd]=_ from by rw[hN',e,ZI];rfl),trivial⟩,tI⟩⟩)
   ·rw[show((Ns.length:Int)==0)=false from ZG.2 (by omega)];have hlt:Ns.length-1<Ns.length:=by omega
    have hst:=stp Ns[Ns.length-1] (by rw[List.getLast?_eq_getElem?,ZC hlt]);refine G0 ?_;refine⟨(Ns.length:Int)-1,(by show IntKind.i64.wrap (((Ns.map Dg).length:Int)-1)=_;rw[ZE];exact A6 (by omega) (by omega)),?_⟩;refine G0 ?_;refine⟨Ns.length-1,_,(by omega),Ad hlt,?_⟩;refine G0 ?_;refine⟨i,_,rfl,Ad c,?_⟩;refine G0 ?_;by_cases u:Ns[Ns.length-1]=F[i].nd
    ·have e:N'=Ns:=by rw[hl,Rz (hst.2 u)]
     rw[show(Ns[Ns.length-1].toList==F[i].nd.toList)=true from by rw[u];exact beq_self_eq_true _];refine G0 ?_;(exact⟨none,trivial,fun gr=>⟨⟨(i+1,g),Nat.succ_le_of_lt c⟩,by show F.length-(i+1)<F.length-i;omega,tI,tI,⟨congrArg (fun r=>some (Ent.mk g (.t 9) 1 (List.map Dg r))) (hN'.trans (e)).symm,trivial⟩,tI⟩⟩)
    ·have e:N'=Ns++[F[i].nd]:=by rw[hl,N3 (fun z=>u (hst.1 z))]
     rw[show(Ns[Ns.length-1].toList==F[i].nd.toList)=false from V2 u];refine G0 ?_;refine⟨i,_,rfl,Ad c,?_⟩;refine G1 ?_;intro gg;refine⟨lI,lI,?_⟩;refine G1 ?_;intro gg;(exact⟨none,trivial,fun gr=>⟨⟨(i+1,gg),Nat.succ_le_of_lt c⟩,by show F.length-(i+1)<F.length-i;omega,tI,tI,⟨congrArg (fun r=>some (Ent.mk gg (.t 9) 1 r)) (show Ns.map Dg++[Dg F[i].nd]=_ from by rw[hN',e,ZI];rfl),trivial⟩,tI⟩⟩)
 ·rw[show decide ((i:Int)<(F.length:Int))=false from ZY (by omega)];obtain rfl:i=F.length:=by omega
  rw[XF]at hnl hnl2 hkl;rw[←hFk]at hnl hnl2 hkl;rw[XF,←hFk];have hf:k.f.okb=true:=Pc.err_iff.1 i5;have hw:∀w∈k.wh,w.pl.okb=true:=fun w hw=>Pc.err_iff.1 (An7 i6 _ (List.mem_map_of_mem (f:=fun w:Wh=>w.pl.err) hw));have hS:=Afu k.f k.wh (nms (fK k q)) (by omega) (by omega) hf hw;rw[show Q8 k.f k.wh (nms (fK k q))=Ii (cfN (Bx k.f k.wh)) (nms (fK k q))from Arl _ _]at hS;have hNl:(Ii (cfN (Bx k.f k.wh)) (nms (fK k q))).length=(nms (fK k q)).length:=Aad;rw[←hNl]at hFl;refine G0 ?_;refine .inl (cY hS ?_);clear hS hfk;generalize Ii (cfN (Bx k.f k.wh)) (nms (fK k q))=N at *;refine G1 ?_;intro gg;(refine⟨[(24,384,42,7)],none,{p:Nat×Nat//p.1≤N.length∧∀s∈(Lik N F p.1 0).take 20,(C3 k.here t nm s).2=0},[1,2,3,7,18,20,21],fun⟨⟨i,g⟩,hi,hz⟩=>[(24,.own 384 g),(25,.v (.int .i64 (i:Int)))],[112,2384],fun⟨⟨i,g⟩,hi,hz⟩=>[(384,⟨g,.t 42,7,(((Lik N F i 0).take 20).map fun s=>(C3 k.here t nm s).1).map Rr.row⟩)],fun⟨⟨i,g⟩,hi,hz⟩=>N.length-i,(by exact⟨rfl,by decide,(fun _ _ _ _ h=>by cases h),trivial⟩),fun gs=>⟨trivial,fun _=>⟨⟨(0,gs 384),ZU _,fun s hs=>by rw[Aio]at hs;simp at hs⟩,tI,tI,?_,tI⟩⟩,fun⟨⟨i,g⟩,hi,hz⟩=>?_⟩)
  ·exact⟨congrArg (fun r:List Sv=>some (Ent.mk (gs 384) (.t 42) 7 (((r.take 20).map fun s=>(C3 k.here t nm s).1).map Rr.row))) (show []=Lik N F 0 0 from by rw[Aio];rfl),trivial⟩
  simp only at hi hz;refine G0 ?_;refine Aa (fun h=>?_) (fun h=>?_)<;>rw[h]
  ·have c:i<N.length:=by have:=ZV h;simpa using this
   refine G0 ?_;(refine⟨[],none,{p:Nat×Nat//p.1≤F.length∧∀s∈(Lik N F i p.1).take 20,(C3 k.here t nm s).2=0},[1,2,3,7,18,20,21,25],fun⟨⟨kk,g⟩,hkk,hz⟩=>[(24,.own 384 g),(26,.v (.int .i64 (kk:Int)))],[112,2384],fun⟨⟨kk,g⟩,hkk,hz⟩=>[(384,⟨g,.t 42,7,(((Lik N F i kk).take 20).map fun s=>(C3 k.here t nm s).1).map Rr.row⟩)],fun⟨⟨kk,g⟩,hkk,hz⟩=>F.length-kk,trivial,fun _=>⟨trivial,fun _=>⟨⟨(0,g),ZU _,hz⟩,tI,Af _ _,tI,Ae _ _⟩⟩,fun⟨⟨kk,g⟩,hkk,hz⟩=>?_⟩);simp only at hkk hz;have hl20:((((Lik N F i kk).take 20).map fun s=>(C3 k.here t nm s).1).map Rr.row).length=min 20 (Lik N F i kk).length:=by rw[ZE,ZE,ZM]
   refine G0 ?_;simp only[ZE];by_cases kF:kk<F.length
   ·rw[show decide ((kk:Int)<(F.length:Int))=true from ZX (by omega)];refine G0 ?_;refine Aa (fun h2=>?_) (fun h2=>?_)<;>rw[h2];rotate_left
    ·have k20:¬(Lik N F i kk).length<20:=by
      have h':=ZW h2;change¬(((((Lik N F i kk).take 20).map fun s=>(C3 k.here t nm s).1).map Rr.row).length:Int)<20 at h';rw[hl20]at h';omega
     have e2:=Aqo c hkk (by omega);refine G0 ?_;(exact⟨none,trivial,fun gr=>⟨⟨(i+1,g),Nat.succ_le_of_lt c,(by show∀s∈(Lik N F (i+1) 0).take 20,(C3 k.here t nm s).2=0;rw[e2];exact hz)⟩,by show N.length-(i+1)<N.length-i;omega,tI,tI,⟨congrArg (fun r:List Sv=>some (Ent.mk g (.t 42) 7 ((r.map fun s=>(C3 k.here t nm s).1).map Rr.row))) e2.symm,trivial⟩,tI⟩⟩)
    have k20:(Lik N F i kk).length<20:=by
     have h':=ZV h2;change (((((Lik N F i kk).take 20).map fun s=>(C3 k.here t nm s).1).map Rr.row).length:Int)<20 at h';rw[hl20]at h';omega
    refine G0 ?_;refine⟨kk,_,rfl,Ad kF,?_⟩;refine G0 ?_;refine⟨i,_,rfl,Ad c,?_⟩;refine G0 ?_;by_cases e:F[kk].nd=N[i];rotate_left
    ·have e2:Lik N F i (kk+1)=Lik N F i kk:=(An0 c kF).trans (if_neg e);rw[show(F[kk].nd.toList==N[i].toList)=false from V2 e];refine G0 ?_;(exact⟨none,trivial,fun gr=>⟨⟨(kk+1,g),Nat.succ_le_of_lt kF,(by show∀s∈(Lik N F i (kk+1)).take 20,(C3 k.here t nm s).2=0;rw[e2];exact hz)⟩,by show F.length-(kk+1)<F.length-kk;omega,tI,tI,⟨congrArg (fun r:List Sv=>some (Ent.mk g (.t 42) 7 (((r.take 20).map fun s=>(C3 k.here t nm s).1).map Rr.row))) e2.symm,trivial⟩,tI⟩⟩)
    rw[show(F[kk].nd.toList==N[i].toList)=true from by rw[e];exact beq_self_eq_true _];have e2:Lik N F i (kk+1)=Lik N F i kk++[F[kk]]:=(An0 c kF).trans (if_pos e);have e3:(Lik N F i (kk+1)).take 20=(Lik N F i kk).take 20++[F[kk]]:=by
     rw[e2,List.take_of_length_le (by simp;omega),List.take_of_length_le (by omega)]
    have hr':(((Lik N F i kk).take 20).map fun s=>(C3 k.here t nm s).1).map Rr.row++[Rr.row (C3 k.here t nm F[kk]).1]=(((Lik N F i (kk+1)).take 20).map fun s=>(C3 k.here t nm s).1).map Rr.row:=by
     rw[e3,ZI,ZI];rfl
    have hz':(C3 k.here t nm F[kk]).2=0→∀s∈(Lik N F i (kk+1)).take 20,(C3 k.here t nm s).2=0:=fun h s hs=>by
     rw[e3]at hs;rcases XM.1 hs with q|q
     ·exact hz s q
     ·rw[XN.1 q];exact h
    have hl21:((((Lik N F i kk).take 20).map fun s=>(C3 k.here t nm s).1).map Rr.row).length≤20:=by omega
    have hl22:(Lik N F i kk).length≤20:=by omega
    simp only[ZE]at hl21;refine G1 ?_;intro gg;by_cases t1:t=1
    ·have hB:C3 k.here t nm F[kk]=(⟨nm,t,0,F[kk].ad,⟨#[]⟩,0,⟨#[]⟩⟩,0):=if_pos t1;rw[hB]at hr';rw[show(t==1)=true from ZR.2 t1];refine G0 ?_;refine⟨kk,_,rfl,Ad kF,?_⟩;refine G1 ?_;intro gg;refine⟨lI,lI,?_⟩;refine G1 ?_;intro gg;(exact⟨none,trivial,fun gr=>⟨⟨(kk+1,gg),Nat.succ_le_of_lt kF,hz' (by rw[hB])⟩,by show F.length-(kk+1)<F.length-kk;omega,tI,tI,⟨congrArg (fun r=>some (Ent.mk gg (.t 42) 7 r)) hr',trivial⟩,tI⟩⟩)
    rw[show(t==1)=false from ZG.2 t1];refine G0 ?_;by_cases t16:t=16
    ·have hB:C3 k.here t nm F[kk]=(⟨nm,t,0,0,F[kk].id,0,⟨#[]⟩⟩,0):=(if_neg t1).trans (if_pos t16);rw[hB]at hr';rw[show(t==16)=true from ZR.2 t16];refine G0 ?_;refine⟨kk,_,rfl,Ad kF,?_⟩;refine G1 ?_;intro gg;refine⟨lI,lI,?_⟩;refine G1 ?_;intro gg;(exact⟨none,trivial,fun gr=>⟨⟨(kk+1,gg),Nat.succ_le_of_lt kF,hz' (by rw[hB])⟩,by show F.length-(kk+1)<F.length-kk;omega,tI,tI,⟨congrArg (fun r=>some (Ent.mk gg (.t 42) 7 r)) hr',trivial⟩,tI⟩⟩)
    rw[show(t==16)=false from ZG.2 t16];refine G0 ?_;by_cases t33:t=33;rotate_left
    ·exfalso;simp[Fk,t1,t16,t33]at c2
    have hz0:(⟨#[]⟩:ByteArray).size≤9223372036854775807:=by decide
    have hPr:=Ks ⟨⟨#[]⟩,⟨#[]⟩,F[kk].nd,k.here⟩ ⟨hz0,hz0,hsz _ (ZK kF),hk.here⟩;have hB0:C3 k.here t nm F[kk]=(if(Ah ⟨⟨#[]⟩,⟨#[]⟩,F[kk].nd,k.here⟩).2≠0 then(⟨nm,t,0,0,⟨#[]⟩,0,⟨#[]⟩⟩,(Ah ⟨⟨#[]⟩,⟨#[]⟩,F[kk].nd,k.here⟩).2)
      else(⟨nm,t,0,0,⟨#[]⟩,F[kk].pt,(Ah ⟨⟨#[]⟩,⟨#[]⟩,F[kk].nd,k.here⟩).1⟩,0):Rr×Int):=(if_neg t1).trans ((if_neg t16).trans (if_pos t33))
    rw[show(t==33)=true from ZR.2 t33];refine G0 ?_;refine⟨kk,_,rfl,Ad kF,?_⟩;refine G0 ?_;refine⟨kk,_,rfl,Ad kF,?_⟩;refine G0 ?_;refine .inl (cX hPr ?_);generalize Ah ⟨⟨#[]⟩,⟨#[]⟩,F[kk].nd,k.here⟩=P at *;refine G1 ?_;intro gg;by_cases c9:P.2=0
    ·rw[c9];have hB:C3 k.here t nm F[kk]=(⟨nm,t,0,0,⟨#[]⟩,F[kk].pt,P.1⟩,0):=by rw[hB0,if_neg (by simpa using c9)]
     rw[hB]at hr';refine G1 ?_;intro gg;refine⟨lI,lI,?_⟩;refine G1 ?_;intro gg;(exact⟨none,trivial,fun gr=>⟨⟨(kk+1,gg),Nat.succ_le_of_lt kF,hz' (by rw[hB])⟩,by show F.length-(kk+1)<F.length-kk;omega,tI,tI,⟨congrArg (fun r=>some (Ent.mk gg (.t 42) 7 r)) hr',trivial⟩,tI⟩⟩)
    ·have hfe:Cp ((Bh k q).map fun s=>(C3 k.here t nm s).2)=P.2:=by
      obtain⟨tl,htl⟩:=Aq5 c kF e;obtain⟨d,hd⟩:∃d,20-(Lik N F i kk).length=d+1:=⟨19-(Lik N F i kk).length,by omega⟩;rw[hFl,htl,List.take_append,hd,List.take_succ_cons,ZI,List.map_cons,show(C3 k.here t nm F[kk]).2=P.2 from by rw[hB0,if_pos (by simpa using c9)]];exact Akr (fun a ha=>by
       obtain⟨s,h1,rfl⟩:=XO.1 ha;exact hz s h1) c9
     rw[hfe,if_pos c9]at hA;rw[hA,show(P.2 !=0)=true from ZZ.2 c9];refine G0 ?_;(exact⟨[],aI⟩)
   ·rw[show decide ((kk:Int)<(F.length:Int))=false from ZY (by omega)];obtain rfl:kk=F.length:=by omega
    rw[Y2 c]at hz;refine G0 ?_;(exact⟨none,trivial,fun gr=>⟨⟨(i+1,g),Nat.succ_le_of_lt c,hz⟩,by show N.length-(i+1)<N.length-i;omega,tI,tI,⟨congrArg (fun r:List Sv=>some (Ent.mk g (.t 42) 7 (((r.take 20).map fun s=>(C3 k.here t nm s).1).map Rr.row))) (Y2 c),trivial⟩,tI⟩⟩)
  ·have c:¬i<N.length:=by have:=ZW h;simpa using this
   obtain rfl:i=N.length:=by omega
   have hfe:Cp ((Bh k q).map fun s=>(C3 k.here t nm s).2)=0:=I1 fun j hj=>by
    have hm:((Bh k q).map fun s=>(C3 k.here t nm s).2)[j]∈(Bh k q).map fun s=>(C3 k.here t nm s).2:=ZK hj;obtain⟨s,h1,h2⟩:=XO.1 hm;rw[←h2];rw[hFl]at h1;exact hz s h1
   rw[hfe,if_neg (by simp)]at hA;have hA:C7 k q t (Bh k q)=(if(Dc k.l q.sv ⟨#[]⟩).length=0 then([],3,0)else(((Lik N F N.length 0).take 20).map fun s=>(C3 k.here t nm s).1,0,0):List Rr×Int×Int):=hA.trans (by rw[hFl]);refine G0 ?_;refine .inl (cX hR2 ?_);refine G1 ?_;intro gg;rw[ZE];by_cases z:(Dc k.l q.sv ⟨#[]⟩).length=0
   ·rw[if_pos z]at hA;rw[hA,show(((Dc k.l q.sv ⟨#[]⟩).length:Int)==0)=true from ZR.2 (by omega)];refine G0 ?_;(exact⟨[],aI⟩)
   ·rw[if_neg z]at hA;rw[hA,show(((Dc k.l q.sv ⟨#[]⟩).length:Int)==0)=false from ZG.2 (by omega)];refine G0 ?_;(exact⟨[384],aI⟩)
theorem Ahj {P : Program} {f : FuncId} {fn : Func} {code : Code} {rc : Ai} {ps rs : List Par} {rts : List RT} (hf : P.funcs[f]? = some fn) (hb : fn.body = some code) (hname : (fn.name == "runtime.NumGoroutine") = false) (hres : Ay P fn.ntmps code = some (Mc rc))
  (hlen:ps.length≤fn.ntmps) (hts:Xj P fn.results.toList=some rts) (h:wpv P rc (Am7 rts rs) (S6 ps)):Fun P f ps rs:=by
 refine⟨⟨fn,hf,hname,by rw[hb];rfl⟩,fun w R xs hlt hp=>?_⟩;refine calls_of_wp hf hb ?_;obtain⟨G0,hrel⟩:=Ww (n:=fn.ntmps) hlt hp hlen;refine wp_mono (Er (c:=⟨w,R,A2 ps xs,fn.ntmps,noD,G0⟩) rfl rc hres h hrel) fun e a' w' he=>?_;have fin:∀st,Ax2 rts rs st→Rel ⟨w,R,A2 ps xs,fn.ntmps,noD,G0⟩ st a' w'→a'.defers=[]∧∃v,(results fn a'.tmps).run P w'=.ok v w'∧∃(ys:List Value) (R':Nat→Prop),Ending.returned v=.returned (G7 ys)∧Fr (A2 ps xs) w w'∧(∀b,R b→R' b)∧
   (∀b,R' b→R b∨(b<w'.heap.size∧(A2 ps xs b∨w.heap.size≤b)))∧Kx w' R' rs ys∧(∀b,A2 rs ys b→A2 ps xs b∨w.heap.size≤b):=fun st ⟨us,gone,hG,hA⟩ ⟨R2,G,hR⟩=>by
  obtain⟨zs,z1,z2,z3⟩:=Mf hR _ hts hG;refine⟨hR.defers,_,Lg z1,zs,RB R2 G st.H gone true,rfl,hR.fr,fun b hb=>.inl (hR.old b hb),?_,?_⟩
  ·rintro b (hb|⟨_,id,e,l,_,q1,q2,q3,q4⟩)
   ·rcases hR.src b hb with q|q
    ·exact .inl q
    ·exact .inr ⟨hR.lt b hb,q⟩
   ·exact .inr ⟨hR.hr.lt q1 q2 q3 q4,(hR.hr.mine id e l b q1 q2 q3 q4).2⟩
  ·obtain⟨h1,h2⟩:=H1 hR (bor0:=true) (xs:=zs) hA (fun e=>e) z2.symm (fun i u x h3 h4=>z3 i u x h3 h4) (fun id hid=>hid);refine⟨h1,fun b hb=>?_⟩;obtain⟨id,_,e,l,q1,q2,q3,q4⟩:=h2 b hb;exact(hR.hr.mine id e l b q1 q2 q3 q4).2
 cases e with
 |normal=>obtain⟨st,h1,h2⟩:=he;exact fin st h1 h2
 |ret=>obtain⟨st,h1,h2⟩:=he;exact fin st h1 h2
 |exit id=>obtain⟨st,h1,h2⟩:=he;exact h1.elim
 |goto l=>exact he.elim
 |panic ch=>obtain⟨v,_,h2,_⟩:=he;exact h2.elim
 |outgrown=>exact he.elim
theorem Aq9{P:Program}{f:FuncId}{np:Nat}{rc rcD:Ai}{ts:List RT}{ps rs:List Par}(hc:Ep P f np=some (rc,ts))(hs:Mc rcD=rc)(hn:ps.length=np)(h:wpv P rcD (Am7 ts rs) (S6 ps)):Fun P f ps rs:=by
 unfold Ep at hc;split at hc
 ·cases hc
 ·rename_i fn hf;split at hc
  ·cases hc
  ·rename_i code hb;split at hc
   ·cases hc
   ·rename_i hk;simp only[Bool.or_eq_true,not_or,Bool.not_eq_true',Bool.not_eq_true,decide_eq_false_iff_not,Classical.not_not]at hk;split at hc
    ·rename_i rc' ts' h1 h2;simp only[ZD,Prod.mk.injEq]at hc;obtain⟨rfl,rfl⟩:=hc;refine Ahj hf hb ?_ (h1.trans (by rw[hs])) ?_ h2 h
     ·exact hk.1
     ·rw[hn];simpa using hk.2
    ·cases hc
theorem Aty{P:Program}{f:FuncId}{np:Nat}{rc rcD:Ai}{ts:List RT}{ps rs:List Par}(hc:Ep P f np=some (rc,ts))(hs:Mc rcD=rc)(hn:ps.length=np)(h:wpx P noD rcD (Avo ts rs) (K8 ps) (Td ps)):Fun P f ps rs:=by
 refine Aq9 hc hs hn (Dk rcD (fun e env H h=>?_) h);cases e with
 |normal=>exact h
 |exit j=>exact h
 |ret=>exact h
end Go.Proofs.YtbnocibpoghfhaaGreatDoor
