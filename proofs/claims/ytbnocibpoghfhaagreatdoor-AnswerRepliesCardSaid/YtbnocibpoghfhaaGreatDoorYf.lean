/- Texts of this claim, joined. -/
import Derived.Test.YtbnocibpoghfhaaGreatDoorYa
import Derived.Test.YtbnocibpoghfhaaGreatDoorYb
import Derived.Test.YtbnocibpoghfhaaGreatDoorYc
import Derived.Test.YtbnocibpoghfhaaGreatDoorYd
import Derived.Test.YtbnocibpoghfhaaGreatDoorYe
set_option linter.unusedSimpArgs false
set_option linter.unusedVariables false
namespace Go.Proofs.YtbnocibpoghfhaaGreatDoor
open Go Go.RowKit Pl
namespace Pl
def Wr(x:Option (Rr×Nat×Bool)):Prop:=x=none∨∃r a b,x=some (r,a,b)∧(b=true∨Fk r.ty=false)
theorem Aa7{a e:Nat}(h:a=e):Uk a e false=false:=by subst h;show((a:Int) !=(a:Int))=false;simp
theorem Ae0{a e:Nat}(h:a≠e)(b:Bool):Uk a e b=true:=by
 cases b
 ·show((a:Int) !=(e:Int))=true;exact ZZ.2 (by omega)
 ·rfl
theorem Aut{t:Nat}(h1:t≠1)(h16:t≠16)(h33:t≠33):Fk (t:Int)=false:=by
 unfold Fk;rw[show((t:Int)==1)=false from ZG.2 (by omega),show((t:Int)==16)=false from ZG.2 (by omega),show((t:Int)==33)=false from ZG.2 (by omega)];rfl
section
variable {s:ByteArray} {nm:ByteArray} {t ls a e:Nat}
def Arm(s:ByteArray)(nm:ByteArray)(t ls a e:Nat):Option (Rr×Nat):=
 (Il s t a).bind fun b=>if b.2=e then some (⟨nm,t,ls,b.1.1,b.1.2.1,b.1.2.2.1,b.1.2.2.2⟩,b.2)else none
theorem Atb(ha:a≤s.size):(∀r a',Arm s nm t ls a e=some (r,a')→Aa1 s nm t ls a e=some (r,a',false))∧(Arm s nm t ls a e=none→Wr (Aa1 s nm t ls a e)):=by
 unfold Arm Il Aa1;by_cases t1:t=1
 ·rw[if_pos t1,if_pos t1];by_cases c:a+4≤s.size
  ·obtain⟨e1,e2,e3⟩:=Cf (b:=false) c;rw[Wc c,e1,e2,e3,ZA];simp only[ZA];by_cases d:a+4=e
   ·rw[if_pos d,Aa7 d];exact⟨fun r a' h=>by cases h;rfl,fun h=>by cases h⟩
   ·rw[if_neg d,Ae0 d];exact⟨fun r a' h=>by(cases h),fun _=>.inr ⟨_,_,_,rfl,.inl rfl⟩⟩
  ·rw[Agr c,(Hn (b:=false) c).2.2];exact⟨fun r a' h=>by(cases h),fun _=>.inr ⟨_,_,_,rfl,.inl rfl⟩⟩
 ·rw[if_neg t1,if_neg t1];by_cases t16:t=16
  ·rw[if_pos t16,if_pos t16];by_cases c:a+1≤s.size
   ·obtain⟨e1,e2,e3⟩:=Cf (b:=false) c;rw[Hw c,e2,e3,Nm,ZA];simp only;unfold Fo;by_cases d:a+1+atB s a≤s.size
    ·rw[if_pos d,if_neg (by simp;omega),ZA];simp only[ZA];by_cases f:a+1+atB s a=e
     ·rw[if_pos f,Aa7 f];exact⟨fun r a' h=>by cases h;rfl,fun h=>by cases h⟩
     ·rw[if_neg f,Ae0 f];exact⟨fun r a' h=>by(cases h),fun _=>.inr ⟨_,_,_,rfl,.inl rfl⟩⟩
    ·rw[if_neg d,if_pos (.inr (by omega))];exact⟨fun r a' h=>by(cases h),fun _=>.inl rfl⟩
   ·rw[Qj c,if_pos (.inl (Hn (b:=false) c).2.2)];exact⟨fun r a' h=>by(cases h),fun _=>.inl rfl⟩
  ·rw[if_neg t16,if_neg t16];by_cases t33:t=33
   ·rw[if_pos t33,if_pos t33];have bad:∀(x:Option (Rr×Nat)) (r0:Rr) (b7:Bool) (a7:Nat),x=none→b7=true→
      (∀r a',x=some (r,a')→some (({r0 with tg:=(Dp s a7 b7).1} :Rr),(Dp s a7 b7).2.1,Uk (Dp s a7 b7).2.1 e (Dp s a7 b7).2.2)=some (r,a',false))∧(x=none→Wr (some (({r0 with tg:=(Dp s a7 b7).1} :Rr),(Dp s a7 b7).2.1,Uk (Dp s a7 b7).2.1 e (Dp s a7 b7).2.2))):=by
     intro x r0 b7 a7 hx hb;subst hb;exact⟨fun r a' h=>by(rw[hx]at h;cases h),fun _=>.inr ⟨_,_,_,rfl,.inl rfl⟩⟩
    by_cases c4:a+4≤s.size
    ·obtain⟨e1,e2,e3⟩:=Cf (s:=s) (k:=4) (a:=a) (b:=false) c4;rw[Dt (by omega),e1,e2,ZA];simp only;by_cases z1:Dx s a 2=0
     ·rw[if_pos z1,Dt (by omega),ZA];simp only;by_cases z2:Dx s (a+2) 2=0
      ·rw[if_pos z2,show(((Dx s a 4:Nat):Int) !=0)=false from by rw[Nn,z1,z2];rfl];by_cases c6:a+4+2≤s.size
       ·obtain⟨g1,g2,g3⟩:=Cf (s:=s) (k:=2) (a:=a+4) (b:=false) c6;rw[Dt c6,g1,g2,g3,ZA];simp only;obtain⟨n1,n2⟩:=Aeh s (a+4+2);rcases hn:Eq s (a+4+2)with _|⟨v,a8⟩
        ·rw[Option.bind_none,Option.bind_none,show(Dp s (a+4+2) false).2.2=true from n2 hn];exact⟨fun r a' h=>by(cases h),fun _=>.inr ⟨_,_,_,rfl,.inl rfl⟩⟩
        ·rw[n1 v a8 hn,ZA];simp only[ZA];by_cases f:a8=e
         ·rw[if_pos f,Aa7 f];exact⟨fun r a' h=>by cases h;rfl,fun h=>by cases h⟩
         ·rw[if_neg f,Ae0 f];exact⟨fun r a' h=>by(cases h),fun _=>.inr ⟨_,_,_,rfl,.inl rfl⟩⟩
       ·rw[I3 c6];exact bad _ ⟨nm,t,ls,0,⟨#[]⟩,_,⟨#[]⟩⟩ _ _ rfl (Hn c6).2.2
      ·rw[if_neg z2];have hz:(((Dx s a 4:Nat):Int) !=0)=true:=by rw[Nn];exact ZZ.2 (by omega)
       rw[hz];exact bad _ ⟨nm,t,ls,0,⟨#[]⟩,_,⟨#[]⟩⟩ _ _ rfl rfl
     ·rw[if_neg z1];have hz:(((Dx s a 4:Nat):Int) !=0)=true:=by rw[Nn];exact ZZ.2 (by omega)
      rw[hz];exact bad _ ⟨nm,t,ls,0,⟨#[]⟩,_,⟨#[]⟩⟩ _ _ rfl rfl
    ·have hx:((Bt s a).bind fun p=>if p.1=0 then(Bt s p.2).bind fun q=>if q.1=0 then(Bt s q.2).bind fun r=>(Eq s r.2).bind fun n=>some ((0,(⟨#[]⟩:ByteArray),r.1,n.1),n.2)else none else none:Option ((Nat×ByteArray×Nat×ByteArray)×Nat))=none:=by
      by_cases c2:a+2≤s.size
      ·rw[Dt c2,ZA];simp only;split
       ·rw[I3 (by omega)];rfl
       ·rfl
      ·rw[I3 c2];rfl
     rw[hx];obtain⟨e1,e2,_⟩:=Hn (s:=s) (k:=4) (a:=a) (b:=false) c4;rw[e1,e2];exact bad _ ⟨nm,t,ls,0,⟨#[]⟩,_,⟨#[]⟩⟩ _ _ rfl (Hn (by omega)).2.2
   ·rw[if_neg t33,if_neg t33];exact⟨fun r a' h=>by(cases h),fun _=>.inr ⟨_,_,_,rfl,.inr (Aut t1 t16 t33)⟩⟩
end
theorem Yq{s nm:ByteArray}{a1:Nat}{b1:Bool}(h:(M1 s (Aq s 2 a1) (B7 s 2 a1 b1)).2=true):Wr (Xx s nm a1 b1):=by
 unfold Xx;simp only;rw[h];exact .inl (if_pos (.inl rfl))
theorem Axr(s:ByteArray)(a:Nat):(∀r a',Pp s a=some (r,a')→Oj s a=some (r,a',false))∧(Pp s a=none→Wr (Oj s a)):=by
 have vac:∀{p:Prop} (r:Rr) (a':Nat),(none:Option (Rr×Nat))=some (r,a')→p:=fun r a' h=>by cases h
 obtain⟨n1,n2⟩:=Aeh s a;unfold Pp Oj;rcases hn:Eq s a with _|⟨nm,a1⟩
 ·have hb:=n2 hn;rw[Option.bind_none,hb];exact⟨fun r a' h=>vac r a' h,fun _=>Yq rfl⟩
 rw[n1 nm a1 hn,ZA];simp only;by_cases c2:a1+2≤s.size;rotate_left
 ·rw[I3 c2,Option.bind_none];exact⟨fun r a' h=>vac r a' h,fun _=>Yq (by rw[(Hn (b:=false) c2).2.2];rfl)⟩
 obtain⟨e1,e2,e3⟩:=Cf (b:=false) c2;rw[Dt c2,ZA];simp only;by_cases c3:a1+2+2≤s.size;rotate_left
 ·rw[I3 c3,Option.bind_none];exact⟨fun r a' h=>vac r a' h,fun _=>Yq (by
   rw[e2,e3];show((B6 s 2 (a1+2):Int) !=1)=true;rw[(Hn (b:=false) c3).1];rfl)⟩
 obtain⟨g1,g2,g3⟩:=Cf (b:=false) c3;rw[Dt c3,ZA];simp only;by_cases d:Dx s (a1+2) 2=1;rotate_left
 ·rw[if_neg d];exact⟨fun r a' h=>vac r a' h,fun _=>Yq (by
   rw[e2,e3];show((B6 s 2 (a1+2):Int) !=1)=true;rw[g1];exact ZZ.2 (by omega))⟩
 rw[if_pos d];have ho:M1 s (Aq s 2 a1) (B7 s 2 a1 false)=(a1+2+2,false):=by
  rw[e2,e3];show(Aq s 2 (a1+2),((B6 s 2 (a1+2):Int) !=1))=_;rw[g1,g2,d];rfl
 have hrest:Xx s nm a1 false=if B7 s 6 (a1+2+2) false=true∨s.size<Aq s 6 (a1+2+2)+B6 s 2 (Aq s 4 (a1+2+2))then none
   else Aa1 s nm (B6 s 2 a1) (B6 s 4 (a1+2+2)) (Aq s 6 (a1+2+2)) (Aq s 6 (a1+2+2)+B6 s 2 (Aq s 4 (a1+2+2))):=by
  unfold Xx;simp only;rw[ho]
 rw[hrest,e1];generalize a1+2+2=a3;by_cases c6:a3+6≤s.size;rotate_left
 ·have hx:((Gp s a3).bind fun ls=>(Bt s ls.2).bind fun k=>if k.2+k.1≤s.size then(Il s (Dx s a1 2) k.2).bind fun b=>if b.2=k.2+k.1 then some ((⟨nm,(Dx s a1 2:Nat),ls.1,b.1.1,b.1.2.1,b.1.2.2.1,b.1.2.2.2⟩:Rr),b.2)else none else none)=none:=by
   by_cases c4:a3+4≤s.size
   ·rw[Wc c4,ZA];simp only;rw[I3 (by omega)];rfl
   ·rw[Agr c4];rfl
  rw[hx];exact⟨fun r a' h=>vac r a' h,fun _=>.inl (if_pos (.inl (Hn c6).2.2))⟩
 obtain⟨i1,i2,i3⟩:=Cf (b:=false) c6;obtain⟨j1,j2,j3⟩:=Cf (s:=s) (k:=4) (a:=a3) (b:=false) (by omega);obtain⟨k1,k2,k3⟩:=Cf (s:=s) (k:=2) (a:=a3+4) (b:=false) (by omega);rw[Wc (by omega),ZA];simp only;rw[Dt (by omega),ZA,i2,i3,j1,j2,k1];simp only;rw[show a3+4+2=a3+6 from rfl];by_cases c7:a3+6+Dx s (a3+4) 2≤s.size;rotate_left
 ·rw[if_neg c7];exact⟨fun r a' h=>vac r a' h,fun _=>.inl (if_pos (.inr (by omega)))⟩
 rw[if_pos c7,if_neg (fun q=>q.elim (fun q=>by cases q) (by omega))];exact Atb c6
theorem Th(s:ByteArray)(n a:Nat)(L:List Rr):Gy s n a true L=some (L,a,true):=by
 cases n<;>rfl
theorem Acv{s:ByteArray}:∀(n a:Nat) (b:Bool) (L L2:List Rr) (a2:Nat) (b2:Bool),Gy s n a b L=some (L2,a2,b2)→∀r∈L,r∈L2
 |0,a,b,L,L2,a2,b2,h,r,hr=>by unfold Gy at h;cases h;exact hr
 |n+1,a,true,L,L2,a2,b2,h,r,hr=>by rw[Th]at h;cases h;exact hr
 |n+1,a,false,L,L2,a2,b2,h,r,hr=>by
  rw[show Gy s (n+1) a false L=(Oj s a).bind fun r=>Gy s n r.2.1 r.2.2 (L++[r.1])from rfl]at h;rcases hq:Oj s a with _|⟨q,a1,b1⟩
  ·rw[hq]at h;cases h
  ·rw[hq,ZA]at h;exact Acv n _ _ _ _ _ _ h r (List.mem_append_left _ hr)
def WrL(x:Option (List Rr×Nat×Bool)):Prop:=x=none∨∃L a b,x=some (L,a,b)∧(b=true∨∃r∈L,Fk r.ty=false)
theorem Amr(s:ByteArray):∀(n a:Nat) (L:List Rr),(∀L' a',Fg s n a=some (L',a')→Gy s n a false L=some (L++L',a',false))∧(Fg s n a=none→WrL (Gy s n a false L))
 |0,a,L=>⟨fun L' a' h=>by unfold Fg at h;cases h;rw[List.append_nil];rfl,fun h=>by unfold Fg at h;cases h⟩
 |n+1,a,L=>by
  have e0:Gy s (n+1) a false L=(Oj s a).bind fun r=>Gy s n r.2.1 r.2.2 (L++[r.1]):=rfl;obtain⟨r1,r2⟩:=Axr s a;rw[e0];unfold Fg;rcases hr:Pp s a with _|⟨r,a1⟩
  ·rw[Option.bind_none];refine⟨fun L' a' h=>(by cases h),fun _=>?_⟩;rcases r2 hr with h|⟨q,a2,b2,h,hb⟩
   ·rw[h];exact .inl rfl
   ·rw[h,ZA];simp only;rcases hb with rfl|hb
    ·rw[Th];exact .inr ⟨_,_,_,rfl,.inl rfl⟩
    ·rcases hx:Gy s n a2 b2 (L++[q])with _|⟨L2,a3,b3⟩
     ·exact .inl rfl
     ·exact .inr ⟨_,_,_,rfl,.inr ⟨q,Acv _ _ _ _ _ _ _ hx q (List.mem_append_right _ (XN.2 rfl)),hb⟩⟩
  ·rw[r1 r a1 hr,ZA,ZA];simp only;obtain⟨s1,s2⟩:=Amr s n a1 (L++[r]);rcases hx:Fg s n a1 with _|⟨L',a'⟩
   ·rw[Option.bind_none];exact⟨fun L' a' h=>(by cases h),fun _=>s2 hx⟩
   ·rw[s1 L' a' hx,ZA];refine⟨fun L2 a2 h=>?_,fun h=>by cases h⟩;cases h;rw[ZS];rfl
end Pl
namespace Pl
def Amh(s:ByteArray)(i fl co n:Nat):Option Ms:=
 (Eq s 12).bind fun m=>(Bt s m.2).bind fun t=>(Bt s t.2).bind fun d=>if d.1=1 then
  (Fg s n d.2).bind fun l=>if l.2=s.size then some ⟨i,decide (128≤fl),decide (fl%4≥2),co,m.1,t.1,l.1⟩else none
 else none
theorem Alt{s:ByteArray}(h:12≤s.size):hdS s=⟨Dx s 0 2,atB s 2,atB s 3,Dx s 4 2,Dx s 6 2,Dx s 8 4⟩:=by
 unfold hdS;rw[(Cf (s:=s) (k:=2) (a:=0) (b:=false) (by omega)).1,(Cf (s:=s) (k:=2) (a:=0) (b:=false) (by omega)).2.1,(Cf (s:=s) (k:=3) (a:=0) (b:=false) (by omega)).2.1,(Cf (s:=s) (k:=4) (a:=0) (b:=false) (by omega)).2.1,(Cf (s:=s) (k:=6) (a:=0) (b:=false) (by omega)).2.1,(Cf (s:=s) (k:=8) (a:=0) (b:=false) (by omega)).2.1];simp only[Nat.zero_add];rw[Nm,Nm,(Cf (s:=s) (k:=2) (a:=4) (b:=false) (by omega)).1,(Cf (s:=s) (k:=2) (a:=6) (b:=false) (by omega)).1,(Cf (s:=s) (k:=4) (a:=8) (b:=false) (by omega)).1]
theorem Ad2{s:ByteArray}(h:12≤s.size):Od s=if(hdS s).ok then Amh s (Dx s 0 2) (atB s 2) (atB s 3) (Dx s 6 2)else none:=by
 have hh:=Alt h;have hz:=Nn (s:=s) (a:=8);unfold Od;rw[Dt (by omega),ZA];simp only[Nat.zero_add];rw[Hw (by omega),ZA];simp only;rw[Hw (by omega),ZA];simp only;have hfl:Af0 (atB s 2)=true↔(atB s 2=0∨atB s 2=2∨atB s 2=128∨atB s 2=130):=by
  unfold Af0;simp[or_assoc]
 by_cases c1:(Af0 (atB s 2)&&decide (atB s (2+1)<16))=true;rotate_left
 ·rw[if_neg c1,if_neg (fun q=>c1 (by rw[hh]at q;have q1:=q.1;have q2:=q.2.1;simp only at q1 q2;rw[hfl.2 q1,show decide (atB s (2+1)<16)=true from ZX (show atB s 3<16 by omega)];rfl))]
 rw[if_pos c1,Dt (by omega),ZA];simp only;rw[ZO]at c1;have c1b:=ZV c1.2;by_cases c2:Dx s (2+1+1) 2=1;rotate_left
 ·rw[if_neg c2,if_neg (fun q=>c2 (by rw[hh]at q;exact q.2.2.1))]
 rw[if_pos c2,Dt (by omega),ZA];simp only;by_cases c3:Dx s (2+1+1+2) 2≤20;rotate_left
 ·rw[if_neg c3,if_neg (fun q=>c3 (by rw[hh]at q;exact q.2.2.2.1))]
 rw[if_pos c3,Dt (by omega),ZA];simp only;by_cases c4:Dx s (2+1+1+2+2) 2=0;rotate_left
 ·rw[if_neg c4,if_neg (fun q=>c4 (by rw[hh]at q;have q1:=q.2.2.2.2;simp only at q1;show Dx s 8 2=0;omega))]
 rw[if_pos c4,Dt (by omega),ZA];simp only;by_cases c5:Dx s (2+1+1+2+2+2) 2=0;rotate_left
 ·rw[if_neg c5,if_neg (fun q=>c5 (by rw[hh]at q;have q1:=q.2.2.2.2;simp only at q1;show Dx s 10 2=0;rw[show 8+2=10 from rfl]at hz;omega))]
 have hok:(hdS s).ok:=by
  rw[hh];have d4:Dx s 8 2=0:=c4;have d5:Dx s (8+2) 2=0:=c5;exact⟨hfl.1 c1.1,show atB s 3≤15 from Nat.le_of_lt_succ c1b,c2,c3,by show Dx s 8 4=0;rw[hz,d4,d5]⟩
 rw[if_pos c5,if_pos hok];rfl
theorem Aa9{s:ByteArray}(h:¬12≤s.size):Od s=none:=by
 rcases hm:Od s with _|m
 ·rfl
 ·exfalso;unfold Od at hm;rcases e1:Bt s 0 with _|⟨x1,a1⟩
  ·rw[e1]at hm;cases hm
  rw[e1,ZA]at hm;simp only at hm;rcases e2:Cr s a1 with _|⟨x2,a2⟩
  ·rw[e2]at hm;cases hm
  rw[e2,ZA]at hm;simp only at hm;rcases e3:Cr s a2 with _|⟨x3,a3⟩
  ·rw[e3]at hm;cases hm
  rw[e3,ZA]at hm;simp only at hm;split at hm;rotate_left
  ·cases hm
  rcases e4:Bt s a3 with _|⟨x4,a4⟩
  ·rw[e4]at hm;cases hm
  rw[e4,ZA]at hm;simp only at hm;split at hm;rotate_left
  ·cases hm
  rcases e5:Bt s a4 with _|⟨x5,a5⟩
  ·rw[e5]at hm;cases hm
  rw[e5,ZA]at hm;simp only at hm;split at hm;rotate_left
  ·cases hm
  rcases e6:Bt s a5 with _|⟨x6,a6⟩
  ·rw[e6]at hm;cases hm
  rw[e6,ZA]at hm;simp only at hm;split at hm;rotate_left
  ·cases hm
  rcases e7:Bt s a6 with _|⟨x7,a7⟩
  ·rw[e7]at hm;cases hm
  have:=Bk e1;have:=C4 e2;have:=C4 e3;have:=Bk e4;have:=Bk e5;have:=Bk e6;have:=Bk e7;omega
theorem Ax3{m:Ms}(h:∃r∈m.rs,Fk r.ty=false):A4 m≠0:=by
 intro e;obtain⟨r,hr,ht⟩:=h;have hg:=((G9 e).1.rs r hr).ty;have ht':Fk r.ty=true:=by rcases hg with q|q|q<;>rw[q]<;>rfl
 rw[ht]at ht';cases ht'
theorem Ax8(s:ByteArray):Cs s=rdP s:=by
 by_cases c0:512<s.size
 ·rw[Qm c0];exact if_pos c0
 by_cases c12:12≤s.size;rotate_left
 ·rw[Fu c0 (Aa9 c12)];unfold Cs;rw[if_neg c0,if_neg (fun q=>c12 q.1)]
 have hP:=Ad2 c12;by_cases hok:(hdS s).ok;rotate_left
 ·rw[if_neg hok]at hP;rw[Fu c0 hP];unfold Cs;rw[if_neg c0,if_neg (fun q=>hok q.2)]
 rw[if_pos hok]at hP;have hh:=Alt c12;have hS:∀nm a1 b1,Dp s 12 false=(nm,a1,b1)→Cs s=match Gy s (Dx s 6 2) (M1 s (Aq s 2 a1) (B7 s 2 a1 b1)).1 (M1 s (Aq s 2 a1) (B7 s 2 a1 b1)).2 []with
   |none=>(A9,1)
   |some (L,a,b)=>
    if b=false∧a=s.size∧A4 ⟨Dx s 0 2,decide (128≤atB s 2),decide (2≤atB s 2%4),atB s 3,nm,B6 s 2 a1,L⟩=0 then(⟨Dx s 0 2,decide (128≤atB s 2),decide (2≤atB s 2%4),atB s 3,nm,B6 s 2 a1,L⟩,0)
    else(A9,1):=by
  intro nm a1 b1 hN;unfold Cs;rw[if_neg c0,if_pos ⟨c12,hok⟩,hN,hh]
  all_goals rfl
 have hbad:∀nm a1 b1,Dp s 12 false=(nm,a1,b1)→(M1 s (Aq s 2 a1) (B7 s 2 a1 b1)).2=true→Cs s=(A9,1):=by
  intro nm a1 b1 hN hb;rw[hS nm a1 b1 hN,hb,Th];exact if_neg fun q=>by cases q.1
 obtain⟨n1,n2⟩:=Aeh s 12;unfold Amh at hP;rcases hn:Eq s 12 with _|⟨nm,a1⟩
 ·rw[hn,Option.bind_none]at hP;rw[Fu c0 hP];rcases hN:Dp s 12 false with⟨nm,a1,b1⟩
  have hb:b1=true:=by have:=n2 hn;rw[hN]at this;exact this
  subst hb;exact hbad nm a1 true hN rfl
 have hN:=n1 nm a1 hn;rw[hn,ZA]at hP;simp only at hP;by_cases c2:a1+2≤s.size;rotate_left
 ·rw[I3 c2,Option.bind_none]at hP;rw[Fu c0 hP];exact hbad nm a1 false hN (by rw[(Hn (b:=false) c2).2.2];rfl)
 obtain⟨e1,e2,e3⟩:=Cf (b:=false) c2;rw[Dt c2,ZA]at hP;simp only at hP;by_cases c3:a1+2+2≤s.size;rotate_left
 ·rw[I3 c3,Option.bind_none]at hP;rw[Fu c0 hP];exact hbad nm a1 false hN (by
   rw[e2,e3];show((B6 s 2 (a1+2):Int) !=1)=true;rw[(Hn (b:=false) c3).1];rfl)
 obtain⟨g1,g2,g3⟩:=Cf (b:=false) c3;rw[Dt c3,ZA]at hP;simp only at hP;by_cases d:Dx s (a1+2) 2=1;rotate_left
 ·rw[if_neg d]at hP;rw[Fu c0 hP];exact hbad nm a1 false hN (by
   rw[e2,e3];show((B6 s 2 (a1+2):Int) !=1)=true;rw[g1];exact ZZ.2 (by omega))
 rw[if_pos d]at hP;have ho:M1 s (Aq s 2 a1) (B7 s 2 a1 false)=(a1+2+2,false):=by
  rw[e2,e3];show(Aq s 2 (a1+2),((B6 s 2 (a1+2):Int) !=1))=_;rw[g1,g2,d];rfl
 have hS':=hS nm a1 false hN;rw[ho,e1]at hS';simp only at hS';obtain⟨r1,r2⟩:=Amr s (Dx s 6 2) (a1+2+2) [];rcases hr:Fg s (Dx s 6 2) (a1+2+2)with _|⟨L,a9⟩
 ·rw[hr,Option.bind_none]at hP;rw[Fu c0 hP,hS'];rcases r2 hr with h|⟨L2,a2,b2,h,hb⟩
  ·rw[h]
  ·rw[h];refine if_neg fun q=>?_;rcases hb with rfl|hb
   ·cases q.1
   ·exact Ax3 (m:=⟨Dx s 0 2,decide (128≤atB s 2),decide (2≤atB s 2%4),atB s 3,nm,Dx s a1 2,L2⟩) hb q.2.2
 ·rw[hr,ZA]at hP;simp only at hP;rw[hS',r1 L a9 hr,List.nil_append];simp only;by_cases f:a9=s.size
  ·rw[if_pos f]at hP;rw[N5 c0 hP];by_cases g:A4 ⟨Dx s 0 2,decide (128≤atB s 2),decide (2≤atB s 2%4),atB s 3,nm,Dx s a1 2,L⟩=0
   ·rw[if_pos ⟨trivial,f,g⟩];exact(if_pos g).symm
   ·rw[if_neg (fun q=>g q.2.2)];exact(if_neg g).symm
  ·rw[if_neg f]at hP;rw[Fu c0 hP];exact if_neg fun q=>f q.2.1
end Pl
namespace Pl
def Ma(e:Int):Int:=if e=8 then 4 else 0
noncomputable def Hj(k:Kn)(m:Ms)(G:Qr→List Sv):Ms:=
 if(A8 m.qn).2≠0 then⟨m.id,true,false,if Ma (A8 m.qn).2=0 then 3 else Ma (A8 m.qn).2,m.qn,m.qt,[]⟩
 else if(C7 k (A8 m.qn).1 m.qt (G (A8 m.qn).1)).2.2≠0 then⟨m.id,true,false,2,m.qn,m.qt,[]⟩
 else⟨m.id,true,false,(C7 k (A8 m.qn).1 m.qt (G (A8 m.qn).1)).2.1,m.qn,m.qt,(C7 k (A8 m.qn).1 m.qt (G (A8 m.qn).1)).1⟩
end Pl
theorem Ami{env:Nat→V}{H:Nat→Option Ent}{ts:List RT}{cs cs':List V}(hG:Jp env H ts [.agg cs])(hc:Ek H [] cs cs'):∃us gone,Jp env H ts us∧A7 H gone true gone us [.c (.agg cs')]:=⟨_,[],hG,.bora hc (.nil _)⟩
theorem Aq6(e:Int):Fun Tryz.prog 62 [.c (.v (.int .i64 e))] [.c (.v (.int .i64 (Ma e)))]:=by
 refine Ar Y9 rfl ?_;refine G1 ?_;intro gg;refine⟨[],none,rfl,As rfl,rfl,?_⟩;refine G0 ?_;by_cases h:e=8
 ·subst h;refine⟨some (0,V.v (.int .i64 4)),rfl,?_⟩;refine G0 ?_;(exact⟨[],aI⟩)
 ·refine⟨none,?_,?_⟩
  ·show Gn (.int .i64) (.int .i64 e) [(.int .i64 8,.v (.int .i64 4))] 0=some none;simp[Gn,Instr.sameNow,show(e==8)=false from ZG.2 h]
  refine G0 ?_;rw[show Ma e=0 from if_neg h];(exact⟨[],aI⟩)
set_option maxHeartbeats 1000000 in
theorem Ao3(k:Kn)(m:Ms)(G:Qr→List Sv)(hm:m.qn.size≤1000000000000)(hR:(A8 m.qn).2=0→Fun Tryz.prog 8 [.c (.agg (A8 m.qn).1.row),.c (.v (.int .i64 m.qt)),.c (.v (.string k.here)),.c (.sl false (k.l.map Sv.row)),.c (.sl false (k.ms.map Mb.row)),.c (.agg k.f.row),.c (.sl false (k.wh.map Wh.row))]
   [.o 42 7 ((C7 k (A8 m.qn).1 m.qt (G (A8 m.qn).1)).1.map Rr.row),.c (.v (.int .i64 (C7 k (A8 m.qn).1 m.qt (G (A8 m.qn).1)).2.1)),.c (.v (.int .i64 (C7 k (A8 m.qn).1 m.qt (G (A8 m.qn).1)).2.2))]):
  Fun Tryz.prog 30 [.c (.agg m.row),.c (.v (.string k.here)),.c (.sl false (k.l.map Sv.row)),.c (.sl false (k.ms.map Mb.row)),.c (.agg k.f.row),.c (.sl false (k.wh.map Wh.row))] [.c (.agg (Hj k m G).row)]:=by
 have hP:=Aky m.qn hm;refine Ae5 X7 rfl ?_;(refine goI ?_;repeat (intro gg;refine goI ?_));refine .inl (cX hP ?_);unfold Hj;generalize A8 m.qn=P at *;(refine goI ?_;repeat (intro gg;refine goI ?_));by_cases c:P.2=0;rotate_left
 ·rw[if_pos c,show(P.2 !=0)=true from ZZ.2 c];refine G0 ?_;refine .inl (cX (Aq6 P.2) ?_);refine G1 ?_;intro gg;by_cases d:Ma P.2=0
  ·rw[if_pos d,d];refine G0 ?_;exact Ami (.cell1 rfl rfl rfl rfl rfl rfl .nil) cBI
  ·rw[if_neg d,show(Ma P.2==0)=false from ZG.2 d];refine G0 ?_;exact Ami (.cell1 rfl rfl rfl rfl rfl rfl .nil) cBI
 have hR0:=hR c;rw[if_neg (by simpa using c),c];generalize C7 k P.1 m.qt (G P.1)=X at *;refine G0 ?_;refine .inl (cX hR0 ?_);refine G1 ?_;intro gg;by_cases d:X.2.2=0;rotate_left
 ·rw[if_pos d,show(X.2.2 !=0)=true from ZZ.2 d];refine G0 ?_;exact Ami (.cell1 rfl rfl rfl rfl rfl rfl .nil) cBI
 rw[if_neg (by simpa using d),d];refine G0 ?_;exact Ami (.cell1 rfl rfl rfl rfl rfl rfl .nil) cBI
namespace Pl
noncomputable def Dq(k:Kn)(s:ByteArray)(G:Qr→List Sv):Ms:=
 if(rdP s).2=0∧(rdP s).1.rs.length=0 then Hj k (rdP s).1 G else⟨((atB s 0*256+atB s 1:Nat):Int),true,false,1,⟨#[]⟩,1,[]⟩
noncomputable def Eu(k:Kn)(s:ByteArray)(G:Qr→List Sv):ByteArray×Bool×Int:=
 if k.err≠0 then(⟨#[]⟩,false,k.err)
 else if s.size<12∨128≤atB s 2 then(⟨#[]⟩,false,0)
 else((Jn (Dq k s G) 512).1,(Jn (Dq k s G) 512).2==0,(Jn (Dq k s G) 512).2)
end Pl
theorem R6{u:V}(u':V){ps:List Par}{xs:List Value}{b:Nat}(h:A2 (.c u::ps) xs b):A2 (.c u'::ps) xs b:=by
 obtain⟨i,T,sz,rows,x,h1,h2⟩:=h;rcases i with _|i
 ·cases h1
 ·exact⟨i+1,T,sz,rows,x,h1,h2⟩
theorem Fun.sub_hd{P:Program}{f:FuncId}{u u':V}{ps rs:List Par}(h:Fun P f (.c u::ps) rs)(hs:∀(w:World) (R:Nat→Prop) (x:Value),RV w R noG u' x→RV w R noG u x):Fun P f (.c u'::ps) rs:=by
 refine⟨h.1,fun w R xs hlt hp=>?_⟩;have hp':Kx w R (.c u::ps) xs:=by
  refine⟨hp.len,fun i p x h1 h2=>?_,fun i j T sz rows T' sz' rows' x y b hij h1 h2 h3 h4=>?_,fun b hb=>hp.free b (R6 u' hb)⟩
  ·rcases i with _|i
   ·cases h1;exact hs w R x (hp.ok 0 _ _ rfl h2)
   ·exact hp.ok (i+1) p x h1 h2
  ·rcases i with _|i
   ·cases h1
   ·rcases j with _|j
    ·cases h2
    ·exact hp.apart (i+1) (j+1) T sz rows T' sz' rows' x y b hij h1 h2 h3 h4
 refine(h.2 w R xs hlt hp').mono ?_
 rintro e w' ⟨ys,R',h1,h2,h3,h4,h5,h6⟩
 exact⟨ys,R',h1,⟨h2.os,h2.tape,h2.output,h2.size,fun k hk hn=>h2.block k hk fun q=>hn (R6 u' q)⟩,h3,fun b hb=>(h4 b hb).imp id fun g=>⟨g.1,g.2.imp (R6 u') id⟩,h5,fun b hb=>(h6 b hb).imp (R6 u') id⟩
set_option maxHeartbeats 2000000 in
theorem Ano(k:Kn)(s:ByteArray)(G:Qr→List Sv)(hk:k.In)(hs:s.size≤9223372036854775807)(hRd:Fun Tryz.prog 17 [.c (.v (.string s))] [.c (.agg (rdP s).1.row),.c (.v (.int .i64 (rdP s).2))])(hr:Fun Tryz.prog 30 [.c (.agg (rdP s).1.row),.c (.v (.string k.here)),.c (.sl false (k.l.map Sv.row)),.c (.sl false (k.ms.map Mb.row)),.c (.agg k.f.row),.c (.sl false (k.wh.map Wh.row))] [.c (.agg (Hj k (rdP s).1 G).row)])(hFit:Fun Tryz.prog 31 [.c (.agg (Dq k s G).row),.c (.v (.int .i64 512))] [.c (.v (.string (Jn (Dq k s G) 512).1)),.c (.v (.int .i64 (Jn (Dq k s G) 512).2))]):
  Fun Tryz.prog 13 [.c (.v (.string s)),.c (.v (.string k.here)),.c (.sl false (k.l.map Sv.row)),.c (.sl false (k.ms.map Mb.row)),.c (.agg k.f.row),.c (.sl false (k.wh.map Wh.row))]
   [.c (.v (.string (Eu k s G).1)),.c (.v (.bool (Eu k s G).2.1)),.c (.v (.int .i64 (Eu k s G).2.2))]:=by
 have hA:Eu k s G=(if k.err≠0 then(⟨#[]⟩,false,k.err)
  else if s.size<12∨128≤atB s 2 then(⟨#[]⟩,false,0)
  else((Jn (Dq k s G) 512).1,(Jn (Dq k s G) 512).2==0,(Jn (Dq k s G) 512).2):ByteArray×Bool×Int):=rfl
 refine Ar Yl rfl ?_;refine G1 ?_;intro gg;refine .inl (cX (Adr k hk) ?_);refine G1 ?_;intro gg;by_cases c1:k.err=0;rotate_left
 ·rw[if_pos c1]at hA;rw[hA,show(k.err !=0)=true from ZZ.2 c1];refine G0 ?_;(exact⟨[],aI⟩)
 rw[if_neg (by simpa using c1)]at hA;rw[c1];refine G0 ?_;by_cases c2:s.size<12
 ·rw[if_pos (.inl c2)]at hA;rw[hA,show decide ((s.size:Int)<12)=true from ZX (by omega)];refine G0 ?_;(exact⟨[],aI⟩)
 rw[show decide ((s.size:Int)<12)=false from ZY (by omega)];obtain⟨b0,hb0⟩:∃c,s[0]? =some c:=⟨s[0],by simp⟩;obtain⟨b1,hb1⟩:∃c,s[1]? =some c:=⟨s[1],by simp⟩;obtain⟨b2,hb2⟩:∃c,s[2]? =some c:=⟨s[2],by simp⟩;have q0:=Gu hb0;have q1:=Gu hb1;have q2:=Gu hb2;have l0:=b0.toNat_lt;have l1:=b1.toNat_lt;refine G0 ?_;refine⟨2,b2,rfl,hb2,?_⟩;refine G0 ?_;by_cases c3:128≤atB s 2
 ·rw[if_pos (.inr c3)]at hA;rw[hA,show decide ((128:Int)≤(b2.toNat:Int))=true from ZX (by omega)];refine G0 ?_;(exact⟨[],aI⟩)
 rw[if_neg (fun z=>z.elim c2 c3)]at hA;rw[show decide ((128:Int)≤(b2.toNat:Int))=false from ZY (by omega)];refine G0 ?_;refine .inl (cX hRd ?_);(refine goI ?_;repeat (intro gg;refine goI ?_));refine⟨0,b0,rfl,hb0,?_⟩;refine G0 ?_;refine⟨by decide,_,Arc l0,?_⟩;refine G0 ?_;refine⟨1,b1,rfl,hb1,?_⟩;refine G0 ?_;refine⟨_,or8 l0 l1,?_⟩;refine G1 ?_;intro gg;rw[←q0,←q1];have hM:Dq k s G=(if(rdP s).2=0∧(rdP s).1.rs.length=0 then Hj k (rdP s).1 G else⟨((atB s 0*256+atB s 1:Nat):Int),true,false,1,⟨#[]⟩,1,[]⟩:Ms):=rfl;generalize Dq k s G=M at *;generalize rdP s=P at *;by_cases c4:P.2=0;rotate_left
 ·rw[if_neg (fun z=>c4 z.1)]at hM;have hFn:=hFit.sub_hd (u':=.agg (Zv M)) fun w R x h=>Aiy (by rw[hM]) h;subst hM;rw[hA,show(P.2==0)=false from ZG.2 c4];refine G0 ?_;refine .inl (cX hFn ?_);refine G1 ?_;intro gg;(exact⟨[],aI⟩)
 rw[c4];refine G0 ?_;rw[ZE];by_cases c5:P.1.rs.length=0;rotate_left
 ·rw[if_neg (fun z=>c5 z.2)]at hM;have hFn:=hFit.sub_hd (u':=.agg (Zv M)) fun w R x h=>Aiy (by rw[hM]) h;subst hM;rw[hA,show((P.1.rs.length:Int)==0)=false from ZG.2 (by omega)];refine G0 ?_;refine .inl (cX hFn ?_);refine G1 ?_;intro gg;(exact⟨[],aI⟩)
 rw[if_pos ⟨c4,c5⟩]at hM;rw[hA,c5];refine G0 ?_;refine .inl (cX hr ?_);refine G1 ?_;intro gg;rw[←hM];refine G0 ?_;refine .inl (cX hFit ?_);refine G1 ?_;intro gg;(exact⟨[],aI⟩)
namespace Pl
def Fy(n:ByteArray)(K:List Sv):List Sv:=K.filter fun s=>s.nd.toList==n.toList
def Vy(ns:List ByteArray)(s:Sv):List ByteArray:=bif ns.any (fun n=>n.toList==s.nd.toList)then ns else ns++[s.nd]
def nms(K:List Sv):List ByteArray:=K.foldl Vy []
theorem P9(K:List Sv)(s:Sv):nms (K++[s])=Vy (nms K) s:=by simp[nms,List.foldl_append]
theorem tEq{a b:ByteArray}:(a.toList==b.toList)=true↔a=b:=⟨fun h=>toList_inj (ZR.1 h),fun h=>by rw[h];exact beq_self_eq_true _⟩
theorem Aq4{ns:List ByteArray}{m:ByteArray}:ns.any (fun n=>n.toList==m.toList)=true↔m∈ns:=by
 rw[List.any_eq_true];exact⟨fun⟨n,h1,h2⟩=>tEq.1 h2▸h1,fun h=>⟨m,h,tEq.2 rfl⟩⟩
theorem Rz{ns:List ByteArray}{s:Sv}(h:s.nd∈ns):Vy ns s=ns:=by unfold Vy;rw[Aq4.2 h];rfl
theorem N3{ns:List ByteArray}{s:Sv}(h:s.nd∉ns):Vy ns s=ns++[s.nd]:=by
 unfold Vy;rw[XE.2 (fun e=>h (Aq4.1 e))];rfl
theorem Z4:∀(K:List Sv) (ns:List ByteArray),(∀n,n∈K.foldl Vy ns↔n∈ns∨∃s∈K,s.nd=n)∧(ns.Nodup→(K.foldl Vy ns).Nodup)∧(K.foldl Vy ns).length≤ns.length+K.length
 |[],ns=>⟨fun n=>by simp,id,by simp⟩
 |s::K,ns=>by
  obtain⟨h1,h2,h3⟩:=Z4 K (Vy ns s);by_cases h:s.nd∈ns
  ·rw[List.foldl_cons];rw[Rz h]at *;refine⟨fun n=>(h1 n).trans ⟨fun q=>q.imp id fun⟨t,a,b⟩=>⟨t,ZL _ a,b⟩,fun q=>?_⟩,h2,by simp only[ZJ];omega⟩;rcases q with q|⟨t,a,b⟩
   ·exact .inl q
   ·rcases XC.1 a with e|e
    ·subst e;exact .inl (b▸h)
    ·exact .inr ⟨t,e,b⟩
  ·rw[List.foldl_cons];rw[N3 h]at *;refine⟨fun n=>(h1 n).trans ?_,fun hn=>h2 ?_,by simp only[ZJ,ZF,ZN]at *;omega⟩
   ·rw[XM,XN];constructor
    ·rintro ((q|q)|⟨t,a,b⟩)
     ·exact .inl q
     ·exact .inr ⟨s,XB ..,q.symm⟩
     ·exact .inr ⟨t,ZL _ a,b⟩
    ·rintro (q|⟨t,a,b⟩)
     ·exact .inl (.inl q)
     ·rcases XC.1 a with e|e
      ·subst e;exact .inl (.inr b.symm)
      ·exact .inr ⟨t,e,b⟩
   ·rw[List.nodup_append];refine⟨hn,by simp,fun a ha b hb e=>?_⟩;rw[XN]at hb;subst hb;subst e;exact h ha
theorem Ys{K:List Sv}{n:ByteArray}:n∈nms K↔∃s∈K,s.nd=n:=((Z4 K []).1 n).trans (by simp)
theorem Alj(K:List Sv):(nms K).length≤K.length:=by have:=(Z4 K []).2.2;simpa[nms]using this
theorem Af8{K:List Sv}{n:ByteArray}(h:n∈nms K):∃s l,Fy n K=s::l∧s.nd=n:=by
 obtain⟨s,h1,h2⟩:=Ys.1 h;have hm:s∈Fy n K:=List.mem_filter.2 ⟨h1,tEq.2 h2⟩;cases hl:Fy n K with
 |nil=>rw[hl]at hm;cases hm
 |cons t l=>
  have:t∈Fy n K:=by rw[hl];exact XB ..
  exact⟨t,l,rfl,tEq.1 (List.mem_filter.1 this).2⟩
theorem Auc{K:List Sv}{n:ByteArray}(h:n∉nms K):Fy n K=[]:=List.filter_eq_nil_iff.2 fun s hs e=>h (Ys.2 ⟨s,hs,tEq.1 e⟩)
theorem Oe(K:List Sv)(s:Sv)(n:ByteArray):Fy n (K++[s])=Fy n K++(bif s.nd.toList==n.toList then [s]else []):=by
 unfold Fy;rw[List.filter_append,List.filter_cons];cases s.nd.toList==n.toList<;>rfl
theorem S5(k:ByteArray)(v:V):∀(l:List (ByteArray×V)) (o i:Nat) (u:V),look k l o=some (i,u)→look k (l.set (i-o) (k,v)) o=some (i,v)
 |[],o,i,u,h=>by simp[look]at h
 |(a,w)::es,o,i,u,h=>by
  unfold look at h;split at h
  ·simp only[ZD,Prod.mk.injEq]at h;obtain⟨rfl,rfl⟩:=h;simp[look]
  ·rename_i hk;have h1:=(Ro h).1;rw[show i-o=(i-(o+1))+1 by omega,List.set_cons_succ];unfold look;rw[if_neg hk];exact S5 k v es (o+1) i u h
theorem Xh{k k':ByteArray}(hne:k'≠k)(v:V):∀(l:List (ByteArray×V)) (o i:Nat) (u:V),look k l o=some (i,u)→look k' (l.set (i-o) (k,v)) o=look k' l o
 |[],o,i,u,h=>by simp[look]at h
 |(a,w)::es,o,i,u,h=>by
  unfold look at h;split at h
  ·rename_i hk;simp only[ZD,Prod.mk.injEq]at h;obtain⟨rfl,rfl⟩:=h;subst hk;simp[look,hne]
  ·rename_i hk;have h1:=(Ro h).1;rw[show i-o=(i-(o+1))+1 by omega,List.set_cons_succ];unfold look;rw[Xh hne v es (o+1) i u h]
theorem Wy{k k':ByteArray}(v:V):∀(l:List (ByteArray×V)) (o:Nat),look k' (l++[(k,v)]) o=(match look k' l o with
  |some r=>some r
  |none=>if k'=k then some (o+l.length,v)else none)
 |[],o=>by simp[look]
 |(a,w)::es,o=>by
  rw[List.cons_append];unfold look;split
  ·rfl
  ·rw[Wy v es (o+1),ZJ,show o+1+es.length=o+(es.length+1)by omega]
theorem S4(k:ByteArray)(v:V)(l:List (ByteArray×V)):∃j,look k (put l k v) 0=some (j,v):=by
 unfold put;cases h:look k l 0 with
 |none=>exact⟨0+l.length,by simp only[];rw[Wy,h];simp⟩
 |some p=>obtain⟨i,u⟩:=p;exact⟨i,by simpa using S5 k v l 0 i u h⟩
theorem L8{k k':ByteArray}(hne:k'≠k)(v:V)(l:List (ByteArray×V)):look k' (put l k v) 0=look k' l 0:=by
 unfold put;cases h:look k l 0 with
 |none=>simp only[];rw[Wy];cases look k' l 0<;>simp[hne]
 |some p=>obtain⟨i,u⟩:=p;simpa using Xh hne v l 0 i u h
theorem Axe{a b:Sv}(h:a.row=b.row):a.nd=b.nd:=by
 unfold Sv.row at h;injection h with h _
 injection h with h;injection h
structure Grp(T:TypeId)(K:List Sv)(E:List (ByteArray×V))(ss:List SE):Prop where
 has:∀n∈nms K,∃j s,look n E 0=some (j,.v s.val)∧s∈ss∧s.T=T∧s.sz=9∧s.rows=(Fy n K).map Sv.row
 no:∀n,n∉nms K→look n E 0=none
theorem Grp.nil(T:TypeId):Grp T [] [] []:=⟨fun n h=>by simp[nms]at h,fun n _=>rfl⟩
theorem Grp.new{T:TypeId}{K:List Sv}{E:List (ByteArray×V)}{ss:List SE}(h:Grp T K E ss)(s:Sv)(hn:s.nd∉nms K)(b cap:Nat):Grp T (K++[s]) (put E s.nd (.v (SE.val ⟨T,9,b,cap,[s.row]⟩))) (⟨T,9,b,cap,[s.row]⟩::ss):=by
 have e:nms (K++[s])=nms K++[s.nd]:=by rw[P9,N3 hn]
 constructor
 ·intro n hm;rw[e]at hm;by_cases hc:n=s.nd
  ·subst hc;obtain⟨j,hj⟩:=S4 s.nd (.v (SE.val ⟨T,9,b,cap,[s.row]⟩)) E;refine⟨j,_,hj,XB ..,rfl,rfl,?_⟩;rw[Oe,Auc hn,tEq.2 rfl];rfl
  ·have hm':n∈nms K:=by
    rcases XM.1 hm with q|q
    ·exact q
    ·exact absurd (XN.1 q) hc
   obtain⟨j,t,h1,h2,h3,h4,h5⟩:=h.has n hm';refine⟨j,t,by rw[L8 hc];exact h1,ZL _ h2,h3,h4,?_⟩;rw[Oe,XE.2 (fun q=>hc (tEq.1 q).symm),cond_false,List.append_nil];exact h5
 ·intro n hm;rw[e]at hm;rw[L8 (fun q=>hm (XM.2 (.inr (by rw[q];exact List.mem_singleton_self _))))];exact h.no n fun q=>hm (XM.2 (.inl q))
theorem Grp.old{T:TypeId}{K:List Sv}{E:List (ByteArray×V)}{ss1 ss2:List SE}{t:SE}(h:Grp T K E (ss1++t::ss2))(s:Sv)(hn:s.nd∈nms K)(ht:t.rows=(Fy s.nd K).map Sv.row)(b cap:Nat):
  Grp T (K++[s]) (put E s.nd (.v (SE.val ⟨T,9,b,cap,t.rows++[s.row]⟩))) (⟨T,9,b,cap,t.rows++[s.row]⟩::(ss1++ss2)):=by
 have e:nms (K++[s])=nms K:=by rw[P9,Rz hn]
 constructor
 ·intro n hm;rw[e]at hm;by_cases hc:n=s.nd
  ·subst hc;obtain⟨j,hj⟩:=S4 s.nd (.v (SE.val ⟨T,9,b,cap,t.rows++[s.row]⟩)) E;refine⟨j,_,hj,XB ..,rfl,rfl,?_⟩;rw[Oe,tEq.2 rfl,cond_true,ZI,←ht];rfl
  ·obtain⟨j,u,h1,h2,h3,h4,h5⟩:=h.has n hm;refine⟨j,u,by rw[L8 hc];exact h1,ZL _ ?_,h3,h4,?_⟩
   ·rcases XM.1 h2 with q|q
    ·exact XM.2 (.inl q)
    ·rcases XC.1 q with q|q
     ·exfalso;subst q;obtain⟨x,l,p1,p2⟩:=Af8 hm;obtain⟨y,l',r1,r2⟩:=Af8 hn;rw[h5,p1,r1,List.map_cons,List.map_cons]at ht;injection ht with ht _
      exact hc (by rw[←p2,←r2];exact Axe ht)
     ·exact XM.2 (.inr q)
   ·rw[Oe,XE.2 (fun q=>hc (tEq.1 q).symm),cond_false,List.append_nil];exact h5
 ·intro n hm;rw[e]at hm;rw[L8 (fun q=>hm (by rw[q];exact hn))];exact h.no n hm
def fK(k:Kn)(q:Qr):List Sv:=keep (fun s=>Cc k.ms s.nd) (C8 k.l q.sv q.tg).2
noncomputable def Bh(k:Kn)(q:Qr):List Sv:=((Ii (cfN (Bx k.f k.wh)) (nms (fK k q))).flatMap fun n=>Fy n (fK k q)).take 20
theorem Alf{K:List Sv}{m:Nat}(hK:K.length≤m):∀ns:List ByteArray,(ns.flatMap fun n=>Fy n K).length≤ns.length*m
 |[]=>by simp
 |n::ns=>by
  have h1:(Fy n K).length≤m:=XI (List.length_filter_le _ _) hK;have h2:=Alf hK ns;rw[List.flatMap_cons,ZF,ZJ,Nat.add_mul];omega
end Pl
namespace Pl
def Mn(K:List Sv):Prop:=K.Pairwise fun a b=>slt b.nd a.nd=false
theorem Avc{l:List Sv}(h:Cz Sv.lt l=true):Mn l:=by
 rw[Mn,List.pairwise_iff_getElem];intro i j hi hj hij;have:=Ra Sv.lt_trans h j i hj hij;rcases Sv.lt_iff.1 this with q|⟨q,_⟩
 ·exact W6 q
 ·rw[q];exact Fj _
theorem Mn.filter{K:List Sv}(h:Mn K)(p:Sv→Bool):Mn (K.filter p):=List.Pairwise.filter p h
theorem Mn.take{K:List Sv}(h:Mn K)(n:Nat):Mn (K.take n):=h.sublist (List.take_sublist _ _)
theorem Am1:∀(K:List Sv) (ns L:List ByteArray),ns.Sublist L→(K.foldl Vy ns).Sublist (L++K.map (·.nd))
 |[],ns,L,h=>by simpa using h
 |s::K,ns,L,h=>by
  have h':(Vy ns s).Sublist (L++[s.nd]):=by
   by_cases q:s.nd∈ns
   ·rw[Rz q];exact h.trans (List.sublist_append_left _ _)
   ·rw[N3 q];exact h.append (List.Sublist.refl _)
  have:=Am1 K _ _ h';simpa using this
theorem Asx{K:List Sv}(h:Mn K):(nms K).Pairwise fun a b=>slt b a=false:=by
 have h1:(K.map (·.nd)).Pairwise fun a b=>slt b a=false:=List.pairwise_map.2 h;have h2:=Am1 K [] [] (List.Sublist.refl _);rw[List.nil_append]at h2;exact h1.sublist h2
theorem Aqv{K:List Sv}{s:Sv}(h:Mn (K++[s])){n:ByteArray}(hl:(nms K).getLast? =some n):s.nd∈nms K↔n=s.nd:=by
 obtain⟨ini,hi⟩:=List.getLast?_eq_some_iff.1 hl;have hn:n∈nms K:=by rw[hi];simp
 refine⟨fun q=>?_,fun e=>e▸hn⟩;have hK:Mn K:=(List.pairwise_append.1 h).1;have h1:slt s.nd n=false:=by
  obtain⟨t,ht,e⟩:=Ys.1 hn;rw[←e];exact(List.pairwise_append.1 h).2.2 t ht s (List.mem_singleton_self _)
 have h2:slt n s.nd=false:=by
  rw[hi]at q;rcases XM.1 q with q|q
  ·have hp:=Asx hK;rw[hi]at hp;exact(List.pairwise_append.1 hp).2.2 _ q n (List.mem_singleton_self _)
  ·rw[XN.1 q];exact Fj _
 exact Ry h2 h1
def Lik(N:List ByteArray)(F:List Sv)(i k:Nat):List Sv:=(N.take i).flatMap (fun n=>Fy n F)++(match N[i]? with
 |some n=>Fy n (F.take k)
 |none=>[])
theorem Aio(N:List ByteArray)(F:List Sv)(i:Nat):Lik N F i 0=(N.take i).flatMap (fun n=>Fy n F):=by
 unfold Lik;cases N[i]? with
 |none=>simp
 |some n=>simp[Fy]
theorem Y2{N:List ByteArray}{F:List Sv}{i:Nat}(hi:i<N.length):Lik N F i F.length=Lik N F (i+1) 0:=by
 rw[Aio];unfold Lik;rw[ZC hi,XF,XT,ZC hi,Option.toList_some,List.flatMap_append,List.flatMap_cons,List.flatMap_nil,List.append_nil]
theorem An0{N:List ByteArray}{F:List Sv}{i k:Nat}(hi:i<N.length)(hk:k<F.length):Lik N F i (k+1)=if F[k].nd=N[i]then Lik N F i k++[F[k]]else Lik N F i k:=by
 unfold Lik;rw[ZC hi,XT,ZC hk];simp only[Option.toList];rw[Oe];by_cases e:F[k].nd=N[i]
 ·rw[if_pos e,tEq.2 e];simp
 ·rw[if_neg e,XE.2 (fun q=>e (tEq.1 q))];simp
theorem Ae8{N:List ByteArray}{F:List Sv}{i:Nat}(hi:i<N.length):∀(k d:Nat),k+d≤F.length→∃t,Lik N F i (k+d)=Lik N F i k++t
 |k,0,_=>⟨[],by simp⟩
 |k,d+1,h=>by
  have h1:k+d<F.length:=h;obtain⟨t,ht⟩:=Ae8 hi k d (Nat.le_of_lt h1);rw[←Nat.add_assoc,An0 hi h1,ht];split
  ·exact⟨t++[F[k+d]],by simp⟩
  ·exact⟨t,rfl⟩
theorem Aqo{N:List ByteArray}{F:List Sv}{i k:Nat}(hi:i<N.length)(hk:k≤F.length)(h:20≤(Lik N F i k).length):(Lik N F (i+1) 0).take 20=(Lik N F i k).take 20:=by
 rw[←Y2 hi];obtain⟨t,ht⟩:=Ae8 (N:=N) (F:=F) hi k (F.length-k) (by omega);rw[show k+(F.length-k)=F.length by omega]at ht;rw[ht,List.take_append_of_le_length h]
theorem Amu{N:List ByteArray}{F:List Sv}:Lik N F N.length 0=N.flatMap fun n=>Fy n F:=by rw[Aio,XF]
theorem Apa{aw:ByteArray→Bool}{F:List Sv}{n:ByteArray}(h:aw n=false):Fy n (Pl.keep (fun s=>aw s.nd) F)=Fy n F:=by
 unfold Fy Pl.keep;rw[List.filter_filter];congr 1;funext s;cases e:s.nd.toList==n.toList with
 |false=>rfl
 |true=>show(true&& !(aw s.nd))=true;rw[tEq.1 e,h];rfl
theorem Apr{aw:ByteArray→Bool}{F:List Sv}{n:ByteArray}(h:n∈nms (Pl.keep (fun s=>aw s.nd) F)):aw n=false:=by
 obtain⟨s,h1,rfl⟩:=Ys.1 h;have:=(List.mem_filter.1 h1).2;simpa using this
theorem Acs{aw:ByteArray→Bool}{F:List Sv}:∀{N:List ByteArray},(∀n∈N,aw n=false)→N.flatMap (fun n=>Fy n (Pl.keep (fun s=>aw s.nd) F))=N.flatMap fun n=>Fy n F
 |[],_=>rfl
 |n::N,h=>by
  rw[List.flatMap_cons,List.flatMap_cons,Apa (h n (XB ..)),Acs fun m hm=>h m (ZL _ hm)]
theorem Ahy{α:Type}{cf:α→α→Int}{d:List α}{x:α}(h:x∈Ii cf d):x∈d:=(List.mergeSort_perm d _).mem_iff.1 h
theorem Aad{α:Type}{cf:α→α→Int}{d:List α}:(Ii cf d).length=d.length:=(List.mergeSort_perm d _).length_eq
theorem Aub(k:Kn)(q:Qr):Bh k q=(Lik (Ii (cfN (Bx k.f k.wh)) (nms (fK k q))) (C8 k.l q.sv q.tg).2 (nms (fK k q)).length 0).take 20:=by
 unfold Bh;congr 1;have h:=Amu (N:=Ii (cfN (Bx k.f k.wh)) (nms (fK k q))) (F:=(C8 k.l q.sv q.tg).2);rw[Aad]at h;rw[h];exact Acs (aw:=Cc k.ms) fun n hn=>Apr (Ahy hn)
theorem Aes{k:Kn}{q:Qr}{s:Sv}(h:s∈Bh k q):s∈k.l∧Cc k.ms s.nd=false∧Sv.sought q.sv q.tg s=true:=by
 unfold Bh at h;have h:=List.mem_of_mem_take h;obtain⟨n,_,h2⟩:=List.mem_flatMap.1 h;have h3:=(List.mem_filter.1 h2).1;obtain⟨h4,h5⟩:=List.mem_filter.1 h3;have h6:s∈k.l∧Sv.sought q.sv q.tg s=true:=by
  unfold C8 at h4
  repeat' split at h4
  all_goals first
   |(simp at h4;done)
   |exact List.mem_filter.1 h4
 exact⟨h6.1,by simpa using h5,h6.2⟩
theorem Amj(k:Kn)(q:Qr):(Bh k q).length≤20:=by unfold Bh;rw[ZM];omega
theorem Afc{k:Kn}(h:k.err=0):lab k.here.data.toList=true∧Ei k.l=0∧F6 k.ms=0∧k.wh.length≤20∧k.f.err=0∧Cp (k.wh.map fun w=>w.pl.err)=0:=by
 unfold Kn.err at h;cases h0:lab k.here.data.toList with
 |false=>rw[h0]at h;exact absurd h (by decide:¬(1:Int)=0)
 |true=>
  rw[h0]at h;simp only[Bool.not_true,cond_false]at h;by_cases h1:Ei k.l≠0
  ·rw[if_pos h1]at h;exact absurd h h1
  rw[if_neg h1]at h;by_cases h2:F6 k.ms≠0
  ·rw[if_pos h2]at h;exact absurd h h2
  rw[if_neg h2]at h;by_cases h3:20<k.wh.length
  ·rw[if_pos h3]at h;exact absurd h (by decide)
  rw[if_neg h3]at h;by_cases h4:k.f.err≠0
  ·rw[if_pos h4]at h;exact absurd h h4
  rw[if_neg h4]at h;exact⟨rfl,by simpa using h1,by simpa using h2,by omega,by simpa using h4,h⟩
theorem Av6{l:List Sv}(h:Ei l=0):∀s∈l,s.err=0:=fun s hs=>by
 obtain⟨i,hi,e⟩:=List.getElem_of_mem hs;rw[←e];exact(Jo h).2.1 i hi
end Pl
namespace Pl
theorem L3:Ao ⟨#[]⟩=0:=by decide+kernel
theorem V0:em ⟨#[]⟩=true:=by simp[em]
theorem Ah9{s:ByteArray}(h:Ao s=0):(Bv s).length≤249:=by
 obtain⟨h1,h2,_⟩:=Ab4 h;have:=Rs (l:=A5 s) (m:=30) fun x hx=>(Aj2 (h1 x hx)).2;unfold Bv;rw[ZF,List.length_singleton];omega
theorem Abs{m:Ms}(h:m.Good):(Cx (Eh m 0)).length≤512:=by
 have h1:=Ah9 h.qn;have h2:(Eh m 0).rs=[]:=by show m.rs.take 0=[];simp
 unfold Cx;rw[h2];simp only[ZF,Au,ZJ,ZN];show 2*6+(Bv m.qn).length+2*2+0≤512;omega
theorem Z6{m:Ms}(h:m.Good):∀n,∃j,j≤n∧(Cx (Eh m j)).length≤512∧Ny m 512 n=(bA (Cx (Eh m j)),0)
 |0=>⟨0,ZT _,Abs h,Qf (by have:=Abs h;omega)⟩
 |n+1=>by
  by_cases q:((Cx (Eh m (n+1))).length:Int)≤512
  ·exact⟨n+1,ZT _,by omega,Qf q⟩
  ·obtain⟨j,h1,h2,h3⟩:=Z6 h n;exact⟨j,by omega,h2,(Afj q).trans h3⟩
theorem Y8{m:Ms}(h:A4 m=0):∃j,j≤m.rs.length∧(Cx (Eh m j)).length≤512∧Jn m 512=(bA (Cx (Eh m j)),0):=by
 have e0:Jn m 512=if A4 m≠0 then(⟨#[]⟩,A4 m)else Ny m 512 m.rs.length:=rfl
 obtain⟨j,h1,h2,h3⟩:=Z6 (G9 h).1 m.rs.length;exact⟨j,h1,h2,by rw[e0,if_neg (by simp[h]),h3]⟩
theorem Rw{r:Rr}(h1:Ao r.nm=0)(h2:Fk r.ty=true)(h3:wIn r.ls 0 2147483647=true)(h4:r.un=true)(h5:wIn r.ad 0 4294967295=true)(h6:wIn r.pt 0 65535=true)(h7:r.tx.size≤200)(h8:Ao r.tg=0):Cu r=0:=by
 unfold Cu;rw[if_neg (by simp[h1]),h2,h3,h4,h5,h6,if_neg (by omega),h8];rfl
theorem Aw7 {s : Sv} (h : s.err = 0) : lab s.nd.data.toList = true ∧ lab s.id.data.toList = true ∧ wIn s.ad 0 4294967295 = true ∧ wIn s.pt 0 65535 = true := by
  unfold Sv.err at h
  repeat' split at h
  all_goals first
    | (simp at h; done)
    | (simp only [Ae2] at *
       refine ⟨by assumption, by assumption, ?_, ?_⟩ <;> unfold wIn <;> simp_all)
theorem Auw{here nm:ByteArray}{t:Int}{s:Sv}(hs:s.err=0)(hn:Ao nm=0)(ht:Fk t=true)(e:(C3 here t nm s).2=0):Cu (C3 here t nm s).1=0:=by
 obtain⟨b1,b2,b3,b4⟩:=Aw7 hs;have w0:∀b:Int,0≤b→wIn 0 0 b=true:=fun b hb=>by unfold wIn;simp[hb]
 have hz:(⟨#[]⟩:ByteArray).size≤200:=by decide
 by_cases t1:t=1
 ·subst t1;rw[show C3 here 1 nm s=(⟨nm,1,0,s.ad,⟨#[]⟩,0,⟨#[]⟩⟩,0)from if_pos rfl];exact Rw hn rfl (w0 _ (by decide)) (by simp[Rr.un,V0]) b3 (w0 _ (by decide)) hz L3
 by_cases t16:t=16
 ·subst t16;rw[show C3 here 16 nm s=(⟨nm,16,0,0,s.id,0,⟨#[]⟩⟩,0)from(if_neg (by decide)).trans (if_pos rfl)];exact Rw hn rfl (w0 _ (by decide)) (by simp[Rr.un,V0]) (w0 _ (by decide)) (w0 _ (by decide)) (by have:=(Aj2 b2).2;show s.id.size≤200;omega) L3
 by_cases t33:t=33
 ·subst t33;have e0:C3 here 33 nm s=if(Ah ⟨⟨#[]⟩,⟨#[]⟩,s.nd,here⟩).2≠0 then(⟨nm,33,0,0,⟨#[]⟩,0,⟨#[]⟩⟩,(Ah ⟨⟨#[]⟩,⟨#[]⟩,s.nd,here⟩).2)
   else(⟨nm,33,0,0,⟨#[]⟩,s.pt,(Ah ⟨⟨#[]⟩,⟨#[]⟩,s.nd,here⟩).1⟩,0):=rfl
  rw[e0]at e ⊢;by_cases c:(Ah ⟨⟨#[]⟩,⟨#[]⟩,s.nd,here⟩).2=0
  ·rw[if_neg (by simpa using c)];obtain⟨p1,p2⟩:∃p,Ah ⟨⟨#[]⟩,⟨#[]⟩,s.nd,here⟩=(p,0):=⟨_,Prod.ext rfl c⟩;obtain⟨_,q2,q3⟩:=Ix p2;refine Rw hn rfl (w0 _ (by decide)) (by simp[Rr.un,V0]) (w0 _ (by decide)) b4 hz ?_;show Ao (Ah ⟨⟨#[]⟩,⟨#[]⟩,s.nd,here⟩).1=0;rw[p2,←q3];exact q2
  ·rw[if_pos c]at e;exact absurd e c
 ·exfalso;simp[Fk,t1,t16,t33]at ht
structure Aer(x:List Rr×Int×Int):Prop where
 co:x.2.1=0∨x.2.1=3
 len:x.1.length≤20
 rs:∀r∈x.1,Cu r=0
theorem Ar8{k:Kn}{q:Qr}{t:Int}{nm:ByteArray}{F:List Sv}(hn:Ao nm=0)(ht:Fk t=true)(hF:F.length≤20)(hs:∀s∈F,s.err=0):Aer (Jx k q t nm F):=by
 unfold Jx;by_cases h1:Cp (F.map fun s=>(C3 k.here t nm s).2)=0
 ·rw[if_neg (by simpa using h1)];split
  ·exact⟨.inr rfl,ZU _,fun r hr=>by cases hr⟩
  ·refine⟨.inl rfl,by simpa using hF,fun r hr=>?_⟩;obtain⟨s,h2,rfl⟩:=XO.1 hr;exact Auw (hs s h2) hn ht (P5 h1 _ (List.mem_map_of_mem h2))
 ·rw[if_pos h1];exact⟨.inl rfl,ZU _,fun r hr=>by cases hr⟩
theorem As5{k:Kn}{q:Qr}{t:Int}{nm:ByteArray}(hn:Ao nm=0)(hm:F6 k.ms=0):Aer ((Jc k q t nm).1,(Jc k q t nm).2,0):=by
 unfold Jc;split
 ·exact⟨.inr rfl,ZU _,fun r hr=>by cases hr⟩
 ·split
  ·exact⟨.inl rfl,ZU _,fun r hr=>by cases hr⟩
  ·rename_i t1;have t1:t=1:=by simpa using t1
   split
   ·rename_i m hm1;refine⟨.inl rfl,by simp,fun r hr=>?_⟩;obtain⟨hi,e⟩:=ZB.1 hm1;have hb:m.err=0:=by rw[←e];exact(P4 hm).2.1 _ hi
    have ha:wIn m.ad 0 4294967295=true:=by
     unfold Mb.err at hb
     repeat' split at hb
     all_goals first
      |(simp at hb;done)
      |(rename_i h;rw[ZO,Ae2,Ae2]at h;unfold wIn;simp[h.2.1,h.2.2])
    rw[XN.1 hr,t1];have w0:∀b:Int,0≤b→wIn 0 0 b=true:=fun b hb=>by unfold wIn;simp[hb]
    exact Rw hn rfl (w0 _ (by decide)) (by simp[Rr.un,V0]) ha (w0 _ (by decide)) (by show(⟨#[]⟩:ByteArray).size≤200;decide) L3
   ·exact⟨.inl rfl,ZU _,fun r hr=>by cases hr⟩
theorem Aab(k:Kn)(q:Qr)(t:Int):Aer (C7 k q t (Bh k q)):=by
 have bad:∀e:Int,Aer ([],0,e):=fun e=>⟨.inl rfl,ZU _,fun r hr=>by cases hr⟩;unfold C7;by_cases h1:Jt k q t=0
 ·rw[if_neg (by simpa using h1)];by_cases h2:(Ah q).2=0
  ·rw[if_neg (by simpa using h2)];obtain⟨p1,p2⟩:∃p,Ah q=(p,0):=⟨_,Prod.ext rfl h2⟩;obtain⟨_,q2,q3⟩:=Ix p2;have hn:Ao (Ah q).1=0:=by rw[p2,←q3];exact q2
   have hk:Fk t=true∧k.err=0:=by
    unfold Jt at h1;split at h1
    ·rename_i h;exact absurd h1 h
    ·split at h1
     ·cases h1
     ·rename_i h;exact⟨by simpa using h,h1⟩
   have hi:=Afc hk.2;split
   ·exact⟨.inr rfl,ZU _,fun r hr=>by cases hr⟩
   ·split
    ·exact As5 hn hi.2.2.1
    ·exact Ar8 hn hk.1 (Amj k q) fun s hs=>Av6 hi.2.1 s (Aes hs).1
  ·rw[if_pos h2];exact bad _
 ·rw[if_pos h1];exact bad _
theorem Ak9{l:List Int}(h:∀e∈l,e=0):Cp l=0:=I1 fun j hj=>h _ (ZK hj)
theorem Nj{m:Ms}(h1:wIn m.id 0 65535=true)(h2:wIn m.co 0 15=true)(h3:m.rs.length≤20)(h4:Ao m.qn=0)(h5:Fk m.qt=true)(h6:∀r∈m.rs,Cu r=0):A4 m=0:=by
 unfold A4;rw[h1,h2,if_neg (by omega),if_neg (by simp[h4]),h5,Ak9]
 ·rfl
 ·intro e he;obtain⟨r,hr,rfl⟩:=XO.1 he;exact h6 r hr
theorem Aap{m:Ms}(h:A4 m=0):wIn m.id 0 65535=true∧Ao m.qn=0∧Fk m.qt=true:=by
 obtain⟨hg,_⟩:=G9 h;refine⟨?_,hg.qn,?_⟩
 ·unfold wIn;simp[hg.id.1,hg.id.2]
 ·rcases hg.qt with e|e|e<;>rw[e]<;>rfl
theorem Rf{k:Kn}{m:Ms}(h:A4 m=0):A4 (Hj k m (Bh k))=0∧(Hj k m (Bh k)).id=m.id∧(Hj k m (Bh k)).an=true∧(Hj k m (Bh k)).qn=m.qn∧(Hj k m (Bh k)).qt=m.qt:=by
 obtain⟨h1,h2,h3⟩:=Aap h;have c:∀n:Int,0≤n→n≤15→wIn n 0 15=true:=fun n a b=>by unfold wIn;simp[a,b]
 unfold Hj;split
 ·have cA:0≤(if Ma (A8 m.qn).2=0 then(3:Int)else Ma (A8 m.qn).2)∧(if Ma (A8 m.qn).2=0 then(3:Int)else Ma (A8 m.qn).2)≤15:=by
   unfold Ma
   repeat' split
   all_goals omega
  exact⟨Nj h1 (c _ cA.1 cA.2) (ZU _) h2 h3 (fun r hr=>by cases hr),rfl,rfl,rfl,rfl⟩
 ·split
  ·exact⟨Nj h1 rfl (ZU _) h2 h3 (fun r hr=>by cases hr),rfl,rfl,rfl,rfl⟩
  ·have hR:=Aab k (A8 m.qn).1 m.qt;exact⟨Nj h1 (c _ (by show 0≤(C7 k (A8 m.qn).1 m.qt (Bh k (A8 m.qn).1)).2.1;rcases hR.co with e|e<;>rw[e]<;>decide) (by show(C7 k (A8 m.qn).1 m.qt (Bh k (A8 m.qn).1)).2.1≤15;rcases hR.co with e|e<;>rw[e]<;>decide)) hR.len h2 h3 hR.rs,rfl,rfl,rfl,rfl⟩
theorem Sc(s:ByteArray):(∃x,rdP s=(x,0)∧A4 x=0)∨(rdP s).2≠0:=by
 by_cases hl:512<s.size
 ·rw[Qm hl];exact .inr (by decide)
 ·rcases e:Od s with _|m
  ·rw[Fu hl e];exact .inr (by decide)
  ·rw[N5 hl e];by_cases he:A4 m=0
   ·rw[if_pos he];exact .inl ⟨m,rfl,he⟩
   ·rw[if_neg he];exact .inr (by decide)
theorem Ug(k:Kn)(s:ByteArray):A4 (Dq k s (Bh k))=0:=by
 unfold Dq;split
 ·rename_i h;rcases Sc s with⟨x,e,hx⟩|e
  ·rw[e];exact(Rf hx).1
  ·exact absurd h.1 e
 ·refine Nj ?_ rfl (ZU _) L3 rfl (fun r hr=>by cases hr);have h0:=Is s 0;have h1:=Is s 1;show wIn ((atB s 0*256+atB s 1:Nat):Int) 0 65535=true;unfold wIn;rw[show decide ((0:Int)≤((atB s 0*256+atB s 1:Nat):Int))=true from ZX (by omega),show decide (((atB s 0*256+atB s 1:Nat):Int)≤65535)=true from ZX (by omega)];rfl
end Pl
end Go.Proofs.YtbnocibpoghfhaaGreatDoor

namespace Go.Proofs.YtbnocibpoghfhaaGreatDoor
open Go.RowKit Pl
theorem Ahl(cl:Bool)(l:List Sv)(f:FuncId)(caps:List V)(hcaps:∀u∈caps,Cl u)(p:Sv→Bool)(hl:l.length≤1000)(hf:∀x∈l,Fun Tryz.prog f (.c (.agg (Sv.row x))::caps.map .c) [.c (.v (.bool (p x)))]):
  Fun Tryz.prog 120 [.c (.sl cl (l.map Sv.row)),.c (.clo f caps)] [.c (.v (.int .i64 (at_ p l)))]:=by
 refine Ar Fd rfl ?_;refine G0 ?_;rw[ZE];(refine⟨[],none,{k:Nat//k≤l.length∧∀j,(h:j<l.length)→j<k→p l[j]=false},[0,1,7],fun⟨k,hk,h0⟩=>[(8,.v (.int .i64 k))],[],fun⟨k,hk,h0⟩=>[],fun⟨k,hk,h0⟩=>l.length-k,trivial,fun _=>⟨trivial,fun _=>⟨⟨0,by omega,fun j _ h=>by omega⟩,tI,Af _ _,tI,Ae _ _⟩⟩,fun⟨k,hk,h0⟩=>?_⟩);refine G0 ?_;(refine Aa (fun h=>?_) (fun h=>?_)<;>rw[h])
 ·have hlt:k<l.length:=(by have:=ZV h;omega);refine G0 ?_;refine⟨k,_,rfl,Ad hlt,?_⟩;refine G0 ?_;refine .inl (cX (hf _ (ZK hlt)) ?_);refine G1 ?_;intro gg;(refine Aa (fun h2=>?_) (fun h2=>?_)<;>rw[h2])
  ·refine G0 ?_;rw[Vq hlt h0 h2];(exact⟨[],aI⟩)
  ·refine G0 ?_;(exact⟨none,trivial,fun _=>⟨⟨k+1,by omega,up1 (p:=fun j h=>p l[j]=false) h0 (fun _=>h2)⟩,by show l.length-(k+1)<l.length-k;omega,tI,tI,tI,tI⟩⟩)
 ·have hge:¬k<l.length:=(by have:=ZW h;omega);refine G0 ?_;rw[Ad9 (p:=p) (l:=l) (fun i hi=>h0 i hi (by omega))];(exact⟨[],aI⟩)
theorem Ac7(l:List Sv)(f:FuncId)(caps:List V)(hcaps:∀u∈caps,Cl u)(p:Sv→Bool)(hl:l.length≤1000)(hf:∀x∈l,Fun Tryz.prog f (.c (.agg (Sv.row x))::caps.map .c) [.c (.v (.bool (p x)))]):
  Fun Tryz.prog 95 [.o 39 9 (l.map Sv.row),.c (.clo f caps)] [.o 39 9 ((keep p l).map Sv.row)]:=by
 refine Ar E8 rfl ?_;refine G0 ?_;refine .inl (cY (Ahl false l f caps hcaps p hl hf) ?_);rcases Ajp (p:=p) (l:=l)with⟨h1,h2⟩|⟨k,hk,h1,h2,h3⟩
 ·rw[h1,Pl.keep_all (p:=p) (l:=l) h2];refine G1 ?_;intro gg;(exact⟨[0],aI⟩)
 ·rw[h1];refine G1 ?_;intro gg;(refine⟨[],none,{q:List Sv×Nat×Nat//Ju p l q.1 q.2.1 q.2.2},[0,1,36,37,39,40,41],fun⟨⟨l',i,j⟩,hm⟩=>[(5,.v (.int .i64 i)),(6,.v (.int .i64 j))],[],fun⟨⟨l',i,j⟩,hm⟩=>[(0,⟨0,39,9,l'.map Sv.row⟩)],fun⟨⟨l',i,j⟩,hm⟩=>l.length-j,trivial,fun _=>⟨trivial,fun _=>⟨⟨(l,k,k+1),Ju.start hk h2 h3⟩,tI,Af _ _,tI,Ae _ _⟩⟩,fun⟨⟨l',i,j⟩,hm⟩=>?_⟩);refine G0 ?_;have hm:Ju p l l' i j:=hm;have hlen:l'.length=l.length:=hm.len;(refine Aa (fun h=>?_) (fun h=>?_)<;>rw[h])
  ·have hlt:j<l'.length:=by have:=ZV h;simpa using this
   refine G0 ?_;refine⟨j,_,rfl,Ad hlt,?_⟩;refine G1 ?_;intro gg;have hj:j<l.length:=by omega
   have hx:l'[j]=l[j]:=hm.behind j hj (ZT _);rw[hx];refine .inl (cX (hf _ (ZK hj)) ?_);refine G1 ?_;intro gg;(refine Aa (fun h4=>?_) (fun h4=>?_)<;>rw[h4])
   ·have h4':p l[j]=false:=Dr h4;have hi:i<l'.length:=by have:=hm.ij;omega
    refine G0 ?_;refine⟨i,_,rfl,Ad hi,?_⟩;refine G0 ?_;have e:(l'.map Sv.row).set i (Sv.row l[j])=(l'.set i l[j]).map Sv.row:=List.map_set.symm;exact⟨none,trivial,fun gr=>⟨⟨(l'.set i l[j],i+1,j+1),hm.stays hj h4'⟩,by show l.length-(j+1)<l.length-j;omega,tI,tI,⟨congrArg (fun r=>some (Ent.mk 0 39 9 r)) e,trivial⟩,tI⟩⟩
   ·have h4':p l[j]=true:=Bw h4;refine G0 ?_;(exact⟨none,trivial,fun _=>⟨⟨(l',i,j+1),hm.gone hj h4'⟩,by show l.length-(j+1)<l.length-j;omega,tI,tI,tI,tI⟩⟩)
  ·have hge:¬j<l'.length:=by have:=ZW h;simpa using this
   have hi:i≤l'.length:=by have:=hm.ij;have:=hm.jl;omega
   refine G0 ?_;refine⟨1,i,(l'.map Sv.row).length,rfl,⟨_,rfl⟩,rfl,by simpa using hi,ZT _,?_⟩;refine G0 ?_;refine⟨by simpa using hi,ZT _,?_⟩;refine G0 ?_;refine⟨0,0,i,rfl,rfl,⟨_,rfl⟩,ZU _,?_,rfl,rfl,fun g=>?_⟩
   ·show i≤((l'.map Sv.row).take i++List.replicate ((l'.map Sv.row).length-i) _++(l'.map Sv.row).drop (l'.map Sv.row).length).length;simp only[ZF,ZM,ZE,List.length_replicate];omega
   refine G0 ?_;refine⟨[0],Afr rfl rfl rfl rfl rfl Dy ?_⟩;show((l'.map Sv.row).take i++List.replicate ((l'.map Sv.row).length-i) _++(l'.map Sv.row).drop (l'.map Sv.row).length).take i=(keep p l).map Sv.row;rw[ZS,List.take_append_of_le_length (by simp;omega),List.take_take,Nat.min_self,←hm.fin (by omega),List.map_take]
open Go
theorem Aji(k:Kn)(q:Qr)(t:Int)(nm:ByteArray)(s:Sv)(hl:k.ms.length≤1000)(hm:Aj9 (Mb.cf s.nd) k.ms):Fun Tryz.prog 96 [.c (.agg s.row),.c (.rptr [.rptr (k.ask q t nm) 0] 0)] [.c (.v (.bool (Cc k.ms s.nd)))]:=by
 refine Ar Of rfl ?_;refine G1 ?_;intro gg;(refine .inl ⟨_,_,false,[],.same (V5 k q t nm 0) (.same (As rfl) (.nil _)),Ahq k q t nm s.nd hl hm,Ab,nI,?_⟩);refine G1 ?_;intro gg;(exact⟨[],aI⟩)
theorem Asy{l:List Sv}{a b:ByteArray}(h:Ei l=0):(C8 l a b).2.length≤40:=by
 have:=(Jo h).1;unfold C8
 repeat' split
 all_goals first
  |exact ZU _
  |exact XI (Np l a b) this
theorem An7{l:List Int}(h:Cp l=0):∀e∈l,e=0:=by
 induction l with
 |nil=>intro e he;cases he
 |cons a l ih=>
  have h:(if a≠0 then a else Cp l)=0:=h;split at h
  ·rename_i ha;exact absurd h ha
  ·rename_i ha;intro e he;rcases XC.1 he with rfl|he
   ·simpa using ha
   ·exact ih h e he
set_option maxHeartbeats 2000000 in
theorem Akl(k:Kn)(q:Qr)(t:Int)(nm:ByteArray)(hk:k.In)(hq:q.ok)(he:k.err=0):Fun Tryz.prog 52 [.c (.rptr (k.ask q t nm) 0)] [.o 39 9 ((Bh k q).map Sv.row)]:=by
 obtain⟨i1,i2,i3,i4,i5,i6⟩:=Afc he;have hms:=At9 he;have hF:=Asy (a:=q.sv) (b:=q.tg) i2;have hD:=Ac7 (C8 k.l q.sv q.tg).2 96 [.rptr [.rptr (k.ask q t nm) 0] 0] (fun u hu=>by rw[XN.1 hu];exact Amc fun v hv=>by rw[XN.1 hv];exact V5 k q t nm 0) (fun s=>Cc k.ms s.nd) (by omega) (fun x hx=>Aji k q t nm x (by omega) (hms.2 x.nd));have hfK:fK k q=Pl.keep (fun s=>Cc k.ms s.nd) (C8 k.l q.sv q.tg).2:=rfl;have hKl:(fK k q).length≤40:=by rw[hfK];exact XI (List.length_filter_le _ _) hF
 refine Ar Pm rfl ?_;refine G1 ?_;intro gg;refine .inl (cX (Ajs k.l q.sv q.tg hk.ll hk.lo hq.1 hq.2.1) ?_);refine G1 ?_;intro gg;refine .inl ⟨_,_,true,[432],?_,hD,(fun _=>fI),nI,?_⟩
 ·exact Avj rfl Dy (by decide) (by decide) (.borc (Asa rfl rfl rfl (fun v hv=>by rw[XN.1 hv];exact V5 k q t nm 0) (by decide) Alq) (.nil _))
 rw[←hfK];generalize hK:fK k q=K at *;(refine goI ?_;repeat (intro gg;refine goI ?_));revert gg;intro gm;have hMn:Mn (C8 k.l q.sv q.tg).2:=by
  unfold C8
  repeat' split
  all_goals first
   |exact List.Pairwise.nil
   |exact(Avc (Jo i2).2.2).filter _
 (refine⟨[(6,96,9,1)],none,{p:Nat×Nat×List (ByteArray×V)×List SE//p.1≤K.length∧Grp 39 (K.take p.1) p.2.2.1 p.2.2.2},[1,5,34,35],fun⟨⟨i,g,E,ss⟩,hi,hG⟩=>[(6,.own 96 g),(36,.v (.int .i64 (i:Int)))],[16,512],fun⟨⟨i,g,E,ss⟩,hi,hG⟩=>[(96,⟨g,.t 9,1,(nms (K.take i)).map Dg⟩),(528,⟨gm,.q (J2 (ents E) ss),0,[]⟩)],fun⟨⟨i,g,E,ss⟩,hi,hG⟩=>K.length-i,(by exact⟨rfl,by decide,(fun _ _ _ _ h=>by cases h),trivial⟩),fun gs=>⟨trivial,fun _=>⟨⟨(0,gs 96,[],[]),ZU _,Grp.nil _⟩,tI,tI,tI,tI⟩⟩,fun⟨⟨i,g,E,ss⟩,hi,hG⟩=>?_⟩);simp only at hi hG;have hnl:=Alj (K.take i);rw[ZM]at hnl;have hnl2:((nms (K.take i)).map Dg).length≤40:=by rw[ZE];omega
 refine G0 ?_;simp only[ZE];by_cases c:i<K.length
 ·rw[show decide ((i:Int)<(K.length:Int))=true from ZX (by omega)];refine G0 ?_;refine⟨i,_,rfl,Ad c,?_⟩;refine G1 ?_;intro gg;have hMi:Mn (K.take i++[K[i]]):=by
   have:Mn (K.take (i+1)):=by
    rw[hfK];exact(hMn.filter _).take _
   rw[XT,ZC c]at this;exact this
  have et:K.take (i+1)=K.take i++[K[i]]:=by rw[XT,ZC c];rfl
  by_cases hm:K[i].nd∈nms (K.take i)
  ·obtain⟨j,u,h1,h2,h3,h4,h5⟩:=hG.has _ hm;obtain⟨x,l',p1,p2⟩:=Af8 hm;have hu0:u.rows.length≠0:=by rw[h5,p1];simp
   have hu4:u.rows.length≤40:=by
    rw[h5,ZE];have:(Fy K[i].nd (K.take i)).length≤(K.take i).length:=List.length_filter_le _ _;rw[ZM]at this;omega
   have hu9:u.rows≠[]:=fun e=>hu0 (by rw[e];rfl);have hur:∀row∈u.rows,∀v∈row,Cl v:=by rw[h5];exact Dy
   obtain⟨ss1,ss2,rfl⟩:=List.append_of_mem h2;have en:nms (K.take (i+1))=nms (K.take i):=by rw[et,P9,Rz hm]
   refine⟨_,Nb _ _,some (j,.v u.val),(D8 _ _ _).trans (by rw[h1]),?_⟩;refine G0 ?_;rw[show((u.rows.length:Int)==0)=false from ZG.2 (by omega)];refine G0 ?_;refine⟨_,Nb _ _,some (j,.v u.val),(D8 _ _ _).trans (by rw[h1]),?_⟩;refine G1 ?_;intro gg;refine⟨_,ss1,u,ss2,rfl,rfl,rfl,rfl,h4,h3,by decide,by decide,by decide,lI,lI,?_⟩;refine G1 ?_;intro gg;refine⟨⟨trivial,rfl,rfl,trivial,trivial,trivial,trivial,trivial,trivial,trivial⟩,?_⟩;refine G0 ?_;refine⟨Pl.ents E,ss1++ss2,some (j,.v u.val),39,rfl,(D8 _ _ _).trans (by rw[h1]),?_⟩;refine G0 ?_;refine⟨?_,?_,by decide,fun b cap=>?_⟩
   ·show u.rows++[Sv.row K[i]]≠[];simp
   ·show∀row∈u.rows++[Sv.row K[i]],∀v∈row,Cl v;rw[h5];exact Oi Dy (K1 rfl)
   refine G0 ?_;have e:=Za E K[i].nd (.v (SE.val ⟨39,9,b,cap,u.rows++[K[i].row]⟩));rw[h1]at e;have hG':Grp 39 (K.take (i+1)) (put E K[i].nd (.v (SE.val ⟨39,9,b,cap,u.rows++[K[i].row]⟩))) (⟨39,9,b,cap,u.rows++[K[i].row]⟩::(ss1++ss2)):=by rw[et];exact hG.old K[i] hm h5 b cap
   (exact⟨none,trivial,fun gr=>⟨⟨(i+1,g,_,_),Nat.succ_le_of_lt c,hG'⟩,by show K.length-(i+1)<K.length-i;omega,tI,tI,⟨congrArg (fun r=>some (Ent.mk g (.t 9) 1 (List.map Dg r))) en.symm,congrArg (fun x=>some (Ent.mk gm (.q (J2 x (⟨39,9,b,cap,u.rows++[K[i].row]⟩::(ss1++ss2)))) 0 [])) e,trivial⟩,tI⟩⟩)
  ·have hl:=hG.no _ hm;have en:nms (K.take (i+1))=nms (K.take i)++[K[i].nd]:=by rw[et,P9,N3 hm]
   have enr:(nms (K.take i)).map Dg++[Dg K[i].nd]=(nms (K.take (i+1))).map Dg:=by rw[en,ZI];rfl
   refine⟨_,Nb _ _,none,(D8 _ _ _).trans (by rw[hl]),?_⟩;refine G1 ?_;intro gg;refine⟨lI,lI,?_⟩;refine G1 ?_;intro gg;revert gg;intro g2;refine⟨_,Nb _ _,none,(D8 _ _ _).trans (by rw[hl]),?_⟩;refine G1 ?_;intro gg;refine⟨lI,lI,?_⟩;refine G1 ?_;intro gg;refine⟨⟨trivial,rfl,rfl,trivial,trivial,trivial,trivial,trivial,trivial,trivial⟩,?_⟩;refine G0 ?_;refine⟨Pl.ents E,ss,none,39,rfl,(D8 _ _ _).trans (by rw[hl]),?_⟩;refine G0 ?_;refine⟨?_,?_,by decide,fun b cap=>?_⟩
   ·show [Sv.row K[i]]≠[];simp
   ·show∀row∈[Sv.row K[i]],∀v∈row,Cl v;exact K1 rfl
   refine G0 ?_;have e:=Za E K[i].nd (.v (SE.val ⟨39,9,b,cap,[K[i].row]⟩));rw[hl]at e;have hG':Grp 39 (K.take (i+1)) (put E K[i].nd (.v (SE.val ⟨39,9,b,cap,[K[i].row]⟩))) (⟨39,9,b,cap,[K[i].row]⟩::ss):=by rw[et];exact hG.new K[i] hm b cap
   (exact⟨none,trivial,fun gr=>⟨⟨(i+1,g2,_,_),Nat.succ_le_of_lt c,hG'⟩,by show K.length-(i+1)<K.length-i;omega,tI,tI,⟨congrArg (fun r=>some (Ent.mk g2 (.t 9) 1 r)) enr,congrArg (fun x=>some (Ent.mk gm (.q (J2 x (⟨39,9,b,cap,[K[i].row]⟩::ss))) 0 [])) e,trivial⟩,tI⟩⟩)
 ·rw[show decide ((i:Int)<(K.length:Int))=false from ZY (by omega)];obtain rfl:i=K.length:=by omega
  rw[XF]at hG hnl hnl2;have hS:=Ant k.f k.wh (nms K) hk.wl (by omega);have hz:Hg k.f k.wh (nms K)=0:=by
   rw[Us (by omega) i5];exact Dm fun j hj=>An7 i6 _ (List.mem_map_of_mem (f:=fun w:Wh=>w.pl.err) (ZK hj))
  rw[hz,Agh hz]at hS;rw[XF];refine G0 ?_;refine .inl (cY hS ?_);refine G1 ?_;intro gg;have hf:=fun n (hn:n∈Ii (cfN (Bx k.f k.wh)) (nms K))=>hG.has n (Ahy hn);have hfd:Bh k q=((Ii (cfN (Bx k.f k.wh)) (nms K)).flatMap fun n=>Fy n K).take 20:=by unfold Bh;rw[hK]
  have hNl:(Ii (cfN (Bx k.f k.wh)) (nms K)).length≤40:=by rw[Aad];omega
  generalize Ii (cfN (Bx k.f k.wh)) (nms K)=N at *;have hfl:=fun i=>Alf hKl (N.take i);(refine⟨[(9,144,39,9)],none,{p:Nat×Nat//p.1≤N.length},[5,75,76],fun⟨⟨i,g⟩,hi⟩=>[(9,.own 144 g),(77,.v (.int .i64 (i:Int)))],[528,1152],fun⟨⟨i,g⟩,hi⟩=>[(144,⟨g,.t 39,9,((N.take i).flatMap fun n=>Fy n K).map Sv.row⟩)],fun⟨⟨i,g⟩,hi⟩=>N.length-i,(by exact⟨rfl,by decide,(fun _ _ _ _ h=>by cases h),trivial⟩),fun gs=>⟨trivial,fun _=>⟨⟨(0,gs 144),ZU _⟩,tI,tI,tI,tI⟩⟩,fun⟨⟨i,g⟩,hi⟩=>?_⟩);simp only at hi;have h16:((N.take i).flatMap fun n=>Fy n K).length≤1600:=by
   have:=hfl i;rw[ZM]at this;refine XI this (XI (XG 40 (Nat.min_le_right i N.length)) ?_);omega
  refine G0 ?_;simp only[ZE];by_cases c:i<N.length
  ·rw[show decide ((i:Int)<(N.length:Int))=true from ZX (by omega)];obtain⟨j,u,h1,h2,h3,h4,h5⟩:=hf N[i] (ZK c);have hu4:u.rows.length≤40:=by
    rw[h5,ZE];have:(Fy N[i] K).length≤K.length:=List.length_filter_le _ _;omega
   have er:((N.take i).flatMap fun n=>Fy n K).map Sv.row++u.rows=((N.take (i+1)).flatMap fun n=>Fy n K).map Sv.row:=by
    rw[XT,ZC c,Option.toList_some,List.flatMap_append,ZI,h5];simp
   refine G0 ?_;refine⟨i,_,rfl,Ad c,?_⟩;refine G0 ?_;refine⟨_,Nb _ _,some (j,.v u.val),(D8 _ _ _).trans (by rw[h1]),?_⟩;refine G0 ?_;refine⟨Pl.ents E,ss,u,rfl,h2,rfl,rfl,rfl,h4,?_⟩;refine G0 ?_;refine⟨lI,lI,?_⟩;refine G1 ?_;intro gg;(exact⟨none,trivial,fun gr=>⟨⟨(i+1,gg),Nat.succ_le_of_lt c⟩,by show N.length-(i+1)<N.length-i;omega,tI,tI,⟨congrArg (fun r=>some (Ent.mk gg (.t 39) 9 r)) er,trivial⟩,tI⟩⟩)
  ·rw[show decide ((i:Int)<(N.length:Int))=false from ZY (by omega)];obtain rfl:i=N.length:=by omega
   rw[XF];rw[XF]at h16;rw[hfd];generalize N.flatMap (fun n=>Fy n K)=A at *;refine G0 ?_;rw[ZE];have hm:min (A.length:Int) 20=((min A.length 20:Nat):Int):=by omega
   rw[hm];refine G0 ?_;refine⟨0,0,min A.length 20,rfl,rfl,⟨.i64,rfl⟩,ZU _,Nat.min_le_left _ _,rfl,rfl,fun g2=>?_⟩;refine G0 ?_;refine⟨[144],Afr rfl rfl rfl rfl rfl Dy ?_⟩;show(A.map Sv.row).take (min A.length 20)=(A.take 20).map Sv.row;rw[←List.map_take];congr 1;by_cases h:A.length≤20
   ·rw[Nat.min_eq_left h,XF,List.take_of_length_le h]
   ·rw[Nat.min_eq_right (by omega)]
theorem Ank(k:Kn)(q:Qr)(t:Int)(nm:ByteArray)(hk:k.In)(hq:q.ok)(he:k.err=0):Fun Tryz.prog 52 [.c (.rptr (k.ask q t nm) 0)] [.c (.sl false ((Bh k q).map Sv.row))]:=Fun.frz (Akl k q t nm hk hq he)
theorem Ak3(s:ByteArray)(hs:s.size≤1000000000000):Fun Tryz.prog 33 [.c (.v (.string s))] [.c (.agg (A8 s).1.row),.c (.v (.int .i64 (A8 s).2))]:=by
 have hL:=Q9 s hs;refine Ae5 Pi rfl ?_;refine G1 ?_;intro gg;refine .inl (cX (Ck s hs) ?_);refine G1 ?_;intro gg;(refine Aa (fun h1=>?_) (fun h1=>?_)<;>rw[h1])
 ·have h1':Ao s≠0:=by simpa using h1
  rw[Tm h1'];refine G0 ?_;exact Cn (As rfl) (As rfl) (.cell1 rfl rfl rfl rfl rfl rfl (.tmp1 rfl .nil))
 ·have h1':Ao s=0:=by simpa using h1
  cases he:em s with
  |true=>
   have e0:=Jq.1 he;have e1:A5 s=[]:=if_pos he;have e2:A8 s=(noQ,8):=Ol h1' (by
    rw[e0,show Ci 46 (⟨#[]⟩:ByteArray)=[⟨#[]⟩]from by rfl];simp[Bc])
   rw[e1]at hL;rw[e2];refine G0 ?_;refine .inl (cX hL ?_);refine G1 ?_;intro gg;exact Cn (As rfl) (As rfl) (.cell1 rfl rfl rfl rfl rfl rfl (.tmp1 rfl .nil))
  |false=>
   obtain⟨l,x,hlx⟩:∃l x,Ci 46 s=l++[x]:=⟨_,_,rfl⟩;rw[I2 he,hlx]at hL;have hll:l.length≤s.size:=by
    have h1:=Om 46 s;have h2:=Afh s 46;rw[hlx,ZF]at h1;simp at h1;omega
   have hlen:((l++[x]).map A1).length=l.length+1:=by simp
   have hsub:IntKind.i64.wrap ((((l++[x]).map A1).length:Int)-1)=(l.length:Int):=by rw[hlen,A6 (by omega) (by omega)];omega
   have hlast:((l++[x]).map A1)[l.length]? =some (A1 x):=by simp
   have hsz:∀y∈l,y.size≤9223372036854775807:=fun y hy=>by
    have hm:y∈A5 s:=by rw[I2 he,hlx];exact List.mem_append_left _ hy
    have:=Fm hm;omega
   refine G0 ?_;refine .inl (cX hL ?_);refine G1 ?_;intro gg;(refine Aa (fun h0=>?_) (fun h0=>?_)<;>rw[h0];focus (exfalso;have:=ZR.1 h0;simp only[hlen]at this;omega));refine G0 ?_;refine⟨l.length,_,(by show((((l++[x]).map A1).length:Nat):Int)-1=_;rw[hlen];omega),hlast,?_⟩;refine G0 ?_;(refine Aa (fun h2=>?_) (fun h2=>?_)<;>rw[h2])
   ·have h2':x≠Bc:=fun e=>by rw[e,show(Bc.toList==(⟨#[109,101,115,104]⟩:ByteArray).toList)=true from beq_self_eq_true _]at h2;cases h2
    rw[Ol h1' (by rw[hlx];simpa using h2')];refine G0 ?_;exact Cn (As rfl) (As rfl) (.cell1 rfl rfl rfl rfl rfl rfl (.tmp1 rfl .nil))
   ·have h2':x=Bc:=toList_inj (ZR.1 (Bw h2));subst h2';have hlst:(Ci 46 s).getLast? =some Bc:=by rw[hlx];simp
    clear hlast hsub;rcases l with _|⟨a,_|⟨b,_|⟨c,_|⟨d,_|⟨e,l⟩⟩⟩⟩⟩
    ·skip
     refine G0 ?_;(refine⟨[],none,{k:Nat//k=0},[0,2,6],fun⟨k,hk⟩=>[(7,.v (.int .i64 0))],[32],fun⟨k,hk⟩=>[],fun⟨k,hk⟩=>0,trivial,fun _=>⟨trivial,fun _=>⟨⟨0,rfl⟩,tI,Af _ _,tI,Ae _ _⟩⟩,fun⟨k,hk⟩=>?_⟩);refine G0 ?_;rw[Eo h1' hlst (fun q hq=>by
      obtain⟨_,_,_,_,_,_,_,hm⟩:=E7 hq;rw[hlx]at hm;simp[Vw]at hm)]
     refine G0 ?_;exact Cn (As rfl) (As rfl) (.cell1 rfl rfl rfl rfl rfl rfl (.tmp1 rfl .nil))
    ·skip
     refine G0 ?_;(refine⟨[],none,{k:Nat//k=0},[0,2,6],fun⟨k,hk⟩=>[(7,.v (.int .i64 0))],[32],fun⟨k,hk⟩=>[],fun⟨k,hk⟩=>0,trivial,fun _=>⟨trivial,fun _=>⟨⟨0,rfl⟩,tI,Af _ _,tI,Ae _ _⟩⟩,fun⟨k,hk⟩=>?_⟩);refine G0 ?_;rw[Eo h1' hlst (fun q hq=>by
      obtain⟨_,_,_,_,_,_,_,hm⟩:=E7 hq;rw[hlx]at hm;simp[Vw]at hm)]
     refine G0 ?_;exact Cn (As rfl) (As rfl) (.cell1 rfl rfl rfl rfl rfl rfl (.tmp1 rfl .nil))
    ·skip
     have hM:Vw (Ci 46 s)=([⟨a,⟨#[]⟩,⟨#[]⟩,⟨#[]⟩⟩,⟨⟨#[]⟩,⟨#[]⟩,a,⟨#[]⟩⟩]:List Qr):=by rw[hlx];rfl
     have hok:∀q∈([⟨a,⟨#[]⟩,⟨#[]⟩,⟨#[]⟩⟩,⟨⟨#[]⟩,⟨#[]⟩,a,⟨#[]⟩⟩]:List Qr),q.ok:=fun q hq=>by simp at hq;rcases hq with rfl|rfl<;>exact⟨by first|exact ZU _|(apply hsz;simp),by first|exact ZU _|(apply hsz;simp),by first|exact ZU _|(apply hsz;simp),by first|exact ZU _|(apply hsz;simp)⟩
     refine G0 ?_
     (repeat ((first|refine⟨0,_,rfl,rfl,?_⟩|refine⟨1,_,rfl,rfl,?_⟩|refine⟨2,_,rfl,rfl,?_⟩|refine⟨3,_,rfl,rfl,?_⟩);(refine goI ?_;repeat (intro gg;refine goI ?_))))
     (refine⟨[],none,{k:Nat//k≤2∧∀j,(h:j<(([⟨a,⟨#[]⟩,⟨#[]⟩,⟨#[]⟩⟩,⟨⟨#[]⟩,⟨#[]⟩,a,⟨#[]⟩⟩]:List Qr)).length)→j<k→Ah (([⟨a,⟨#[]⟩,⟨#[]⟩,⟨#[]⟩⟩,⟨⟨#[]⟩,⟨#[]⟩,a,⟨#[]⟩⟩]:List Qr))[j]≠(s,0)},[0,2,6],fun⟨k,hk,h0⟩=>[(7,.v (.int .i64 k))],[32,688],fun⟨k,hk,h0⟩=>[],fun⟨k,hk,h0⟩=>2-k,trivial,fun _=>⟨trivial,fun _=>⟨⟨0,ZU _,fun j _ h=>absurd h (Nat.not_lt_zero _)⟩,tI,Af _ _,tI,Ae _ _⟩⟩,fun⟨k,hk,h0⟩=>?_⟩);refine G0 ?_;(refine Aa (fun h3=>?_) (fun h3=>?_)<;>rw[h3])
     ·have hlt:k<(([⟨a,⟨#[]⟩,⟨#[]⟩,⟨#[]⟩⟩,⟨⟨#[]⟩,⟨#[]⟩,a,⟨#[]⟩⟩]:List Qr)).length:=by have h3':=ZV h3;have h4':(k:Int)<2:=(by simpa using h3');exact(by omega:k<2)
      have hlt2:k<2:=hlt;have hrowk:=Ad (f:=Qr.row) hlt;refine G0 ?_;refine⟨k,_,rfl,hrowk,?_⟩;refine G0 ?_;refine⟨_,hrowk,?_⟩;refine G0 ?_;refine .inl (cX (Ks _ (hok _ (ZK hlt))) ?_);refine G1 ?_;intro gg;(refine Aa (fun h4=>?_) (fun h4=>?_)<;>rw[h4])
      ·have h4':(Ah (([⟨a,⟨#[]⟩,⟨#[]⟩,⟨#[]⟩⟩,⟨⟨#[]⟩,⟨#[]⟩,a,⟨#[]⟩⟩]:List Qr))[k]).2=0:=by simpa using h4
       refine G0 ?_;(refine Aa (fun h5=>?_) (fun h5=>?_)<;>rw[h5])
       ·have h5':(Ah (([⟨a,⟨#[]⟩,⟨#[]⟩,⟨#[]⟩⟩,⟨⟨#[]⟩,⟨#[]⟩,a,⟨#[]⟩⟩]:List Qr))[k]).1=s:=toList_inj (ZR.1 h5);rw[Dd (q:=(([⟨a,⟨#[]⟩,⟨#[]⟩,⟨#[]⟩⟩,⟨⟨#[]⟩,⟨#[]⟩,a,⟨#[]⟩⟩]:List Qr))[k]) (Prod.ext h5' h4')];refine G0 ?_;refine⟨k,_,rfl,hrowk,?_⟩;refine G0 ?_;refine⟨_,hrowk,?_⟩;refine G0 ?_;exact Cn (As rfl) (As rfl) (.cell1 rfl rfl rfl rfl rfl rfl (.tmp1 rfl .nil))
       ·have h5':(Ah (([⟨a,⟨#[]⟩,⟨#[]⟩,⟨#[]⟩⟩,⟨⟨#[]⟩,⟨#[]⟩,a,⟨#[]⟩⟩]:List Qr))[k]).1≠s:=fun e=>by rw[e,beq_self_eq_true]at h5;cases h5
        refine G0 ?_;(exact⟨none,trivial,fun _=>⟨⟨k+1,by omega,up1 (p:=fun j h=>Ah (([⟨a,⟨#[]⟩,⟨#[]⟩,⟨#[]⟩⟩,⟨⟨#[]⟩,⟨#[]⟩,a,⟨#[]⟩⟩]:List Qr))[j]≠(s,0)) h0 (fun _ e=>h5' (by rw[e]))⟩,by show 2-(k+1)<2-k;omega,tI,tI,tI,tI⟩⟩)
      ·have h4':(Ah (([⟨a,⟨#[]⟩,⟨#[]⟩,⟨#[]⟩⟩,⟨⟨#[]⟩,⟨#[]⟩,a,⟨#[]⟩⟩]:List Qr))[k]).2≠0:=by simpa using h4
       refine G0 ?_;(exact⟨none,trivial,fun _=>⟨⟨k+1,by omega,up1 (p:=fun j h=>Ah (([⟨a,⟨#[]⟩,⟨#[]⟩,⟨#[]⟩⟩,⟨⟨#[]⟩,⟨#[]⟩,a,⟨#[]⟩⟩]:List Qr))[j]≠(s,0)) h0 (fun _ e=>h4' (by rw[e]))⟩,by show 2-(k+1)<2-k;omega,tI,tI,tI,tI⟩⟩)
     ·have hge:¬k<2:=by have h3':=ZW h3;have h4':¬(k:Int)<2:=(by simpa using h3');omega
      rw[Eo h1' hlst (fun q hq=>by
       obtain⟨_,_,_,_,_,_,_,hm⟩:=E7 hq;rw[hM]at hm;obtain⟨i,hi,rfl⟩:=List.getElem_of_mem hm;exact h0 i hi (XH (by simpa using hi:i<2) (by omega)) hq)]
      refine G0 ?_;exact Cn (As rfl) (As rfl) (.cell1 rfl rfl rfl rfl rfl rfl (.tmp1 rfl .nil))
    ·skip
     have hM:Vw (Ci 46 s)=([⟨a,⟨#[]⟩,⟨#[]⟩,c⟩,⟨⟨#[]⟩,⟨#[]⟩,a,c⟩,⟨b,a,⟨#[]⟩,⟨#[]⟩⟩]:List Qr):=by rw[hlx];rfl
     have hok:∀q∈([⟨a,⟨#[]⟩,⟨#[]⟩,c⟩,⟨⟨#[]⟩,⟨#[]⟩,a,c⟩,⟨b,a,⟨#[]⟩,⟨#[]⟩⟩]:List Qr),q.ok:=fun q hq=>by simp at hq;rcases hq with rfl|rfl|rfl<;>exact⟨by first|exact ZU _|(apply hsz;simp),by first|exact ZU _|(apply hsz;simp),by first|exact ZU _|(apply hsz;simp),by first|exact ZU _|(apply hsz;simp)⟩
     refine G0 ?_
     (repeat ((first|refine⟨0,_,rfl,rfl,?_⟩|refine⟨1,_,rfl,rfl,?_⟩|refine⟨2,_,rfl,rfl,?_⟩|refine⟨3,_,rfl,rfl,?_⟩);(refine goI ?_;repeat (intro gg;refine goI ?_))))
     (refine⟨[],none,{k:Nat//k≤3∧∀j,(h:j<(([⟨a,⟨#[]⟩,⟨#[]⟩,c⟩,⟨⟨#[]⟩,⟨#[]⟩,a,c⟩,⟨b,a,⟨#[]⟩,⟨#[]⟩⟩]:List Qr)).length)→j<k→Ah (([⟨a,⟨#[]⟩,⟨#[]⟩,c⟩,⟨⟨#[]⟩,⟨#[]⟩,a,c⟩,⟨b,a,⟨#[]⟩,⟨#[]⟩⟩]:List Qr))[j]≠(s,0)},[0,2,6],fun⟨k,hk,h0⟩=>[(7,.v (.int .i64 k))],[32,1072],fun⟨k,hk,h0⟩=>[],fun⟨k,hk,h0⟩=>3-k,trivial,fun _=>⟨trivial,fun _=>⟨⟨0,ZU _,fun j _ h=>absurd h (Nat.not_lt_zero _)⟩,tI,Af _ _,tI,Ae _ _⟩⟩,fun⟨k,hk,h0⟩=>?_⟩);refine G0 ?_;(refine Aa (fun h3=>?_) (fun h3=>?_)<;>rw[h3])
     ·have hlt:k<(([⟨a,⟨#[]⟩,⟨#[]⟩,c⟩,⟨⟨#[]⟩,⟨#[]⟩,a,c⟩,⟨b,a,⟨#[]⟩,⟨#[]⟩⟩]:List Qr)).length:=by have h3':=ZV h3;have h4':(k:Int)<3:=(by simpa using h3');exact(by omega:k<3)
      have hlt2:k<3:=hlt;have hrowk:=Ad (f:=Qr.row) hlt;refine G0 ?_;refine⟨k,_,rfl,hrowk,?_⟩;refine G0 ?_;refine⟨_,hrowk,?_⟩;refine G0 ?_;refine .inl (cX (Ks _ (hok _ (ZK hlt))) ?_);refine G1 ?_;intro gg;(refine Aa (fun h4=>?_) (fun h4=>?_)<;>rw[h4])
      ·have h4':(Ah (([⟨a,⟨#[]⟩,⟨#[]⟩,c⟩,⟨⟨#[]⟩,⟨#[]⟩,a,c⟩,⟨b,a,⟨#[]⟩,⟨#[]⟩⟩]:List Qr))[k]).2=0:=by simpa using h4
       refine G0 ?_;(refine Aa (fun h5=>?_) (fun h5=>?_)<;>rw[h5])
       ·have h5':(Ah (([⟨a,⟨#[]⟩,⟨#[]⟩,c⟩,⟨⟨#[]⟩,⟨#[]⟩,a,c⟩,⟨b,a,⟨#[]⟩,⟨#[]⟩⟩]:List Qr))[k]).1=s:=toList_inj (ZR.1 h5);rw[Dd (q:=(([⟨a,⟨#[]⟩,⟨#[]⟩,c⟩,⟨⟨#[]⟩,⟨#[]⟩,a,c⟩,⟨b,a,⟨#[]⟩,⟨#[]⟩⟩]:List Qr))[k]) (Prod.ext h5' h4')];refine G0 ?_;refine⟨k,_,rfl,hrowk,?_⟩;refine G0 ?_;refine⟨_,hrowk,?_⟩;refine G0 ?_;exact Cn (As rfl) (As rfl) (.cell1 rfl rfl rfl rfl rfl rfl (.tmp1 rfl .nil))
       ·have h5':(Ah (([⟨a,⟨#[]⟩,⟨#[]⟩,c⟩,⟨⟨#[]⟩,⟨#[]⟩,a,c⟩,⟨b,a,⟨#[]⟩,⟨#[]⟩⟩]:List Qr))[k]).1≠s:=fun e=>by rw[e,beq_self_eq_true]at h5;cases h5
        refine G0 ?_;(exact⟨none,trivial,fun _=>⟨⟨k+1,by omega,up1 (p:=fun j h=>Ah (([⟨a,⟨#[]⟩,⟨#[]⟩,c⟩,⟨⟨#[]⟩,⟨#[]⟩,a,c⟩,⟨b,a,⟨#[]⟩,⟨#[]⟩⟩]:List Qr))[j]≠(s,0)) h0 (fun _ e=>h5' (by rw[e]))⟩,by show 3-(k+1)<3-k;omega,tI,tI,tI,tI⟩⟩)
      ·have h4':(Ah (([⟨a,⟨#[]⟩,⟨#[]⟩,c⟩,⟨⟨#[]⟩,⟨#[]⟩,a,c⟩,⟨b,a,⟨#[]⟩,⟨#[]⟩⟩]:List Qr))[k]).2≠0:=by simpa using h4
       refine G0 ?_;(exact⟨none,trivial,fun _=>⟨⟨k+1,by omega,up1 (p:=fun j h=>Ah (([⟨a,⟨#[]⟩,⟨#[]⟩,c⟩,⟨⟨#[]⟩,⟨#[]⟩,a,c⟩,⟨b,a,⟨#[]⟩,⟨#[]⟩⟩]:List Qr))[j]≠(s,0)) h0 (fun _ e=>h4' (by rw[e]))⟩,by show 3-(k+1)<3-k;omega,tI,tI,tI,tI⟩⟩)
     ·have hge:¬k<3:=by have h3':=ZW h3;have h4':¬(k:Int)<3:=(by simpa using h3');omega
      rw[Eo h1' hlst (fun q hq=>by
       obtain⟨_,_,_,_,_,_,_,hm⟩:=E7 hq;rw[hM]at hm;obtain⟨i,hi,rfl⟩:=List.getElem_of_mem hm;exact h0 i hi (XH (by simpa using hi:i<3) (by omega)) hq)]
      refine G0 ?_;exact Cn (As rfl) (As rfl) (.cell1 rfl rfl rfl rfl rfl rfl (.tmp1 rfl .nil))
    ·skip
     have hM:Vw (Ci 46 s)=([⟨b,a,⟨#[]⟩,d⟩]:List Qr):=by rw[hlx];rfl
     have hok:∀q∈([⟨b,a,⟨#[]⟩,d⟩]:List Qr),q.ok:=fun q hq=>by simp at hq;subst hq;exact⟨by first|exact ZU _|(apply hsz;simp),by first|exact ZU _|(apply hsz;simp),by first|exact ZU _|(apply hsz;simp),by first|exact ZU _|(apply hsz;simp)⟩
     refine G0 ?_
     (repeat ((first|refine⟨0,_,rfl,rfl,?_⟩|refine⟨1,_,rfl,rfl,?_⟩|refine⟨2,_,rfl,rfl,?_⟩|refine⟨3,_,rfl,rfl,?_⟩);(refine goI ?_;repeat (intro gg;refine goI ?_))))
     (refine⟨[],none,{k:Nat//k≤1∧∀j,(h:j<(([⟨b,a,⟨#[]⟩,d⟩]:List Qr)).length)→j<k→Ah (([⟨b,a,⟨#[]⟩,d⟩]:List Qr))[j]≠(s,0)},[0,2,6],fun⟨k,hk,h0⟩=>[(7,.v (.int .i64 k))],[32,1280],fun⟨k,hk,h0⟩=>[],fun⟨k,hk,h0⟩=>1-k,trivial,fun _=>⟨trivial,fun _=>⟨⟨0,ZU _,fun j _ h=>absurd h (Nat.not_lt_zero _)⟩,tI,Af _ _,tI,Ae _ _⟩⟩,fun⟨k,hk,h0⟩=>?_⟩);refine G0 ?_;(refine Aa (fun h3=>?_) (fun h3=>?_)<;>rw[h3])
     ·have hlt:k<(([⟨b,a,⟨#[]⟩,d⟩]:List Qr)).length:=by have h3':=ZV h3;have h4':(k:Int)<1:=(by simpa using h3');exact(by omega:k<1)
      have hlt2:k<1:=hlt;have hrowk:=Ad (f:=Qr.row) hlt;refine G0 ?_;refine⟨k,_,rfl,hrowk,?_⟩;refine G0 ?_;refine⟨_,hrowk,?_⟩;refine G0 ?_;refine .inl (cX (Ks _ (hok _ (ZK hlt))) ?_);refine G1 ?_;intro gg;(refine Aa (fun h4=>?_) (fun h4=>?_)<;>rw[h4])
      ·have h4':(Ah (([⟨b,a,⟨#[]⟩,d⟩]:List Qr))[k]).2=0:=by simpa using h4
       refine G0 ?_;(refine Aa (fun h5=>?_) (fun h5=>?_)<;>rw[h5])
       ·have h5':(Ah (([⟨b,a,⟨#[]⟩,d⟩]:List Qr))[k]).1=s:=toList_inj (ZR.1 h5);rw[Dd (q:=(([⟨b,a,⟨#[]⟩,d⟩]:List Qr))[k]) (Prod.ext h5' h4')];refine G0 ?_;refine⟨k,_,rfl,hrowk,?_⟩;refine G0 ?_;refine⟨_,hrowk,?_⟩;refine G0 ?_;exact Cn (As rfl) (As rfl) (.cell1 rfl rfl rfl rfl rfl rfl (.tmp1 rfl .nil))
       ·have h5':(Ah (([⟨b,a,⟨#[]⟩,d⟩]:List Qr))[k]).1≠s:=fun e=>by rw[e,beq_self_eq_true]at h5;cases h5
        refine G0 ?_;(exact⟨none,trivial,fun _=>⟨⟨k+1,by omega,up1 (p:=fun j h=>Ah (([⟨b,a,⟨#[]⟩,d⟩]:List Qr))[j]≠(s,0)) h0 (fun _ e=>h5' (by rw[e]))⟩,by show 1-(k+1)<1-k;omega,tI,tI,tI,tI⟩⟩)
      ·have h4':(Ah (([⟨b,a,⟨#[]⟩,d⟩]:List Qr))[k]).2≠0:=by simpa using h4
       refine G0 ?_;(exact⟨none,trivial,fun _=>⟨⟨k+1,by omega,up1 (p:=fun j h=>Ah (([⟨b,a,⟨#[]⟩,d⟩]:List Qr))[j]≠(s,0)) h0 (fun _ e=>h4' (by rw[e]))⟩,by show 1-(k+1)<1-k;omega,tI,tI,tI,tI⟩⟩)
     ·have hge:¬k<1:=by have h3':=ZW h3;have h4':¬(k:Int)<1:=(by simpa using h3');omega
      rw[Eo h1' hlst (fun q hq=>by
       obtain⟨_,_,_,_,_,_,_,hm⟩:=E7 hq;rw[hM]at hm;obtain⟨i,hi,rfl⟩:=List.getElem_of_mem hm;exact h0 i hi (XH (by simpa using hi:i<1) (by omega)) hq)]
      refine G0 ?_;exact Cn (As rfl) (As rfl) (.cell1 rfl rfl rfl rfl rfl rfl (.tmp1 rfl .nil))
    ·skip
     have hn:∀m:Int,m≤5→((((a::b::c::d::e::l)++[Bc]).map A1).length:Int)≠m:=fun m hm h=>by simp at h;omega
     refine G0 ?_;(refine Aa (fun h3=>?_) (fun h3=>?_)<;>rw[h3];focus (exfalso;exact hn 5 (by omega) (ZR.1 h3)));refine G0 ?_;(refine⟨[],none,{k:Nat//k=0},[0,2,6],fun⟨k,hk⟩=>[(7,.v (.int .i64 0))],[32],fun⟨k,hk⟩=>[],fun⟨k,hk⟩=>0,trivial,fun _=>⟨trivial,fun _=>⟨⟨0,rfl⟩,tI,Af _ _,tI,Ae _ _⟩⟩,fun⟨k,hk⟩=>?_⟩);refine G0 ?_;rw[Eo h1' hlst (fun q hq=>by
      obtain⟨_,_,_,_,_,_,_,hm⟩:=E7 hq;rw[hlx]at hm;cases l<;>simp[Vw]at hm)]
     refine G0 ?_;exact Cn (As rfl) (As rfl) (.cell1 rfl rfl rfl rfl rfl rfl (.tmp1 rfl .nil))
namespace Pl
theorem Bad{q:Qr}(h:q.err=0)(hn:em q.nd=true):lab q.sv.data.toList=true∧Sp q.tg=true:=by
 unfold Qr.err at h;cases h1:q.c1 with
 |true=>rw[h1]at h;exact absurd h (by decide:¬(1:Int)=0)
 |false=>
  rw[h1]at h;cases h2:q.c2 with
  |true=>rw[h2]at h;exact absurd h (by decide:¬(1:Int)=0)
  |false=>
   have hs:em q.sv=false:=by
    unfold Qr.c1 at h1;rw[hn]at h1;cases e:em q.sv with
    |false=>rfl
    |true=>rw[e]at h1;simp at h1
   have hb:∀x∈q.all,Gx x=false:=by
    unfold Qr.c2 at h2;intro x hx;have:=List.any_eq_false.1 h2 x hx;simpa using this
   have b1:=hb q.sv (by simp[Qr.all]);have b2:=hb q.tg (by simp[Qr.all]);unfold Gx at b1 b2;rw[hs,cond_false]at b1;refine⟨by simpa using b1,?_⟩;have em_emp:em q.tg=emp q.tg:=rfl;unfold Sp;rw[←em_emp];cases e:em q.tg with
   |true=>rfl
   |false=>rw[e,cond_false]at b2;simpa using b2
theorem Vm{l:List Sv}{a b:ByteArray}(h1:Ei l=0)(h2:lab a.data.toList=true)(h3:Sp b=true):C8 l a b=(0,Dc l a b):=by simp[C8,h1,h2,h3]
theorem Aa4:Sp ⟨#[]⟩=true:=by simp[Sp,emp]
theorem Akr{A B:List Int}{e:Int}(h:∀a∈A,a=0)(he:e≠0):Cp (A++e::B)=e:=by
 induction A with
 |nil=>exact if_pos he
 |cons a A ih=>
  have h0:=h a (XB ..);subst h0;exact ih fun x hx=>h x (ZL _ hx)
theorem Aq5{N:List ByteArray}{F:List Sv}{i k:Nat}(hi:i<N.length)(hk:k<F.length)(h:F[k].nd=N[i]):∃t,Lik N F N.length 0=Lik N F i k++F[k]::t:=by
 obtain⟨t,ht⟩:=Ae8 (F:=F) hi (k+1) (F.length-(k+1)) (by omega);rw[show k+1+(F.length-(k+1))=F.length by omega,Y2 hi,An0 hi hk,if_pos h,Aio]at ht;have e:N.flatMap (fun n=>Fy n F)=(N.take (i+1)).flatMap (fun n=>Fy n F)++(N.drop (i+1)).flatMap (fun n=>Fy n F):=by
  rw[←List.flatMap_append,List.take_append_drop]
 rw[Amu,e,ht];exact⟨t++(N.drop (i+1)).flatMap (fun n=>Fy n F),by simp⟩
end Pl
set_option maxHeartbeats 4000000 in
theorem Uy(k:Kn)(q:Qr)(t:Int)(hk:k.In)(hq:q.ok):
  Fun Tryz.prog 9 [.c (.agg q.row),.c (.v (.int .i64 t)),.c (.v (.string k.here)),.c (.sl false (k.l.map Sv.row)),.c (.sl false (k.ms.map Mb.row)),.c (.agg k.f.row),.c (.sl false (k.wh.map Wh.row))]
   [.o 42 7 ((C7 k q t (Bh k q)).1.map Rr.row),.c (.v (.int .i64 (C7 k q t (Bh k q)).2.1)),.c (.v (.int .i64 (C7 k q t (Bh k q)).2.2))]:=by
 have hE:Jt k q t=if q.err≠0 then q.err else if Fk t=false then 7 else k.err:=rfl
 have hA:C7 k q t (Bh k q)=(if Jt k q t≠0 then([],0,Jt k q t)
  else if(Ah q).2≠0 then([],0,(Ah q).2)
  else if em q.ce=false∧(q.ce.toList==k.here.toList)=false then([],3,0)
  else if em q.nd=false then((Jc k q t (Ah q).1).1,(Jc k q t (Ah q).1).2,0)
  else Jx k q t (Ah q).1 (Bh k q):List Rr×Int×Int):=rfl
 refine Akt (rcD:=H8 [true,true,true,true,true,true,true,false] Hu) Nw (by kernel_rfl) rfl ?_;(refine goI ?_;repeat (intro gg;refine goI ?_));refine .inl (cX (Pd q hq) ?_);refine G1 ?_;intro gg;by_cases c1:q.err=0;rotate_left
 ·rw[if_pos c1]at hE;rw[hE,if_pos c1]at hA;rw[hA,show(q.err==0)=false from ZG.2 c1];refine G0 ?_;rw[show(q.err==0)=false from ZG.2 c1];refine G0 ?_;rw[show(q.err !=0)=true from ZZ.2 c1];refine G0 ?_;(exact⟨[],aI⟩)
 rw[if_neg (by simpa using c1)]at hE;rw[show(q.err==0)=true from ZR.2 c1];refine G0 ?_;refine .inl (cX (Qg t) ?_);refine G1 ?_;intro gg;by_cases c2:Fk t=true;rotate_left
 ·rw[if_pos (XE.2 c2)]at hE;rw[hE,if_pos (by decide)]at hA;rw[hA,XE.2 c2];refine G0 ?_;(exact⟨[],aI⟩)
 rw[if_neg (by simpa using c2)]at hE;rw[c2];refine G0 ?_;rw[show(q.err==0)=true from ZR.2 c1];refine G0 ?_;refine .inl (cX (Abm k hk) ?_);refine G1 ?_;intro gg;by_cases c3:k.err=0;rotate_left
 ·rw[hE,if_pos c3]at hA;rw[hA,show(k.err !=0)=true from ZZ.2 c3];refine G0 ?_;(exact⟨[],aI⟩)
 rw[hE,if_neg (by simpa using c3)]at hA;rw[c3];have hP:=Ks q hq;obtain⟨i1,i2,i3,i4,i5,i6⟩:=Afc c3;have hms:=At9 c3;have hat:=fun name=>Mb.at_eq (P4 i3).2.2 name;have hEc:em q.ce=(q.ce.toList==(⟨#[]⟩:ByteArray).toList):=rfl;have hEn:em q.nd=(q.nd.toList==(⟨#[]⟩:ByteArray).toList):=rfl;have hN0:Jc k q t (Ah q).1=(if hit (Mb.cf q.nd) k.ms=false∨Cc k.ms q.nd=true then([],3)
  else if t≠1 then([],0)
  else match k.ms[low (Mb.cf q.nd) k.ms]? with
   |some m=>([⟨(Ah q).1,t,0,m.ad,⟨#[]⟩,0,⟨#[]⟩⟩],0)
   |none=>([],0):List Rr×Int):=rfl
 have haw:∀name,Cc k.ms name=(bif hit (Mb.cf name) k.ms then(match k.ms[low (Mb.cf name) k.ms]? with
  |some m=>decide (3≤m.st)
  |none=>false)else false):=fun _=>rfl
 refine G0 ?_;refine .inl (cX hP ?_);refine G1 ?_;intro gg;by_cases c4:(Ah q).2=0;rotate_left
 ·rw[if_pos c4]at hA;rw[hA,show((Ah q).2 !=0)=true from ZZ.2 c4];refine G0 ?_;(exact⟨[],aI⟩)
 rw[if_neg (by simpa using c4)]at hA;rw[c4];refine G0 ?_;refine⟨PLift (¬(em q.ce=false∧(q.ce.toList==k.here.toList)=false)),[1,2,3,4,6,7,12,18],fun _=>[],[112,192],fun _=>[],?_,fun⟨d1⟩=>?_⟩
 ·refine G0 ?_;rw[←hEc];by_cases d2:em q.ce=true
  ·rw[d2];refine G0 ?_;exact⟨⟨fun z=>Bool.noConfusion z.1⟩,tI,tI,tI,tI⟩
  ·rw[XE.2 d2];refine G0 ?_;by_cases d3:(q.ce.toList==k.here.toList)=true
   ·rw[d3];refine G0 ?_;exact⟨⟨fun z=>Bool.noConfusion z.2⟩,tI,tI,tI,tI⟩
   ·rw[if_pos ⟨XE.2 d2,XE.2 d3⟩]at hA;rw[XE.2 d3,hA];refine G0 ?_;(exact⟨[],aI⟩)
 rw[if_neg d1]at hA;refine G0 ?_;rw[←hEn];by_cases d4:em q.nd=false
 ·rw[if_pos d4]at hA;rw[d4];refine G0 ?_;(refine .inl ⟨_,_,false,[],aI,Akn false k.ms q.nd (by omega),Ab,nI,?_⟩);rw[hat q.nd];refine G1 ?_;intro gg;by_cases hh:hit (Mb.cf q.nd) k.ms=true;rotate_left
  ·rw[if_neg hh];rw[if_pos (.inl (XE.2 hh))]at hN0;refine G0 ?_;rw[hA,hN0];(exact⟨[],aI⟩)
  have hlt:=Mx hh;have hw:=haw q.nd;rw[hh,cond_true,ZC hlt]at hw;change Cc k.ms q.nd=decide (3≤(k.ms[low (Mb.cf q.nd) k.ms]).st)at hw;rw[if_pos hh];rw[show decide ((low (Mb.cf q.nd) k.ms:Int)<0)=false from ZY (by omega)];refine G0 ?_;refine⟨low (Mb.cf q.nd) k.ms,_,rfl,Ad hlt,?_⟩;refine G0 ?_;rw[show decide ((2:Int)<(k.ms[low (Mb.cf q.nd) k.ms]).st)=Cc k.ms q.nd from by rw[hw];exact decide_eq_decide.2 (by omega)];by_cases ha:Cc k.ms q.nd=true
  ·rw[if_pos (.inr ha)]at hN0;rw[ha];refine G0 ?_;rw[hA,hN0];(exact⟨[],aI⟩)
  rw[if_neg (fun z=>z.elim (fun z=>by rw[hh]at z;cases z) ha)]at hN0;rw[XE.2 ha];refine G0 ?_;by_cases t1:t=1;rotate_left
  ·rw[if_pos t1]at hN0;rw[show(t !=1)=true from ZZ.2 t1];refine G0 ?_;rw[hA,hN0];(exact⟨[],aI⟩)
  rw[if_neg (by simpa using t1),ZC hlt]at hN0;change Jc k q t (Ah q).1=([⟨(Ah q).1,t,0,(k.ms[low (Mb.cf q.nd) k.ms]).ad,⟨#[]⟩,0,⟨#[]⟩⟩],0)at hN0;rw[show(t !=1)=false from by simpa using t1];refine G0 ?_;refine⟨low (Mb.cf q.nd) k.ms,_,rfl,Ad hlt,?_⟩;refine G1 ?_;intro gg;rw[hA,hN0,t1];(exact⟨[1456],aI⟩)
 rw[if_neg d4]at hA;have d4:em q.nd=true:=by simpa using d4
 rw[d4];obtain⟨ql1,ql2⟩:=Bad c1 d4;have hF0:(C8 k.l q.sv q.tg).2=Dc k.l q.sv q.tg:=by rw[Vm i2 ql1 ql2]
 have hFk:fK k q=Pl.keep (fun s=>Cc k.ms s.nd) (Dc k.l q.sv q.tg):=by unfold fK;rw[hF0]
 have hFl:=Aub k q;rw[hF0]at hFl;have hk40:=(Jo i2).1;have hMn:Mn (Dc k.l q.sv q.tg):=(Avc (Jo i2).2.2).filter _;have hlen:=Np k.l q.sv q.tg;have hsz:∀s∈Dc k.l q.sv q.tg,s.nd.size≤9223372036854775807:=fun s hs=>(hk.lo s (List.mem_filter.1 hs).1).1;have hX:Jx k q t (Ah q).1 (Bh k q)=(if Cp ((Bh k q).map fun s=>(C3 k.here t (Ah q).1 s).2)≠0 then([],0,Cp ((Bh k q).map fun s=>(C3 k.here t (Ah q).1 s).2))
  else if(Dc k.l q.sv ⟨#[]⟩).length=0 then([],3,0)
  else((Bh k q).map fun s=>(C3 k.here t (Ah q).1 s).1,0,0):List Rr×Int×Int):=by
  unfold Jx;rw[Vm i2 ql1 Aa4]
 rw[hX]at hA;clear hX hN0 hP hF0;generalize (Ah q).1=nm at *;refine G0 ?_;(refine .inl ⟨_,_,false,[],aI,Z7 k.l q.sv q.tg (by omega),Ab,nI,?_⟩);have hR2:=Z7 k.l q.sv ⟨#[]⟩ (by omega);generalize hFd:Dc k.l q.sv q.tg=F at *;refine G1 ?_;intro gg;have hfk:∀i,nms (Pl.keep (fun s=>Cc k.ms s.nd) (F.take i))=nms (Pl.keep (fun s=>Cc k.ms s.nd) (F.take i)):=fun _=>rfl;(refine⟨[(21,336,9,1)],none,{p:Nat×Nat//p.1≤F.length},[1,2,3,4,6,7,12,18,20],fun⟨⟨i,g⟩,hi⟩=>[(21,.own 336 g),(22,.v (.int .i64 (i:Int)))],[112,192],fun⟨⟨i,g⟩,hi⟩=>[(336,⟨g,.t 9,1,(nms (Pl.keep (fun s=>Cc k.ms s.nd) (F.take i))).map Dg⟩)],fun⟨⟨i,g⟩,hi⟩=>F.length-i,(by exact⟨rfl,by decide,(fun _ _ _ _ h=>by cases h),trivial⟩),fun gs=>⟨trivial,fun _=>⟨⟨(0,gs 336),ZU _⟩,tI,tI,tI,tI⟩⟩,fun⟨⟨i,g⟩,hi⟩=>?_⟩);simp only at hi;have hnl:=Alj (Pl.keep (fun s=>Cc k.ms s.nd) (F.take i));have hkl:(Pl.keep (fun s=>Cc k.ms s.nd) (F.take i)).length≤(F.take i).length:=List.length_filter_le _ _;rw[ZM]at hkl;have hnl2:((nms (Pl.keep (fun s=>Cc k.ms s.nd) (F.take i))).map Dg).length≤40:=by rw[ZE];omega
 refine G0 ?_;simp only[ZE];by_cases c:i<F.length
 ·rw[show decide ((i:Int)<(F.length:Int))=true from ZX (by omega)];refine G0 ?_;refine⟨i,_,rfl,Ad c,?_⟩;refine G0 ?_;(refine .inl ⟨_,_,false,[],aI,Akn false k.ms F[i].nd (by omega),Ab,nI,?_⟩);rw[hat F[i].nd];refine G1 ?_;intro gg;have hkt:=Rh (p:=fun s:Sv=>Cc k.ms s.nd) c;have hMi:Mn (Pl.keep (fun s=>Cc k.ms s.nd) (F.take i)++[F[i]]):=by
   have h1:Mn (F.take i++[F[i]]):=by
    have:Mn (F.take (i+1)):=hMn.take _;rw[XT,ZC c]at this;exact this
   exact h1.sublist ((List.filter_sublist).append (List.Sublist.refl _))
  have hw:=haw F[i].nd;have live:Cc k.ms F[i].nd=false→nms (Pl.keep (fun s=>Cc k.ms s.nd) (F.take (i+1)))=Vy (nms (Pl.keep (fun s=>Cc k.ms s.nd) (F.take i))) F[i]:=fun h=>by rw[hkt,if_neg (by rw[h];decide),P9]
  have gone:Cc k.ms F[i].nd=true→nms (Pl.keep (fun s=>Cc k.ms s.nd) (F.take (i+1)))=nms (Pl.keep (fun s=>Cc k.ms s.nd) (F.take i)):=fun h=>by rw[hkt,if_pos h]
  have stp:∀n,(nms (Pl.keep (fun s=>Cc k.ms s.nd) (F.take i))).getLast? =some n→(F[i].nd∈nms (Pl.keep (fun s=>Cc k.ms s.nd) (F.take i))↔n=F[i].nd):=fun n hn=>Aqv hMi hn;clear hkt hMi;generalize hN':nms (Pl.keep (fun s=>Cc k.ms s.nd) (F.take (i+1)))=N' at *;generalize nms (Pl.keep (fun s=>Cc k.ms s.nd) (F.take i))=Ns at *;by_cases hh:hit (Mb.cf F[i].nd) k.ms=true
  ·have hlt:=Mx hh;rw[hh,cond_true,ZC hlt]at hw;change Cc k.ms F[i].nd=decide (3≤(k.ms[low (Mb.cf F[i].nd) k.ms]).st)at hw;rw[if_pos hh];rw[show decide ((0:Int)≤(low (Mb.cf F[i].nd) k.ms:Int))=true from ZX (by omega)];refine G0 ?_;refine⟨low (Mb.cf F[i].nd) k.ms,_,rfl,Ad hlt,?_⟩;refine G0 ?_;rw[show decide ((2:Int)<(k.ms[low (Mb.cf F[i].nd) k.ms]).st)=Cc k.ms F[i].nd from by rw[hw];exact decide_eq_decide.2 (by omega)];by_cases ha:Cc k.ms F[i].nd=true
   ·rw[ha];refine G0 ?_;(exact⟨none,trivial,fun gr=>⟨⟨(i+1,g),Nat.succ_le_of_lt c⟩,by show F.length-(i+1)<F.length-i;omega,tI,tI,⟨congrArg (fun r=>some (Ent.mk g (.t 9) 1 (List.map Dg r))) (hN'.trans (gone ha)).symm,trivial⟩,tI⟩⟩)
   ·have hw:Cc k.ms F[i].nd=false:=XE.2 ha;rw[hw];have hl:=live hw;refine G0 ?_;rw[ZE];by_cases z:Ns.length=0
    ·rw[show((Ns.length:Int)==0)=true from ZR.2 (by omega)];have e:N'=Ns++[F[i].nd]:=by rw[hl,List.length_eq_zero_iff.1 z];rfl
     refine G0 ?_;refine⟨i,_,rfl,Ad c,?_⟩;refine G1 ?_;intro gg;refine⟨lI,lI,?_⟩;refine G1 ?_;intro gg;(exact⟨none,trivial,fun gr=>⟨⟨(i+1,gg),Nat.succ_le_of_lt c⟩,by show F.length-(i+1)<F.length-i;omega,tI,tI,⟨congrArg (fun r=>some (Ent.mk gg (.t 9) 1 r)) (show Ns.map Dg++[Dg F[i].nd]=_ from by rw[hN',e,ZI];rfl),trivial⟩,tI⟩⟩)
    ·rw[show((Ns.length:Int)==0)=false from ZG.2 (by omega)];have hlt:Ns.length-1<Ns.length:=by omega
     have hst:=stp Ns[Ns.length-1] (by rw[List.getLast?_eq_getElem?,ZC hlt]);refine G0 ?_;refine⟨(Ns.length:Int)-1,(by show IntKind.i64.wrap (((Ns.map Dg).length:Int)-1)=_;rw[ZE];exact A6 (by omega) (by omega)),?_⟩;refine G0 ?_;refine⟨Ns.length-1,_,(by omega),Ad hlt,?_⟩;refine G0 ?_;refine⟨i,_,rfl,Ad c,?_⟩;refine G0 ?_;by_cases u:Ns[Ns.length-1]=F[i].nd
     ·have e:N'=Ns:=by rw[hl,Rz (hst.2 u)]
      rw[show(Ns[Ns.length-1].toList==F[i].nd.toList)=true from by rw[u];exact beq_self_eq_true _];refine G0 ?_;(exact⟨none,trivial,fun gr=>⟨⟨(i+1,g),Nat.succ_le_of_lt c⟩,by show F.length-(i+1)<F.length-i;omega,tI,tI,⟨congrArg (fun r=>some (Ent.mk g (.t 9) 1 (List.map Dg r))) (hN'.trans (e)).symm,trivial⟩,tI⟩⟩)
     ·have e:N'=Ns++[F[i].nd]:=by rw[hl,N3 (fun z=>u (hst.1 z))]
      rw[show(Ns[Ns.length-1].toList==F[i].nd.toList)=false from V2 u];refine G0 ?_;refine⟨i,_,rfl,Ad c,?_⟩;refine G1 ?_;intro gg;refine⟨lI,lI,?_⟩;refine G1 ?_;intro gg;(exact⟨none,trivial,fun gr=>⟨⟨(i+1,gg),Nat.succ_le_of_lt c⟩,by show F.length-(i+1)<F.length-i;omega,tI,tI,⟨congrArg (fun r=>some (Ent.mk gg (.t 9) 1 r)) (show Ns.map Dg++[Dg F[i].nd]=_ from by rw[hN',e,ZI];rfl),trivial⟩,tI⟩⟩)
  ·rw[if_neg hh];have hw:Cc k.ms F[i].nd=false:=by rw[hw,XE.2 hh];rfl
   have hl:=live hw;refine G0 ?_;rw[ZE];by_cases z:Ns.length=0
   ·rw[show((Ns.length:Int)==0)=true from ZR.2 (by omega)];have e:N'=Ns++[F[i].nd]:=by rw[hl,List.length_eq_zero_iff.1 z];rfl
    refine G0 ?_;refine⟨i,_,rfl,Ad c,?_⟩;refine G1 ?_;intro gg;refine⟨lI,lI,?_⟩;refine G1 ?_;intro gg;(exact⟨none,trivial,fun gr=>⟨⟨(i+1,gg),Nat.succ_le_of_lt c⟩,by show F.length-(i+1)<F.length-i;omega,tI,tI,⟨congrArg (fun r=>some (Ent.mk gg (.t 9) 1 r)) (show Ns.map Dg++[Dg F[i].nd]=_ from by rw[hN',e,ZI];rfl),trivial⟩,tI⟩⟩)
   ·rw[show((Ns.length:Int)==0)=false from ZG.2 (by omega)];have hlt:Ns.length-1<Ns.length:=by omega
    have hst:=stp Ns[Ns.length-1] (by rw[List.getLast?_eq_getElem?,ZC hlt]);refine G0 ?_;refine⟨(Ns.length:Int)-1,(by show IntKind.i64.wrap (((Ns.map Dg).length:Int)-1)=_;rw[ZE];exact A6 (by omega) (by omega)),?_⟩;refine G0 ?_;refine⟨Ns.length-1,_,(by omega),Ad hlt,?_⟩;refine G0 ?_;refine⟨i,_,rfl,Ad c,?_⟩;refine G0 ?_;by_cases u:Ns[Ns.length-1]=F[i].nd
    ·have e:N'=Ns:=by rw[hl,Rz (hst.2 u)]
     rw[show(Ns[Ns.length-1].toList==F[i].nd.toList)=true from by rw[u];exact beq_self_eq_true _];refine G0 ?_;(exact⟨none,trivial,fun gr=>⟨⟨(i+1,g),Nat.succ_le_of_lt c⟩,by show F.length-(i+1)<F.length-i;omega,tI,tI,⟨congrArg (fun r=>some (Ent.mk g (.t 9) 1 (List.map Dg r))) (hN'.trans (e)).symm,trivial⟩,tI⟩⟩)
    ·have e:N'=Ns++[F[i].nd]:=by rw[hl,N3 (fun z=>u (hst.1 z))]
     rw[show(Ns[Ns.length-1].toList==F[i].nd.toList)=false from V2 u];refine G0 ?_;refine⟨i,_,rfl,Ad c,?_⟩;refine G1 ?_;intro gg;refine⟨lI,lI,?_⟩;refine G1 ?_;intro gg;(exact⟨none,trivial,fun gr=>⟨⟨(i+1,gg),Nat.succ_le_of_lt c⟩,by show F.length-(i+1)<F.length-i;omega,tI,tI,⟨congrArg (fun r=>some (Ent.mk gg (.t 9) 1 r)) (show Ns.map Dg++[Dg F[i].nd]=_ from by rw[hN',e,ZI];rfl),trivial⟩,tI⟩⟩)
 ·rw[show decide ((i:Int)<(F.length:Int))=false from ZY (by omega)];obtain rfl:i=F.length:=by omega
  rw[XF]at hnl hnl2 hkl;rw[←hFk]at hnl hnl2 hkl;rw[XF,←hFk];have hf:k.f.okb=true:=Pc.err_iff.1 i5;have hw:∀w∈k.wh,w.pl.okb=true:=fun w hw=>Pc.err_iff.1 (An7 i6 _ (List.mem_map_of_mem (f:=fun w:Wh=>w.pl.err) hw));have hS:=Afu k.f k.wh (nms (fK k q)) (by omega) (by omega) hf hw;rw[show Q8 k.f k.wh (nms (fK k q))=Ii (cfN (Bx k.f k.wh)) (nms (fK k q))from Arl _ _]at hS;have hNl:(Ii (cfN (Bx k.f k.wh)) (nms (fK k q))).length=(nms (fK k q)).length:=Aad;rw[←hNl]at hFl;refine G0 ?_;refine .inl (cY hS ?_);clear hS hfk;generalize Ii (cfN (Bx k.f k.wh)) (nms (fK k q))=N at *;refine G1 ?_;intro gg;(refine⟨[(24,384,42,7)],none,{p:Nat×Nat//p.1≤N.length∧∀s∈(Lik N F p.1 0).take 20,(C3 k.here t nm s).2=0},[1,2,3,7,18,20,21],fun⟨⟨i,g⟩,hi,hz⟩=>[(24,.own 384 g),(25,.v (.int .i64 (i:Int)))],[112,2384],fun⟨⟨i,g⟩,hi,hz⟩=>[(384,⟨g,.t 42,7,(((Lik N F i 0).take 20).map fun s=>(C3 k.here t nm s).1).map Rr.row⟩)],fun⟨⟨i,g⟩,hi,hz⟩=>N.length-i,(by exact⟨rfl,by decide,(fun _ _ _ _ h=>by cases h),trivial⟩),fun gs=>⟨trivial,fun _=>⟨⟨(0,gs 384),ZU _,fun s hs=>by rw[Aio]at hs;simp at hs⟩,tI,tI,?_,tI⟩⟩,fun⟨⟨i,g⟩,hi,hz⟩=>?_⟩)
  ·exact⟨congrArg (fun r:List Sv=>some (Ent.mk (gs 384) (.t 42) 7 (((r.take 20).map fun s=>(C3 k.here t nm s).1).map Rr.row))) (show []=Lik N F 0 0 from by rw[Aio];rfl),trivial⟩
  simp only at hi hz;refine G0 ?_;refine Aa (fun h=>?_) (fun h=>?_)<;>rw[h]
  ·have c:i<N.length:=by have:=ZV h;simpa using this
   refine G0 ?_;(refine⟨[],none,{p:Nat×Nat//p.1≤F.length∧∀s∈(Lik N F i p.1).take 20,(C3 k.here t nm s).2=0},[1,2,3,7,18,20,21,25],fun⟨⟨kk,g⟩,hkk,hz⟩=>[(24,.own 384 g),(26,.v (.int .i64 (kk:Int)))],[112,2384],fun⟨⟨kk,g⟩,hkk,hz⟩=>[(384,⟨g,.t 42,7,(((Lik N F i kk).take 20).map fun s=>(C3 k.here t nm s).1).map Rr.row⟩)],fun⟨⟨kk,g⟩,hkk,hz⟩=>F.length-kk,trivial,fun _=>⟨trivial,fun _=>⟨⟨(0,g),ZU _,hz⟩,tI,Af _ _,tI,Ae _ _⟩⟩,fun⟨⟨kk,g⟩,hkk,hz⟩=>?_⟩);simp only at hkk hz;have hl20:((((Lik N F i kk).take 20).map fun s=>(C3 k.here t nm s).1).map Rr.row).length=min 20 (Lik N F i kk).length:=by rw[ZE,ZE,ZM]
   refine G0 ?_;simp only[ZE];by_cases kF:kk<F.length
   ·rw[show decide ((kk:Int)<(F.length:Int))=true from ZX (by omega)];refine G0 ?_;refine Aa (fun h2=>?_) (fun h2=>?_)<;>rw[h2];rotate_left
    ·have k20:¬(Lik N F i kk).length<20:=by
      have h':=ZW h2;change¬(((((Lik N F i kk).take 20).map fun s=>(C3 k.here t nm s).1).map Rr.row).length:Int)<20 at h';rw[hl20]at h';omega
     have e2:=Aqo c hkk (by omega);refine G0 ?_;(exact⟨none,trivial,fun gr=>⟨⟨(i+1,g),Nat.succ_le_of_lt c,(by show∀s∈(Lik N F (i+1) 0).take 20,(C3 k.here t nm s).2=0;rw[e2];exact hz)⟩,by show N.length-(i+1)<N.length-i;omega,tI,tI,⟨congrArg (fun r:List Sv=>some (Ent.mk g (.t 42) 7 ((r.map fun s=>(C3 k.here t nm s).1).map Rr.row))) e2.symm,trivial⟩,tI⟩⟩)
    have k20:(Lik N F i kk).length<20:=by
     have h':=ZV h2;change (((((Lik N F i kk).take 20).map fun s=>(C3 k.here t nm s).1).map Rr.row).length:Int)<20 at h';rw[hl20]at h';omega
    refine G0 ?_;refine⟨kk,_,rfl,Ad kF,?_⟩;refine G0 ?_;refine⟨i,_,rfl,Ad c,?_⟩;refine G0 ?_;by_cases e:F[kk].nd=N[i];rotate_left
    ·have e2:Lik N F i (kk+1)=Lik N F i kk:=(An0 c kF).trans (if_neg e);rw[show(F[kk].nd.toList==N[i].toList)=false from V2 e];refine G0 ?_;(exact⟨none,trivial,fun gr=>⟨⟨(kk+1,g),Nat.succ_le_of_lt kF,(by show∀s∈(Lik N F i (kk+1)).take 20,(C3 k.here t nm s).2=0;rw[e2];exact hz)⟩,by show F.length-(kk+1)<F.length-kk;omega,tI,tI,⟨congrArg (fun r:List Sv=>some (Ent.mk g (.t 42) 7 (((r.take 20).map fun s=>(C3 k.here t nm s).1).map Rr.row))) e2.symm,trivial⟩,tI⟩⟩)
    rw[show(F[kk].nd.toList==N[i].toList)=true from by rw[e];exact beq_self_eq_true _];have e2:Lik N F i (kk+1)=Lik N F i kk++[F[kk]]:=(An0 c kF).trans (if_pos e);have e3:(Lik N F i (kk+1)).take 20=(Lik N F i kk).take 20++[F[kk]]:=by
     rw[e2,List.take_of_length_le (by simp;omega),List.take_of_length_le (by omega)]
    have hr':(((Lik N F i kk).take 20).map fun s=>(C3 k.here t nm s).1).map Rr.row++[Rr.row (C3 k.here t nm F[kk]).1]=(((Lik N F i (kk+1)).take 20).map fun s=>(C3 k.here t nm s).1).map Rr.row:=by
     rw[e3,ZI,ZI];rfl
    have hz':(C3 k.here t nm F[kk]).2=0→∀s∈(Lik N F i (kk+1)).take 20,(C3 k.here t nm s).2=0:=fun h s hs=>by
     rw[e3]at hs;rcases XM.1 hs with q|q
     ·exact hz s q
     ·rw[XN.1 q];exact h
    have hl21:((((Lik N F i kk).take 20).map fun s=>(C3 k.here t nm s).1).map Rr.row).length≤20:=by omega
    have hl22:(Lik N F i kk).length≤20:=by omega
    simp only[ZE]at hl21;refine G1 ?_;intro gg;by_cases t1:t=1
    ·have hB:C3 k.here t nm F[kk]=(⟨nm,t,0,F[kk].ad,⟨#[]⟩,0,⟨#[]⟩⟩,0):=if_pos t1;rw[hB]at hr';rw[show(t==1)=true from ZR.2 t1];refine G0 ?_;refine⟨kk,_,rfl,Ad kF,?_⟩;refine G1 ?_;intro gg;refine⟨lI,lI,?_⟩;refine G1 ?_;intro gg;(exact⟨none,trivial,fun gr=>⟨⟨(kk+1,gg),Nat.succ_le_of_lt kF,hz' (by rw[hB])⟩,by show F.length-(kk+1)<F.length-kk;omega,tI,tI,⟨congrArg (fun r=>some (Ent.mk gg (.t 42) 7 r)) hr',trivial⟩,tI⟩⟩)
    rw[show(t==1)=false from ZG.2 t1];refine G0 ?_;by_cases t16:t=16
    ·have hB:C3 k.here t nm F[kk]=(⟨nm,t,0,0,F[kk].id,0,⟨#[]⟩⟩,0):=(if_neg t1).trans (if_pos t16);rw[hB]at hr';rw[show(t==16)=true from ZR.2 t16];refine G0 ?_;refine⟨kk,_,rfl,Ad kF,?_⟩;refine G1 ?_;intro gg;refine⟨lI,lI,?_⟩;refine G1 ?_;intro gg;(exact⟨none,trivial,fun gr=>⟨⟨(kk+1,gg),Nat.succ_le_of_lt kF,hz' (by rw[hB])⟩,by show F.length-(kk+1)<F.length-kk;omega,tI,tI,⟨congrArg (fun r=>some (Ent.mk gg (.t 42) 7 r)) hr',trivial⟩,tI⟩⟩)
    rw[show(t==16)=false from ZG.2 t16];refine G0 ?_;by_cases t33:t=33;rotate_left
    ·exfalso;simp[Fk,t1,t16,t33]at c2
    have hz0:(⟨#[]⟩:ByteArray).size≤9223372036854775807:=by decide
    have hPr:=Ks ⟨⟨#[]⟩,⟨#[]⟩,F[kk].nd,k.here⟩ ⟨hz0,hz0,hsz _ (ZK kF),hk.here⟩;have hB0:C3 k.here t nm F[kk]=(if(Ah ⟨⟨#[]⟩,⟨#[]⟩,F[kk].nd,k.here⟩).2≠0 then(⟨nm,t,0,0,⟨#[]⟩,0,⟨#[]⟩⟩,(Ah ⟨⟨#[]⟩,⟨#[]⟩,F[kk].nd,k.here⟩).2)
      else(⟨nm,t,0,0,⟨#[]⟩,F[kk].pt,(Ah ⟨⟨#[]⟩,⟨#[]⟩,F[kk].nd,k.here⟩).1⟩,0):Rr×Int):=(if_neg t1).trans ((if_neg t16).trans (if_pos t33))
    rw[show(t==33)=true from ZR.2 t33];refine G0 ?_;refine⟨kk,_,rfl,Ad kF,?_⟩;refine G0 ?_;refine⟨kk,_,rfl,Ad kF,?_⟩;refine G0 ?_;refine .inl (cX hPr ?_);generalize Ah ⟨⟨#[]⟩,⟨#[]⟩,F[kk].nd,k.here⟩=P at *;refine G1 ?_;intro gg;by_cases c9:P.2=0
    ·rw[c9];have hB:C3 k.here t nm F[kk]=(⟨nm,t,0,0,⟨#[]⟩,F[kk].pt,P.1⟩,0):=by rw[hB0,if_neg (by simpa using c9)]
     rw[hB]at hr';refine G1 ?_;intro gg;refine⟨lI,lI,?_⟩;refine G1 ?_;intro gg;(exact⟨none,trivial,fun gr=>⟨⟨(kk+1,gg),Nat.succ_le_of_lt kF,hz' (by rw[hB])⟩,by show F.length-(kk+1)<F.length-kk;omega,tI,tI,⟨congrArg (fun r=>some (Ent.mk gg (.t 42) 7 r)) hr',trivial⟩,tI⟩⟩)
    ·have hfe:Cp ((Bh k q).map fun s=>(C3 k.here t nm s).2)=P.2:=by
      obtain⟨tl,htl⟩:=Aq5 c kF e;obtain⟨d,hd⟩:∃d,20-(Lik N F i kk).length=d+1:=⟨19-(Lik N F i kk).length,by omega⟩;rw[hFl,htl,List.take_append,hd,List.take_succ_cons,ZI,List.map_cons,show(C3 k.here t nm F[kk]).2=P.2 from by rw[hB0,if_pos (by simpa using c9)]];exact Akr (fun a ha=>by
       obtain⟨s,h1,rfl⟩:=XO.1 ha;exact hz s h1) c9
     rw[hfe,if_pos c9]at hA;rw[hA,show(P.2 !=0)=true from ZZ.2 c9];refine G0 ?_;(exact⟨[],aI⟩)
   ·rw[show decide ((kk:Int)<(F.length:Int))=false from ZY (by omega)];obtain rfl:kk=F.length:=by omega
    rw[Y2 c]at hz;refine G0 ?_;(exact⟨none,trivial,fun gr=>⟨⟨(i+1,g),Nat.succ_le_of_lt c,hz⟩,by show N.length-(i+1)<N.length-i;omega,tI,tI,⟨congrArg (fun r:List Sv=>some (Ent.mk g (.t 42) 7 (((r.take 20).map fun s=>(C3 k.here t nm s).1).map Rr.row))) (Y2 c),trivial⟩,tI⟩⟩)
  ·have c:¬i<N.length:=by have:=ZW h;simpa using this
   obtain rfl:i=N.length:=by omega
   have hfe:Cp ((Bh k q).map fun s=>(C3 k.here t nm s).2)=0:=I1 fun j hj=>by
    have hm:((Bh k q).map fun s=>(C3 k.here t nm s).2)[j]∈(Bh k q).map fun s=>(C3 k.here t nm s).2:=ZK hj;obtain⟨s,h1,h2⟩:=XO.1 hm;rw[←h2];rw[hFl]at h1;exact hz s h1
   rw[hfe,if_neg (by simp)]at hA;have hA:C7 k q t (Bh k q)=(if(Dc k.l q.sv ⟨#[]⟩).length=0 then([],3,0)else(((Lik N F N.length 0).take 20).map fun s=>(C3 k.here t nm s).1,0,0):List Rr×Int×Int):=hA.trans (by rw[hFl]);refine G0 ?_;refine .inl (cX hR2 ?_);refine G1 ?_;intro gg;rw[ZE];by_cases z:(Dc k.l q.sv ⟨#[]⟩).length=0
   ·rw[if_pos z]at hA;rw[hA,show(((Dc k.l q.sv ⟨#[]⟩).length:Int)==0)=true from ZR.2 (by omega)];refine G0 ?_;(exact⟨[],aI⟩)
   ·rw[if_neg z]at hA;rw[hA,show(((Dc k.l q.sv ⟨#[]⟩).length:Int)==0)=false from ZG.2 (by omega)];refine G0 ?_;(exact⟨[384],aI⟩)
theorem Ahj {P : Program} {f : FuncId} {fn : Func} {code : Code} {rc : Ai} {ps rs : List Par} {rts : List RT} (hf : P.funcs[f]? = some fn) (hb : fn.body = some code) (hname : (fn.name == "runtime.NumGoroutine") = false) (hres : Ay P fn.ntmps code = some (Mc rc))
  (hlen:ps.length≤fn.ntmps) (hts:Xj P fn.results.toList=some rts) (h:wpv P rc (Am7 rts rs) (S6 ps)):Fun P f ps rs:=by
 refine⟨⟨fn,hf,hname,by rw[hb];rfl⟩,fun w R xs hlt hp=>?_⟩;refine calls_of_wp hf hb ?_;obtain⟨G0,hrel⟩:=Ww (n:=fn.ntmps) hlt hp hlen;refine wp_mono (Er (c:=⟨w,R,A2 ps xs,fn.ntmps,noD,G0⟩) rfl rc hres h hrel) fun e a' w' he=>?_;have fin:∀st,Ax2 rts rs st→Rel ⟨w,R,A2 ps xs,fn.ntmps,noD,G0⟩ st a' w'→a'.defers=[]∧∃v,(results fn a'.tmps).run P w'=.ok v w'∧∃(ys:List Value) (R':Nat→Prop),Ending.returned v=.returned (G7 ys)∧Fr (A2 ps xs) w w'∧(∀b,R b→R' b)∧
   (∀b,R' b→R b∨(b<w'.heap.size∧(A2 ps xs b∨w.heap.size≤b)))∧Kx w' R' rs ys∧(∀b,A2 rs ys b→A2 ps xs b∨w.heap.size≤b):=fun st ⟨us,gone,hG,hA⟩ ⟨R2,G,hR⟩=>by
  obtain⟨zs,z1,z2,z3⟩:=Mf hR _ hts hG;refine⟨hR.defers,_,Lg z1,zs,RB R2 G st.H gone true,rfl,hR.fr,fun b hb=>.inl (hR.old b hb),?_,?_⟩
  ·rintro b (hb|⟨_,id,e,l,_,q1,q2,q3,q4⟩)
   ·rcases hR.src b hb with q|q
    ·exact .inl q
    ·exact .inr ⟨hR.lt b hb,q⟩
   ·exact .inr ⟨hR.hr.lt q1 q2 q3 q4,(hR.hr.mine id e l b q1 q2 q3 q4).2⟩
  ·obtain⟨h1,h2⟩:=H1 hR (bor0:=true) (xs:=zs) hA (fun e=>e) z2.symm (fun i u x h3 h4=>z3 i u x h3 h4) (fun id hid=>hid);refine⟨h1,fun b hb=>?_⟩;obtain⟨id,_,e,l,q1,q2,q3,q4⟩:=h2 b hb;exact(hR.hr.mine id e l b q1 q2 q3 q4).2
 cases e with
 |normal=>obtain⟨st,h1,h2⟩:=he;exact fin st h1 h2
 |ret=>obtain⟨st,h1,h2⟩:=he;exact fin st h1 h2
 |exit id=>obtain⟨st,h1,h2⟩:=he;exact h1.elim
 |goto l=>exact he.elim
 |panic ch=>obtain⟨v,_,h2,_⟩:=he;exact h2.elim
 |outgrown=>exact he.elim
theorem Aq9{P:Program}{f:FuncId}{np:Nat}{rc rcD:Ai}{ts:List RT}{ps rs:List Par}(hc:Ep P f np=some (rc,ts))(hs:Mc rcD=rc)(hn:ps.length=np)(h:wpv P rcD (Am7 ts rs) (S6 ps)):Fun P f ps rs:=by
 unfold Ep at hc;split at hc
 ·cases hc
 ·rename_i fn hf;split at hc
  ·cases hc
  ·rename_i code hb;split at hc
   ·cases hc
   ·rename_i hk;simp only[Bool.or_eq_true,not_or,Bool.not_eq_true',Bool.not_eq_true,decide_eq_false_iff_not,Classical.not_not]at hk;split at hc
    ·rename_i rc' ts' h1 h2;simp only[ZD,Prod.mk.injEq]at hc;obtain⟨rfl,rfl⟩:=hc;refine Ahj hf hb ?_ (h1.trans (by rw[hs])) ?_ h2 h
     ·exact hk.1
     ·rw[hn];simpa using hk.2
    ·cases hc
theorem Aty{P:Program}{f:FuncId}{np:Nat}{rc rcD:Ai}{ts:List RT}{ps rs:List Par}(hc:Ep P f np=some (rc,ts))(hs:Mc rcD=rc)(hn:ps.length=np)(h:wpx P noD rcD (Avo ts rs) (K8 ps) (Td ps)):Fun P f ps rs:=by
 refine Aq9 hc hs hn (Dk rcD (fun e env H h=>?_) h);cases e with
 |normal=>exact h
 |exit j=>exact h
 |ret=>exact h
def Au1:List V:=Af6 0 false false 0 ⟨#[]⟩ 0 (.v (.slice none 0 0))
def moO(s:ByteArray)(gz gb gs:Nat)(id:Int)(an ct:Bool)(co:Int)(qn:ByteArray)(qt:Int)(a:Nat)(b:Bool)(L:List Rr)(g:Nat):List (Nat×Ent):=
 match L with
 |[]=>[(32,⟨gz,.b 52,7,[Au1]⟩),(80,⟨gb,.b 52,7,[Af6 id an ct co qn qt (.v (.slice none 0 0))]⟩),(336,⟨gs,.b scT,3,[[.v (.string s),.v (.int .i64 (a:Int)),.v (.bool b)]]⟩)]
 |r::L=>[(32,⟨gz,.b 52,7,[Au1]⟩),(80,⟨gb,.b 52,7,[Af6 id an ct co qn qt (.own 3840 g)]⟩),(3840,⟨g,.t 42,7,(r::L).map Rr.row⟩),(336,⟨gs,.b scT,3,[[.v (.string s),.v (.int .i64 (a:Int)),.v (.bool b)]]⟩)]
theorem Ahb{m:Ms}(h1:m.qn.size≤1000000000000)(h2:∀r∈m.rs,r.Sh):m.Sized:=⟨h1,fun r hr=>⟨XI (h2 r hr).nm (by decide),XI (h2 r hr).tx (by decide),XI (h2 r hr).tg (by decide)⟩⟩
set_option maxHeartbeats 4000000 in
theorem Ao2(s:ByteArray):Fun Tryz.prog 32 [.c (.v (.string s))] [.c (.agg (Cs s).1.row),.c (.v (.int .i64 (Cs s).2))]:=by
 refine Aty (rcD:=H8 [true,true,true,true,true,true,true,true,true,true,true,false] Hx) Nz (by kernel_rfl) rfl ?_;refine G1 ?_;intro gg;revert gg;intro gz;by_cases c0:512<s.size
 ·have e:Cs s=(A9,2):=if_pos c0;rw[e,show decide ((512:Int)<(s.size:Int))=true from ZX (by omega)];refine G0 ?_;exact C2 (.cell1 rfl rfl rfl rfl rfl rfl (.tmp1 rfl .nil)) cBI (As rfl)
 have hs:s.size≤1000000:=by omega
 rw[show decide ((512:Int)<(s.size:Int))=false from ZY (by omega)];refine G1 ?_;intro gg;revert gg;intro gs;(refine .inr (.inl ⟨_,_,false,336::([]++[]),?_,Aw s 0 2 false hs (by omega) (by omega) (by omega),Ab,oI,dI,?_⟩);focus (exact wI));obtain⟨id,hid⟩:∃x,x=B6 s 2 0:=⟨_,rfl⟩;have bid:=E6 s 0 (show 2≤4 by omega);rw[←hid]at bid ⊢;(refine goI ?_;repeat (intro gg;refine goI ?_));revert gg;intro gb;(refine .inr (.inl ⟨_,_,false,336::([]++[]),?_,Aw s (Aq s 2 0) 1 (B7 s 2 0 false) hs (Bj (by omega) hs) (by omega) (by omega),Ab,oI,dI,?_⟩);focus (exact wI));rw[show Aq s 1 (Aq s 2 0)=Aq s 3 0 from Kw s 2 1 0,show B7 s 1 (Aq s 2 0) (B7 s 2 0 false)=B7 s 3 0 false from K2 s 2 1 0 false];obtain⟨fl,hfl⟩:∃x,x=B6 s 1 (Aq s 2 0):=⟨_,rfl⟩;have bfl:=E6 s (Aq s 2 0) (show 1≤4 by omega);rw[←hfl]at bfl ⊢;refine G1 ?_;intro gg;refine⟨by omega,((fl%4:Nat):Int),by rw[Int.tmod_eq_emod_of_nonneg (by omega)];omega,?_⟩;refine G0 ?_;(refine .inr (.inl ⟨_,_,false,336::([]++[]),?_,Aw s (Aq s 3 0) 1 (B7 s 3 0 false) hs (Bj (by omega) hs) (by omega) (by omega),Ab,oI,dI,?_⟩);focus (exact wI));rw[show Aq s 1 (Aq s 3 0)=Aq s 4 0 from Kw s 3 1 0,show B7 s 1 (Aq s 3 0) (B7 s 3 0 false)=B7 s 4 0 false from K2 s 3 1 0 false];obtain⟨co,hco⟩:∃x,x=B6 s 1 (Aq s 3 0):=⟨_,rfl⟩;have bco:=E6 s (Aq s 3 0) (show 1≤4 by omega);rw[←hco]at bco ⊢;refine G1 ?_;intro gg;(refine .inr (.inl ⟨_,_,false,336::([]++[]),?_,Aw s (Aq s 4 0) 2 (B7 s 4 0 false) hs (Bj (by omega) hs) (by omega) (by omega),Ab,oI,dI,?_⟩);focus (exact wI));rw[show Aq s 2 (Aq s 4 0)=Aq s 6 0 from Kw s 4 2 0,show B7 s 2 (Aq s 4 0) (B7 s 4 0 false)=B7 s 6 0 false from K2 s 4 2 0 false];obtain⟨one,hone⟩:∃x,x=B6 s 2 (Aq s 4 0):=⟨_,rfl⟩;have bone:=E6 s (Aq s 4 0) (show 2≤4 by omega);rw[←hone]at bone ⊢;refine G1 ?_;intro gg;(refine .inr (.inl ⟨_,_,false,336::([]++[]),?_,Aw s (Aq s 6 0) 2 (B7 s 6 0 false) hs (Bj (by omega) hs) (by omega) (by omega),Ab,oI,dI,?_⟩);focus (exact wI));rw[show Aq s 2 (Aq s 6 0)=Aq s 8 0 from Kw s 6 2 0,show B7 s 2 (Aq s 6 0) (B7 s 6 0 false)=B7 s 8 0 false from K2 s 6 2 0 false];obtain⟨n,hn⟩:∃x,x=B6 s 2 (Aq s 6 0):=⟨_,rfl⟩;have bn:=E6 s (Aq s 6 0) (show 2≤4 by omega);rw[←hn]at bn ⊢;refine G1 ?_;intro gg;(refine .inr (.inl ⟨_,_,false,336::([]++[]),?_,Aw s (Aq s 8 0) 4 (B7 s 8 0 false) hs (Bj (by omega) hs) (by omega) (by omega),Ab,oI,dI,?_⟩);focus (exact wI));rw[show Aq s 4 (Aq s 8 0)=Aq s 12 0 from Kw s 8 4 0,show B7 s 4 (Aq s 8 0) (B7 s 8 0 false)=B7 s 12 0 false from K2 s 8 4 0 false];obtain⟨z,hz⟩:∃x,x=B6 s 4 (Aq s 8 0):=⟨_,rfl⟩;have bz:=E6 s (Aq s 8 0) (show 4≤4 by omega);rw[←hz]at bz ⊢;refine G1 ?_;intro gg;rw[show decide ((128:Int)≤(fl:Int))=decide (128≤fl)from decide_eq_decide.2 (by omega),show decide ((2:Int)≤((fl%4:Nat):Int))=decide (2≤fl%4)from decide_eq_decide.2 (by omega)];have hH:hdS s=⟨id,fl,co,one,n,z⟩:=by rw[hid,hfl,hco,hone,hn,hz];rfl
 clear hid hfl hco hone hn hz;obtain⟨an,han⟩:∃x,x=decide (128≤fl):=⟨_,rfl⟩;obtain⟨ct,hct⟩:∃x,x=decide (2≤fl%4):=⟨_,rfl⟩;rw[←han,←hct];refine⟨PLift (12≤s.size∧(hdS s).ok),[],fun _=>[(0,.v (.string s)),(2,.ptr 32 gz 0 0),(4,.ptr 336 gs 0 0),(5,.ptr 80 gb 0 0),(8,.v (.int .i64 (n:Int)))],[],fun _=>[(32,⟨gz,.b 52,7,[Au1]⟩),(80,⟨gb,.b 52,7,[Af6 (id:Int) an ct (co:Int) ⟨#[]⟩ 0 (.v (.slice none 0 0))]⟩),(336,⟨gs,.b scT,3,[[.v (.string s),.v (.int .i64 ((Aq s 12 0:Nat):Int)),.v (.bool (B7 s 12 0 false))]]⟩)],?_,fun hx=>?_⟩
 ·refine G0 ?_;by_cases c12:12≤s.size;rotate_left
  ·have e3:=(Hn (s:=s) (k:=12) (a:=0) (b:=false) (by omega)).2.2;rw[e3];have e:Cs s=(A9,1):=by unfold Cs;rw[if_neg c0,if_neg (fun q=>c12 q.1)]
   rw[e];refine G0 ?_;exact C2 (.cell1 rfl rfl rfl rfl rfl rfl (.tmp1 rfl .nil)) cBI (As rfl)
  obtain⟨_,e2,e3⟩:=Cf (s:=s) (k:=12) (a:=0) (b:=false) (by omega);rw[e3];refine G0 ?_;by_cases f0:fl=0
  ·rw[show((fl:Int) !=0)=false from by simp;omega];refine G0 ?_;by_cases k1:co≤15;rotate_left
   ·rw[show(decide ((15:Int)<(co:Int)))=true from ZX (by omega)];have e:Cs s=(A9,1):=by unfold Cs;rw[if_neg c0,if_neg (fun q=>by rw[hH]at q;exact k1 q.2.2.1)]
    rw[e];refine G0 ?_;exact C2 (.cell1 rfl rfl rfl rfl rfl rfl (.tmp1 rfl .nil)) cBI (As rfl)
   rw[show(decide ((15:Int)<(co:Int)))=false from ZY (by omega)];refine G0 ?_;by_cases k2:one=1;rotate_left
   ·rw[show((one:Int) !=1)=true from ZZ.2 (by omega)];have e:Cs s=(A9,1):=by unfold Cs;rw[if_neg c0,if_neg (fun q=>by rw[hH]at q;exact k2 q.2.2.2.1)]
    rw[e];refine G0 ?_;exact C2 (.cell1 rfl rfl rfl rfl rfl rfl (.tmp1 rfl .nil)) cBI (As rfl)
   rw[show((one:Int) !=1)=false from by simp;omega];refine G0 ?_;by_cases k3:n≤20;rotate_left
   ·rw[show(decide ((20:Int)<(n:Int)))=true from ZX (by omega)];have e:Cs s=(A9,1):=by unfold Cs;rw[if_neg c0,if_neg (fun q=>by rw[hH]at q;exact k3 q.2.2.2.2.1)]
    rw[e];refine G0 ?_;exact C2 (.cell1 rfl rfl rfl rfl rfl rfl (.tmp1 rfl .nil)) cBI (As rfl)
   rw[show(decide ((20:Int)<(n:Int)))=false from ZY (by omega)];refine G0 ?_;by_cases k4:z=0;rotate_left
   ·rw[show((z:Int) !=0)=true from ZZ.2 (by omega)];have e:Cs s=(A9,1):=by unfold Cs;rw[if_neg c0,if_neg (fun q=>by rw[hH]at q;exact k4 q.2.2.2.2.2)]
    rw[e];refine G0 ?_;exact C2 (.cell1 rfl rfl rfl rfl rfl rfl (.tmp1 rfl .nil)) cBI (As rfl)
   rw[show((z:Int) !=0)=false from by simp;omega];refine G0 ?_;exact⟨⟨c12,by rw[hH];exact⟨.inl f0,k1,k2,k3,k4⟩⟩,tI,tI,tI,tI⟩
  rw[show((fl:Int) !=0)=true from ZZ.2 (by omega)];refine G0 ?_;by_cases f2:fl=2
  ·rw[show((fl:Int) !=2)=false from by simp;omega];refine G0 ?_;by_cases k1:co≤15;rotate_left
   ·rw[show(decide ((15:Int)<(co:Int)))=true from ZX (by omega)];have e:Cs s=(A9,1):=by unfold Cs;rw[if_neg c0,if_neg (fun q=>by rw[hH]at q;exact k1 q.2.2.1)]
    rw[e];refine G0 ?_;exact C2 (.cell1 rfl rfl rfl rfl rfl rfl (.tmp1 rfl .nil)) cBI (As rfl)
   rw[show(decide ((15:Int)<(co:Int)))=false from ZY (by omega)];refine G0 ?_;by_cases k2:one=1;rotate_left
   ·rw[show((one:Int) !=1)=true from ZZ.2 (by omega)];have e:Cs s=(A9,1):=by unfold Cs;rw[if_neg c0,if_neg (fun q=>by rw[hH]at q;exact k2 q.2.2.2.1)]
    rw[e];refine G0 ?_;exact C2 (.cell1 rfl rfl rfl rfl rfl rfl (.tmp1 rfl .nil)) cBI (As rfl)
   rw[show((one:Int) !=1)=false from by simp;omega];refine G0 ?_;by_cases k3:n≤20;rotate_left
   ·rw[show(decide ((20:Int)<(n:Int)))=true from ZX (by omega)];have e:Cs s=(A9,1):=by unfold Cs;rw[if_neg c0,if_neg (fun q=>by rw[hH]at q;exact k3 q.2.2.2.2.1)]
    rw[e];refine G0 ?_;exact C2 (.cell1 rfl rfl rfl rfl rfl rfl (.tmp1 rfl .nil)) cBI (As rfl)
   rw[show(decide ((20:Int)<(n:Int)))=false from ZY (by omega)];refine G0 ?_;by_cases k4:z=0;rotate_left
   ·rw[show((z:Int) !=0)=true from ZZ.2 (by omega)];have e:Cs s=(A9,1):=by unfold Cs;rw[if_neg c0,if_neg (fun q=>by rw[hH]at q;exact k4 q.2.2.2.2.2)]
    rw[e];refine G0 ?_;exact C2 (.cell1 rfl rfl rfl rfl rfl rfl (.tmp1 rfl .nil)) cBI (As rfl)
   rw[show((z:Int) !=0)=false from by simp;omega];refine G0 ?_;exact⟨⟨c12,by rw[hH];exact⟨.inr (.inl f2),k1,k2,k3,k4⟩⟩,tI,tI,tI,tI⟩
  rw[show((fl:Int) !=2)=true from ZZ.2 (by omega)];refine G0 ?_;by_cases f128:fl=128
  ·rw[show((fl:Int) !=128)=false from by simp;omega];refine G0 ?_;by_cases k1:co≤15;rotate_left
   ·rw[show(decide ((15:Int)<(co:Int)))=true from ZX (by omega)];have e:Cs s=(A9,1):=by unfold Cs;rw[if_neg c0,if_neg (fun q=>by rw[hH]at q;exact k1 q.2.2.1)]
    rw[e];refine G0 ?_;exact C2 (.cell1 rfl rfl rfl rfl rfl rfl (.tmp1 rfl .nil)) cBI (As rfl)
   rw[show(decide ((15:Int)<(co:Int)))=false from ZY (by omega)];refine G0 ?_;by_cases k2:one=1;rotate_left
   ·rw[show((one:Int) !=1)=true from ZZ.2 (by omega)];have e:Cs s=(A9,1):=by unfold Cs;rw[if_neg c0,if_neg (fun q=>by rw[hH]at q;exact k2 q.2.2.2.1)]
    rw[e];refine G0 ?_;exact C2 (.cell1 rfl rfl rfl rfl rfl rfl (.tmp1 rfl .nil)) cBI (As rfl)
   rw[show((one:Int) !=1)=false from by simp;omega];refine G0 ?_;by_cases k3:n≤20;rotate_left
   ·rw[show(decide ((20:Int)<(n:Int)))=true from ZX (by omega)];have e:Cs s=(A9,1):=by unfold Cs;rw[if_neg c0,if_neg (fun q=>by rw[hH]at q;exact k3 q.2.2.2.2.1)]
    rw[e];refine G0 ?_;exact C2 (.cell1 rfl rfl rfl rfl rfl rfl (.tmp1 rfl .nil)) cBI (As rfl)
   rw[show(decide ((20:Int)<(n:Int)))=false from ZY (by omega)];refine G0 ?_;by_cases k4:z=0;rotate_left
   ·rw[show((z:Int) !=0)=true from ZZ.2 (by omega)];have e:Cs s=(A9,1):=by unfold Cs;rw[if_neg c0,if_neg (fun q=>by rw[hH]at q;exact k4 q.2.2.2.2.2)]
    rw[e];refine G0 ?_;exact C2 (.cell1 rfl rfl rfl rfl rfl rfl (.tmp1 rfl .nil)) cBI (As rfl)
   rw[show((z:Int) !=0)=false from by simp;omega];refine G0 ?_;exact⟨⟨c12,by rw[hH];exact⟨.inr (.inr (.inl f128)),k1,k2,k3,k4⟩⟩,tI,tI,tI,tI⟩
  rw[show((fl:Int) !=128)=true from ZZ.2 (by omega)];refine G0 ?_;by_cases f130:fl=130
  ·rw[show((fl:Int) !=130)=false from by simp;omega];refine G0 ?_;by_cases k1:co≤15;rotate_left
   ·rw[show(decide ((15:Int)<(co:Int)))=true from ZX (by omega)];have e:Cs s=(A9,1):=by unfold Cs;rw[if_neg c0,if_neg (fun q=>by rw[hH]at q;exact k1 q.2.2.1)]
    rw[e];refine G0 ?_;exact C2 (.cell1 rfl rfl rfl rfl rfl rfl (.tmp1 rfl .nil)) cBI (As rfl)
   rw[show(decide ((15:Int)<(co:Int)))=false from ZY (by omega)];refine G0 ?_;by_cases k2:one=1;rotate_left
   ·rw[show((one:Int) !=1)=true from ZZ.2 (by omega)];have e:Cs s=(A9,1):=by unfold Cs;rw[if_neg c0,if_neg (fun q=>by rw[hH]at q;exact k2 q.2.2.2.1)]
    rw[e];refine G0 ?_;exact C2 (.cell1 rfl rfl rfl rfl rfl rfl (.tmp1 rfl .nil)) cBI (As rfl)
   rw[show((one:Int) !=1)=false from by simp;omega];refine G0 ?_;by_cases k3:n≤20;rotate_left
   ·rw[show(decide ((20:Int)<(n:Int)))=true from ZX (by omega)];have e:Cs s=(A9,1):=by unfold Cs;rw[if_neg c0,if_neg (fun q=>by rw[hH]at q;exact k3 q.2.2.2.2.1)]
    rw[e];refine G0 ?_;exact C2 (.cell1 rfl rfl rfl rfl rfl rfl (.tmp1 rfl .nil)) cBI (As rfl)
   rw[show(decide ((20:Int)<(n:Int)))=false from ZY (by omega)];refine G0 ?_;by_cases k4:z=0;rotate_left
   ·rw[show((z:Int) !=0)=true from ZZ.2 (by omega)];have e:Cs s=(A9,1):=by unfold Cs;rw[if_neg c0,if_neg (fun q=>by rw[hH]at q;exact k4 q.2.2.2.2.2)]
    rw[e];refine G0 ?_;exact C2 (.cell1 rfl rfl rfl rfl rfl rfl (.tmp1 rfl .nil)) cBI (As rfl)
   rw[show((z:Int) !=0)=false from by simp;omega];refine G0 ?_;exact⟨⟨c12,by rw[hH];exact⟨.inr (.inr (.inr f130)),k1,k2,k3,k4⟩⟩,tI,tI,tI,tI⟩
  rw[show((fl:Int) !=130)=true from ZZ.2 (by omega)];have e:Cs s=(A9,1):=by unfold Cs;rw[if_neg c0,if_neg (fun q=>by rw[hH]at q;have:=q.2.1;simp only at this;omega)]
  rw[e];refine G0 ?_;exact C2 (.cell1 rfl rfl rfl rfl rfl rfl (.tmp1 rfl .nil)) cBI (As rfl)
 obtain⟨⟨c12,hok⟩⟩:=hx;simp only[Ou,O8,Iz,Iv];obtain⟨_,e2,e3⟩:=Cf (s:=s) (k:=12) (a:=0) (b:=false) (by omega);rw[e2,e3];have hnb:=Uf hs (show 12≤1000000 by omega) false;obtain⟨nm,a1,b1,hN⟩:∃nm a1 b1,Dp s 12 false=(nm,a1,b1):=⟨_,_,_,rfl⟩;have hSN:=Rv s 12 false hs (by omega);rw[hN]at hSN hnb;simp only at hSN hnb;obtain⟨ha1,hnz⟩:=hnb;refine G0 ?_;(refine .inr (.inl ⟨_,_,false,336::([]++[]),?_,hSN,Ab,oI,dI,?_⟩);focus (exact wI));refine G1 ?_;intro gg;(refine .inr (.inl ⟨_,_,false,336::([]++[]),?_,Aw s a1 2 b1 hs ha1 (by omega) (by omega),Ab,oI,dI,?_⟩);focus (exact wI));obtain⟨qt,hqt⟩:∃x,x=B6 s 2 a1:=⟨_,rfl⟩;have bqt:=E6 s a1 (show 2≤4 by omega);rw[←hqt]at bqt ⊢;obtain⟨a2,ha2⟩:∃x,x=Aq s 2 a1:=⟨_,rfl⟩;obtain⟨b2,hb2⟩:∃x,x=B7 s 2 a1 b1:=⟨_,rfl⟩;have la2:a2≤1000000:=by rw[ha2];exact Bj ha1 hs
 rw[←ha2,←hb2];have hM:Cs s=match Gy s n (M1 s a2 b2).1 (M1 s a2 b2).2 []with
   |none=>(A9,1)
   |some (L,a,b)=>
    if b=false∧a=s.size∧A4 ⟨id,an,ct,co,nm,qt,L⟩=0 then(⟨id,an,ct,co,nm,qt,L⟩,0)
    else(A9,1):=by
  unfold Cs;subst han hct hqt ha2 hb2;rw[if_neg c0,if_pos ⟨c12,hok⟩,hN,hH]
  all_goals rfl
 clear hN hSN hH hqt ha2 hb2 han hct;refine G1 ?_;intro gg;cases b2;rotate_left
 ·have e:Cs s=(A9,1):=by
   rw[hM,show Gy s n (M1 s a2 true).1 (M1 s a2 true).2 []=some ([],a2,true)from RsI.stop (k:=0) (R:=Gy s n a2 true []) (RsI.start la2)];exact if_neg fun q=>by cases q.1
  rw[e];refine G0 ?_;(refine⟨[],none,Unit,[],fun _=>[(0,.v (.string s)),(2,.ptr 32 gz 0 0),(4,.ptr 336 gs 0 0),(5,.ptr 80 gb 0 0),(8,.v (.int .i64 (n:Int))),(10,.v (.int .i64 (0:Int)))],[],fun _=>[(32,⟨gz,.b 52,7,[Au1]⟩),(80,⟨gb,.b 52,7,[Af6 (id:Int) an ct (co:Int) nm (qt:Int) (.v (.slice none 0 0))]⟩),(336,⟨gs,.b scT,3,[[.v (.string s),.v (.int .i64 (a2:Int)),.v (.bool true)]]⟩)],fun _=>0,trivial,fun _=>⟨trivial,fun _=>⟨(),tI,Af _ _,tI,Ae _ _⟩⟩,fun _=>?_⟩);simp only[Ou,O8,Iz,Iv];refine G0 ?_;by_cases c1:0<n
  ·rw[show decide ((0:Int)<(n:Int))=true from ZX (by omega)];refine G0 ?_;exact C2 (.cell1 rfl rfl rfl rfl rfl rfl (.tmp1 rfl .nil)) cBI (As rfl)
  ·rw[show decide ((0:Int)<(n:Int))=false from ZY (by omega)];refine G0 ?_;exact C2 (.cell1 rfl rfl rfl rfl rfl rfl (.tmp1 rfl .nil)) cBI (As rfl)
 refine G0 ?_;(refine .inr (.inl ⟨_,_,false,336::([]++[]),?_,Aw s a2 2 false hs la2 (by omega) (by omega),Ab,oI,dI,?_⟩);focus (exact wI));obtain⟨R,hR⟩:∃R,R=Gy s n (M1 s a2 false).1 (M1 s a2 false).2 []:=⟨_,rfl⟩;have hI0:RsI s n R 0 (M1 s a2 false).1 (M1 s a2 false).2 []:=by rw[hR];exact RsI.start (Amq hs la2 false)
 rw[←hR]at hM;clear hR;refine G1 ?_;intro gg;(refine⟨[],none,{p:Nat×Nat×Bool×List Rr×Nat//RsI s n R p.1 p.2.1 p.2.2.1 p.2.2.2.1},[],fun⟨⟨k,a,b,L,g⟩,hp⟩=>[(0,.v (.string s)),(2,.ptr 32 gz 0 0),(4,.ptr 336 gs 0 0),(5,.ptr 80 gb 0 0),(8,.v (.int .i64 (n:Int))),(10,.v (.int .i64 (k:Int)))],[],fun⟨⟨k,a,b,L,g⟩,hp⟩=>moO s gz gb gs (id:Int) an ct (co:Int) nm (qt:Int) a b L g,fun⟨⟨k,a,b,L,g⟩,hp⟩=>n-k,trivial,fun _=>⟨trivial,fun _=>⟨⟨(0,(M1 s a2 false).1,(M1 s a2 false).2,[],0),hI0⟩,tI,Af _ _,tI,Ae _ _⟩⟩,fun⟨⟨k,a,b,L,g⟩,hp⟩=>?_⟩);simp only at hp;simp only[Ou,O8,Iz,Iv];have hla:=hp.ha;by_cases c11:k<n;rotate_left
 ·have hq:=hp.end_ c11;cases b;rotate_left
  ·rcases L with _|⟨r0,L⟩
   ·refine G0 ?_;rw[show decide ((k:Int)<(n:Int))=false from ZY (by omega)];refine G0 ?_;have e:Cs s=(A9,1):=by
     rw[hM,hq];exact if_neg fun q=>by cases q.1
    rw[e];refine G0 ?_;exact C2 (.cell1 rfl rfl rfl rfl rfl rfl (.tmp1 rfl .nil)) cBI (As rfl)
   ·refine G0 ?_;rw[show decide ((k:Int)<(n:Int))=false from ZY (by omega)];refine G0 ?_;have e:Cs s=(A9,1):=by
     rw[hM,hq];exact if_neg fun q=>by cases q.1
    rw[e];refine G0 ?_;exact C2 (.cell1 rfl rfl rfl rfl rfl rfl (.tmp1 rfl .nil)) cBI (As rfl)
  ·rcases L with _|⟨r0,L⟩
   ·refine G0 ?_;rw[show decide ((k:Int)<(n:Int))=false from ZY (by omega)];refine G0 ?_;by_cases f1:a=s.size;rotate_left
    ·rw[show((a:Int) !=(s.size:Int))=true from ZZ.2 (by omega)];have e:Cs s=(A9,1):=by
      rw[hM,hq];exact if_neg fun q=>f1 q.2.1
     rw[e];refine G0 ?_;exact C2 (.cell1 rfl rfl rfl rfl rfl rfl (.tmp1 rfl .nil)) cBI (As rfl)
    rw[show((a:Int) !=(s.size:Int))=false from by simp;omega];refine G0 ?_;(refine .inl ⟨_,_,true,[],aI,Tt ⟨id,an,ct,co,nm,qt,[]⟩ (Ahb (show nm.size≤_ by omega) hp.hz) (by have:=hp.hl;have:=hp.hk;show([]:List Rr).length≤_;omega),(fun _=>fI),nI,?_⟩);refine G1 ?_;intro gg;by_cases f2:A4 ⟨id,an,ct,co,nm,qt,[]⟩=0;rotate_left
    ·rw[show(A4 ⟨id,an,ct,co,nm,qt,[]⟩ !=0)=true from ZZ.2 f2];have e:Cs s=(A9,1):=by
      rw[hM,hq];exact if_neg fun q=>f2 q.2.2
     rw[e];refine G0 ?_;exact C2 (.cell1 rfl rfl rfl rfl rfl rfl (.tmp1 rfl .nil)) cBI (As rfl)
    rw[f2];refine G0 ?_;have e:Cs s=(⟨id,an,ct,co,nm,qt,[]⟩,0):=by
     rw[hM,hq];exact if_pos ⟨rfl,f1,f2⟩
    rw[e];exact C2 (.cell1 rfl rfl rfl rfl rfl rfl (.tmp1 rfl .nil)) cBI (As rfl)
   ·refine G0 ?_;rw[show decide ((k:Int)<(n:Int))=false from ZY (by omega)];refine G0 ?_;by_cases f1:a=s.size;rotate_left
    ·rw[show((a:Int) !=(s.size:Int))=true from ZZ.2 (by omega)];have e:Cs s=(A9,1):=by
      rw[hM,hq];exact if_neg fun q=>f1 q.2.1
     rw[e];refine G0 ?_;exact C2 (.cell1 rfl rfl rfl rfl rfl rfl (.tmp1 rfl .nil)) cBI (As rfl)
    rw[show((a:Int) !=(s.size:Int))=false from by simp;omega];refine G0 ?_;(refine .inl ⟨_,_,true,[],aI,Tt ⟨id,an,ct,co,nm,qt,r0::L⟩ (Ahb (show nm.size≤_ by omega) hp.hz) (by have:=hp.hl;have:=hp.hk;show(r0::L:List Rr).length≤_;omega),(fun _=>fI),nI,?_⟩);refine G1 ?_;intro gg;by_cases f2:A4 ⟨id,an,ct,co,nm,qt,r0::L⟩=0;rotate_left
    ·rw[show(A4 ⟨id,an,ct,co,nm,qt,r0::L⟩ !=0)=true from ZZ.2 f2];have e:Cs s=(A9,1):=by
      rw[hM,hq];exact if_neg fun q=>f2 q.2.2
     rw[e];refine G0 ?_;exact C2 (.cell1 rfl rfl rfl rfl rfl rfl (.tmp1 rfl .nil)) cBI (As rfl)
    rw[f2];refine G0 ?_;have e:Cs s=(⟨id,an,ct,co,nm,qt,r0::L⟩,0):=by
     rw[hM,hq];exact if_pos ⟨rfl,f1,f2⟩
    rw[e];exact C2 (.cell1 rfl rfl rfl rfl rfl rfl (.tmp1 rfl .nil)) cBI (As rfl)
 cases b;rotate_left
 ·have hq:=hp.stop;rcases L with _|⟨r0,L⟩
  ·refine G0 ?_;rw[show decide ((k:Int)<(n:Int))=true from ZX (by omega)];refine G0 ?_;have e:Cs s=(A9,1):=by
    rw[hM,hq];exact if_neg fun q=>by cases q.1
   rw[e];refine G0 ?_;exact C2 (.cell1 rfl rfl rfl rfl rfl rfl (.tmp1 rfl .nil)) cBI (As rfl)
  ·refine G0 ?_;rw[show decide ((k:Int)<(n:Int))=true from ZX (by omega)];refine G0 ?_;have e:Cs s=(A9,1):=by
    rw[hM,hq];exact if_neg fun q=>by cases q.1
   rw[e];refine G0 ?_;exact C2 (.cell1 rfl rfl rfl rfl rfl rfl (.tmp1 rfl .nil)) cBI (As rfl)
 have hnb:=Uf hs hla false;obtain⟨nn,a1,b1,hN⟩:∃nm a1 b1,Dp s a false=(nm,a1,b1):=⟨_,_,_,rfl⟩;have hSM:=Rv s a false hs hla;have hrec:Oj s a=Xx s nn a1 b1:=by unfold Oj;rw[hN]
 rw[hN]at hSM hnb;simp only at hSM hnb;obtain⟨ha1,hnz2⟩:=hnb;obtain⟨t,ht⟩:∃x,x=B6 s 2 a1:=⟨_,rfl⟩;obtain⟨a2,ha2⟩:∃x,x=Aq s 2 a1:=⟨_,rfl⟩;obtain⟨b2,hb2⟩:∃x,x=B7 s 2 a1 b1:=⟨_,rfl⟩;have bt:=E6 s a1 (show 2≤4 by omega);rw[←ht]at bt;have la2:a2≤1000000:=by rw[ha2];exact Bj ha1 hs
 unfold Xx at hrec;simp only at hrec;rw[←ht,←ha2,←hb2]at hrec;rcases L with _|⟨r0,L⟩
 ·refine G0 ?_;rw[show decide ((k:Int)<(n:Int))=true from ZX (by omega)];refine G1 ?_;intro gg;(refine .inr (.inl ⟨_,_,false,336::([]++[]),?_,hSM,Ab,oI,dI,?_⟩);focus (exact wI));refine G1 ?_;intro gg;(refine .inr (.inl ⟨_,_,false,336::([]++[]),?_,Aw s a1 2 b1 hs ha1 (by omega) (by omega),Ab,oI,dI,?_⟩);focus (exact wI));rw[←ht,←ha2,←hb2];refine G1 ?_;intro gg;cases b2;rotate_left
  ·refine G0 ?_;(refine .inr (.inl ⟨_,_,false,336::([]++[]),?_,Aw s a2 4 true hs la2 (by omega) (by omega),Ab,oI,dI,?_⟩);focus (exact wI));refine G1 ?_;intro gg;(refine .inr (.inl ⟨_,_,false,336::([]++[]),?_,Aw s (Aq s 4 a2) 2 (B7 s 4 a2 true) hs (Bj la2 hs) (by omega) (by omega),Ab,oI,dI,?_⟩);focus (exact wI));have b9:=E6 s (Aq s 4 a2) (show 2≤4 by omega);have b8:Aq s 2 (Aq s 4 a2)≤1000000:=Bj (Bj la2 hs) hs;refine G1 ?_;intro gg;have e:Cs s=(A9,1):=by rw[hM,hp.none c11 (hrec.trans (if_pos (.inl rfl)))]
   rw[e];refine G0 ?_;exact C2 (.cell1 rfl rfl rfl rfl rfl rfl (.tmp1 rfl .nil)) cBI (As rfl)
  refine G0 ?_;(refine .inr (.inl ⟨_,_,false,336::([]++[]),?_,Aw s a2 2 false hs la2 (by omega) (by omega),Ab,oI,dI,?_⟩);focus (exact wI));refine G1 ?_;intro gg;obtain⟨a3,ha3⟩:∃x,x=Aq s 2 a2:=⟨_,rfl⟩;obtain⟨b3,hb3⟩:∃x,x=((B6 s 2 a2:Int) !=1):=⟨_,rfl⟩;have la3:a3≤1000000:=by rw[ha3];exact Bj la2 hs
  rw[show M1 s a2 false=(a3,b3)from by rw[ha3,hb3];rfl]at hrec;simp only at hrec;rw[←ha3,←hb3];clear ha3 hb3;refine G0 ?_;(refine .inr (.inl ⟨_,_,false,336::([]++[]),?_,Aw s a3 4 b3 hs la3 (by omega) (by omega),Ab,oI,dI,?_⟩);focus (exact wI));obtain⟨ls,hls⟩:∃x,x=B6 s 4 a3:=⟨_,rfl⟩;have bls:=E6 s a3 (show 4≤4 by omega);rw[←hls]at bls hrec ⊢;refine G1 ?_;intro gg;(refine .inr (.inl ⟨_,_,false,336::([]++[]),?_,Aw s (Aq s 4 a3) 2 (B7 s 4 a3 b3) hs (Bj la3 hs) (by omega) (by omega),Ab,oI,dI,?_⟩);focus (exact wI));rw[show Aq s 2 (Aq s 4 a3)=Aq s 6 a3 from Kw s 4 2 a3,show B7 s 2 (Aq s 4 a3) (B7 s 4 a3 b3)=B7 s 6 a3 b3 from K2 s 4 2 a3 b3];obtain⟨kk,hkk⟩:∃x,x=B6 s 2 (Aq s 4 a3):=⟨_,rfl⟩;have bkk:=E6 s (Aq s 4 a3) (show 2≤4 by omega);rw[←hkk]at bkk hrec ⊢;obtain⟨a5,ha5⟩:∃x,x=Aq s 6 a3:=⟨_,rfl⟩;obtain⟨b5,hb5⟩:∃x,x=B7 s 6 a3 b3:=⟨_,rfl⟩;have la5:a5≤1000000:=by rw[ha5];exact Bj la3 hs
  rw[←ha5,←hb5]at hrec ⊢;clear hls hkk ha5 hb5;refine G1 ?_;intro gg;rw[show(a5:Int)+(kk:Int)=((a5+kk:Nat):Int)from by omega];refine G0 ?_;cases b5;rotate_left
  ·refine G0 ?_;have e:Cs s=(A9,1):=by rw[hM,hp.none c11 (hrec.trans (if_pos (.inl rfl)))]
   rw[e];refine G0 ?_;exact C2 (.cell1 rfl rfl rfl rfl rfl rfl (.tmp1 rfl .nil)) cBI (As rfl)
  refine G0 ?_;by_cases g1:s.size<a5+kk
  ·rw[show decide ((s.size:Int)<((a5+kk:Nat):Int))=true from ZX (by omega)];have e:Cs s=(A9,1):=by rw[hM,hp.none c11 (hrec.trans (if_pos (.inr g1)))]
   rw[e];refine G0 ?_;exact C2 (.cell1 rfl rfl rfl rfl rfl rfl (.tmp1 rfl .nil)) cBI (As rfl)
  rw[show decide ((s.size:Int)<((a5+kk:Nat):Int))=false from ZY (by omega)];rw[if_neg (fun q=>q.elim (fun q=>by cases q) g1)]at hrec;obtain⟨en,hen⟩:∃x,x=a5+kk:=⟨_,rfl⟩;rw[←hen]at hrec ⊢;clear hen g1;refine G0 ?_;by_cases t1:t=1
  ·rw[show((t:Int)==1)=true from ZR.2 (by omega)];have hbd:Oj s a=some ((⟨nn,t,ls,B6 s 4 a5,⟨#[]⟩,0,⟨#[]⟩⟩:Rr),Aq s 4 a5,Uk (Aq s 4 a5) en (B7 s 4 a5 false)):=hrec.trans (if_pos t1);refine G0 ?_;(refine .inr (.inl ⟨_,_,false,336::([]++[]),?_,Aw s a5 4 false hs la5 (by omega) (by omega),Ab,oI,dI,?_⟩);focus (exact wI));obtain⟨b6,hb6⟩:∃x,x=B7 s 4 a5 false:=⟨_,rfl⟩;rw[←hb6]at hbd ⊢;clear hb6;refine G1 ?_;intro gg;cases b6;rotate_left
   ·refine G1 ?_;intro gg;refine⟨lI,lI,?_⟩;refine G1 ?_;intro gg;(exact⟨none,trivial,fun gr=>⟨⟨(k+1,Aq s 4 a5,true,([]:List Rr)++[(⟨nn,t,ls,B6 s 4 a5,⟨#[]⟩,0,⟨#[]⟩⟩:Rr)],gg),hp.next hs c11 (hbd)⟩,by show n-(k+1)<n-k;omega,tI,tI,⟨rfl,⟨rfl,⟨rfl,⟨rfl,trivial⟩⟩⟩⟩,tI⟩⟩)
   refine G1 ?_;intro gg;refine⟨lI,lI,?_⟩;refine G1 ?_;intro gg;(exact⟨none,trivial,fun gr=>⟨⟨(k+1,Aq s 4 a5,(Aq s 4 a5:Int) !=(en:Int),([]:List Rr)++[(⟨nn,t,ls,B6 s 4 a5,⟨#[]⟩,0,⟨#[]⟩⟩:Rr)],gg),hp.next hs c11 (hbd)⟩,by show n-(k+1)<n-k;omega,tI,tI,⟨rfl,⟨rfl,⟨rfl,⟨rfl,trivial⟩⟩⟩⟩,tI⟩⟩)
  by_cases t16:t=16
  ·rw[show((t:Int)==1)=false from ZG.2 (by omega)];have hb16:=hrec.trans ((if_neg t1).trans (if_pos t16));refine G0 ?_;rw[show((t:Int)==16)=true from ZR.2 (by omega)];refine G0 ?_;(refine .inr (.inl ⟨_,_,false,336::([]++[]),?_,Aw s a5 1 false hs la5 (by omega) (by omega),Ab,oI,dI,?_⟩);focus (exact wI));obtain⟨a6,ha6⟩:∃x,x=Aq s 1 a5:=⟨_,rfl⟩;obtain⟨b6,hb6⟩:∃x,x=B7 s 1 a5 false:=⟨_,rfl⟩;obtain⟨k6,hk6⟩:∃x,x=B6 s 1 a5:=⟨_,rfl⟩;have bk6:=E6 s a5 (show 1≤4 by omega);have la6:a6≤1000000:=by rw[ha6];exact Bj la5 hs
   rw[←hk6]at bk6;rw[←ha6,←hb6,←hk6]at hb16 ⊢;clear ha6 hb6 hk6;refine G1 ?_;intro gg;cases b6;rotate_left
   ·refine G0 ?_;have e:Cs s=(A9,1):=by rw[hM,hp.none c11 (hb16.trans (if_pos (.inl rfl)))]
    rw[e];refine G0 ?_;exact C2 (.cell1 rfl rfl rfl rfl rfl rfl (.tmp1 rfl .nil)) cBI (As rfl)
   refine G0 ?_;rw[show(a6:Int)+(k6:Int)=((a6+k6:Nat):Int)from by omega];by_cases g2:s.size<a6+k6
   ·rw[show decide ((s.size:Int)<((a6+k6:Nat):Int))=true from ZX (by omega)];have e:Cs s=(A9,1):=by rw[hM,hp.none c11 (hb16.trans (if_pos (.inr g2)))]
    rw[e];refine G0 ?_;exact C2 (.cell1 rfl rfl rfl rfl rfl rfl (.tmp1 rfl .nil)) cBI (As rfl)
   rw[show decide ((s.size:Int)<((a6+k6:Nat):Int))=false from ZY (by omega)];have hbd:Oj s a=some ((⟨nn,t,ls,0,s.extract a6 (a6+k6),0,⟨#[]⟩⟩:Rr),a6+k6,Uk (a6+k6) en false):=hb16.trans (if_neg (fun q=>q.elim (fun q=>by cases q) g2));refine G0 ?_;refine⟨a6,a6+k6,⟨_,rfl⟩,⟨.i64,congrArg (fun x=>V.v (.int .i64 x)) (show(a6:Int)+(k6:Int)=((a6+k6:Nat):Int)by omega)⟩,Nat.le_add_right _ _,by omega,?_⟩;refine G1 ?_;intro gg;rw[show(a6:Int)+(k6:Int)=((a6+k6:Nat):Int)from by omega];refine G0 ?_;refine⟨lI,lI,?_⟩;refine G1 ?_;intro gg;(exact⟨none,trivial,fun gr=>⟨⟨(k+1,a6+k6,((a6+k6:Nat):Int) !=(en:Int),([]:List Rr)++[(⟨nn,t,ls,0,s.extract a6 (a6+k6),0,⟨#[]⟩⟩:Rr)],gg),hp.next hs c11 (hbd)⟩,by show n-(k+1)<n-k;omega,tI,tI,⟨rfl,⟨rfl,⟨rfl,⟨rfl,trivial⟩⟩⟩⟩,tI⟩⟩)
  by_cases t33:t=33
  ·rw[show((t:Int)==1)=false from ZG.2 (by omega)];have hbd:=hrec.trans ((if_neg t1).trans ((if_neg t16).trans (if_pos t33)));refine G0 ?_;rw[show((t:Int)==16)=false from ZG.2 (by omega)];refine G0 ?_;rw[show((t:Int)==33)=true from ZR.2 (by omega)];refine G0 ?_;(refine .inr (.inl ⟨_,_,false,336::([]++[]),?_,Aw s a5 4 false hs la5 (by omega) (by omega),Ab,oI,dI,?_⟩);focus (exact wI));refine G1 ?_;intro gg;obtain⟨a6,ha6⟩:∃x,x=Aq s 4 a5:=⟨_,rfl⟩;obtain⟨b6,hb6⟩:∃x,x=((B6 s 4 a5:Int) !=0):=⟨_,rfl⟩;have la6:a6≤1000000:=by rw[ha6];exact Bj la5 hs
   rw[←ha6,←hb6]at hbd ⊢;clear ha6 hb6;refine G0 ?_;(refine .inr (.inl ⟨_,_,false,336::([]++[]),?_,Aw s a6 2 b6 hs la6 (by omega) (by omega),Ab,oI,dI,?_⟩);focus (exact wI));obtain⟨p6,hp6⟩:∃x,x=B6 s 2 a6:=⟨_,rfl⟩;obtain⟨a7,ha7⟩:∃x,x=Aq s 2 a6:=⟨_,rfl⟩;obtain⟨b7,hb7⟩:∃x,x=B7 s 2 a6 b6:=⟨_,rfl⟩;have la7:a7≤1000000:=by rw[ha7];exact Bj la6 hs
   rw[←hp6,←ha7,←hb7]at hbd ⊢;clear hp6 ha7 hb7;have hSG:=Rv s a7 b7 hs la7;obtain⟨tg,a8,b8,hG⟩:∃nm a1 b1,Dp s a7 b7=(nm,a1,b1):=⟨_,_,_,rfl⟩;rw[hG]at hSG hbd;simp only at hSG hbd;refine G1 ?_;intro gg;(refine .inr (.inl ⟨_,_,false,336::([]++[]),?_,hSG,Ab,oI,dI,?_⟩);focus (exact wI));refine G1 ?_;intro gg;cases b8;rotate_left
   ·refine G1 ?_;intro gg;refine⟨lI,lI,?_⟩;refine G1 ?_;intro gg;(exact⟨none,trivial,fun gr=>⟨⟨(k+1,a8,true,([]:List Rr)++[(⟨nn,t,ls,0,⟨#[]⟩,p6,tg⟩:Rr)],gg),hp.next hs c11 (hbd)⟩,by show n-(k+1)<n-k;omega,tI,tI,⟨rfl,⟨rfl,⟨rfl,⟨rfl,trivial⟩⟩⟩⟩,tI⟩⟩)
   refine G1 ?_;intro gg;refine⟨lI,lI,?_⟩;refine G1 ?_;intro gg;(exact⟨none,trivial,fun gr=>⟨⟨(k+1,a8,(a8:Int) !=(en:Int),([]:List Rr)++[(⟨nn,t,ls,0,⟨#[]⟩,p6,tg⟩:Rr)],gg),hp.next hs c11 (hbd)⟩,by show n-(k+1)<n-k;omega,tI,tI,⟨rfl,⟨rfl,⟨rfl,⟨rfl,trivial⟩⟩⟩⟩,tI⟩⟩)
  rw[show((t:Int)==1)=false from ZG.2 (by omega)];have hbd:Oj s a=some ((⟨nn,t,ls,0,⟨#[]⟩,0,⟨#[]⟩⟩:Rr),a5,Uk a5 en false):=hrec.trans ((if_neg t1).trans ((if_neg t16).trans (if_neg t33)));refine G0 ?_;rw[show((t:Int)==16)=false from ZG.2 (by omega)];refine G0 ?_;rw[show((t:Int)==33)=false from ZG.2 (by omega)];refine G1 ?_;intro gg;refine⟨lI,lI,?_⟩;refine G1 ?_;intro gg;(exact⟨none,trivial,fun gr=>⟨⟨(k+1,a5,(a5:Int) !=(en:Int),([]:List Rr)++[(⟨nn,t,ls,0,⟨#[]⟩,0,⟨#[]⟩⟩:Rr)],gg),hp.next hs c11 (hbd)⟩,by show n-(k+1)<n-k;omega,tI,tI,⟨rfl,⟨rfl,⟨rfl,⟨rfl,trivial⟩⟩⟩⟩,tI⟩⟩)
 ·have hll:L.length≤4294967295:=by
   have q1:=hp.hl;have q2:=hp.hk;rw[ZJ]at q1;omega
  refine G0 ?_;rw[show decide ((k:Int)<(n:Int))=true from ZX (by omega)];refine G1 ?_;intro gg;(refine .inr (.inl ⟨_,_,false,336::([]++[]),?_,hSM,Ab,oI,dI,?_⟩);focus (exact wI));refine G1 ?_;intro gg;(refine .inr (.inl ⟨_,_,false,336::([]++[]),?_,Aw s a1 2 b1 hs ha1 (by omega) (by omega),Ab,oI,dI,?_⟩);focus (exact wI));rw[←ht,←ha2,←hb2];refine G1 ?_;intro gg;cases b2;rotate_left
  ·refine G0 ?_;(refine .inr (.inl ⟨_,_,false,336::([]++[]),?_,Aw s a2 4 true hs la2 (by omega) (by omega),Ab,oI,dI,?_⟩);focus (exact wI));refine G1 ?_;intro gg;(refine .inr (.inl ⟨_,_,false,336::([]++[]),?_,Aw s (Aq s 4 a2) 2 (B7 s 4 a2 true) hs (Bj la2 hs) (by omega) (by omega),Ab,oI,dI,?_⟩);focus (exact wI));have b9:=E6 s (Aq s 4 a2) (show 2≤4 by omega);have b8:Aq s 2 (Aq s 4 a2)≤1000000:=Bj (Bj la2 hs) hs;refine G1 ?_;intro gg;have e:Cs s=(A9,1):=by rw[hM,hp.none c11 (hrec.trans (if_pos (.inl rfl)))]
   rw[e];refine G0 ?_;exact C2 (.cell1 rfl rfl rfl rfl rfl rfl (.tmp1 rfl .nil)) cBI (As rfl)
  refine G0 ?_;(refine .inr (.inl ⟨_,_,false,336::([]++[]),?_,Aw s a2 2 false hs la2 (by omega) (by omega),Ab,oI,dI,?_⟩);focus (exact wI));refine G1 ?_;intro gg;obtain⟨a3,ha3⟩:∃x,x=Aq s 2 a2:=⟨_,rfl⟩;obtain⟨b3,hb3⟩:∃x,x=((B6 s 2 a2:Int) !=1):=⟨_,rfl⟩;have la3:a3≤1000000:=by rw[ha3];exact Bj la2 hs
  rw[show M1 s a2 false=(a3,b3)from by rw[ha3,hb3];rfl]at hrec;simp only at hrec;rw[←ha3,←hb3];clear ha3 hb3;refine G0 ?_;(refine .inr (.inl ⟨_,_,false,336::([]++[]),?_,Aw s a3 4 b3 hs la3 (by omega) (by omega),Ab,oI,dI,?_⟩);focus (exact wI));obtain⟨ls,hls⟩:∃x,x=B6 s 4 a3:=⟨_,rfl⟩;have bls:=E6 s a3 (show 4≤4 by omega);rw[←hls]at bls hrec ⊢;refine G1 ?_;intro gg;(refine .inr (.inl ⟨_,_,false,336::([]++[]),?_,Aw s (Aq s 4 a3) 2 (B7 s 4 a3 b3) hs (Bj la3 hs) (by omega) (by omega),Ab,oI,dI,?_⟩);focus (exact wI));rw[show Aq s 2 (Aq s 4 a3)=Aq s 6 a3 from Kw s 4 2 a3,show B7 s 2 (Aq s 4 a3) (B7 s 4 a3 b3)=B7 s 6 a3 b3 from K2 s 4 2 a3 b3];obtain⟨kk,hkk⟩:∃x,x=B6 s 2 (Aq s 4 a3):=⟨_,rfl⟩;have bkk:=E6 s (Aq s 4 a3) (show 2≤4 by omega);rw[←hkk]at bkk hrec ⊢;obtain⟨a5,ha5⟩:∃x,x=Aq s 6 a3:=⟨_,rfl⟩;obtain⟨b5,hb5⟩:∃x,x=B7 s 6 a3 b3:=⟨_,rfl⟩;have la5:a5≤1000000:=by rw[ha5];exact Bj la3 hs
  rw[←ha5,←hb5]at hrec ⊢;clear hls hkk ha5 hb5;refine G1 ?_;intro gg;rw[show(a5:Int)+(kk:Int)=((a5+kk:Nat):Int)from by omega];refine G0 ?_;cases b5;rotate_left
  ·refine G0 ?_;have e:Cs s=(A9,1):=by rw[hM,hp.none c11 (hrec.trans (if_pos (.inl rfl)))]
   rw[e];refine G0 ?_;exact C2 (.cell1 rfl rfl rfl rfl rfl rfl (.tmp1 rfl .nil)) cBI (As rfl)
  refine G0 ?_;by_cases g1:s.size<a5+kk
  ·rw[show decide ((s.size:Int)<((a5+kk:Nat):Int))=true from ZX (by omega)];have e:Cs s=(A9,1):=by rw[hM,hp.none c11 (hrec.trans (if_pos (.inr g1)))]
   rw[e];refine G0 ?_;exact C2 (.cell1 rfl rfl rfl rfl rfl rfl (.tmp1 rfl .nil)) cBI (As rfl)
  rw[show decide ((s.size:Int)<((a5+kk:Nat):Int))=false from ZY (by omega)];rw[if_neg (fun q=>q.elim (fun q=>by cases q) g1)]at hrec;obtain⟨en,hen⟩:∃x,x=a5+kk:=⟨_,rfl⟩;rw[←hen]at hrec ⊢;clear hen g1;refine G0 ?_;by_cases t1:t=1
  ·rw[show((t:Int)==1)=true from ZR.2 (by omega)];have hbd:Oj s a=some ((⟨nn,t,ls,B6 s 4 a5,⟨#[]⟩,0,⟨#[]⟩⟩:Rr),Aq s 4 a5,Uk (Aq s 4 a5) en (B7 s 4 a5 false)):=hrec.trans (if_pos t1);refine G0 ?_;(refine .inr (.inl ⟨_,_,false,336::([]++[]),?_,Aw s a5 4 false hs la5 (by omega) (by omega),Ab,oI,dI,?_⟩);focus (exact wI));obtain⟨b6,hb6⟩:∃x,x=B7 s 4 a5 false:=⟨_,rfl⟩;rw[←hb6]at hbd ⊢;clear hb6;refine G1 ?_;intro gg;cases b6;rotate_left
   ·refine G1 ?_;intro gg;refine⟨lI,lI,?_⟩;refine G1 ?_;intro gg;(exact⟨none,trivial,fun gr=>⟨⟨(k+1,Aq s 4 a5,true,(r0::L)++[(⟨nn,t,ls,B6 s 4 a5,⟨#[]⟩,0,⟨#[]⟩⟩:Rr)],gg),hp.next hs c11 (hbd)⟩,by show n-(k+1)<n-k;omega,tI,tI,⟨rfl,⟨rfl,⟨congrArg (fun x=>some (Ent.mk gg (.t 42) 7 x)) (show(r0::L).map Rr.row++[Rr.row ((⟨nn,t,ls,B6 s 4 a5,⟨#[]⟩,0,⟨#[]⟩⟩:Rr))]=((r0::L)++[((⟨nn,t,ls,B6 s 4 a5,⟨#[]⟩,0,⟨#[]⟩⟩:Rr))]).map Rr.row by rw[ZI];rfl),⟨rfl,trivial⟩⟩⟩⟩,tI⟩⟩)
   refine G1 ?_;intro gg;refine⟨lI,lI,?_⟩;refine G1 ?_;intro gg;(exact⟨none,trivial,fun gr=>⟨⟨(k+1,Aq s 4 a5,(Aq s 4 a5:Int) !=(en:Int),(r0::L)++[(⟨nn,t,ls,B6 s 4 a5,⟨#[]⟩,0,⟨#[]⟩⟩:Rr)],gg),hp.next hs c11 (hbd)⟩,by show n-(k+1)<n-k;omega,tI,tI,⟨rfl,⟨rfl,⟨congrArg (fun x=>some (Ent.mk gg (.t 42) 7 x)) (show(r0::L).map Rr.row++[Rr.row ((⟨nn,t,ls,B6 s 4 a5,⟨#[]⟩,0,⟨#[]⟩⟩:Rr))]=((r0::L)++[((⟨nn,t,ls,B6 s 4 a5,⟨#[]⟩,0,⟨#[]⟩⟩:Rr))]).map Rr.row by rw[ZI];rfl),⟨rfl,trivial⟩⟩⟩⟩,tI⟩⟩)
  by_cases t16:t=16
  ·rw[show((t:Int)==1)=false from ZG.2 (by omega)];have hb16:=hrec.trans ((if_neg t1).trans (if_pos t16));refine G0 ?_;rw[show((t:Int)==16)=true from ZR.2 (by omega)];refine G0 ?_;(refine .inr (.inl ⟨_,_,false,336::([]++[]),?_,Aw s a5 1 false hs la5 (by omega) (by omega),Ab,oI,dI,?_⟩);focus (exact wI));obtain⟨a6,ha6⟩:∃x,x=Aq s 1 a5:=⟨_,rfl⟩;obtain⟨b6,hb6⟩:∃x,x=B7 s 1 a5 false:=⟨_,rfl⟩;obtain⟨k6,hk6⟩:∃x,x=B6 s 1 a5:=⟨_,rfl⟩;have bk6:=E6 s a5 (show 1≤4 by omega);have la6:a6≤1000000:=by rw[ha6];exact Bj la5 hs
   rw[←hk6]at bk6;rw[←ha6,←hb6,←hk6]at hb16 ⊢;clear ha6 hb6 hk6;refine G1 ?_;intro gg;cases b6;rotate_left
   ·refine G0 ?_;have e:Cs s=(A9,1):=by rw[hM,hp.none c11 (hb16.trans (if_pos (.inl rfl)))]
    rw[e];refine G0 ?_;exact C2 (.cell1 rfl rfl rfl rfl rfl rfl (.tmp1 rfl .nil)) cBI (As rfl)
   refine G0 ?_;rw[show(a6:Int)+(k6:Int)=((a6+k6:Nat):Int)from by omega];by_cases g2:s.size<a6+k6
   ·rw[show decide ((s.size:Int)<((a6+k6:Nat):Int))=true from ZX (by omega)];have e:Cs s=(A9,1):=by rw[hM,hp.none c11 (hb16.trans (if_pos (.inr g2)))]
    rw[e];refine G0 ?_;exact C2 (.cell1 rfl rfl rfl rfl rfl rfl (.tmp1 rfl .nil)) cBI (As rfl)
   rw[show decide ((s.size:Int)<((a6+k6:Nat):Int))=false from ZY (by omega)];have hbd:Oj s a=some ((⟨nn,t,ls,0,s.extract a6 (a6+k6),0,⟨#[]⟩⟩:Rr),a6+k6,Uk (a6+k6) en false):=hb16.trans (if_neg (fun q=>q.elim (fun q=>by cases q) g2));refine G0 ?_;refine⟨a6,a6+k6,⟨_,rfl⟩,⟨.i64,congrArg (fun x=>V.v (.int .i64 x)) (show(a6:Int)+(k6:Int)=((a6+k6:Nat):Int)by omega)⟩,Nat.le_add_right _ _,by omega,?_⟩;refine G1 ?_;intro gg;rw[show(a6:Int)+(k6:Int)=((a6+k6:Nat):Int)from by omega];refine G0 ?_;refine⟨lI,lI,?_⟩;refine G1 ?_;intro gg;(exact⟨none,trivial,fun gr=>⟨⟨(k+1,a6+k6,((a6+k6:Nat):Int) !=(en:Int),(r0::L)++[(⟨nn,t,ls,0,s.extract a6 (a6+k6),0,⟨#[]⟩⟩:Rr)],gg),hp.next hs c11 (hbd)⟩,by show n-(k+1)<n-k;omega,tI,tI,⟨rfl,⟨rfl,⟨congrArg (fun x=>some (Ent.mk gg (.t 42) 7 x)) (show(r0::L).map Rr.row++[Rr.row ((⟨nn,t,ls,0,s.extract a6 (a6+k6),0,⟨#[]⟩⟩:Rr))]=((r0::L)++[((⟨nn,t,ls,0,s.extract a6 (a6+k6),0,⟨#[]⟩⟩:Rr))]).map Rr.row by rw[ZI];rfl),⟨rfl,trivial⟩⟩⟩⟩,tI⟩⟩)
  by_cases t33:t=33
  ·rw[show((t:Int)==1)=false from ZG.2 (by omega)];have hbd:=hrec.trans ((if_neg t1).trans ((if_neg t16).trans (if_pos t33)));refine G0 ?_;rw[show((t:Int)==16)=false from ZG.2 (by omega)];refine G0 ?_;rw[show((t:Int)==33)=true from ZR.2 (by omega)];refine G0 ?_;(refine .inr (.inl ⟨_,_,false,336::([]++[]),?_,Aw s a5 4 false hs la5 (by omega) (by omega),Ab,oI,dI,?_⟩);focus (exact wI));refine G1 ?_;intro gg;obtain⟨a6,ha6⟩:∃x,x=Aq s 4 a5:=⟨_,rfl⟩;obtain⟨b6,hb6⟩:∃x,x=((B6 s 4 a5:Int) !=0):=⟨_,rfl⟩;have la6:a6≤1000000:=by rw[ha6];exact Bj la5 hs
   rw[←ha6,←hb6]at hbd ⊢;clear ha6 hb6;refine G0 ?_;(refine .inr (.inl ⟨_,_,false,336::([]++[]),?_,Aw s a6 2 b6 hs la6 (by omega) (by omega),Ab,oI,dI,?_⟩);focus (exact wI));obtain⟨p6,hp6⟩:∃x,x=B6 s 2 a6:=⟨_,rfl⟩;obtain⟨a7,ha7⟩:∃x,x=Aq s 2 a6:=⟨_,rfl⟩;obtain⟨b7,hb7⟩:∃x,x=B7 s 2 a6 b6:=⟨_,rfl⟩;have la7:a7≤1000000:=by rw[ha7];exact Bj la6 hs
   rw[←hp6,←ha7,←hb7]at hbd ⊢;clear hp6 ha7 hb7;have hSG:=Rv s a7 b7 hs la7;obtain⟨tg,a8,b8,hG⟩:∃nm a1 b1,Dp s a7 b7=(nm,a1,b1):=⟨_,_,_,rfl⟩;rw[hG]at hSG hbd;simp only at hSG hbd;refine G1 ?_;intro gg;(refine .inr (.inl ⟨_,_,false,336::([]++[]),?_,hSG,Ab,oI,dI,?_⟩);focus (exact wI));refine G1 ?_;intro gg;cases b8;rotate_left
   ·refine G1 ?_;intro gg;refine⟨lI,lI,?_⟩;refine G1 ?_;intro gg;(exact⟨none,trivial,fun gr=>⟨⟨(k+1,a8,true,(r0::L)++[(⟨nn,t,ls,0,⟨#[]⟩,p6,tg⟩:Rr)],gg),hp.next hs c11 (hbd)⟩,by show n-(k+1)<n-k;omega,tI,tI,⟨rfl,⟨rfl,⟨congrArg (fun x=>some (Ent.mk gg (.t 42) 7 x)) (show(r0::L).map Rr.row++[Rr.row ((⟨nn,t,ls,0,⟨#[]⟩,p6,tg⟩:Rr))]=((r0::L)++[((⟨nn,t,ls,0,⟨#[]⟩,p6,tg⟩:Rr))]).map Rr.row by rw[ZI];rfl),⟨rfl,trivial⟩⟩⟩⟩,tI⟩⟩)
   refine G1 ?_;intro gg;refine⟨lI,lI,?_⟩;refine G1 ?_;intro gg;(exact⟨none,trivial,fun gr=>⟨⟨(k+1,a8,(a8:Int) !=(en:Int),(r0::L)++[(⟨nn,t,ls,0,⟨#[]⟩,p6,tg⟩:Rr)],gg),hp.next hs c11 (hbd)⟩,by show n-(k+1)<n-k;omega,tI,tI,⟨rfl,⟨rfl,⟨congrArg (fun x=>some (Ent.mk gg (.t 42) 7 x)) (show(r0::L).map Rr.row++[Rr.row ((⟨nn,t,ls,0,⟨#[]⟩,p6,tg⟩:Rr))]=((r0::L)++[((⟨nn,t,ls,0,⟨#[]⟩,p6,tg⟩:Rr))]).map Rr.row by rw[ZI];rfl),⟨rfl,trivial⟩⟩⟩⟩,tI⟩⟩)
  rw[show((t:Int)==1)=false from ZG.2 (by omega)];have hbd:Oj s a=some ((⟨nn,t,ls,0,⟨#[]⟩,0,⟨#[]⟩⟩:Rr),a5,Uk a5 en false):=hrec.trans ((if_neg t1).trans ((if_neg t16).trans (if_neg t33)));refine G0 ?_;rw[show((t:Int)==16)=false from ZG.2 (by omega)];refine G0 ?_;rw[show((t:Int)==33)=false from ZG.2 (by omega)];refine G1 ?_;intro gg;refine⟨lI,lI,?_⟩;refine G1 ?_;intro gg;(exact⟨none,trivial,fun gr=>⟨⟨(k+1,a5,(a5:Int) !=(en:Int),(r0::L)++[(⟨nn,t,ls,0,⟨#[]⟩,0,⟨#[]⟩⟩:Rr)],gg),hp.next hs c11 (hbd)⟩,by show n-(k+1)<n-k;omega,tI,tI,⟨rfl,⟨rfl,⟨congrArg (fun x=>some (Ent.mk gg (.t 42) 7 x)) (show(r0::L).map Rr.row++[Rr.row ((⟨nn,t,ls,0,⟨#[]⟩,0,⟨#[]⟩⟩:Rr))]=((r0::L)++[((⟨nn,t,ls,0,⟨#[]⟩,0,⟨#[]⟩⟩:Rr))]).map Rr.row by rw[ZI];rfl),⟨rfl,trivial⟩⟩⟩⟩,tI⟩⟩)
theorem All{m:Ms}(h:A4 m=0):Aox m:=by
 obtain⟨hg,_⟩:=G9 h;refine⟨⟨by have:=hg.qnz;omega,fun r hr=>?_⟩,by have:=hg.len;omega⟩;have:=hg.rs r hr;exact⟨by have:=this.nmz;omega,by have:=this.tx;omega,by have:=this.tgz;omega⟩
theorem Adp{k:Kn}{s:ByteArray}{M:Ms}(h1:k.err=0)(h2:¬(s.size<12∨128≤atB s 2))(h:Dq k s (Bh k)=M):Eu k s (Bh k)=((Jn M 512).1,true,0)∧(Jn M 512).2=0∧Aox M:=by
 have hM:=Ug k s;rw[h]at hM;obtain⟨j,_,_,e⟩:=Y8 hM;refine⟨?_,by rw[e],All hM⟩;unfold Eu;rw[if_neg (by simp[h1]),if_neg h2,h,e];rfl
theorem Ah5{s:ByteArray}(h:(A8 s).2=0):(A8 s).1.ok:=by
 have hp:Ah (A8 s).1=(s,0):=Ajn (Prod.ext rfl h);have he:=(Ix hp).1;have hs:=(Qy he).1;exact⟨by have:=hs.sv;omega,by have:=hs.tg;omega,by have:=hs.nd;omega,by have:=hs.ce;omega⟩
theorem Apt{s:ByteArray}{i fl co n:Nat}{m:Ms}(h:Amh s i fl co n=some m):m.id=(i:Int):=by
 unfold Amh at h;obtain⟨a,_,h⟩:=XS.1 h;obtain⟨b,_,h⟩:=XS.1 h;obtain⟨d,_,h⟩:=XS.1 h;split at h
 ·obtain⟨l,_,h⟩:=XS.1 h;split at h
  ·simp only[ZD]at h;rw[←h]
  ·cases h
 ·cases h
theorem Asr{s:ByteArray}{x:Ms}(h:rdP s=(x,0)):x.id=((atB s 0*256+atB s 1:Nat):Int):=by
 by_cases hl:512<s.size
 ·rw[Qm hl]at h;simp at h
 ·rcases e:Od s with _|m
  ·rw[Fu hl e]at h;simp at h
  ·rw[N5 hl e]at h;by_cases he:A4 m=0
   ·rw[if_pos he]at h;simp only[Prod.mk.injEq,and_true]at h;subst h;by_cases h12:12≤s.size
    ·rw[Ad2 h12]at e;split at e
     ·rw[Apt e,Qv]
     ·cases e
    ·rw[Aa9 h12]at e;cases e
   ·rw[if_neg he]at h;simp at h
set_option maxHeartbeats 4000000 in
theorem Abn(k:Kn)(s:ByteArray)(hk:k.In)(hs:s.size≤9223372036854775807):
  Fun Tryz.prog 14 [.c (.v (.string s)),.c (.v (.string k.here)),.c (.sl false (k.l.map Sv.row)),.c (.sl false (k.ms.map Mb.row)),.c (.agg k.f.row),.c (.sl false (k.wh.map Wh.row))]
   [.c (.v (.string (Eu k s (Bh k)).1)),.c (.v (.bool (Eu k s (Bh k)).2.1)),.c (.v (.int .i64 (Eu k s (Bh k)).2.2))]:=by
 have hA:Eu k s (Bh k)=(if k.err≠0 then(⟨#[]⟩,false,k.err)
  else if s.size<12∨128≤atB s 2 then(⟨#[]⟩,false,0)
  else((Jn (Dq k s (Bh k)) 512).1,(Jn (Dq k s (Bh k)) 512).2==0,(Jn (Dq k s (Bh k)) 512).2):ByteArray×Bool×Int):=rfl
 have hMO:=Ao2 s;rw[Ax8]at hMO;refine Ar Ps rfl ?_;refine G1 ?_;intro gg;refine .inl (cX (Abm k hk) ?_);refine G1 ?_;intro gg;by_cases c1:k.err=0;rotate_left
 ·rw[if_pos c1]at hA;rw[hA,show(k.err !=0)=true from ZZ.2 c1];refine G0 ?_;(exact⟨[],aI⟩)
 rw[if_neg (by simpa using c1)]at hA;rw[c1];refine G0 ?_;by_cases c2:s.size<12
 ·rw[if_pos (.inl c2)]at hA;rw[hA,show decide ((s.size:Int)<12)=true from ZX (by omega)];refine G0 ?_;(exact⟨[],aI⟩)
 rw[show decide ((s.size:Int)<12)=false from ZY (by omega)];obtain⟨b0,hb0⟩:∃c,s[0]? =some c:=⟨s[0],by simp⟩;obtain⟨b1,hb1⟩:∃c,s[1]? =some c:=⟨s[1],by simp⟩;obtain⟨b2,hb2⟩:∃c,s[2]? =some c:=⟨s[2],by simp⟩;have q0:=Gu hb0;have q1:=Gu hb1;have q2:=Gu hb2;have l0:=b0.toNat_lt;have l1:=b1.toNat_lt;refine G0 ?_;refine⟨2,b2,rfl,hb2,?_⟩;refine G0 ?_;by_cases c3:128≤atB s 2
 ·rw[if_pos (.inr c3)]at hA;rw[hA,show decide ((128:Int)≤(b2.toNat:Int))=true from ZX (by omega)];refine G0 ?_;(exact⟨[],aI⟩)
 rw[show decide ((128:Int)≤(b2.toNat:Int))=false from ZY (by omega)];have hE:=fun M=>Adp (k:=k) (s:=s) (M:=M) c1 (fun z=>z.elim c2 c3);clear hA;refine G0 ?_;refine⟨0,b0,rfl,hb0,?_⟩;refine G0 ?_;refine⟨1,b1,rfl,hb1,?_⟩;refine G1 ?_;intro gg;have hid:256*((b0.toNat:Nat):Int)+((b1.toNat:Nat):Int)=((atB s 0*256+atB s 1:Nat):Int):=by omega
 rw[hid];rcases Sc s with⟨x,hx,he⟩|hne
 rotate_left
 ·refine .inl (cX hMO ?_);have hM:Dq k s (Bh k)=⟨((atB s 0*256+atB s 1:Nat):Int),true,false,1,⟨#[]⟩,1,[]⟩:=by unfold Dq;rw[if_neg (fun z=>hne z.1)]
  (refine goI ?_;repeat (intro gg;refine goI ?_));rw[show((rdP s).2==0)=false from ZG.2 hne];obtain⟨hE1,hE2,hE3⟩:=hE ⟨((atB s 0*256+atB s 1:Nat):Int),true,false,1,⟨#[]⟩,1,[]⟩ hM;have hFit:=Ki ⟨((atB s 0*256+atB s 1:Nat):Int),true,false,1,⟨#[]⟩,1,[]⟩ 512 hE3;refine G0 ?_;refine .inl (cY hFit ?_);refine G1 ?_;intro gg;rw[hE1];(exact⟨[],aI⟩)
 have hxid:=Asr hx;have hR0:Dq k s (Bh k)=(if x.rs.length=0 then Hj k x (Bh k)else⟨((atB s 0*256+atB s 1:Nat):Int),true,false,1,⟨#[]⟩,1,[]⟩:Ms):=by
  unfold Dq;rw[hx];simp
 rw[hx]at hMO;refine .inl (cX hMO ?_);(refine goI ?_;repeat (intro gg;refine goI ?_));rw[ZE];by_cases c5:x.rs.length=0;rotate_left
 ·rw[if_neg c5]at hR0;rw[show((x.rs.length:Int)==0)=false from ZG.2 (by omega)];obtain⟨hE1,hE2,hE3⟩:=hE ⟨((atB s 0*256+atB s 1:Nat):Int),true,false,1,⟨#[]⟩,1,[]⟩ hR0;have hFit:=Ki ⟨((atB s 0*256+atB s 1:Nat):Int),true,false,1,⟨#[]⟩,1,[]⟩ 512 hE3;refine G0 ?_;refine .inl (cY hFit ?_);refine G1 ?_;intro gg;rw[hE1];(exact⟨[],aI⟩)
 rw[if_pos c5]at hR0;rw[show((x.rs.length:Int)==0)=true from ZR.2 (by omega),←hxid];have hqn:=(G9 he).1.qnz;have hP:=Ak3 x.qn (by omega);have hRe:=fun hq=>Uy k (A8 x.qn).1 x.qt hk hq;have hY:Hj k x (Bh k)=(if(A8 x.qn).2≠0 then⟨x.id,true,false,if Ma (A8 x.qn).2=0 then 3 else Ma (A8 x.qn).2,x.qn,x.qt,[]⟩
  else if(C7 k (A8 x.qn).1 x.qt (Bh k (A8 x.qn).1)).2.2≠0 then⟨x.id,true,false,2,x.qn,x.qt,[]⟩
  else⟨x.id,true,false,(C7 k (A8 x.qn).1 x.qt (Bh k (A8 x.qn).1)).2.1,x.qn,x.qt,(C7 k (A8 x.qn).1 x.qt (Bh k (A8 x.qn).1)).1⟩:Ms):=rfl
 rw[hY]at hR0;clear hY;have hqk:(A8 x.qn).2=0→(A8 x.qn).1.ok:=fun h=>Ah5 h;generalize A8 x.qn=P at *;refine G0 ?_;refine .inl (cX hP ?_);(refine goI ?_;repeat (intro gg;refine goI ?_));by_cases p8:P.2=8
 ·rw[show(P.2==8)=true from ZR.2 p8];have hM:Dq k s (Bh k)=⟨x.id,true,false,4,x.qn,x.qt,[]⟩:=by rw[hR0,if_pos (by rw[p8];decide),p8];rfl
  obtain⟨hE1,hE2,hE3⟩:=hE ⟨x.id,true,false,4,x.qn,x.qt,[]⟩ hM;have hFit:=Ki ⟨x.id,true,false,4,x.qn,x.qt,[]⟩ 512 hE3;refine G0 ?_;refine .inl (cY hFit ?_);refine G1 ?_;intro gg;rw[hE1];(exact⟨[],aI⟩)
 rw[show(P.2==8)=false from ZG.2 p8];refine G0 ?_;by_cases p0:P.2=0;rotate_left
 ·rw[show(P.2 !=0)=true from ZZ.2 p0];have hM:Dq k s (Bh k)=⟨x.id,true,false,3,x.qn,x.qt,[]⟩:=by rw[hR0,if_pos p0,show Ma P.2=0 from if_neg p8];rfl
  obtain⟨hE1,hE2,hE3⟩:=hE ⟨x.id,true,false,3,x.qn,x.qt,[]⟩ hM;have hFit:=Ki ⟨x.id,true,false,3,x.qn,x.qt,[]⟩ 512 hE3;refine G0 ?_;refine .inl (cY hFit ?_);refine G1 ?_;intro gg;rw[hE1];(exact⟨[],aI⟩)
 rw[p0];rw[if_neg (by simpa using p0)]at hR0;have hRf:=hRe (hqk p0);clear hRe;generalize C7 k P.1 x.qt (Bh k P.1)=X at *;refine G0 ?_;refine .inl (cX hRf ?_);refine G1 ?_;intro gg;by_cases x0:X.2.2=0
 ·rw[if_neg (by simpa using x0)]at hR0;rw[x0];obtain⟨hE1,hE2,hE3⟩:=hE ⟨x.id,true,false,X.2.1,x.qn,x.qt,X.1⟩ hR0;have hFit:=Ki ⟨x.id,true,false,X.2.1,x.qn,x.qt,X.1⟩ 512 hE3;refine G0 ?_;refine .inl (cY hFit ?_);refine G1 ?_;intro gg;rw[hE1];(exact⟨[],aI⟩)
 ·rw[if_pos x0]at hR0;rw[show(X.2.2 !=0)=true from ZZ.2 x0];obtain⟨hE1,hE2,hE3⟩:=hE ⟨x.id,true,false,2,x.qn,x.qt,[]⟩ hR0;have hFit:=Ki ⟨x.id,true,false,2,x.qn,x.qt,[]⟩ 512 hE3;refine G0 ?_;refine .inl (cY hFit ?_);refine G1 ?_;intro gg;rw[hE1];(exact⟨[],aI⟩)
namespace Pl
end Pl
end Go.Proofs.YtbnocibpoghfhaaGreatDoor
