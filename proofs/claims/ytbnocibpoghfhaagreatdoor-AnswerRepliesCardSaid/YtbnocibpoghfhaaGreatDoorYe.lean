/- Texts of this claim, joined. -/
import Derived.WalkKit
import Derived.Defers
import Derived.Recover
import Derived.Laws.Pointers
import Derived.Test.YtbnocibpoghfhaaGreatDoorRows
import Derived.Test.YtbnocibpoghfhaaGreatDoorYa
import Derived.Test.YtbnocibpoghfhaaGreatDoorYb
import Derived.Test.YtbnocibpoghfhaaGreatDoorYc
import Derived.Test.YtbnocibpoghfhaaGreatDoorYd
set_option linter.unusedSimpArgs false
set_option linter.unusedVariables false
namespace Go.Proofs.YtbnocibpoghfhaaGreatDoor
open Go Go.RowKit Pl
set_option maxHeartbeats 4000000 in
theorem Afk{s:ByteArray}{v:Ms}(h:Od s=some v)(hs:s.size≤1000000):H3 Tryz.prog 38 [.mn rdT (rdC s 0) (rdC s s.size)] [.p (.c (.agg v.row))]:=by
 unfold Od at h;refine Ame Im rfl (Ka rfl) ?_;refine G1 ?_;intro gg;revert gg;intro gz;rcases e1:Bt s 0 with _|⟨i,a1⟩
 ·rw[e1]at h;cases h
 rw[e1,ZA]at h;simp only at h;have be1:=Bk e1;(refine .inr (.inl ⟨_,_,false,0::([]++[]),?_,Bl e1 hs,Ab,oI,dI,?_⟩);focus (exact wI));(refine goI ?_;repeat (intro gg;refine goI ?_));revert gg;intro gb;rcases e2:Cr s a1 with _|⟨fl,a2⟩
 ·rw[e2]at h;cases h
 rw[e2,ZA]at h;simp only at h;have be2:=C4 e2;(refine .inr (.inl ⟨_,_,false,0::([]++[]),?_,Em e2 hs,Ab,oI,dI,?_⟩);focus (exact wI));refine G1 ?_;intro gg;rcases e3:Cr s a2 with _|⟨co,a3⟩
 ·rw[e3]at h;cases h
 rw[e3,ZA]at h;simp only at h;have be3:=C4 e3;(refine .inr (.inl ⟨_,_,false,0::([]++[]),?_,Em e3 hs,Ab,oI,dI,?_⟩);focus (exact wI));refine G1 ?_;intro gg;refine⟨_,rfl,?_⟩;refine G0 ?_;rw[Avt be2.1];by_cases q1:Af0 fl=true;rotate_left
 ·rw[if_neg (by simp[q1])]at h;cases h
 rw[q1]at h ⊢;refine G0 ?_;by_cases q2:co<16;rotate_left
 ·rw[if_neg (by simp[q2])]at h;cases h
 rw[if_pos (by simp[q2])]at h;(refine .inl ⟨_,_,true,[],aI,Bi _ (ZX (by omega)),(fun _=>fI),nI,?_⟩);refine G1 ?_;intro gg;refine⟨_,rfl,?_⟩;refine G0 ?_;refine⟨_,rfl,?_⟩;refine G0 ?_;rw[Ave be2.1,Avf be2.1];obtain⟨an,han⟩:∃x,x=decide (128≤fl):=⟨_,rfl⟩;obtain⟨ct,hct⟩:∃x,x=decide (fl%4≥2):=⟨_,rfl⟩;rw[←han,←hct]at h ⊢;rcases e4:Bt s a3 with _|⟨one,a4⟩
 ·rw[e4]at h;cases h
 rw[e4,ZA]at h;simp only at h;have be4:=Bk e4;(refine .inr (.inl ⟨_,_,false,0::([]++[]),?_,Bl e4 hs,Ab,oI,dI,?_⟩);focus (exact wI));refine G1 ?_;intro gg;by_cases c4:one=1;rotate_left
 ·rw[if_neg c4]at h;cases h
 rw[if_pos c4]at h;(refine .inl ⟨_,_,true,[],aI,Bi _ (ZR.2 (by omega)),(fun _=>fI),nI,?_⟩);refine G1 ?_;intro gg;rcases e5:Bt s a4 with _|⟨n,a5⟩
 ·rw[e5]at h;cases h
 rw[e5,ZA]at h;simp only at h;have be5:=Bk e5;(refine .inr (.inl ⟨_,_,false,0::([]++[]),?_,Bl e5 hs,Ab,oI,dI,?_⟩);focus (exact wI));refine G1 ?_;intro gg;by_cases c5:n≤20;rotate_left
 ·rw[if_neg c5]at h;cases h
 rw[if_pos c5]at h;rw[show(decide ((n:Int)≤20))=true from ZX (by omega)];refine G0 ?_;rcases e6:Bt s a5 with _|⟨z,a6⟩
 ·rw[e6]at h;cases h
 rw[e6,ZA]at h;simp only at h;have be6:=Bk e6;(refine .inr (.inl ⟨_,_,false,0::([]++[]),?_,Bl e6 hs,Ab,oI,dI,?_⟩);focus (exact wI));refine G1 ?_;intro gg;by_cases c6:z=0;rotate_left
 ·rw[if_neg c6]at h;cases h
 rw[if_pos c6]at h;rw[show((z:Int)==0)=true from ZR.2 (by omega)];refine G0 ?_;rcases e7:Bt s a6 with _|⟨y,a7⟩
 ·rw[e7]at h;cases h
 rw[e7,ZA]at h;simp only at h;have be7:=Bk e7;(refine .inr (.inl ⟨_,_,false,0::([]++[]),?_,Bl e7 hs,Ab,oI,dI,?_⟩);focus (exact wI));refine G1 ?_;intro gg;by_cases c7:y=0;rotate_left
 ·rw[if_neg c7]at h;cases h
 rw[if_pos c7]at h;(refine .inl ⟨_,_,true,[],aI,Bi _ (ZR.2 (by omega)),(fun _=>fI),nI,?_⟩);refine G1 ?_;intro gg;rcases e8:Eq s a7 with _|⟨qn,a8⟩
 ·rw[e8]at h;cases h
 rw[e8,ZA]at h;simp only at h;have be8:=Ij e8;(refine .inr (.inl ⟨_,_,false,0::([]++[]),?_,Kh e8 hs (by omega),Ab,oI,dI,?_⟩);focus (exact wI));refine G1 ?_;intro gg;rcases e9:Bt s a8 with _|⟨qt,a9⟩
 ·rw[e9]at h;cases h
 rw[e9,ZA]at h;simp only at h;have be9:=Bk e9;(refine .inr (.inl ⟨_,_,false,0::([]++[]),?_,Bl e9 hs,Ab,oI,dI,?_⟩);focus (exact wI));refine G1 ?_;intro gg;rcases e10:Bt s a9 with _|⟨d,a10⟩
 ·rw[e10]at h;cases h
 rw[e10,ZA]at h;simp only at h;have be10:=Bk e10;(refine .inr (.inl ⟨_,_,false,0::([]++[]),?_,Bl e10 hs,Ab,oI,dI,?_⟩);focus (exact wI));refine G1 ?_;intro gg;by_cases c10:d=1;rotate_left
 ·rw[if_neg c10]at h;cases h
 rw[if_pos c10]at h;(refine .inl ⟨_,_,true,[],aI,Bi _ (ZR.2 (by omega)),(fun _=>fI),nI,?_⟩);refine G1 ?_;intro gg;have hT:=be10.2.2;clear e1 e2 e3 e4 e5 e6 e7 e8 e9 e10 be1 be2 be3 be4 be6 be7 be9 be10;(refine⟨[],none,{p:Nat×Nat×List Rr×Nat//RcI s n (Fg s n a10) p.1 p.2.1 p.2.2.1},[],fun⟨⟨k,a,L,g⟩,hp⟩=>[(0,.ptr 0 0 0 0),(2,.ptr 32 gz 0 0),(3,.ptr 48 gb 0 0),(65,.v (.int .i64 (n:Int))),(66,.v (.int .i64 (k:Int)))],[],fun⟨⟨k,a,L,g⟩,hp⟩=>Ba4 s gz gb i an ct co qn qt a L g,fun⟨⟨k,a,L,g⟩,hp⟩=>n-k,trivial,fun _=>⟨trivial,fun _=>⟨⟨(0,a10,[],0),RcI.start hT⟩,tI,Af _ _,tI,Ae _ _⟩⟩,fun⟨⟨k,a,L,g⟩,hp⟩=>?_⟩);simp only at hp;simp only[Ou,O8,Iz,Iv];have hk:=hp.hk;have hl:=hp.hl;by_cases c11:k<n
 ·rcases e:Pp s a with _|⟨r,a2⟩
  ·have hn:=hp.none c11 e;rw[hn]at h;cases h
  ·have hnx:=RcI.next hp c11 e;have b:=Yv e;have hr7:(([r].map Rr.row):List (List V))=[r.row]:=rfl;have hn20:L.length≤20:=by omega
   rcases L with _|⟨r0,L⟩
   ·refine G0 ?_;(refine Ic ?_ ?_;focus (exact ZX (by omega)));refine G0 ?_;refine⟨?_,?_⟩
    ·refine G0 ?_;refine⟨?_,?_⟩
     ·refine G0 ?_;(refine .inr (.inl ⟨_,_,false,0::([]++[]),?_,Bb e hs hp.ha,Ab,oI,dI,?_⟩);focus (exact wI));(refine goI ?_;repeat (intro gg;refine goI ?_));refine⟨lI,lI,?_⟩;refine G1 ?_;intro gg;(exact⟨none,trivial,fun gr=>⟨⟨(k+1,a2,[r],gg),hnx⟩,by show n-(k+1)<n-k;omega,tI,tI,⟨rfl,⟨rfl,⟨rfl,⟨rfl,trivial⟩⟩⟩⟩,tI⟩⟩)
     ·refine G0 ?_;refine⟨?_,?_⟩
      ·refine G0 ?_;(refine .inr (.inl ⟨_,_,false,0::([]++[]),?_,Bb e hs hp.ha,Ab,oI,dI,?_⟩);focus (exact wI));(refine goI ?_;repeat (intro gg;refine goI ?_));refine⟨lI,lI,?_⟩;refine G1 ?_;intro gg;(exact⟨none,trivial,fun gr=>⟨⟨(k+1,a2,[r],gg),hnx⟩,by show n-(k+1)<n-k;omega,tI,tI,⟨rfl,⟨rfl,⟨rfl,⟨rfl,trivial⟩⟩⟩⟩,tI⟩⟩)
      ·refine G0 ?_;(refine .inr (.inl ⟨_,_,false,0::([]++[]),?_,Bb e hs hp.ha,Ab,oI,dI,?_⟩);focus (exact wI));refine G1 ?_;intro gg;refine⟨?_,?_⟩
       ·refine G1 ?_;intro gg;refine⟨lI,lI,?_⟩;refine G1 ?_;intro gg;(exact⟨none,trivial,fun gr=>⟨⟨(k+1,a2,[r],gg),hnx⟩,by show n-(k+1)<n-k;omega,tI,tI,⟨rfl,⟨rfl,⟨rfl,⟨rfl,trivial⟩⟩⟩⟩,tI⟩⟩)
       ·refine G1 ?_;intro gg;refine⟨lI,lI,?_⟩;refine G1 ?_;intro gg;(exact⟨none,trivial,fun gr=>⟨⟨(k+1,a2,[r],gg),hnx⟩,by show n-(k+1)<n-k;omega,tI,tI,⟨rfl,⟨rfl,⟨rfl,⟨rfl,trivial⟩⟩⟩⟩,tI⟩⟩)
    ·refine G0 ?_;refine⟨?_,?_⟩
     ·refine G0 ?_;refine⟨?_,?_⟩
      ·refine G0 ?_;(refine .inr (.inl ⟨_,_,false,0::([]++[]),?_,Bb e hs hp.ha,Ab,oI,dI,?_⟩);focus (exact wI));(refine goI ?_;repeat (intro gg;refine goI ?_));refine⟨lI,lI,?_⟩;refine G1 ?_;intro gg;(exact⟨none,trivial,fun gr=>⟨⟨(k+1,a2,[r],gg),hnx⟩,by show n-(k+1)<n-k;omega,tI,tI,⟨rfl,⟨rfl,⟨rfl,⟨rfl,trivial⟩⟩⟩⟩,tI⟩⟩)
      ·refine G0 ?_;(refine .inr (.inl ⟨_,_,false,0::([]++[]),?_,Bb e hs hp.ha,Ab,oI,dI,?_⟩);focus (exact wI));refine G1 ?_;intro gg;refine⟨?_,?_⟩
       ·refine G1 ?_;intro gg;refine⟨lI,lI,?_⟩;refine G1 ?_;intro gg;(exact⟨none,trivial,fun gr=>⟨⟨(k+1,a2,[r],gg),hnx⟩,by show n-(k+1)<n-k;omega,tI,tI,⟨rfl,⟨rfl,⟨rfl,⟨rfl,trivial⟩⟩⟩⟩,tI⟩⟩)
       ·refine G1 ?_;intro gg;refine⟨lI,lI,?_⟩;refine G1 ?_;intro gg;(exact⟨none,trivial,fun gr=>⟨⟨(k+1,a2,[r],gg),hnx⟩,by show n-(k+1)<n-k;omega,tI,tI,⟨rfl,⟨rfl,⟨rfl,⟨rfl,trivial⟩⟩⟩⟩,tI⟩⟩)
     ·refine G0 ?_;(refine .inr (.inl ⟨_,_,false,0::([]++[]),?_,Bb e hs hp.ha,Ab,oI,dI,?_⟩);focus (exact wI));refine G1 ?_;intro gg;refine⟨?_,?_⟩
      ·refine G0 ?_;refine⟨?_,?_⟩
       ·refine G1 ?_;intro gg;refine⟨lI,lI,?_⟩;refine G1 ?_;intro gg;(exact⟨none,trivial,fun gr=>⟨⟨(k+1,a2,[r],gg),hnx⟩,by show n-(k+1)<n-k;omega,tI,tI,⟨rfl,⟨rfl,⟨rfl,⟨rfl,trivial⟩⟩⟩⟩,tI⟩⟩)
       ·refine G1 ?_;intro gg;refine⟨lI,lI,?_⟩;refine G1 ?_;intro gg;(exact⟨none,trivial,fun gr=>⟨⟨(k+1,a2,[r],gg),hnx⟩,by show n-(k+1)<n-k;omega,tI,tI,⟨rfl,⟨rfl,⟨rfl,⟨rfl,trivial⟩⟩⟩⟩,tI⟩⟩)
      ·refine G1 ?_;intro gg;refine⟨lI,lI,?_⟩;refine G1 ?_;intro gg;(exact⟨none,trivial,fun gr=>⟨⟨(k+1,a2,[r],gg),hnx⟩,by show n-(k+1)<n-k;omega,tI,tI,⟨rfl,⟨rfl,⟨rfl,⟨rfl,trivial⟩⟩⟩⟩,tI⟩⟩)
   ·have hn21:L.length≤20:=by simp only[ZJ]at hn20;omega
    refine G0 ?_;(refine Ic ?_ ?_;focus (exact ZX (by omega)));refine G0 ?_;refine⟨?_,?_⟩
    ·refine G0 ?_;refine⟨?_,?_⟩
     ·refine G0 ?_;(refine .inr (.inl ⟨_,_,false,0::([]++[]),?_,Bb e hs hp.ha,Ab,oI,dI,?_⟩);focus (exact wI));(refine goI ?_;repeat (intro gg;refine goI ?_));refine⟨lI,lI,?_⟩;refine G1 ?_;intro gg;(exact⟨none,trivial,fun gr=>⟨⟨(k+1,a2,(r0::L)++[r],gg),hnx⟩,by show n-(k+1)<n-k;omega,tI,tI,⟨rfl,⟨rfl,⟨congrArg (fun x=>some (Ent.mk gg (.t 42) 7 x)) (show(r0::L).map Rr.row++[r.row]=((r0::L)++[r]).map Rr.row by rw[ZI];rfl),⟨rfl,trivial⟩⟩⟩⟩,tI⟩⟩)
     ·refine G0 ?_;refine⟨?_,?_⟩
      ·refine G0 ?_;(refine .inr (.inl ⟨_,_,false,0::([]++[]),?_,Bb e hs hp.ha,Ab,oI,dI,?_⟩);focus (exact wI));(refine goI ?_;repeat (intro gg;refine goI ?_));refine⟨lI,lI,?_⟩;refine G1 ?_;intro gg;(exact⟨none,trivial,fun gr=>⟨⟨(k+1,a2,(r0::L)++[r],gg),hnx⟩,by show n-(k+1)<n-k;omega,tI,tI,⟨rfl,⟨rfl,⟨congrArg (fun x=>some (Ent.mk gg (.t 42) 7 x)) (show(r0::L).map Rr.row++[r.row]=((r0::L)++[r]).map Rr.row by rw[ZI];rfl),⟨rfl,trivial⟩⟩⟩⟩,tI⟩⟩)
      ·refine G0 ?_;(refine .inr (.inl ⟨_,_,false,0::([]++[]),?_,Bb e hs hp.ha,Ab,oI,dI,?_⟩);focus (exact wI));refine G1 ?_;intro gg;refine⟨?_,?_⟩
       ·refine G1 ?_;intro gg;refine⟨lI,lI,?_⟩;refine G1 ?_;intro gg;(exact⟨none,trivial,fun gr=>⟨⟨(k+1,a2,(r0::L)++[r],gg),hnx⟩,by show n-(k+1)<n-k;omega,tI,tI,⟨rfl,⟨rfl,⟨congrArg (fun x=>some (Ent.mk gg (.t 42) 7 x)) (show(r0::L).map Rr.row++[r.row]=((r0::L)++[r]).map Rr.row by rw[ZI];rfl),⟨rfl,trivial⟩⟩⟩⟩,tI⟩⟩)
       ·refine G1 ?_;intro gg;refine⟨lI,lI,?_⟩;refine G1 ?_;intro gg;(exact⟨none,trivial,fun gr=>⟨⟨(k+1,a2,(r0::L)++[r],gg),hnx⟩,by show n-(k+1)<n-k;omega,tI,tI,⟨rfl,⟨rfl,⟨congrArg (fun x=>some (Ent.mk gg (.t 42) 7 x)) (show(r0::L).map Rr.row++[r.row]=((r0::L)++[r]).map Rr.row by rw[ZI];rfl),⟨rfl,trivial⟩⟩⟩⟩,tI⟩⟩)
    ·refine G0 ?_;refine⟨?_,?_⟩
     ·refine G0 ?_;refine⟨?_,?_⟩
      ·refine G0 ?_;(refine .inr (.inl ⟨_,_,false,0::([]++[]),?_,Bb e hs hp.ha,Ab,oI,dI,?_⟩);focus (exact wI));(refine goI ?_;repeat (intro gg;refine goI ?_));refine⟨lI,lI,?_⟩;refine G1 ?_;intro gg;(exact⟨none,trivial,fun gr=>⟨⟨(k+1,a2,(r0::L)++[r],gg),hnx⟩,by show n-(k+1)<n-k;omega,tI,tI,⟨rfl,⟨rfl,⟨congrArg (fun x=>some (Ent.mk gg (.t 42) 7 x)) (show(r0::L).map Rr.row++[r.row]=((r0::L)++[r]).map Rr.row by rw[ZI];rfl),⟨rfl,trivial⟩⟩⟩⟩,tI⟩⟩)
      ·refine G0 ?_;(refine .inr (.inl ⟨_,_,false,0::([]++[]),?_,Bb e hs hp.ha,Ab,oI,dI,?_⟩);focus (exact wI));refine G1 ?_;intro gg;refine⟨?_,?_⟩
       ·refine G1 ?_;intro gg;refine⟨lI,lI,?_⟩;refine G1 ?_;intro gg;(exact⟨none,trivial,fun gr=>⟨⟨(k+1,a2,(r0::L)++[r],gg),hnx⟩,by show n-(k+1)<n-k;omega,tI,tI,⟨rfl,⟨rfl,⟨congrArg (fun x=>some (Ent.mk gg (.t 42) 7 x)) (show(r0::L).map Rr.row++[r.row]=((r0::L)++[r]).map Rr.row by rw[ZI];rfl),⟨rfl,trivial⟩⟩⟩⟩,tI⟩⟩)
       ·refine G1 ?_;intro gg;refine⟨lI,lI,?_⟩;refine G1 ?_;intro gg;(exact⟨none,trivial,fun gr=>⟨⟨(k+1,a2,(r0::L)++[r],gg),hnx⟩,by show n-(k+1)<n-k;omega,tI,tI,⟨rfl,⟨rfl,⟨congrArg (fun x=>some (Ent.mk gg (.t 42) 7 x)) (show(r0::L).map Rr.row++[r.row]=((r0::L)++[r]).map Rr.row by rw[ZI];rfl),⟨rfl,trivial⟩⟩⟩⟩,tI⟩⟩)
     ·refine G0 ?_;(refine .inr (.inl ⟨_,_,false,0::([]++[]),?_,Bb e hs hp.ha,Ab,oI,dI,?_⟩);focus (exact wI));refine G1 ?_;intro gg;refine⟨?_,?_⟩
      ·refine G0 ?_;refine⟨?_,?_⟩
       ·refine G1 ?_;intro gg;refine⟨lI,lI,?_⟩;refine G1 ?_;intro gg;(exact⟨none,trivial,fun gr=>⟨⟨(k+1,a2,(r0::L)++[r],gg),hnx⟩,by show n-(k+1)<n-k;omega,tI,tI,⟨rfl,⟨rfl,⟨congrArg (fun x=>some (Ent.mk gg (.t 42) 7 x)) (show(r0::L).map Rr.row++[r.row]=((r0::L)++[r]).map Rr.row by rw[ZI];rfl),⟨rfl,trivial⟩⟩⟩⟩,tI⟩⟩)
       ·refine G1 ?_;intro gg;refine⟨lI,lI,?_⟩;refine G1 ?_;intro gg;(exact⟨none,trivial,fun gr=>⟨⟨(k+1,a2,(r0::L)++[r],gg),hnx⟩,by show n-(k+1)<n-k;omega,tI,tI,⟨rfl,⟨rfl,⟨congrArg (fun x=>some (Ent.mk gg (.t 42) 7 x)) (show(r0::L).map Rr.row++[r.row]=((r0::L)++[r]).map Rr.row by rw[ZI];rfl),⟨rfl,trivial⟩⟩⟩⟩,tI⟩⟩)
      ·refine G1 ?_;intro gg;refine⟨lI,lI,?_⟩;refine G1 ?_;intro gg;(exact⟨none,trivial,fun gr=>⟨⟨(k+1,a2,(r0::L)++[r],gg),hnx⟩,by show n-(k+1)<n-k;omega,tI,tI,⟨rfl,⟨rfl,⟨congrArg (fun x=>some (Ent.mk gg (.t 42) 7 x)) (show(r0::L).map Rr.row++[r.row]=((r0::L)++[r]).map Rr.row by rw[ZI];rfl),⟨rfl,trivial⟩⟩⟩⟩,tI⟩⟩)
 ·have he:=hp.end_ c11;rw[he,ZA]at h;simp only at h;rcases L with _|⟨r0,L⟩
  ·refine G0 ?_;(refine Hr ?_ ?_;focus (exact ZY (by omega)));refine G0 ?_;by_cases c12:a=s.size
   ·rw[if_pos c12]at h;cases h;subst c12;refine .inl (cY (Bi _ (beq_self_eq_true _)) ?_);refine G1 ?_;intro gg;(exact⟨_,0::([]++[]),.cell1 rfl rfl rfl rfl rfl rfl .nil,Aei cBI (Jf (gone:=[]) (gone1:=[]) rfl aI (by decide) (by decide) (by decide) (.nil _))⟩)
   ·rw[if_neg c12]at h;cases h
  ·refine G0 ?_;(refine Hr ?_ ?_;focus (exact ZY (by omega)));refine G0 ?_;by_cases c12:a=s.size
   ·rw[if_pos c12]at h;cases h;subst c12;refine .inl (cY (Bi _ (beq_self_eq_true _)) ?_);refine G1 ?_;intro gg;(exact⟨_,0::([]++[]),.cell1 rfl rfl rfl rfl rfl rfl .nil,Aei cBI (Jf (gone:=[]) (gone1:=[]) rfl aI (by decide) (by decide) (by decide) (.nil _))⟩)
   ·rw[if_neg c12]at h;cases h
set_option maxHeartbeats 4000000 in
theorem Adw{s:ByteArray}{R:List Par}(h:Od s=none)(hs:s.size≤1000000):Hi Tryz.prog 38 [.mn rdT (rdC s 0) R] Hl:=by
 unfold Od at h;refine Acq Im rfl (Ka rfl) ?_;refine G1 ?_;intro gg;revert gg;intro gz;rcases e1:Bt s 0 with _|⟨i,a1⟩
 ·(refine .inr (.inr ⟨_,false,0::([]++[]),_,?_,Ea (R:=rdC s 0) e1 hs,rfl⟩);focus (exact wI))
 rw[e1,ZA]at h;simp only at h;have be1:=Bk e1;(refine .inr (.inl ⟨_,_,false,0::([]++[]),?_,Bl e1 hs,Ab,oI,dI,?_⟩);focus (exact wI));(refine goI ?_;repeat (intro gg;refine goI ?_));revert gg;intro gb;rcases e2:Cr s a1 with _|⟨fl,a2⟩
 ·(refine .inr (.inr ⟨_,false,0::([]++[]),_,?_,Kr (R:=rdC s 0) e2 hs,rfl⟩);focus (exact wI))
 rw[e2,ZA]at h;simp only at h;have be2:=C4 e2;(refine .inr (.inl ⟨_,_,false,0::([]++[]),?_,Em e2 hs,Ab,oI,dI,?_⟩);focus (exact wI));refine G1 ?_;intro gg;rcases e3:Cr s a2 with _|⟨co,a3⟩
 ·(refine .inr (.inr ⟨_,false,0::([]++[]),_,?_,Kr (R:=rdC s 0) e3 hs,rfl⟩);focus (exact wI))
 rw[e3,ZA]at h;simp only at h;have be3:=C4 e3;(refine .inr (.inl ⟨_,_,false,0::([]++[]),?_,Em e3 hs,Ab,oI,dI,?_⟩);focus (exact wI));refine G1 ?_;intro gg;refine⟨_,rfl,?_⟩;refine G0 ?_;rw[Avt be2.1];by_cases q1:Af0 fl=true;rotate_left
 ·rw[XE.2 q1];refine G0 ?_;(exact .inr (.inr ⟨_,true,[],_,aM,Cj _ rfl,rfl⟩))
 rw[q1]at h ⊢;refine G0 ?_;by_cases q2:co<16;rotate_left
 ·(exact .inr (.inr ⟨_,true,[],_,aM,Cj _ (ZY (by omega)),rfl⟩))
 rw[if_pos (by simp[q2])]at h;(refine .inl ⟨_,_,true,[],aI,Bi _ (ZX (by omega)),(fun _=>fI),nI,?_⟩);refine G1 ?_;intro gg;refine⟨_,rfl,?_⟩;refine G0 ?_;refine⟨_,rfl,?_⟩;refine G0 ?_;rw[Ave be2.1,Avf be2.1];obtain⟨an,han⟩:∃x,x=decide (128≤fl):=⟨_,rfl⟩;obtain⟨ct,hct⟩:∃x,x=decide (fl%4≥2):=⟨_,rfl⟩;rw[←han,←hct]at h ⊢;rcases e4:Bt s a3 with _|⟨one,a4⟩
 ·(refine .inr (.inr ⟨_,false,0::([]++[]),_,?_,Ea (R:=rdC s 0) e4 hs,rfl⟩);focus (exact wI))
 rw[e4,ZA]at h;simp only at h;have be4:=Bk e4;(refine .inr (.inl ⟨_,_,false,0::([]++[]),?_,Bl e4 hs,Ab,oI,dI,?_⟩);focus (exact wI));refine G1 ?_;intro gg;by_cases c4:one=1;rotate_left
 ·(exact .inr (.inr ⟨_,true,[],_,aM,Cj _ (ZG.2 (by omega)),rfl⟩))
 rw[if_pos c4]at h;(refine .inl ⟨_,_,true,[],aI,Bi _ (ZR.2 (by omega)),(fun _=>fI),nI,?_⟩);refine G1 ?_;intro gg;rcases e5:Bt s a4 with _|⟨n,a5⟩
 ·(refine .inr (.inr ⟨_,false,0::([]++[]),_,?_,Ea (R:=rdC s 0) e5 hs,rfl⟩);focus (exact wI))
 rw[e5,ZA]at h;simp only at h;have be5:=Bk e5;(refine .inr (.inl ⟨_,_,false,0::([]++[]),?_,Bl e5 hs,Ab,oI,dI,?_⟩);focus (exact wI));refine G1 ?_;intro gg;by_cases c5:n≤20;rotate_left
 ·rw[show(decide ((n:Int)≤20))=false from ZY (by omega)];refine G0 ?_;(exact .inr (.inr ⟨_,true,[],_,aM,Cj _ rfl,rfl⟩))
 rw[if_pos c5]at h;rw[show(decide ((n:Int)≤20))=true from ZX (by omega)];refine G0 ?_;rcases e6:Bt s a5 with _|⟨z,a6⟩
 ·(refine .inr (.inr ⟨_,false,0::([]++[]),_,?_,Ea (R:=rdC s 0) e6 hs,rfl⟩);focus (exact wI))
 rw[e6,ZA]at h;simp only at h;have be6:=Bk e6;(refine .inr (.inl ⟨_,_,false,0::([]++[]),?_,Bl e6 hs,Ab,oI,dI,?_⟩);focus (exact wI));refine G1 ?_;intro gg;by_cases c6:z=0;rotate_left
 ·rw[show((z:Int)==0)=false from ZG.2 (by omega)];refine G0 ?_;(exact .inr (.inr ⟨_,true,[],_,aM,Cj _ rfl,rfl⟩))
 rw[if_pos c6]at h;rw[show((z:Int)==0)=true from ZR.2 (by omega)];refine G0 ?_;rcases e7:Bt s a6 with _|⟨y,a7⟩
 ·(refine .inr (.inr ⟨_,false,0::([]++[]),_,?_,Ea (R:=rdC s 0) e7 hs,rfl⟩);focus (exact wI))
 rw[e7,ZA]at h;simp only at h;have be7:=Bk e7;(refine .inr (.inl ⟨_,_,false,0::([]++[]),?_,Bl e7 hs,Ab,oI,dI,?_⟩);focus (exact wI));refine G1 ?_;intro gg;by_cases c7:y=0;rotate_left
 ·(exact .inr (.inr ⟨_,true,[],_,aM,Cj _ (ZG.2 (by omega)),rfl⟩))
 rw[if_pos c7]at h;(refine .inl ⟨_,_,true,[],aI,Bi _ (ZR.2 (by omega)),(fun _=>fI),nI,?_⟩);refine G1 ?_;intro gg;rcases e8:Eq s a7 with _|⟨qn,a8⟩
 ·(refine .inr (.inr ⟨_,false,0::([]++[]),_,?_,Vj (R:=rdC s 0) e8 hs (by omega),rfl⟩);focus (exact wI))
 rw[e8,ZA]at h;simp only at h;have be8:=Ij e8;(refine .inr (.inl ⟨_,_,false,0::([]++[]),?_,Kh e8 hs (by omega),Ab,oI,dI,?_⟩);focus (exact wI));refine G1 ?_;intro gg;rcases e9:Bt s a8 with _|⟨qt,a9⟩
 ·(refine .inr (.inr ⟨_,false,0::([]++[]),_,?_,Ea (R:=rdC s 0) e9 hs,rfl⟩);focus (exact wI))
 rw[e9,ZA]at h;simp only at h;have be9:=Bk e9;(refine .inr (.inl ⟨_,_,false,0::([]++[]),?_,Bl e9 hs,Ab,oI,dI,?_⟩);focus (exact wI));refine G1 ?_;intro gg;rcases e10:Bt s a9 with _|⟨d,a10⟩
 ·(refine .inr (.inr ⟨_,false,0::([]++[]),_,?_,Ea (R:=rdC s 0) e10 hs,rfl⟩);focus (exact wI))
 rw[e10,ZA]at h;simp only at h;have be10:=Bk e10;(refine .inr (.inl ⟨_,_,false,0::([]++[]),?_,Bl e10 hs,Ab,oI,dI,?_⟩);focus (exact wI));refine G1 ?_;intro gg;by_cases c10:d=1;rotate_left
 ·(exact .inr (.inr ⟨_,true,[],_,aM,Cj _ (ZG.2 (by omega)),rfl⟩))
 rw[if_pos c10]at h;(refine .inl ⟨_,_,true,[],aI,Bi _ (ZR.2 (by omega)),(fun _=>fI),nI,?_⟩);refine G1 ?_;intro gg;have hT:=be10.2.2;clear e1 e2 e3 e4 e5 e6 e7 e8 e9 e10 be1 be2 be3 be4 be6 be7 be9 be10;(refine⟨[],none,{p:Nat×Nat×List Rr×Nat//RcI s n (Fg s n a10) p.1 p.2.1 p.2.2.1},[],fun⟨⟨k,a,L,g⟩,hp⟩=>[(0,.ptr 0 0 0 0),(2,.ptr 32 gz 0 0),(3,.ptr 48 gb 0 0),(65,.v (.int .i64 (n:Int))),(66,.v (.int .i64 (k:Int)))],[],fun⟨⟨k,a,L,g⟩,hp⟩=>Ba4 s gz gb i an ct co qn qt a L g,fun⟨⟨k,a,L,g⟩,hp⟩=>n-k,trivial,fun _=>⟨trivial,fun _=>⟨⟨(0,a10,[],0),RcI.start hT⟩,tI,Af _ _,tI,Ae _ _⟩⟩,fun⟨⟨k,a,L,g⟩,hp⟩=>?_⟩);simp only at hp;simp only[Ou,O8,Iz,Iv];have hk:=hp.hk;have hl:=hp.hl;by_cases c11:k<n
 ·rcases e:Pp s a with _|⟨r,a2⟩
  ·have hn:=hp.none c11 e;rcases L with _|⟨r0,L⟩
   ·refine G0 ?_;(refine Ic ?_ ?_;focus (exact ZX (by omega)));refine G0 ?_;refine⟨?_,?_⟩
    ·refine G0 ?_;refine⟨?_,?_⟩
     ·refine G0 ?_;(refine .inr (.inr ⟨_,false,0::([]++[]),_,?_,De (R:=rdC s 0) e hs hp.ha,rfl⟩);focus (exact wI))
     ·refine G0 ?_;refine⟨?_,?_⟩
      ·refine G0 ?_;(refine .inr (.inr ⟨_,false,0::([]++[]),_,?_,De (R:=rdC s 0) e hs hp.ha,rfl⟩);focus (exact wI))
      ·refine G0 ?_;(refine .inr (.inr ⟨_,false,0::([]++[]),_,?_,De (R:=rdC s 0) e hs hp.ha,rfl⟩);focus (exact wI))
    ·refine G0 ?_;refine⟨?_,?_⟩
     ·refine G0 ?_;refine⟨?_,?_⟩
      ·refine G0 ?_;(refine .inr (.inr ⟨_,false,0::([]++[]),_,?_,De (R:=rdC s 0) e hs hp.ha,rfl⟩);focus (exact wI))
      ·refine G0 ?_;(refine .inr (.inr ⟨_,false,0::([]++[]),_,?_,De (R:=rdC s 0) e hs hp.ha,rfl⟩);focus (exact wI))
     ·refine G0 ?_;(refine .inr (.inr ⟨_,false,0::([]++[]),_,?_,De (R:=rdC s 0) e hs hp.ha,rfl⟩);focus (exact wI))
   ·refine G0 ?_;(refine Ic ?_ ?_;focus (exact ZX (by omega)));refine G0 ?_;refine⟨?_,?_⟩
    ·refine G0 ?_;refine⟨?_,?_⟩
     ·refine G0 ?_;(refine .inr (.inr ⟨_,false,0::([]++[]),_,?_,De (R:=rdC s 0) e hs hp.ha,rfl⟩);focus (exact wI))
     ·refine G0 ?_;refine⟨?_,?_⟩
      ·refine G0 ?_;(refine .inr (.inr ⟨_,false,0::([]++[]),_,?_,De (R:=rdC s 0) e hs hp.ha,rfl⟩);focus (exact wI))
      ·refine G0 ?_;(refine .inr (.inr ⟨_,false,0::([]++[]),_,?_,De (R:=rdC s 0) e hs hp.ha,rfl⟩);focus (exact wI))
    ·refine G0 ?_;refine⟨?_,?_⟩
     ·refine G0 ?_;refine⟨?_,?_⟩
      ·refine G0 ?_;(refine .inr (.inr ⟨_,false,0::([]++[]),_,?_,De (R:=rdC s 0) e hs hp.ha,rfl⟩);focus (exact wI))
      ·refine G0 ?_;(refine .inr (.inr ⟨_,false,0::([]++[]),_,?_,De (R:=rdC s 0) e hs hp.ha,rfl⟩);focus (exact wI))
     ·refine G0 ?_;(refine .inr (.inr ⟨_,false,0::([]++[]),_,?_,De (R:=rdC s 0) e hs hp.ha,rfl⟩);focus (exact wI))
  ·have hnx:=RcI.next hp c11 e;have b:=Yv e;have hr7:(([r].map Rr.row):List (List V))=[r.row]:=rfl;have hn20:L.length≤20:=by omega
   rcases L with _|⟨r0,L⟩
   ·refine G0 ?_;(refine Ic ?_ ?_;focus (exact ZX (by omega)));refine G0 ?_;refine⟨?_,?_⟩
    ·refine G0 ?_;refine⟨?_,?_⟩
     ·refine G0 ?_;(refine .inr (.inl ⟨_,_,false,0::([]++[]),?_,Bb e hs hp.ha,Ab,oI,dI,?_⟩);focus (exact wI));(refine goI ?_;repeat (intro gg;refine goI ?_));refine⟨lI,lI,?_⟩;refine G1 ?_;intro gg;(exact⟨none,trivial,fun gr=>⟨⟨(k+1,a2,[r],gg),hnx⟩,by show n-(k+1)<n-k;omega,tI,tI,⟨rfl,⟨rfl,⟨rfl,⟨rfl,trivial⟩⟩⟩⟩,tI⟩⟩)
     ·refine G0 ?_;refine⟨?_,?_⟩
      ·refine G0 ?_;(refine .inr (.inl ⟨_,_,false,0::([]++[]),?_,Bb e hs hp.ha,Ab,oI,dI,?_⟩);focus (exact wI));(refine goI ?_;repeat (intro gg;refine goI ?_));refine⟨lI,lI,?_⟩;refine G1 ?_;intro gg;(exact⟨none,trivial,fun gr=>⟨⟨(k+1,a2,[r],gg),hnx⟩,by show n-(k+1)<n-k;omega,tI,tI,⟨rfl,⟨rfl,⟨rfl,⟨rfl,trivial⟩⟩⟩⟩,tI⟩⟩)
      ·refine G0 ?_;(refine .inr (.inl ⟨_,_,false,0::([]++[]),?_,Bb e hs hp.ha,Ab,oI,dI,?_⟩);focus (exact wI));refine G1 ?_;intro gg;refine⟨?_,?_⟩
       ·refine G1 ?_;intro gg;refine⟨lI,lI,?_⟩;refine G1 ?_;intro gg;(exact⟨none,trivial,fun gr=>⟨⟨(k+1,a2,[r],gg),hnx⟩,by show n-(k+1)<n-k;omega,tI,tI,⟨rfl,⟨rfl,⟨rfl,⟨rfl,trivial⟩⟩⟩⟩,tI⟩⟩)
       ·refine G1 ?_;intro gg;refine⟨lI,lI,?_⟩;refine G1 ?_;intro gg;(exact⟨none,trivial,fun gr=>⟨⟨(k+1,a2,[r],gg),hnx⟩,by show n-(k+1)<n-k;omega,tI,tI,⟨rfl,⟨rfl,⟨rfl,⟨rfl,trivial⟩⟩⟩⟩,tI⟩⟩)
    ·refine G0 ?_;refine⟨?_,?_⟩
     ·refine G0 ?_;refine⟨?_,?_⟩
      ·refine G0 ?_;(refine .inr (.inl ⟨_,_,false,0::([]++[]),?_,Bb e hs hp.ha,Ab,oI,dI,?_⟩);focus (exact wI));(refine goI ?_;repeat (intro gg;refine goI ?_));refine⟨lI,lI,?_⟩;refine G1 ?_;intro gg;(exact⟨none,trivial,fun gr=>⟨⟨(k+1,a2,[r],gg),hnx⟩,by show n-(k+1)<n-k;omega,tI,tI,⟨rfl,⟨rfl,⟨rfl,⟨rfl,trivial⟩⟩⟩⟩,tI⟩⟩)
      ·refine G0 ?_;(refine .inr (.inl ⟨_,_,false,0::([]++[]),?_,Bb e hs hp.ha,Ab,oI,dI,?_⟩);focus (exact wI));refine G1 ?_;intro gg;refine⟨?_,?_⟩
       ·refine G1 ?_;intro gg;refine⟨lI,lI,?_⟩;refine G1 ?_;intro gg;(exact⟨none,trivial,fun gr=>⟨⟨(k+1,a2,[r],gg),hnx⟩,by show n-(k+1)<n-k;omega,tI,tI,⟨rfl,⟨rfl,⟨rfl,⟨rfl,trivial⟩⟩⟩⟩,tI⟩⟩)
       ·refine G1 ?_;intro gg;refine⟨lI,lI,?_⟩;refine G1 ?_;intro gg;(exact⟨none,trivial,fun gr=>⟨⟨(k+1,a2,[r],gg),hnx⟩,by show n-(k+1)<n-k;omega,tI,tI,⟨rfl,⟨rfl,⟨rfl,⟨rfl,trivial⟩⟩⟩⟩,tI⟩⟩)
     ·refine G0 ?_;(refine .inr (.inl ⟨_,_,false,0::([]++[]),?_,Bb e hs hp.ha,Ab,oI,dI,?_⟩);focus (exact wI));refine G1 ?_;intro gg;refine⟨?_,?_⟩
      ·refine G0 ?_;refine⟨?_,?_⟩
       ·refine G1 ?_;intro gg;refine⟨lI,lI,?_⟩;refine G1 ?_;intro gg;(exact⟨none,trivial,fun gr=>⟨⟨(k+1,a2,[r],gg),hnx⟩,by show n-(k+1)<n-k;omega,tI,tI,⟨rfl,⟨rfl,⟨rfl,⟨rfl,trivial⟩⟩⟩⟩,tI⟩⟩)
       ·refine G1 ?_;intro gg;refine⟨lI,lI,?_⟩;refine G1 ?_;intro gg;(exact⟨none,trivial,fun gr=>⟨⟨(k+1,a2,[r],gg),hnx⟩,by show n-(k+1)<n-k;omega,tI,tI,⟨rfl,⟨rfl,⟨rfl,⟨rfl,trivial⟩⟩⟩⟩,tI⟩⟩)
      ·refine G1 ?_;intro gg;refine⟨lI,lI,?_⟩;refine G1 ?_;intro gg;(exact⟨none,trivial,fun gr=>⟨⟨(k+1,a2,[r],gg),hnx⟩,by show n-(k+1)<n-k;omega,tI,tI,⟨rfl,⟨rfl,⟨rfl,⟨rfl,trivial⟩⟩⟩⟩,tI⟩⟩)
   ·have hn21:L.length≤20:=by simp only[ZJ]at hn20;omega
    refine G0 ?_;(refine Ic ?_ ?_;focus (exact ZX (by omega)));refine G0 ?_;refine⟨?_,?_⟩
    ·refine G0 ?_;refine⟨?_,?_⟩
     ·refine G0 ?_;(refine .inr (.inl ⟨_,_,false,0::([]++[]),?_,Bb e hs hp.ha,Ab,oI,dI,?_⟩);focus (exact wI));(refine goI ?_;repeat (intro gg;refine goI ?_));refine⟨lI,lI,?_⟩;refine G1 ?_;intro gg;(exact⟨none,trivial,fun gr=>⟨⟨(k+1,a2,(r0::L)++[r],gg),hnx⟩,by show n-(k+1)<n-k;omega,tI,tI,⟨rfl,⟨rfl,⟨congrArg (fun x=>some (Ent.mk gg (.t 42) 7 x)) (show(r0::L).map Rr.row++[r.row]=((r0::L)++[r]).map Rr.row by rw[ZI];rfl),⟨rfl,trivial⟩⟩⟩⟩,tI⟩⟩)
     ·refine G0 ?_;refine⟨?_,?_⟩
      ·refine G0 ?_;(refine .inr (.inl ⟨_,_,false,0::([]++[]),?_,Bb e hs hp.ha,Ab,oI,dI,?_⟩);focus (exact wI));(refine goI ?_;repeat (intro gg;refine goI ?_));refine⟨lI,lI,?_⟩;refine G1 ?_;intro gg;(exact⟨none,trivial,fun gr=>⟨⟨(k+1,a2,(r0::L)++[r],gg),hnx⟩,by show n-(k+1)<n-k;omega,tI,tI,⟨rfl,⟨rfl,⟨congrArg (fun x=>some (Ent.mk gg (.t 42) 7 x)) (show(r0::L).map Rr.row++[r.row]=((r0::L)++[r]).map Rr.row by rw[ZI];rfl),⟨rfl,trivial⟩⟩⟩⟩,tI⟩⟩)
      ·refine G0 ?_;(refine .inr (.inl ⟨_,_,false,0::([]++[]),?_,Bb e hs hp.ha,Ab,oI,dI,?_⟩);focus (exact wI));refine G1 ?_;intro gg;refine⟨?_,?_⟩
       ·refine G1 ?_;intro gg;refine⟨lI,lI,?_⟩;refine G1 ?_;intro gg;(exact⟨none,trivial,fun gr=>⟨⟨(k+1,a2,(r0::L)++[r],gg),hnx⟩,by show n-(k+1)<n-k;omega,tI,tI,⟨rfl,⟨rfl,⟨congrArg (fun x=>some (Ent.mk gg (.t 42) 7 x)) (show(r0::L).map Rr.row++[r.row]=((r0::L)++[r]).map Rr.row by rw[ZI];rfl),⟨rfl,trivial⟩⟩⟩⟩,tI⟩⟩)
       ·refine G1 ?_;intro gg;refine⟨lI,lI,?_⟩;refine G1 ?_;intro gg;(exact⟨none,trivial,fun gr=>⟨⟨(k+1,a2,(r0::L)++[r],gg),hnx⟩,by show n-(k+1)<n-k;omega,tI,tI,⟨rfl,⟨rfl,⟨congrArg (fun x=>some (Ent.mk gg (.t 42) 7 x)) (show(r0::L).map Rr.row++[r.row]=((r0::L)++[r]).map Rr.row by rw[ZI];rfl),⟨rfl,trivial⟩⟩⟩⟩,tI⟩⟩)
    ·refine G0 ?_;refine⟨?_,?_⟩
     ·refine G0 ?_;refine⟨?_,?_⟩
      ·refine G0 ?_;(refine .inr (.inl ⟨_,_,false,0::([]++[]),?_,Bb e hs hp.ha,Ab,oI,dI,?_⟩);focus (exact wI));(refine goI ?_;repeat (intro gg;refine goI ?_));refine⟨lI,lI,?_⟩;refine G1 ?_;intro gg;(exact⟨none,trivial,fun gr=>⟨⟨(k+1,a2,(r0::L)++[r],gg),hnx⟩,by show n-(k+1)<n-k;omega,tI,tI,⟨rfl,⟨rfl,⟨congrArg (fun x=>some (Ent.mk gg (.t 42) 7 x)) (show(r0::L).map Rr.row++[r.row]=((r0::L)++[r]).map Rr.row by rw[ZI];rfl),⟨rfl,trivial⟩⟩⟩⟩,tI⟩⟩)
      ·refine G0 ?_;(refine .inr (.inl ⟨_,_,false,0::([]++[]),?_,Bb e hs hp.ha,Ab,oI,dI,?_⟩);focus (exact wI));refine G1 ?_;intro gg;refine⟨?_,?_⟩
       ·refine G1 ?_;intro gg;refine⟨lI,lI,?_⟩;refine G1 ?_;intro gg;(exact⟨none,trivial,fun gr=>⟨⟨(k+1,a2,(r0::L)++[r],gg),hnx⟩,by show n-(k+1)<n-k;omega,tI,tI,⟨rfl,⟨rfl,⟨congrArg (fun x=>some (Ent.mk gg (.t 42) 7 x)) (show(r0::L).map Rr.row++[r.row]=((r0::L)++[r]).map Rr.row by rw[ZI];rfl),⟨rfl,trivial⟩⟩⟩⟩,tI⟩⟩)
       ·refine G1 ?_;intro gg;refine⟨lI,lI,?_⟩;refine G1 ?_;intro gg;(exact⟨none,trivial,fun gr=>⟨⟨(k+1,a2,(r0::L)++[r],gg),hnx⟩,by show n-(k+1)<n-k;omega,tI,tI,⟨rfl,⟨rfl,⟨congrArg (fun x=>some (Ent.mk gg (.t 42) 7 x)) (show(r0::L).map Rr.row++[r.row]=((r0::L)++[r]).map Rr.row by rw[ZI];rfl),⟨rfl,trivial⟩⟩⟩⟩,tI⟩⟩)
     ·refine G0 ?_;(refine .inr (.inl ⟨_,_,false,0::([]++[]),?_,Bb e hs hp.ha,Ab,oI,dI,?_⟩);focus (exact wI));refine G1 ?_;intro gg;refine⟨?_,?_⟩
      ·refine G0 ?_;refine⟨?_,?_⟩
       ·refine G1 ?_;intro gg;refine⟨lI,lI,?_⟩;refine G1 ?_;intro gg;(exact⟨none,trivial,fun gr=>⟨⟨(k+1,a2,(r0::L)++[r],gg),hnx⟩,by show n-(k+1)<n-k;omega,tI,tI,⟨rfl,⟨rfl,⟨congrArg (fun x=>some (Ent.mk gg (.t 42) 7 x)) (show(r0::L).map Rr.row++[r.row]=((r0::L)++[r]).map Rr.row by rw[ZI];rfl),⟨rfl,trivial⟩⟩⟩⟩,tI⟩⟩)
       ·refine G1 ?_;intro gg;refine⟨lI,lI,?_⟩;refine G1 ?_;intro gg;(exact⟨none,trivial,fun gr=>⟨⟨(k+1,a2,(r0::L)++[r],gg),hnx⟩,by show n-(k+1)<n-k;omega,tI,tI,⟨rfl,⟨rfl,⟨congrArg (fun x=>some (Ent.mk gg (.t 42) 7 x)) (show(r0::L).map Rr.row++[r.row]=((r0::L)++[r]).map Rr.row by rw[ZI];rfl),⟨rfl,trivial⟩⟩⟩⟩,tI⟩⟩)
      ·refine G1 ?_;intro gg;refine⟨lI,lI,?_⟩;refine G1 ?_;intro gg;(exact⟨none,trivial,fun gr=>⟨⟨(k+1,a2,(r0::L)++[r],gg),hnx⟩,by show n-(k+1)<n-k;omega,tI,tI,⟨rfl,⟨rfl,⟨congrArg (fun x=>some (Ent.mk gg (.t 42) 7 x)) (show(r0::L).map Rr.row++[r.row]=((r0::L)++[r]).map Rr.row by rw[ZI];rfl),⟨rfl,trivial⟩⟩⟩⟩,tI⟩⟩)
 ·have he:=hp.end_ c11;rw[he,ZA]at h;simp only at h;rcases L with _|⟨r0,L⟩
  ·refine G0 ?_;(refine Hr ?_ ?_;focus (exact ZY (by omega)));refine G0 ?_;by_cases c12:a=s.size
   ·rw[if_pos c12]at h;cases h
   ·(exact .inr (.inr ⟨_,true,[],_,aM,Cj _ (ZG.2 (by omega)),rfl⟩))
  ·refine G0 ?_;(refine Hr ?_ ?_;focus (exact ZY (by omega)));refine G0 ?_;by_cases c12:a=s.size
   ·rw[if_pos c12]at h;cases h
   ·(exact .inr (.inr ⟨_,true,[],_,aM,Cj _ (ZG.2 (by omega)),rfl⟩))
section
variable {P:Program} {ops:Array Oper} {Q:Exit→Act→List Frame→World→Prop} {a:Act} {cs:List Frame} {w w':World} {i:Nat} {Bz:List Nat} {o:Oper} {v:Value}
end
theorem Ak6(T:TypeId)(w:World):(Instr.typeAssert Hl T 77 true).run Tryz.prog w=.ok (.tuple #[.agg #[],.bool true]) w:=by
 have hu:=Tryz.underlying77;simp[Instr.typeAssert,Hl,run_underlying hu]
theorem Aoc(T:TypeId)(w:World):(Instr.typeAssert .nilIface T 77 true).run Tryz.prog w=.ok (.tuple #[.agg #[],.bool false]) w:=by
 have hu:=Tryz.underlying77;have h:(Tryz.prog.info? 77).map (·.zero)=some (some (.agg #[])):=by kernel_rfl
 obtain⟨i,hi,hz⟩:=Option.map_eq_some_iff.1 h;simp[Instr.typeAssert,run_underlying hu,zeroValue,typeInfo,hi,hz]
def K4:Array Value:= #[.int .i64 0,.bool false,.bool false,.int .i64 0,.string ⟨#[]⟩,.int .i64 0,.slice none 0 0]
structure Ar1(w:World)(p q:Nat)(w':World):Prop where
 m:Blk w' p 52 K4
 e:Blk w' q 32 #[.int .i64 1]
 fr:Fr (fun k=>k=p∨k=q) w w'
theorem Fr.set_{F:Nat→Prop}{w w':World}(h:Fr F w w'){b:Nat}(hb:F b)(i:Nat)(v:Value):Fr F w (w'.setCell ⟨b,i,none⟩ v):=by
 have hs:=h.size;refine⟨h.os,h.tape,h.output,by simp[World.setCell];omega,fun k hk hF=>?_⟩;rw[←h.block k hk hF];have:k≠b:=fun e=>hF (e▸hb);exact Below.heap_setCell w' ⟨b,i,none⟩ v k this
theorem Fr.alloc_{F:Nat→Prop}{w w':World}(h:Fr F w w')(o:Obj):Fr F w (w'.alloc o):=by
 have hs:=h.size;refine⟨h.os,h.tape,h.output,by rw[show(w'.alloc o).heap.size=w'.heap.size+1 from by simp[World.alloc,-World.alloc_eq]];omega,fun k hk hF=>?_⟩;rw[←h.block k hk hF];exact Below.heap_alloc w' o k (by omega)
set_option maxRecDepth 100000 in
set_option maxHeartbeats 2000000 in
theorem Akc(p q:Nat)(c0 c1 c2 c3 c4 c5 c6 x:Value)(w:World)(hp:Blk w p 52 #[c0,c1,c2,c3,c4,c5,c6])(hq:Blk w q 32 #[x])(hpq:p≠q):
  CallsD Tryz.prog 37 #[.pointer (some ⟨p,0,none⟩),.pointer (some ⟨q,0,none⟩)] (.panicking [{v:=Hl,recovered:=false}]) w fun e u' w'=>e=.returned (.tuple #[])∧u'=.panicking [{v:=Hl,recovered:=true}]∧Ar1 w p q w':=by
 have hlp:=hp.lt;have hlq:=hq.lt;refine callsD_of_wpS Tryz.func37 rfl fun c₀ cs hu=>?_;apply wpS_seq;apply wpS_region;have hrec:recoverD (c₀::cs)=some (Hl,{c₀ with mode:=.panicking ({v:=Hl,recovered:=true} ::[])} ::cs):=by simp[recoverD,hu]
 simp[wpOpsS,go_sem,hrec,Tryz.ntmps37,Exit.thenS,Ak6];have e0:w.cell? ⟨p,0,none⟩=some c0:=hp.cell 0;have e1:w.cell? ⟨p,1,none⟩=some c1:=hp.cell 1;have e2:w.cell? ⟨p,2,none⟩=some c2:=hp.cell 2;have e3:w.cell? ⟨p,3,none⟩=some c3:=hp.cell 3;have e4:w.cell? ⟨p,4,none⟩=some c4:=hp.cell 4;have e5:w.cell? ⟨p,5,none⟩=some c5:=hp.cell 5;have e6:w.cell? ⟨p,6,none⟩=some c6:=hp.cell 6;have f0:=fun i=>hp.frozen i;have g0:w.cell? ⟨q,0,none⟩=some x:=hq.cell 0;have h0:=hq.frozen 0;refine wpS_of_wp ?_
 go_wp2
 have key:Ar1 w p q (((((((((w.setCell ⟨p,0,none⟩ (.int .i64 0)).setCell ⟨p,1,none⟩ (.bool false)).setCell ⟨p,2,none⟩ (.bool false)).setCell ⟨p,3,none⟩ (.int .i64 0)).setCell ⟨p,4,none⟩ (.string ⟨#[]⟩)).setCell ⟨p,5,none⟩ (.int .i64 0)).setCell ⟨p,6,none⟩ (.slice none 0 0)).setCell ⟨q,0,none⟩ (.int .i64 1)).alloc (Obj.cells #[] 77)):=by
  refine⟨?_,?_,?_⟩
  ·exact(((((((((hp.set_ 0 _).set_ 1 _).set_ 2 _).set_ 3 _).set_ 4 _).set_ 5 _).set_ 6 _).far hpq _).alloc _)
  ·exact(((((((((hq.far (Ne.symm hpq) _).far (Ne.symm hpq) _).far (Ne.symm hpq) _).far (Ne.symm hpq) _).far (Ne.symm hpq) _).far (Ne.symm hpq) _).far (Ne.symm hpq) _).set_ 0 _).alloc _)
  ·exact(((((((((Fr.refl _ w).set_ (.inl rfl) 0 _).set_ (.inl rfl) 1 _).set_ (.inl rfl) 2 _).set_ (.inl rfl) 3 _).set_ (.inl rfl) 4 _).set_ (.inl rfl) 5 _).set_ (.inl rfl) 6 _).set_ (.inr rfl) 0 _).alloc_ _
 simp[bodyPostS,results,Tryz.results37];exact key
set_option maxRecDepth 100000 in
set_option maxHeartbeats 2000000 in
theorem Abj(p q:Nat)(w:World):
  CallsD Tryz.prog 37 #[.pointer (some ⟨p,0,none⟩),.pointer (some ⟨q,0,none⟩)] .returning w fun e u' w'=>e=.returned (.tuple #[])∧u'=.returning∧w'=w.alloc (.cells #[] 77):=by
 refine callsD_of_wpS Tryz.func37 rfl fun c₀ cs hu=>?_;apply wpS_seq;apply wpS_region;have hrec:recoverD (c₀::cs)=none:=by simp[recoverD,hu]
 simp[wpOpsS,go_sem,hrec,Tryz.ntmps37,Exit.thenS,Aoc];refine wpS_of_wp ?_
 go_wp2
 simp[bodyPostS,results,Tryz.results37,hu];cases c₀;simp_all
theorem Avr{n:Int}(h0:0≤n)(h1:n≤15):IntKind.i64.wrap ((BitVec.ofInt IntKind.i64.bits n|||BitVec.ofInt IntKind.i64.bits 32768).toNat)=n+32768:=by
 have key:∀k:Fin 16,IntKind.i64.wrap ((BitVec.ofInt IntKind.i64.bits (k.val:Int)|||BitVec.ofInt IntKind.i64.bits 32768).toNat)=(k.val:Int)+32768:=by decide
 obtain⟨k,rfl⟩:=Int.eq_ofNat_of_zero_le h0;exact key ⟨k,by omega⟩
theorem Az9{n:Int}(h0:0≤n)(h1:n≤15):IntKind.i64.wrap ((BitVec.ofInt IntKind.i64.bits n|||BitVec.ofInt IntKind.i64.bits 512).toNat)=n+512:=by
 have key:∀k:Fin 16,IntKind.i64.wrap ((BitVec.ofInt IntKind.i64.bits (k.val:Int)|||BitVec.ofInt IntKind.i64.bits 512).toNat)=(k.val:Int)+512:=by decide
 obtain⟨k,rfl⟩:=Int.eq_ofNat_of_zero_le h0;exact key ⟨k,by omega⟩
theorem Axt{n:Int}(h0:0≤n)(h1:n≤15):IntKind.i64.wrap ((BitVec.ofInt IntKind.i64.bits (n+32768)|||BitVec.ofInt IntKind.i64.bits 512).toNat)=n+32768+512:=by
 have key:∀k:Fin 16,IntKind.i64.wrap ((BitVec.ofInt IntKind.i64.bits ((k.val:Int)+32768)|||BitVec.ofInt IntKind.i64.bits 512).toNat)=(k.val:Int)+32768+512:=by decide
 obtain⟨k,rfl⟩:=Int.eq_ofNat_of_zero_le h0;exact key ⟨k,by omega⟩
def Dl(id fl n:Int)(qn:ByteArray)(qt:Int):List UInt8:=Av [id,fl,1,n,0,0]++Bv qn++Av [qt,1]
theorem Sa{id fl n qt:Int}{qn:ByteArray}(h:qn.size≤120):0<(Dl id fl n qn qt).length∧(Dl id fl n qn qt).length≤15100:=by
 have:=Dz h;unfold Dl;rw[ZF,ZF,Au,Au];simp only[ZJ,ZN];omega
theorem Y1(m:Ms):Cx m=Dl m.id (Ec m) (m.rs.length:Int) m.qn m.qt++Bg m.rs:=rfl
set_option maxHeartbeats 2000000 in
theorem Agu(m:Ms)(hm:m.Good)(ha:m.an=false)(hc:m.ct=false):Fun Tryz.prog 36 [.c (.agg m.row)] [.c (.v (.string ⟨(Cx m).toArray⟩))]:=by
 obtain⟨id,an,ct,co,qn,qt,rs⟩:=m;obtain⟨h1,h2,h3,h4,h5,h6,h7⟩:=hm;simp only at h1 h2 h3 h4 h5 h6 h7 ha hc;subst ha hc;have eF:Ec ⟨id,false,false,co,qn,qt,rs⟩=co:=by simp[Ec]
 rw[Y1,eF];have hh:=Sa (id:=id) (fl:=co) (n:=(rs.length:Int)) (qt:=qt) h4;have hR:=Fw h7;refine Ar J7 rfl ?_;(refine goI ?_;repeat (intro gg;refine goI ?_));rename_i gw;rw[ZE];(refine .inr (.inl ⟨_,_,true,[128],Zj rfl (Iy rfl) Kp (by decide) (by decide) aM,E3 [] false [id,co,1,(rs.length:Int),0,0] (by simp only[XC,XD,or_false,forall_eq_or_imp,forall_eq];omega) (by simp) (by simp),(fun _=>Gr),oI,dI,?_⟩));refine G1 ?_;intro gg;(refine .inr (.inl ⟨_,_,false,[128],aM,Jm ([]++Av [id,co,1,(rs.length:Int),0,0]) qn h3 h4 (by simp only[ZF,Au,ZJ,ZN];omega),Ab,oI,dI,?_⟩));(refine goI ?_;repeat (intro gg;refine goI ?_));(refine .inr (.inl ⟨_,_,true,[128],aM,E3 ([]++Av [id,co,1,(rs.length:Int),0,0]++Bv qn) false [qt,1] (by simp only[XC,XD,or_false,forall_eq_or_imp,forall_eq];omega) (by simp) (by have:=Dz h4;simp only[ZF,Au,ZJ,ZN];omega),(fun _=>Gr),oI,dI,?_⟩));refine G1 ?_;intro gg;rw[ZE];(refine⟨[],none,{k:Nat//k≤rs.length},[3,40,41],fun⟨k,hk⟩=>[(42,.v (.int .i64 k))],[],fun⟨k,hk⟩=>[(128,⟨gw,.q (Fe wT (Dl id (co) (rs.length:Int) qn qt++Bg (rs.take k))),0,[]⟩)],fun⟨k,hk⟩=>rs.length-k,trivial,fun _=>⟨trivial,fun _=>⟨⟨0,by omega⟩,tI,Af _ _,?_,Ae _ _⟩⟩,fun⟨k,hk⟩=>?_⟩;focus (exact⟨congrArg (fun r=>some (Ent.mk gw (.q (Fe wT r)) 0 [])) (show Dl id (co) (rs.length:Int) qn qt=Dl id (co) (rs.length:Int) qn qt++Bg (rs.take 0)by simp[Bg]),trivial⟩));refine G0 ?_;(refine Aa (fun q1=>?_) (fun q1=>?_)<;>rw[q1])
 ·have hlt:k<rs.length:=by have:=ZV (show decide ((k:Int)<(rs.length:Int))=true from q1);omega
  have hl1:=Fw (l:=rs.take k) fun r hr=>h7 r (List.mem_of_mem_take hr);rw[ZM]at hl1;have e:Dl id (co) (rs.length:Int) qn qt++Bg (rs.take k)++H5 rs[k]=Dl id (co) (rs.length:Int) qn qt++Bg (rs.take (k+1)):=by rw[Hm hlt,ZS]
  refine G0 ?_;refine⟨k,_,rfl,Ad hlt,?_⟩;refine G1 ?_;intro gg;(refine .inr (.inl ⟨_,_,false,[128],aM,Ot (Dl id (co) (rs.length:Int) qn qt++Bg (rs.take k)) rs[k] (h7 _ (ZK hlt)) (by rw[ZF];omega),Ab,oI,dI,?_⟩));refine G1 ?_;intro gg;(exact⟨none,trivial,fun gr=>⟨⟨k+1,by omega⟩,by show rs.length-(k+1)<rs.length-k;omega,tI,tI,⟨congrArg (fun r=>some (Ent.mk gw (.q (Fe wT r)) 0 [])) e,trivial⟩,tI⟩⟩)
 ·have hge:¬k<rs.length:=by have:=ZW (show decide ((k:Int)<(rs.length:Int))=false from q1);omega
  obtain rfl:k=rs.length:=by omega
  have hne:Dl id (co) (rs.length:Int) qn qt++Bg (rs.take rs.length)≠[]:=fun q=>by
   have:=congrArg List.length q;rw[ZF,ZN]at this;omega
  rw[show Bg rs=Bg (rs.take rs.length)by rw[XF]];refine G0 ?_;(refine .inr (.inl ⟨_,_,false,[128],aM,F7 (T:=wT) (Dl id (co) (rs.length:Int) qn qt++Bg (rs.take rs.length)) hne,Ab,oI,dI,?_⟩));refine G1 ?_;intro gg;(exact⟨[],aI⟩)
set_option maxHeartbeats 2000000 in
theorem Ag0(m:Ms)(hm:m.Good)(ha:m.an=true)(hc:m.ct=false):Fun Tryz.prog 36 [.c (.agg m.row)] [.c (.v (.string ⟨(Cx m).toArray⟩))]:=by
 obtain⟨id,an,ct,co,qn,qt,rs⟩:=m;obtain⟨h1,h2,h3,h4,h5,h6,h7⟩:=hm;simp only at h1 h2 h3 h4 h5 h6 h7 ha hc;subst ha hc;have eF:Ec ⟨id,true,false,co,qn,qt,rs⟩=co+32768:=by simp[Ec]
 rw[Y1,eF];have hh:=Sa (id:=id) (fl:=co+32768) (n:=(rs.length:Int)) (qt:=qt) h4;have hR:=Fw h7;refine Ar J7 rfl ?_;(refine goI ?_;repeat (intro gg;refine goI ?_))
 rename Nat=>gw
 refine⟨_,Avr h2.1 h2.2,?_⟩;refine G1 ?_;intro gg;rw[ZE];(refine .inr (.inl ⟨_,_,true,[128],Zj rfl (Iy rfl) Kp (by decide) (by decide) aM,E3 [] false [id,co+32768,1,(rs.length:Int),0,0] (by simp only[XC,XD,or_false,forall_eq_or_imp,forall_eq];omega) (by simp) (by simp),(fun _=>Gr),oI,dI,?_⟩));refine G1 ?_;intro gg;(refine .inr (.inl ⟨_,_,false,[128],aM,Jm ([]++Av [id,co+32768,1,(rs.length:Int),0,0]) qn h3 h4 (by simp only[ZF,Au,ZJ,ZN];omega),Ab,oI,dI,?_⟩));(refine goI ?_;repeat (intro gg;refine goI ?_));(refine .inr (.inl ⟨_,_,true,[128],aM,E3 ([]++Av [id,co+32768,1,(rs.length:Int),0,0]++Bv qn) false [qt,1] (by simp only[XC,XD,or_false,forall_eq_or_imp,forall_eq];omega) (by simp) (by have:=Dz h4;simp only[ZF,Au,ZJ,ZN];omega),(fun _=>Gr),oI,dI,?_⟩));refine G1 ?_;intro gg;rw[ZE];(refine⟨[],none,{k:Nat//k≤rs.length},[3,40,41],fun⟨k,hk⟩=>[(42,.v (.int .i64 k))],[],fun⟨k,hk⟩=>[(128,⟨gw,.q (Fe wT (Dl id (co+32768) (rs.length:Int) qn qt++Bg (rs.take k))),0,[]⟩)],fun⟨k,hk⟩=>rs.length-k,trivial,fun _=>⟨trivial,fun _=>⟨⟨0,by omega⟩,tI,Af _ _,?_,Ae _ _⟩⟩,fun⟨k,hk⟩=>?_⟩;focus (exact⟨congrArg (fun r=>some (Ent.mk gw (.q (Fe wT r)) 0 [])) (show Dl id (co+32768) (rs.length:Int) qn qt=Dl id (co+32768) (rs.length:Int) qn qt++Bg (rs.take 0)by simp[Bg]),trivial⟩));refine G0 ?_;(refine Aa (fun q1=>?_) (fun q1=>?_)<;>rw[q1])
 ·have hlt:k<rs.length:=by have:=ZV (show decide ((k:Int)<(rs.length:Int))=true from q1);omega
  have hl1:=Fw (l:=rs.take k) fun r hr=>h7 r (List.mem_of_mem_take hr);rw[ZM]at hl1;have e:Dl id (co+32768) (rs.length:Int) qn qt++Bg (rs.take k)++H5 rs[k]=Dl id (co+32768) (rs.length:Int) qn qt++Bg (rs.take (k+1)):=by rw[Hm hlt,ZS]
  refine G0 ?_;refine⟨k,_,rfl,Ad hlt,?_⟩;refine G1 ?_;intro gg;(refine .inr (.inl ⟨_,_,false,[128],aM,Ot (Dl id (co+32768) (rs.length:Int) qn qt++Bg (rs.take k)) rs[k] (h7 _ (ZK hlt)) (by rw[ZF];omega),Ab,oI,dI,?_⟩));refine G1 ?_;intro gg;(exact⟨none,trivial,fun gr=>⟨⟨k+1,by omega⟩,by show rs.length-(k+1)<rs.length-k;omega,tI,tI,⟨congrArg (fun r=>some (Ent.mk gw (.q (Fe wT r)) 0 [])) e,trivial⟩,tI⟩⟩)
 ·have hge:¬k<rs.length:=by have:=ZW (show decide ((k:Int)<(rs.length:Int))=false from q1);omega
  obtain rfl:k=rs.length:=by omega
  have hne:Dl id (co+32768) (rs.length:Int) qn qt++Bg (rs.take rs.length)≠[]:=fun q=>by
   have:=congrArg List.length q;rw[ZF,ZN]at this;omega
  rw[show Bg rs=Bg (rs.take rs.length)by rw[XF]];refine G0 ?_;(refine .inr (.inl ⟨_,_,false,[128],aM,F7 (T:=wT) (Dl id (co+32768) (rs.length:Int) qn qt++Bg (rs.take rs.length)) hne,Ab,oI,dI,?_⟩));refine G1 ?_;intro gg;(exact⟨[],aI⟩)
set_option maxHeartbeats 2000000 in
theorem Aia(m:Ms)(hm:m.Good)(ha:m.an=false)(hc:m.ct=true):Fun Tryz.prog 36 [.c (.agg m.row)] [.c (.v (.string ⟨(Cx m).toArray⟩))]:=by
 obtain⟨id,an,ct,co,qn,qt,rs⟩:=m;obtain⟨h1,h2,h3,h4,h5,h6,h7⟩:=hm;simp only at h1 h2 h3 h4 h5 h6 h7 ha hc;subst ha hc;have eF:Ec ⟨id,false,true,co,qn,qt,rs⟩=co+512:=by simp[Ec]
 rw[Y1,eF];have hh:=Sa (id:=id) (fl:=co+512) (n:=(rs.length:Int)) (qt:=qt) h4;have hR:=Fw h7;refine Ar J7 rfl ?_;(refine goI ?_;repeat (intro gg;refine goI ?_))
 rename Nat=>gw
 refine⟨_,Az9 h2.1 h2.2,?_⟩;refine G1 ?_;intro gg;rw[ZE];(refine .inr (.inl ⟨_,_,true,[128],Zj rfl (Iy rfl) Kp (by decide) (by decide) aM,E3 [] false [id,co+512,1,(rs.length:Int),0,0] (by simp only[XC,XD,or_false,forall_eq_or_imp,forall_eq];omega) (by simp) (by simp),(fun _=>Gr),oI,dI,?_⟩));refine G1 ?_;intro gg;(refine .inr (.inl ⟨_,_,false,[128],aM,Jm ([]++Av [id,co+512,1,(rs.length:Int),0,0]) qn h3 h4 (by simp only[ZF,Au,ZJ,ZN];omega),Ab,oI,dI,?_⟩));(refine goI ?_;repeat (intro gg;refine goI ?_));(refine .inr (.inl ⟨_,_,true,[128],aM,E3 ([]++Av [id,co+512,1,(rs.length:Int),0,0]++Bv qn) false [qt,1] (by simp only[XC,XD,or_false,forall_eq_or_imp,forall_eq];omega) (by simp) (by have:=Dz h4;simp only[ZF,Au,ZJ,ZN];omega),(fun _=>Gr),oI,dI,?_⟩));refine G1 ?_;intro gg;rw[ZE];(refine⟨[],none,{k:Nat//k≤rs.length},[3,40,41],fun⟨k,hk⟩=>[(42,.v (.int .i64 k))],[],fun⟨k,hk⟩=>[(128,⟨gw,.q (Fe wT (Dl id (co+512) (rs.length:Int) qn qt++Bg (rs.take k))),0,[]⟩)],fun⟨k,hk⟩=>rs.length-k,trivial,fun _=>⟨trivial,fun _=>⟨⟨0,by omega⟩,tI,Af _ _,?_,Ae _ _⟩⟩,fun⟨k,hk⟩=>?_⟩;focus (exact⟨congrArg (fun r=>some (Ent.mk gw (.q (Fe wT r)) 0 [])) (show Dl id (co+512) (rs.length:Int) qn qt=Dl id (co+512) (rs.length:Int) qn qt++Bg (rs.take 0)by simp[Bg]),trivial⟩));refine G0 ?_;(refine Aa (fun q1=>?_) (fun q1=>?_)<;>rw[q1])
 ·have hlt:k<rs.length:=by have:=ZV (show decide ((k:Int)<(rs.length:Int))=true from q1);omega
  have hl1:=Fw (l:=rs.take k) fun r hr=>h7 r (List.mem_of_mem_take hr);rw[ZM]at hl1;have e:Dl id (co+512) (rs.length:Int) qn qt++Bg (rs.take k)++H5 rs[k]=Dl id (co+512) (rs.length:Int) qn qt++Bg (rs.take (k+1)):=by rw[Hm hlt,ZS]
  refine G0 ?_;refine⟨k,_,rfl,Ad hlt,?_⟩;refine G1 ?_;intro gg;(refine .inr (.inl ⟨_,_,false,[128],aM,Ot (Dl id (co+512) (rs.length:Int) qn qt++Bg (rs.take k)) rs[k] (h7 _ (ZK hlt)) (by rw[ZF];omega),Ab,oI,dI,?_⟩));refine G1 ?_;intro gg;(exact⟨none,trivial,fun gr=>⟨⟨k+1,by omega⟩,by show rs.length-(k+1)<rs.length-k;omega,tI,tI,⟨congrArg (fun r=>some (Ent.mk gw (.q (Fe wT r)) 0 [])) e,trivial⟩,tI⟩⟩)
 ·have hge:¬k<rs.length:=by have:=ZW (show decide ((k:Int)<(rs.length:Int))=false from q1);omega
  obtain rfl:k=rs.length:=by omega
  have hne:Dl id (co+512) (rs.length:Int) qn qt++Bg (rs.take rs.length)≠[]:=fun q=>by
   have:=congrArg List.length q;rw[ZF,ZN]at this;omega
  rw[show Bg rs=Bg (rs.take rs.length)by rw[XF]];refine G0 ?_;(refine .inr (.inl ⟨_,_,false,[128],aM,F7 (T:=wT) (Dl id (co+512) (rs.length:Int) qn qt++Bg (rs.take rs.length)) hne,Ab,oI,dI,?_⟩));refine G1 ?_;intro gg;(exact⟨[],aI⟩)
set_option maxHeartbeats 2000000 in
theorem Agd(m:Ms)(hm:m.Good)(ha:m.an=true)(hc:m.ct=true):Fun Tryz.prog 36 [.c (.agg m.row)] [.c (.v (.string ⟨(Cx m).toArray⟩))]:=by
 obtain⟨id,an,ct,co,qn,qt,rs⟩:=m;obtain⟨h1,h2,h3,h4,h5,h6,h7⟩:=hm;simp only at h1 h2 h3 h4 h5 h6 h7 ha hc;subst ha hc;have eF:Ec ⟨id,true,true,co,qn,qt,rs⟩=co+32768+512:=by simp[Ec]
 rw[Y1,eF];have hh:=Sa (id:=id) (fl:=co+32768+512) (n:=(rs.length:Int)) (qt:=qt) h4;have hR:=Fw h7;refine Ar J7 rfl ?_;(refine goI ?_;repeat (intro gg;refine goI ?_))
 rename Nat=>gw
 refine⟨_,Avr h2.1 h2.2,?_⟩;refine G0 ?_;refine⟨_,Axt h2.1 h2.2,?_⟩;refine G1 ?_;intro gg;rw[ZE];(refine .inr (.inl ⟨_,_,true,[128],Zj rfl (Iy rfl) Kp (by decide) (by decide) aM,E3 [] false [id,co+32768+512,1,(rs.length:Int),0,0] (by simp only[XC,XD,or_false,forall_eq_or_imp,forall_eq];omega) (by simp) (by simp),(fun _=>Gr),oI,dI,?_⟩));refine G1 ?_;intro gg;(refine .inr (.inl ⟨_,_,false,[128],aM,Jm ([]++Av [id,co+32768+512,1,(rs.length:Int),0,0]) qn h3 h4 (by simp only[ZF,Au,ZJ,ZN];omega),Ab,oI,dI,?_⟩));(refine goI ?_;repeat (intro gg;refine goI ?_));(refine .inr (.inl ⟨_,_,true,[128],aM,E3 ([]++Av [id,co+32768+512,1,(rs.length:Int),0,0]++Bv qn) false [qt,1] (by simp only[XC,XD,or_false,forall_eq_or_imp,forall_eq];omega) (by simp) (by have:=Dz h4;simp only[ZF,Au,ZJ,ZN];omega),(fun _=>Gr),oI,dI,?_⟩));refine G1 ?_;intro gg;rw[ZE];(refine⟨[],none,{k:Nat//k≤rs.length},[3,40,41],fun⟨k,hk⟩=>[(42,.v (.int .i64 k))],[],fun⟨k,hk⟩=>[(128,⟨gw,.q (Fe wT (Dl id (co+32768+512) (rs.length:Int) qn qt++Bg (rs.take k))),0,[]⟩)],fun⟨k,hk⟩=>rs.length-k,trivial,fun _=>⟨trivial,fun _=>⟨⟨0,by omega⟩,tI,Af _ _,?_,Ae _ _⟩⟩,fun⟨k,hk⟩=>?_⟩;focus (exact⟨congrArg (fun r=>some (Ent.mk gw (.q (Fe wT r)) 0 [])) (show Dl id (co+32768+512) (rs.length:Int) qn qt=Dl id (co+32768+512) (rs.length:Int) qn qt++Bg (rs.take 0)by simp[Bg]),trivial⟩));refine G0 ?_;(refine Aa (fun q1=>?_) (fun q1=>?_)<;>rw[q1])
 ·have hlt:k<rs.length:=by have:=ZV (show decide ((k:Int)<(rs.length:Int))=true from q1);omega
  have hl1:=Fw (l:=rs.take k) fun r hr=>h7 r (List.mem_of_mem_take hr);rw[ZM]at hl1;have e:Dl id (co+32768+512) (rs.length:Int) qn qt++Bg (rs.take k)++H5 rs[k]=Dl id (co+32768+512) (rs.length:Int) qn qt++Bg (rs.take (k+1)):=by rw[Hm hlt,ZS]
  refine G0 ?_;refine⟨k,_,rfl,Ad hlt,?_⟩;refine G1 ?_;intro gg;(refine .inr (.inl ⟨_,_,false,[128],aM,Ot (Dl id (co+32768+512) (rs.length:Int) qn qt++Bg (rs.take k)) rs[k] (h7 _ (ZK hlt)) (by rw[ZF];omega),Ab,oI,dI,?_⟩));refine G1 ?_;intro gg;(exact⟨none,trivial,fun gr=>⟨⟨k+1,by omega⟩,by show rs.length-(k+1)<rs.length-k;omega,tI,tI,⟨congrArg (fun r=>some (Ent.mk gw (.q (Fe wT r)) 0 [])) e,trivial⟩,tI⟩⟩)
 ·have hge:¬k<rs.length:=by have:=ZW (show decide ((k:Int)<(rs.length:Int))=false from q1);omega
  obtain rfl:k=rs.length:=by omega
  have hne:Dl id (co+32768+512) (rs.length:Int) qn qt++Bg (rs.take rs.length)≠[]:=fun q=>by
   have:=congrArg List.length q;rw[ZF,ZN]at this;omega
  rw[show Bg rs=Bg (rs.take rs.length)by rw[XF]];refine G0 ?_;(refine .inr (.inl ⟨_,_,false,[128],aM,F7 (T:=wT) (Dl id (co+32768+512) (rs.length:Int) qn qt++Bg (rs.take rs.length)) hne,Ab,oI,dI,?_⟩));refine G1 ?_;intro gg;(exact⟨[],aI⟩)
theorem Acn(m:Ms)(hm:m.Good):Fun Tryz.prog 36 [.c (.agg m.row)] [.c (.v (.string ⟨(Cx m).toArray⟩))]:=by
 rcases Bool.eq_false_or_eq_true m.an with ha|ha<;>rcases Bool.eq_false_or_eq_true m.ct with hc|hc
 ·exact Agd m hm ha hc
 ·exact Ag0 m hm ha hc
 ·exact Aia m hm ha hc
 ·exact Agu m hm ha hc
namespace Pl
theorem Vc{n a b:Int}(h:(!wIn n a b)=false):a≤n∧n≤b:=by
 unfold wIn at h;cases h1:decide (a≤n)with
 |true=>rw[h1]at h;exact⟨ZV h1,by simpa using h⟩
 |false=>rw[h1]at h;cases h
theorem Pa{nm:ByteArray}(h:Ao nm=0):nm.size≤120:=by
 unfold Ao at h;split at h
 ·cases h
 ·split at h
  ·cases h
  ·split at h
   ·cases h
   ·omega
theorem Ald{r:Rr}(h:Cu r=0):r.Good∧r.un=true:=by
 unfold Cu at h;split at h
 ·rename_i h0;exact absurd h h0
 ·rename_i h0;have h0:Ao r.nm=0:=by simpa using h0
  cases h1:(!Fk r.ty)with
  |true=>rw[h1]at h;cases h
  |false=>
   rw[h1]at h;cases h2:(!wIn r.ls 0 2147483647)with
   |true=>rw[h2]at h;cases h
   |false=>
    rw[h2]at h;cases h3:(!r.un)with
    |true=>rw[h3]at h;cases h
    |false=>
     rw[h3]at h;cases h4:(!wIn r.ad 0 4294967295)with
     |true=>rw[h4]at h;cases h
     |false=>
      rw[h4]at h;cases h5:(!wIn r.pt 0 65535)with
      |true=>rw[h5]at h;cases h
      |false=>
       rw[h5]at h;simp only[cond_false]at h;split at h
       ·cases h
       ·rename_i h6;exact⟨⟨h0,Pa h0,T3 h1,Vc h2,Vc h4,Vc h5,by omega,h,Pa h⟩,by simpa using h3⟩
theorem P5{l:List Int}(h:Cp l=0):∀e∈l,e=0:=by
 induction l with
 |nil=>intro e he;cases he
 |cons a l ih=>
  have h:(if a≠0 then a else Cp l)=0:=h;split at h
  ·rename_i ha;exact absurd h ha
  ·rename_i ha;intro e he;rcases XC.1 he with rfl|he
   ·simpa using ha
   ·exact ih h e he
theorem G9{m:Ms}(h:A4 m=0):m.Good∧∀r∈m.rs,r.un=true:=by
 unfold A4 at h;cases h1:(!wIn m.id 0 65535)with
 |true=>rw[h1]at h;cases h
 |false=>
  rw[h1]at h;cases h2:(!wIn m.co 0 15)with
  |true=>rw[h2]at h;cases h
  |false=>
   rw[h2]at h;simp only[cond_false]at h;split at h
   ·cases h
   ·rename_i h3;split at h
    ·rename_i h4;exact absurd h h4
    ·rename_i h4;have h4:Ao m.qn=0:=by simpa using h4
     cases h5:(!Fk m.qt)with
     |true=>rw[h5]at h;cases h
     |false=>
      rw[h5]at h;have h6:=P5 h;have h7:∀r∈m.rs,Cu r=0:=fun r hr=>h6 _ (List.mem_map_of_mem hr);exact⟨⟨Vc h1,Vc h2,h4,Pa h4,T3 h5,by omega,fun r hr=>(Ald (h7 r hr)).1⟩,fun r hr=>(Ald (h7 r hr)).2⟩
end Pl
namespace Pl
theorem Axy{a b:ByteArray}(h:a.data.toList=b.data.toList):a=b:=by
 obtain⟨a⟩:=a;obtain⟨b⟩:=b;congr 1;exact Array.ext' h
theorem Aw9{l:List UInt8}{c:UInt8}{m:Nat}(h:Lib.indexByte l c=(m:Int)):l[m]? =some c:=by
 induction l generalizing m with
 |nil=>simp[Lib.indexByte]at h
 |cons b l ih=>
  unfold Lib.indexByte at h;by_cases hb:(b==c)=true
  ·rw[if_pos hb]at h;have:b=c:=by simpa using hb
   obtain rfl:m=0:=by omega
   simp[this]
  ·rw[if_neg hb]at h;have hg:=Lib.indexByte_ge l c;split at h
   ·omega
   ·rename_i h1;have h1':¬Lib.indexByte l c= -1:=by simpa using h1
    obtain⟨k,hk⟩:∃k:Nat,Lib.indexByte l c=(k:Int):=⟨(Lib.indexByte l c).toNat,by omega⟩;obtain rfl:m=k+1:=by omega
    simpa using ih hk
theorem Aj4(c:UInt8)(s:ByteArray){k:Nat}(h:k<cnb s c):(Bz c s k).data.toList=(S0 c s k).data.toList++[c]++(Bz c s (k+1)).data.toList:=by
 obtain⟨m,h1,h2,h3,h4⟩:=Alb c s h;have hm:=Aw9 (l:=(Bz c s k).data.toList) (c:=c) (m:=m) h1;have hlen:(Bz c s k).data.toList.length=(Bz c s k).size:=by simp
 rw[h3,h4,D3,D3,List.drop_zero];rw[List.take_of_length_le (i:=(Bz c s k).size) (by omega)];have hd:(Bz c s k).data.toList.drop m=c::(Bz c s k).data.toList.drop (m+1):=by
  rw[List.drop_eq_getElem_cons (by omega)];congr 1;rw[ZC (by omega)]at hm;exact Option.some.inj hm
 rw[ZS];show _=List.take m _++(c::List.drop (m+1) _);rw[←hd,List.take_append_drop]
theorem Anu(s:ByteArray)(c:UInt8):∀(j k:Nat),k+j=cnb s c→Lib.join ((((List.range' k j).map (S0 c s))++[Bz c s (cnb s c)]).map (·.data.toList)) [c]=(Bz c s k).data.toList:=by
 intro j
 induction j with
 |zero=>
  intro k hk;have hk:k=cnb s c:=by omega
  rw[hk];simp[Lib.join]
 |succ j ih=>
  intro k hk;have h1:=ih (k+1) (by omega);rw[List.range'_succ,List.map_cons,List.cons_append,List.map_cons];rw[Aj4 c s (k:=k) (by omega),←h1];obtain⟨x,xs,hx⟩:∃x xs,(((List.range' (k+1) j).map (S0 c s))++[Bz c s (cnb s c)]).map (·.data.toList)=x::xs:=by
   cases j<;>simp[List.range'_succ]
  rw[hx];simp[Lib.join]
theorem Agl(s:ByteArray):Df ⟨#[46]⟩ (A5 s)=s:=by
 apply Axy;unfold A5;split
 ·rename_i h;have:=toList_inj (ZR.1 h);subst this;rfl
 ·have h:=Anu s 46 (cnb s 46) 0 (by omega);rw[←List.range_eq_range']at h;exact h
def At(s:ByteArray)(a:Nat)(l:List UInt8):Prop:=∃pre post,s.data.toList=pre++l++post∧pre.length=a
theorem At.app{s:ByteArray}{a:Nat}{l l':List UInt8}(h:At s a (l++l')):At s a l∧At s (a+l.length) l':=by
 obtain⟨pre,post,h1,h2⟩:=h;exact⟨⟨pre,l'++post,by rw[h1];simp,h2⟩,⟨pre++l,post,by rw[h1];simp,by simp[h2]⟩⟩
theorem At.le{s:ByteArray}{a:Nat}{l:List UInt8}(h:At s a l):a+l.length≤s.size:=by
 obtain⟨pre,post,h1,h2⟩:=h;have:=congrArg List.length h1;simp at this;omega
theorem At.byte{s:ByteArray}{a:Nat}{c:UInt8}(h:At s a [c]):Cr s a=some (c.toNat,a+1):=by
 obtain⟨pre,post,h1,h2⟩:=h;unfold Cr;have:s.data.toList[a]? =some c:=by rw[h1];subst h2;simp
 have hlt:a<s.size:=by
  have:=(ZB.1 this).1;simpa using this
 have e:s[a]? =some c:=by
  rw[getElem?_pos s a hlt];congr 1;have:=(ZB.1 this).2;rw[Array.getElem_toList]at this;exact this
 rw[e];rfl
theorem At.bytes{s:ByteArray}{a:Nat}{x:ByteArray}(h:At s a x.data.toList):Fo s a x.size=some (x,a+x.size):=by
 have hx:x.data.toList.length=x.size:=by simp
 have:=h.le;unfold Fo;rw[if_pos (by omega)];congr 2;apply Axy;rw[D3];obtain⟨pre,post,h1,h2⟩:=h;rw[h1,←hx,ZS];subst h2;rw[List.take_append,List.drop_append];simp
theorem Anf{c:UInt8}(h:okB c.toNat=true):F8 c=c:=by
 unfold F8;rw[if_neg];intro⟨h1,h2⟩;unfold okB at h;simp at h;omega
theorem Ap1{x:ByteArray}(h:lab x.data.toList=true):C6 x=x:=by
 apply Axy;unfold C6;show x.data.toList.map F8=x.data.toList;have h2:∀c∈x.data.toList,okB c.toNat=true:=by
  unfold lab at h;exact fun c hc=>List.all_eq_true.1 (Bool.and_eq_true_iff.1 h).1 c hc
 have:x.data.toList.map F8=x.data.toList.map id:=List.map_congr_left fun c hc=>Anf (h2 c hc);rw[this,List.map_id]
theorem Aj2{x:ByteArray}(h:lab x.data.toList=true):1≤x.size∧x.size≤30:=by
 unfold lab at h;have:=ZV (Bool.and_eq_true_iff.1 h).2;have e:x.data.toList.length=x.size:=by simp
 omega
theorem At.nameR{s:ByteArray}:∀(ls l0:List ByteArray) (a f fr:Nat),At s a (D7 ls++[0])→(∀x∈ls,lab x.data.toList=true)→l0.length+ls.length≤8→ls.length<f→
  nameR s f a l0 none fr=some (l0++ls,a+(D7 ls).length+1):=by
 intro ls
 induction ls with
 |nil=>
  intro l0 a f fr h hl h8 hf;obtain⟨f,rfl⟩:∃f',f=f'+1:=⟨f-1,by simp at hf;omega⟩;have b:=At.byte (c:=0) h;rw[Pl.nameR,if_pos (by simpa using h8),b,ZA];simp only[List.append_nil];rw[if_pos (by decide)];rfl
 |cons x ls ih=>
  intro l0 a f fr h hl h8 hf;obtain⟨f,rfl⟩:∃f',f=f'+1:=⟨f-1,by omega⟩;have hx:=hl x (by simp);have hz:=Aj2 hx;have e:D7 (x::ls)++[0]=[UInt8.ofNat x.size]++(x.data.toList++(D7 ls++[0])):=by simp[D7,Aqx]
  rw[e]at h;have b1:=h.app.1.byte;have h2:=h.app.2;rw[show [UInt8.ofNat x.size].length=1 from rfl]at h2;have b2:=h2.app.1.bytes;have h3:=h2.app.2;have el:x.data.toList.length=x.size:=by simp
  rw[el]at h3;have ez:(UInt8.ofNat x.size).toNat=x.size:=by rw[UInt8.toNat_ofNat'];exact Nat.mod_eq_of_lt (by omega)
  rw[ez]at b1;simp only[ZJ]at h8 hf;rw[Pl.nameR,if_pos (by omega),b1,ZA];simp only;rw[if_neg (by omega),if_neg (by omega),b2,ZA];simp only;rw[Ap1 hx,if_pos hx,ih (l0++[x]) (a+1+x.size) f fr h3 (fun y hy=>hl y (by simp[hy])) (by simp;omega) (by omega)];have:(D7 (x::ls)).length=1+x.size+(D7 ls).length:=by simp[D7,Aqx];omega
  rw[this];simp only[ZS,List.cons_append,List.nil_append];congr 2;omega
theorem Ab4{nm:ByteArray}(h:Ao nm=0):(∀x∈A5 nm,lab x.data.toList=true)∧(A5 nm).length≤8∧nm.size≤120:=by
 unfold Ao at h;split at h
 ·cases h
 ·rename_i h1;split at h
  ·cases h
  ·split at h
   ·cases h
   ·refine⟨fun x hx=>?_,by omega,by omega⟩;have h2:(A5 nm).any (fun x=> !lab x.data.toList)=false:=by simpa using h1
    have:=List.any_eq_false.1 h2 x hx;simpa using this
theorem At.name{s:ByteArray}{a:Nat}{nm:ByteArray}(h:At s a (Bv nm))(hn:Ao nm=0):Eq s a=some (nm,a+(Bv nm).length):=by
 obtain⟨h1,h2,h3⟩:=Ab4 hn;unfold Eq;rw[At.nameR (A5 nm) [] a (a+10) a h h1 (by simpa using h2) (by omega)];show some (Df ⟨#[46]⟩ ([]++A5 nm),_)=_;rw[List.nil_append,Agl];simp[Bv];omega
end Pl
namespace Pl
def A9:Ms:=⟨0,false,false,0,⟨#[]⟩,0,[]⟩
def rdP(s:ByteArray):Ms×Int:=if 512<s.size then(A9,2)else match Od s with
 |none=>(A9,1)
 |some m=>if A4 m=0 then(m,0)else(A9,1)
end Pl
theorem Fr.out{L:Nat→Prop}{a b c:World}(h:Fr (fun _=>False) a b)(k:Fr L b c)(hl:∀i,L i→a.heap.size≤i):Fr (fun _=>False) a c:=
 ⟨k.os.trans h.os,k.tape.trans h.tape,k.output.trans h.output,XI h.size k.size,fun i hi _=>(k.block i (XH hi h.size) (fun hL=>by have:=hl i hL;omega)).trans (h.block i hi id)⟩
theorem Fr.blk{L:Nat→Prop}{a b:World}{g:Nat}{t:TypeId}{cs:Array Value}(h:Fr L a b)(hb:Blk a g t cs)(hl:¬L g):Blk b g t cs:=(h.block g hb.lt hl).trans hb
def msV(m:Ms)(y:Value):Value:=.agg #[.int .i64 m.id,.bool m.an,.bool m.ct,.int .i64 m.co,.string m.qn,.int .i64 m.qt,y]
theorem Amf{w:World}{R:Nat→Prop}{m:Ms}{y:Value}(h:RV w R noG (.sl false (m.rs.map Rr.row)) y):RV w R noG (.agg m.row) (msV m y):=by
 refine .agg m.row [.int .i64 m.id,.bool m.an,.bool m.ct,.int .i64 m.co,.string m.qn,.int .i64 m.qt,y] rfl fun i u x hu hx=>?_;unfold Ms.row at hu;rcases i with _|_|_|_|_|_|_|i
 all_goals first
  |(cases hu;cases hx;exact .v _)
  |(cases hu;cases hx;exact h)
  |(simp at hu)
theorem Ba3{w:World}{R:Nat→Prop}{m:Ms}{x:Value}(h:RV w R noG (.agg m.row) x):∃y,x=msV m y∧RV w R noG (.sl false (m.rs.map Rr.row)) y:=by
 cases h with
 |agg cs xs hl h=>
  obtain⟨x0,x1,x2,x3,x4,x5,x6,rfl⟩:∃x0 x1 x2 x3 x4 x5 x6,xs=[x0,x1,x2,x3,x4,x5,x6]:=by
   rcases xs with _|⟨x0,_|⟨x1,_|⟨x2,_|⟨x3,_|⟨x4,_|⟨x5,_|⟨x6,_|⟨x7,xs⟩⟩⟩⟩⟩⟩⟩⟩<;>simp[Ms.row]at hl;exact⟨_,_,_,_,_,_,_,rfl⟩
  have h0:=Ce (h 0 _ _ rfl rfl);have h1:=Ce (h 1 _ _ rfl rfl);have h2:=Ce (h 2 _ _ rfl rfl);have h3:=Ce (h 3 _ _ rfl rfl);have h4:=Ce (h 4 _ _ rfl rfl);have h5:=Ce (h 5 _ _ rfl rfl);subst h0 h1 h2 h3 h4 h5;exact⟨x6,rfl,h 6 _ _ rfl rfl⟩
theorem Aps{w:World}{R:Nat→Prop}{G:Nat→Option Loc}{cl:Bool}{rows:List (List V)}{x:Value}(h:RV w R G (.sl cl rows) x):∃a k c,x=.slice a k c:=by
 generalize e:V.sl cl rows=u at h;cases h with
 |nil=>exact⟨_,_,_,rfl⟩
 |sl=>exact⟨_,_,_,rfl⟩
 |_=>cases e
theorem Adm{w:World}{R:Nat→Prop}{u:V}{x:Value}(h:RV w R noG u x):Kx w R [.c u] [x]:=by
 refine⟨rfl,fun i p y h1 h2=>?_,fun i j T sz rows T' sz' rows' x y b hij h1=>?_,fun b h=>?_⟩
 ·rcases i with _|i
  ·cases h1;cases h2;exact h
  ·simp at h1
 ·rcases i with _|i<;>simp at h1
 ·obtain⟨i,T,sz,rows,x,h1,_⟩:=h;rcases i with _|i<;>simp at h1
theorem Aee{u:V}{x:Value}{b:Nat}(h:A2 [.c u] [x] b):False:=by
 obtain⟨i,T,sz,rows,x,h1,_⟩:=h;rcases i with _|i<;>simp at h1
theorem Afg(w:World)(R:Nat→Prop):RV w R noG (.agg A9.row) (.agg K4):=Amf (m:=A9) (y:=.slice none 0 0) (.nil false none 0 (by simp))
def Af7(R:Nat→Prop)(w:World)(m:Ms)(er:Int)(e:Ending)(w':World):Prop:=
 ∃(x:Value) (R':Nat→Prop),e=.returned (.tuple #[x,.int .i64 er])∧Fr (fun _=>False) w w'∧(∀b,R b→R' b)∧(∀b,R' b→R b∨(b<w'.heap.size∧w.heap.size≤b))∧RV w' R' noG (.agg m.row) x
theorem Am3{s:ByteArray}{W:World}{R:Nat→Prop}{n:Nat}{cs:List Par}(hb:Blk W n rdT #[.string s,.int .i64 0])(hn:¬R n):Di W R [.mn rdT (rdC s 0) cs] [.pointer (some ⟨n,0,none⟩)] (fun k=>k=n):=by
 have hp:Kx W R (rdC s 0) [.string s,.int .i64 0]:=by
  refine⟨rfl,fun i p x h1 h2=>?_,fun i j T sz rows T' sz' rows' x y b hij h1=>?_,fun b h=>?_⟩
  ·rcases i with _|_|i
   ·cases h1;cases h2;exact .v _
   ·cases h1;cases h2;exact .v _
   ·simp[rdC,rdZ]at h1
  ·rcases i with _|_|i<;>simp[rdC,rdZ]at h1
  ·obtain⟨i,T,sz,rows,x,h1,_⟩:=h;rcases i with _|_|i<;>simp[rdC,rdZ]at h1
 have hnb:∀k,¬A2 (rdC s 0) [.string s,.int .i64 0] k:=fun k h=>by
  obtain⟨i,T,sz,rows,x,h1,_⟩:=h;rcases i with _|_|i<;>simp[rdC,rdZ]at h1
 refine⟨fun k=>k=n,fun _=>False,⟨n,[.string s,.int .i64 0],rfl,by simp[rdC,rdZ],⟨rfl,.inr ⟨n,1,_,rfl,ZU _,hb,by simp,by decide,rfl,rfl⟩⟩,hp,by simp[Value.oneCell'],hnb n,fun k=>⟨.inl,fun h=>h.elim id (fun h=>absurd h (hnb k))⟩⟩,fun _ h=>h,fun b h=>⟨id,by rw[h];exact hn⟩,fun b=>⟨.inl,fun h=>h.elim id False.elim⟩⟩
set_option maxRecDepth 100000 in
set_option maxHeartbeats 2000000 in
theorem Aob(s:ByteArray)(w:World)(h:(512:Int)<(s.size:Int))(R:Nat→Prop)(hlt:∀b,R b→b<w.heap.size):Calls Tryz.prog 17 #[.string s] w (Af7 R w A9 2):=by
 have hmf:∀(fn:Fn) (first cap:Array Value) (w:World),(Instr.makeFunc fn first cap).run Tryz.prog w=.ok (.func fn first cap) w:=fun _ _ _ _=>rfl
 go_enter_defers Tryz.func17,Tryz.ntmps17
 go_wp2
 have B0:=Blk.new w 52 K4;have B1:=Blk.new (w.alloc (.cells K4 52)) 32 #[.int .i64 2];have B2:=B0.alloc (.cells #[.int .i64 2] 32);simp[bodyPostD,Leaves,settle,results,Tryz.results17,go_sem];refine⟨.agg K4,R,rfl,?_,fun b h=>h,fun b h=>.inl h,Afg _ _⟩;exact((Fr.refl _ w).alloc_ _).alloc_ _
set_option maxRecDepth 100000 in
set_option maxHeartbeats 2000000 in
theorem As2(s:ByteArray)(w:World)(h:¬(512:Int)<(s.size:Int))(R:Nat→Prop)(hlt:∀b,R b→b<w.heap.size)(hd:Hi Tryz.prog 38 [.mn rdT (rdC s 0) (rdC s 0)] Hl):Calls Tryz.prog 17 #[.string s] w (Af7 R w A9 1):=by
 have hmf:∀(fn:Fn) (first cap:Array Value) (w:World),(Instr.makeFunc fn first cap).run Tryz.prog w=.ok (.func fn first cap) w:=fun _ _ _ _=>rfl
 go_enter_defers Tryz.func17,Tryz.ntmps17
 go_wp2_with fail
 have B0:=Blk.new w 52 K4;have B1:=Blk.new_ (w.alloc (.cells K4 52)) 32 #[.int .i64 0] (g:=w.heap.size+1) (by simp[World.alloc,-World.alloc_eq]);have B0':=B0.alloc (.cells #[.int .i64 0] 32);have B2:=Blk.new_ ((w.alloc (.cells K4 52)).alloc (.cells #[.int .i64 0] 32)) rdT #[.string s,.int .i64 0] (g:=w.heap.size+1+1) (by simp[World.alloc,-World.alloc_eq]);have B0'':=B0'.alloc (.cells #[.string s,.int .i64 0] rdT);have B1'':=B1.alloc (.cells #[.string s,.int .i64 0] rdT);refine(hd.2 _ (fun _=>False) [_] _ (fun _ h=>h.elim) (Am3 B2 id)).mono ?_
 rintro e w1 ⟨rfl,hf⟩
 have C0:=hf.blk B0'' (by omega);have C1:=hf.blk B1'' (by omega);refine leaves_cons (f:=37) (args:= #[.pointer (some ⟨w.heap.size,0,none⟩),.pointer (some ⟨w.heap.size+1,0,none⟩)]) (by simp) (by simp[go_sem]) ?_;refine(Akc w.heap.size (w.heap.size+1) _ _ _ _ _ _ _ _ w1 C0 C1 (by omega)).mono ?_
 rintro e u' w2 ⟨rfl,rfl,hC⟩
 obtain⟨D0,D1,hf2⟩:=hC;have e0:w2.cell? ⟨w.heap.size,0,none⟩=some (.int .i64 0):=D0.cell 0;have e1:w2.cell? ⟨w.heap.size,1,none⟩=some (.bool false):=D0.cell 1;have e2:w2.cell? ⟨w.heap.size,2,none⟩=some (.bool false):=D0.cell 2;have e3:w2.cell? ⟨w.heap.size,3,none⟩=some (.int .i64 0):=D0.cell 3;have e4:w2.cell? ⟨w.heap.size,4,none⟩=some (.string ⟨#[]⟩):=D0.cell 4;have e5:w2.cell? ⟨w.heap.size,5,none⟩=some (.int .i64 0):=D0.cell 5;have e6:w2.cell? ⟨w.heap.size,6,none⟩=some (.slice none 0 0):=D0.cell 6;have g0:w2.cell? ⟨w.heap.size+1,0,none⟩=some (.int .i64 1):=D1.cell 0;simp[Leaves,settle,results,Tryz.results17,go_sem,e0,e1,e2,e3,e4,e5,e6,g0];refine⟨.agg K4,R,rfl,?_,fun b h=>h,fun b h=>.inl h,Afg _ _⟩;have F0:Fr (fun _=>False) w _:=(((Fr.refl _ w).alloc_ (.cells K4 52)).alloc_ (.cells #[.int .i64 0] 32)).alloc_ (.cells #[.string s,.int .i64 0] rdT);exact(F0.out hf (fun i hi=>by omega)).out hf2 (fun i hi=>by omega)
set_option maxRecDepth 100000 in
set_option maxHeartbeats 2000000 in
theorem Atw(s:ByteArray)(m:Ms)(w:World)(h:¬(512:Int)<(s.size:Int))(R:Nat→Prop)(hlt:∀b,R b→b<w.heap.size)(hm:H3 Tryz.prog 38 [.mn rdT (rdC s 0) (rdC s s.size)] [.p (.c (.agg m.row))])(hc:Fun Tryz.prog 35 [.c (.agg m.row)] [.c (.v (.int .i64 (A4 m)))])(v:Ms)(er:Int)(hv:A4 m=0→v=m∧er=0)(hz:A4 m≠0→v=A9∧er=1):Calls Tryz.prog 17 #[.string s] w (Af7 R w v er):=by
 have hv:=hid hv;have hz:=hid hz;have hmf:∀(fn:Fn) (first cap:Array Value) (w:World),(Instr.makeFunc fn first cap).run Tryz.prog w=.ok (.func fn first cap) w:=fun _ _ _ _=>rfl
 go_enter_defers Tryz.func17,Tryz.ntmps17
 go_wp2_with fail
 have B0:=Blk.new w 52 K4;have B1:=Blk.new_ (w.alloc (.cells K4 52)) 32 #[.int .i64 0] (g:=w.heap.size+1) (by simp[World.alloc,-World.alloc_eq]);have B0':=B0.alloc (.cells #[.int .i64 0] 32);have B2:=Blk.new_ ((w.alloc (.cells K4 52)).alloc (.cells #[.int .i64 0] 32)) rdT #[.string s,.int .i64 0] (g:=w.heap.size+1+1) (by simp[World.alloc,-World.alloc_eq]);have B0'':=B0'.alloc (.cells #[.string s,.int .i64 0] rdT);have B1'':=B1.alloc (.cells #[.string s,.int .i64 0] rdT);have F0:Fr (fun _=>False) w _:=(((Fr.refl _ w).alloc_ (.cells K4 52)).alloc_ (.cells #[.int .i64 0] 32)).alloc_ (.cells #[.string s,.int .i64 0] rdT);refine(hm.2 _ R [_] _ (fun b hb=>XH (hlt b hb) F0.size) (Am3 B2 fun hR=>by have:=hlt _ hR;omega)).mono ?_
 rintro e w1 ⟨ys,R1,F1,rfl,hl,hf,hR1,hR2,hp,hF⟩
 have C0:=hf.blk B0'' (by omega);have C1:=hf.blk B1'' (by omega);obtain⟨x,rfl⟩:∃x,ys=[x]:=by
  rcases ys with _|⟨x,_|⟨x',ys⟩⟩<;>simp at hl;exact⟨x,rfl⟩
 obtain⟨y,rfl,hy⟩:∃y,x=msV m y∧RV w1 R1 noG (.sl false (m.rs.map Rr.row)) y:=by
  obtain⟨G1,G2,h1,_⟩:=hp;exact Ba3 h1.1
 obtain⟨a,k,c,rfl⟩:∃a k c,y=.slice a k c:=by
  exact Aps hy
 have hy:=hid hy;have hR1:=hid hR1;have hR2:=hid hR2;have hp:=hid hp;have hF:=hid hF;have HF:=hid hf;clear hf;have e0:w1.cell? ⟨w.heap.size,0,none⟩=some (.int .i64 0):=C0.cell 0;have e1:w1.cell? ⟨w.heap.size,1,none⟩=some (.bool false):=C0.cell 1;have e2:w1.cell? ⟨w.heap.size,2,none⟩=some (.bool false):=C0.cell 2;have e3:w1.cell? ⟨w.heap.size,3,none⟩=some (.int .i64 0):=C0.cell 3;have e4:w1.cell? ⟨w.heap.size,4,none⟩=some (.string ⟨#[]⟩):=C0.cell 4;have e5:w1.cell? ⟨w.heap.size,5,none⟩=some (.int .i64 0):=C0.cell 5;have e6:w1.cell? ⟨w.heap.size,6,none⟩=some (.slice none 0 0):=C0.cell 6;have f0:=fun i=>C0.frozen i;have g0:w1.cell? ⟨w.heap.size+1,0,none⟩=some (.int .i64 0):=C1.cell 0;have h0:=C1.frozen 0;simp only[G7,msV]
 go_wp2_with fail
 have D0:Blk (((((((w1.setCell ⟨w.heap.size,0,none⟩ (.int .i64 m.id)).setCell ⟨w.heap.size,1,none⟩ (.bool m.an)).setCell ⟨w.heap.size,2,none⟩ (.bool m.ct)).setCell ⟨w.heap.size,3,none⟩ (.int .i64 m.co)).setCell ⟨w.heap.size,4,none⟩ (.string m.qn)).setCell ⟨w.heap.size,5,none⟩ (.int .i64 m.qt)).setCell ⟨w.heap.size,6,none⟩ (.slice a k c)) w.heap.size 52 #[.int .i64 m.id,.bool m.an,.bool m.ct,.int .i64 m.co,.string m.qn,.int .i64 m.qt,.slice a k c]:=
  ((((((C0.set_ 0 _).set_ 1 _).set_ 2 _).set_ 3 _).set_ 4 _).set_ 5 _).set_ 6 _
 have D1:=((((((C1.far (p:=⟨w.heap.size,0,none⟩) (by simp) (.int .i64 m.id)).far (p:=⟨w.heap.size,1,none⟩) (by simp) (.bool m.an)).far (p:=⟨w.heap.size,2,none⟩) (by simp) (.bool m.ct)).far (p:=⟨w.heap.size,3,none⟩) (by simp) (.int .i64 m.co)).far (p:=⟨w.heap.size,4,none⟩) (by simp) (.string m.qn)).far (p:=⟨w.heap.size,5,none⟩) (by simp) (.int .i64 m.qt)).far (p:=⟨w.heap.size,6,none⟩) (by simp) (.slice a k c);have F2:Fr (fun k=>k=w.heap.size) w1 _:=(((((((Fr.refl (fun k=>k=w.heap.size) w1).set_ rfl 0 (.int .i64 m.id)).set_ rfl 1 (.bool m.an)).set_ rfl 2 (.bool m.ct)).set_ rfl 3 (.int .i64 m.co)).set_ rfl 4 (.string m.qn)).set_ rfl 5 (.int .i64 m.qt)).set_ rfl 6 (.slice a k c);generalize hw2:(((((((w1.setCell ⟨w.heap.size,0,none⟩ (.int .i64 m.id)).setCell ⟨w.heap.size,1,none⟩ (.bool m.an)).setCell ⟨w.heap.size,2,none⟩ (.bool m.ct)).setCell ⟨w.heap.size,3,none⟩ (.int .i64 m.co)).setCell ⟨w.heap.size,4,none⟩ (.string m.qn)).setCell ⟨w.heap.size,5,none⟩ (.int .i64 m.qt)).setCell ⟨w.heap.size,6,none⟩ (.slice a k c))=w2 at D0 D1 F2 ⊢;clear e0 e1 e2 e3 e4 e5 e6 f0 g0 h0 hw2;have hn1:∀b,R1 b→b≠w.heap.size∧b≠w.heap.size+1:=fun b hb=>by
  rcases hR2.out b hb with g|⟨g1,g2⟩
  ·have:=hlt b g;omega
  ·rcases g2 with g2|g2
   ·omega
   ·have:=F0.size;simp[World.alloc,-World.alloc_eq]at g2;omega
 have hlt1:∀b,R1 b→b<w1.heap.size:=fun b hb=>by
  rcases hR2.out b hb with g|⟨g1,g2⟩
  ·have:=hlt b g;have:=F0.size;have:=HF.out.size;omega
  ·exact g1
 have hy2:=hy.out.mono (fun b hb=>⟨hb,F2.block b (hlt1 b hb) (hn1 b hb).1⟩) (Gle.refl _);refine(hc.2 _ R1 [_] (fun b hb=>XH (hlt1 b hb) F2.size) (Adm (Amf hy2))).mono ?_
 rintro e w3 ⟨ys,R3,rfl,hf3,hR3,hR4,hp3,hF3⟩
 obtain⟨x,rfl⟩:∃x,ys=[x]:=by
  have hl:=hp3.len;rcases ys with _|⟨x,_|⟨x',ys⟩⟩<;>simp at hl
  exact⟨x,rfl⟩
 have hx:x=.int .i64 (A4 m):=Ce (hp3.ok 0 _ _ rfl rfl);subst hx;have hf3':Fr (fun _=>False) w2 w3:=⟨hf3.os,hf3.tape,hf3.output,hf3.size,fun k hk _=>hf3.block k hk Aee⟩;have E0:=hf3'.blk D0 id;have E1:=hf3'.blk D1 id;have hy3:=hid (hy2.mono (fun b hb=>⟨hb,hf3'.block b (XH (hlt1 b hb) F2.size) id⟩) (Gle.refl _));have HF3:=hid hf3';have hp3:=hid hp3;have hn1:=hid hn1;have hlt1:=hid hlt1;clear hf3 hR3 hR4 hF3 hp3 hf3' hy2;simp only[G7];have e0:w3.cell? ⟨w.heap.size,0,none⟩=some (.int .i64 m.id):=E0.cell 0;have e1:w3.cell? ⟨w.heap.size,1,none⟩=some (.bool m.an):=E0.cell 1;have e2:w3.cell? ⟨w.heap.size,2,none⟩=some (.bool m.ct):=E0.cell 2;have e3:w3.cell? ⟨w.heap.size,3,none⟩=some (.int .i64 m.co):=E0.cell 3;have e4:w3.cell? ⟨w.heap.size,4,none⟩=some (.string m.qn):=E0.cell 4;have e5:w3.cell? ⟨w.heap.size,5,none⟩=some (.int .i64 m.qt):=E0.cell 5;have e6:w3.cell? ⟨w.heap.size,6,none⟩=some (.slice a k c):=E0.cell 6;have f0:=fun i=>E0.frozen i;have g0:w3.cell? ⟨w.heap.size+1,0,none⟩=some (.int .i64 0):=E1.cell 0;have h0:=E1.frozen 0;by_cases hE:A4 m=0
 ·obtain⟨h1,h2⟩:=hv.out hE;have h1:=hid h1;have h2:=hid h2
  go_wp2_with fail
  refine leaves_cons (f:=37) (args:= #[.pointer (some ⟨w.heap.size,0,none⟩),.pointer (some ⟨w.heap.size+1,0,none⟩)]) (by simp) (by simp[go_sem]) ?_;refine(Abj w.heap.size (w.heap.size+1) _).mono ?_
  rintro e u' w4 ⟨rfl,rfl,hw4⟩
  have F4:Fr (fun k=>k=w.heap.size∨k=w.heap.size+1) w3 w4:=by rw[hw4];exact(((((((((Fr.refl (fun k=>k=w.heap.size∨k=w.heap.size+1) w3).set_ (.inl rfl) 0 (.int .i64 m.id)).set_ (.inl rfl) 1 (.bool m.an)).set_ (.inl rfl) 2 (.bool m.ct)).set_ (.inl rfl) 3 (.int .i64 m.co)).set_ (.inl rfl) 4 (.string m.qn)).set_ (.inl rfl) 5 (.int .i64 m.qt)).set_ (.inl rfl) 6 (.slice a k c)).set_ (.inr rfl) 0 (.int .i64 0)).alloc_ (.cells #[] 77)
  have G0:Blk w4 w.heap.size 52 #[.int .i64 m.id,.bool m.an,.bool m.ct,.int .i64 m.co,.string m.qn,.int .i64 m.qt,.slice a k c]:=by rw[hw4];exact((((((((E0.set_ 0 (.int .i64 m.id)).set_ 1 (.bool m.an)).set_ 2 (.bool m.ct)).set_ 3 (.int .i64 m.co)).set_ 4 (.string m.qn)).set_ 5 (.int .i64 m.qt)).set_ 6 (.slice a k c)).far (p:=⟨w.heap.size+1,0,none⟩) (by simp) (.int .i64 0)).alloc (.cells #[] 77)
  have G1:Blk w4 (w.heap.size+1) 32 #[.int .i64 0]:=by rw[hw4];exact((((((((E1.far (p:=⟨w.heap.size,0,none⟩) (by simp) (.int .i64 m.id)).far (p:=⟨w.heap.size,1,none⟩) (by simp) (.bool m.an)).far (p:=⟨w.heap.size,2,none⟩) (by simp) (.bool m.ct)).far (p:=⟨w.heap.size,3,none⟩) (by simp) (.int .i64 m.co)).far (p:=⟨w.heap.size,4,none⟩) (by simp) (.string m.qn)).far (p:=⟨w.heap.size,5,none⟩) (by simp) (.int .i64 m.qt)).far (p:=⟨w.heap.size,6,none⟩) (by simp) (.slice a k c)).set_ 0 (.int .i64 0)).alloc (.cells #[] 77)
  clear hw4 e0 e1 e2 e3 e4 e5 e6 f0 g0 h0;have e0:w4.cell? ⟨w.heap.size,0,none⟩=some (.int .i64 m.id):=G0.cell 0;have e1:w4.cell? ⟨w.heap.size,1,none⟩=some (.bool m.an):=G0.cell 1;have e2:w4.cell? ⟨w.heap.size,2,none⟩=some (.bool m.ct):=G0.cell 2;have e3:w4.cell? ⟨w.heap.size,3,none⟩=some (.int .i64 m.co):=G0.cell 3;have e4:w4.cell? ⟨w.heap.size,4,none⟩=some (.string m.qn):=G0.cell 4;have e5:w4.cell? ⟨w.heap.size,5,none⟩=some (.int .i64 m.qt):=G0.cell 5;have e6:w4.cell? ⟨w.heap.size,6,none⟩=some (.slice a k c):=G0.cell 6;have g0:w4.cell? ⟨w.heap.size+1,0,none⟩=some (.int .i64 0):=G1.cell 0;simp[Leaves,settle,results,Tryz.results17,go_sem,e0,e1,e2,e3,e4,e5,e6,g0];rw[h1.out,h2.out];refine⟨msV m (.slice a k c),R1,rfl,((((F0.out HF.out (fun i hi=>by omega)).out F2 (fun i hi=>by omega)).out HF3.out (fun i hi=>hi.elim))).out F4 (fun i hi=>by omega),hR1.out,fun b hb=>?_,Amf (hy3.out.mono (fun b hb=>⟨hb,F4.block b (XH (hlt1.out b hb) (XI F2.size HF3.out.size)) (by have:=hn1.out b hb;omega)⟩) (Gle.refl _))⟩;rcases hR2.out b hb with g|⟨g1,g2⟩
  ·exact .inl g
  ·refine .inr ⟨XH g1 (XI F2.size (XI HF3.out.size F4.size)),?_⟩;rcases g2 with g2|g2
   ·omega
   ·exact XI F0.size g2
 ·obtain⟨h1,h2⟩:=hz.out hE;have h1:=hid h1;have h2:=hid h2
  go_wp2_with fail
  refine leaves_cons (f:=37) (args:= #[.pointer (some ⟨w.heap.size,0,none⟩),.pointer (some ⟨w.heap.size+1,0,none⟩)]) (by simp) (by simp[go_sem]) ?_;refine(Abj w.heap.size (w.heap.size+1) _).mono ?_
  rintro e u' w4 ⟨rfl,rfl,hw4⟩
  have F4:Fr (fun k=>k=w.heap.size∨k=w.heap.size+1) w3 w4:=by rw[hw4];exact(((((((((Fr.refl (fun k=>k=w.heap.size∨k=w.heap.size+1) w3).set_ (.inl rfl) 0 (.int .i64 0)).set_ (.inl rfl) 1 (.bool false)).set_ (.inl rfl) 2 (.bool false)).set_ (.inl rfl) 3 (.int .i64 0)).set_ (.inl rfl) 4 (.string ⟨#[]⟩)).set_ (.inl rfl) 5 (.int .i64 0)).set_ (.inl rfl) 6 (.slice none 0 0)).set_ (.inr rfl) 0 (.int .i64 1)).alloc_ (.cells #[] 77)
  have G0:Blk w4 w.heap.size 52 #[.int .i64 0,.bool false,.bool false,.int .i64 0,.string ⟨#[]⟩,.int .i64 0,.slice none 0 0]:=by rw[hw4];exact((((((((E0.set_ 0 (.int .i64 0)).set_ 1 (.bool false)).set_ 2 (.bool false)).set_ 3 (.int .i64 0)).set_ 4 (.string ⟨#[]⟩)).set_ 5 (.int .i64 0)).set_ 6 (.slice none 0 0)).far (p:=⟨w.heap.size+1,0,none⟩) (by simp) (.int .i64 1)).alloc (.cells #[] 77)
  have G1:Blk w4 (w.heap.size+1) 32 #[.int .i64 1]:=by rw[hw4];exact((((((((E1.far (p:=⟨w.heap.size,0,none⟩) (by simp) (.int .i64 0)).far (p:=⟨w.heap.size,1,none⟩) (by simp) (.bool false)).far (p:=⟨w.heap.size,2,none⟩) (by simp) (.bool false)).far (p:=⟨w.heap.size,3,none⟩) (by simp) (.int .i64 0)).far (p:=⟨w.heap.size,4,none⟩) (by simp) (.string ⟨#[]⟩)).far (p:=⟨w.heap.size,5,none⟩) (by simp) (.int .i64 0)).far (p:=⟨w.heap.size,6,none⟩) (by simp) (.slice none 0 0)).set_ 0 (.int .i64 1)).alloc (.cells #[] 77)
  clear hw4 e0 e1 e2 e3 e4 e5 e6 f0 g0 h0;have e0:w4.cell? ⟨w.heap.size,0,none⟩=some (.int .i64 0):=G0.cell 0;have e1:w4.cell? ⟨w.heap.size,1,none⟩=some (.bool false):=G0.cell 1;have e2:w4.cell? ⟨w.heap.size,2,none⟩=some (.bool false):=G0.cell 2;have e3:w4.cell? ⟨w.heap.size,3,none⟩=some (.int .i64 0):=G0.cell 3;have e4:w4.cell? ⟨w.heap.size,4,none⟩=some (.string ⟨#[]⟩):=G0.cell 4;have e5:w4.cell? ⟨w.heap.size,5,none⟩=some (.int .i64 0):=G0.cell 5;have e6:w4.cell? ⟨w.heap.size,6,none⟩=some (.slice none 0 0):=G0.cell 6;have g0:w4.cell? ⟨w.heap.size+1,0,none⟩=some (.int .i64 1):=G1.cell 0;simp[Leaves,settle,results,Tryz.results17,go_sem,e0,e1,e2,e3,e4,e5,e6,g0];rw[h1.out,h2.out];refine⟨.agg K4,R1,rfl,((((F0.out HF.out (fun i hi=>by omega)).out F2 (fun i hi=>by omega)).out HF3.out (fun i hi=>hi.elim))).out F4 (fun i hi=>by omega),hR1.out,fun b hb=>?_,Afg _ _⟩;rcases hR2.out b hb with g|⟨g1,g2⟩
  ·exact .inl g
  ·refine .inr ⟨XH g1 (XI F2.size (XI HF3.out.size F4.size)),?_⟩;rcases g2 with g2|g2
   ·omega
   ·exact XI F0.size g2
theorem Afv{s:ByteArray}:∀{n a:Nat} {L:List Rr} {a':Nat},Fg s n a=some (L,a')→L.length=n∧∀r∈L,r.nm.size≤1000∧r.tx.size≤s.size∧r.tg.size≤1000
 |0,a,L,a',h=>by
  unfold Fg at h;cases h;exact⟨rfl,fun r hr=>by cases hr⟩
 |n+1,a,L,a',h=>by
  unfold Fg at h;rcases e:Pp s a with _|⟨r,a1⟩
  ·rw[e]at h;cases h
  rw[e,ZA]at h;simp only at h;rcases e2:Fg s n a1 with _|⟨L1,a2⟩
  ·rw[e2]at h;cases h
  rw[e2,ZA]at h;cases h;obtain⟨h1,h2⟩:=Afv e2;have hb:=Yv e;refine⟨by rw[ZJ,h1],fun x hx=>?_⟩;rcases XC.1 hx with rfl|hx
  ·exact⟨hb.2.1,hb.2.2.1,hb.2.2.2⟩
  ·exact h2 x hx
theorem Auz{s:ByteArray}{m:Ms}(hs:s.size≤1000000)(h:Od s=some m):m.Sized∧m.rs.length≤20:=by
 unfold Od at h;rcases e1:Bt s 0 with _|⟨x1,a1⟩
 ·rw[e1]at h;cases h
 rw[e1,ZA]at h;simp only at h;rcases e2:Cr s a1 with _|⟨x2,a2⟩
 ·rw[e2]at h;cases h
 rw[e2,ZA]at h;simp only at h;rcases e3:Cr s a2 with _|⟨x3,a3⟩
 ·rw[e3]at h;cases h
 rw[e3,ZA]at h;simp only at h;split at h;rotate_left
 ·cases h
 rcases e4:Bt s a3 with _|⟨x4,a4⟩
 ·rw[e4]at h;cases h
 rw[e4,ZA]at h;simp only at h;split at h;rotate_left
 ·cases h
 rcases e5:Bt s a4 with _|⟨x5,a5⟩
 ·rw[e5]at h;cases h
 rw[e5,ZA]at h;simp only at h;split at h;rotate_left
 ·cases h
 rename_i c5;rcases e6:Bt s a5 with _|⟨x6,a6⟩
 ·rw[e6]at h;cases h
 rw[e6,ZA]at h;simp only at h;split at h;rotate_left
 ·cases h
 rcases e7:Bt s a6 with _|⟨x7,a7⟩
 ·rw[e7]at h;cases h
 rw[e7,ZA]at h;simp only at h;split at h;rotate_left
 ·cases h
 rcases e8:Eq s a7 with _|⟨x8,a8⟩
 ·rw[e8]at h;cases h
 rw[e8,ZA]at h;simp only at h;rcases e9:Bt s a8 with _|⟨x9,a9⟩
 ·rw[e9]at h;cases h
 rw[e9,ZA]at h;simp only at h;rcases e10:Bt s a9 with _|⟨x10,a10⟩
 ·rw[e10]at h;cases h
 rw[e10,ZA]at h;simp only at h;split at h;rotate_left
 ·cases h
 rcases e11:Fg s x5 a10 with _|⟨x11,a11⟩
 ·rw[e11]at h;cases h
 rw[e11,ZA]at h;simp only at h;split at h;rotate_left
 ·cases h
 cases h;obtain⟨h1,h2⟩:=Afv e11;have h8:=(Ij e8).2;refine⟨⟨by show x8.size≤_;omega,fun r hr=>?_⟩,by show x11.length≤20;omega⟩;obtain⟨g1,g2,g3⟩:=h2 r hr;exact⟨by omega,by omega,by omega⟩
theorem Qm{s:ByteArray}(h:512<s.size):rdP s=(A9,2):=if_pos h
theorem Fu{s:ByteArray}(h:¬512<s.size)(e:Od s=none):rdP s=(A9,1):=by unfold rdP;rw[if_neg h,e]
theorem N5{s:ByteArray}{m:Ms}(h:¬512<s.size)(e:Od s=some m):rdP s=if A4 m=0 then(m,0)else(A9,1):=by unfold rdP;rw[if_neg h,e]
theorem At4(s:ByteArray)(w:World)(R:Nat→Prop)(hlt:∀b,R b→b<w.heap.size):Calls Tryz.prog 17 #[.string s] w (Af7 R w (rdP s).1 (rdP s).2):=by
 by_cases h:512<s.size
 ·rw[Qm h];exact Aob s w (by omega) R hlt
 ·rcases e:Od s with _|m
  ·rw[Fu h e];exact As2 s w (by omega) R hlt (Adw e (by omega))
  ·obtain⟨h1,h2⟩:=Auz (by omega) e;rw[N5 h e];refine Atw s m w (by omega) R hlt (Afk e (by omega)) (Vp m h1 (by omega)) _ _ (fun he=>?_) (fun he=>?_)
   ·rw[if_pos he];exact⟨rfl,rfl⟩
   ·rw[if_neg he];exact⟨rfl,rfl⟩
theorem Up(s:ByteArray):Fun Tryz.prog 17 [.c (.v (.string s))] [.c (.agg (rdP s).1.row),.c (.v (.int .i64 (rdP s).2))]:=by
 refine⟨⟨_,Tryz.func17,by kernel_rfl,by kernel_rfl⟩,fun w R xs hlt hp=>?_⟩;obtain⟨x,rfl⟩:∃x,xs=[x]:=by
  have hl:=hp.len;rcases xs with _|⟨x,_|⟨x',xs⟩⟩<;>simp at hl
  exact⟨x,rfl⟩
 have hx:x=.string s:=Ce (hp.ok 0 _ _ rfl rfl);subst hx;refine(At4 s w R hlt).mono ?_
 rintro e w' ⟨x,R',rfl,hf,h1,h2,h3⟩
 have hnb:∀b,¬A2 [.c (.agg (rdP s).1.row),.c (.v (.int .i64 (rdP s).2))] [x,.int .i64 (rdP s).2] b:=fun b=>Mr (by intro p hp;rcases XC.1 hp with rfl|hp;exact⟨_,rfl⟩;rcases XC.1 hp with rfl|hp;exact⟨_,rfl⟩;cases hp);refine⟨[x,.int .i64 (rdP s).2],R',rfl,⟨hf.os,hf.tape,hf.output,hf.size,fun k hk _=>hf.block k hk id⟩,h1,fun b hb=>(h2 b hb).imp id (fun g=>⟨g.1,.inr g.2⟩),⟨rfl,fun i p y q1 q2=>?_,fun i j T sz rows T' sz' rows' x y b hij q1=>?_,fun b hb=>(hnb b hb).elim⟩,fun b hb=>(hnb b hb).elim⟩
 ·rcases i with _|_|i
  ·cases q1;cases q2;exact h3
  ·cases q1;cases q2;exact .v _
  ·simp at q1
 ·rcases i with _|_|i<;>simp at q1
namespace Pl
end Pl
def Zv(m:Ms):List V:=[.v (.int .i64 m.id),.v (.bool m.an),.v (.bool m.ct),.v (.int .i64 m.co),.v (.string m.qn),.v (.int .i64 m.qt),.v (.slice none 0 0)]
theorem Aiy{w:World}{R:Nat→Prop}{m:Ms}{x:Value}(hm:m.rs=[])(h:RV w R noG (.agg (Zv m)) x):RV w R noG (.agg m.row) x:=by
 cases h with
 |agg cs xs hl h=>
  obtain⟨x0,x1,x2,x3,x4,x5,x6,rfl⟩:∃x0 x1 x2 x3 x4 x5 x6,xs=[x0,x1,x2,x3,x4,x5,x6]:=by
   rcases xs with _|⟨x0,_|⟨x1,_|⟨x2,_|⟨x3,_|⟨x4,_|⟨x5,_|⟨x6,_|⟨x7,xs⟩⟩⟩⟩⟩⟩⟩⟩<;>simp[Zv]at hl;exact⟨_,_,_,_,_,_,_,rfl⟩
  have h0:=Ce (h 0 _ _ rfl rfl);have h1:=Ce (h 1 _ _ rfl rfl);have h2:=Ce (h 2 _ _ rfl rfl);have h3:=Ce (h 3 _ _ rfl rfl);have h4:=Ce (h 4 _ _ rfl rfl);have h5:=Ce (h 5 _ _ rfl rfl);have h6:=Ce (h 6 _ _ rfl rfl);subst h0 h1 h2 h3 h4 h5 h6;exact Amf (by rw[hm];exact .nil false none 0 (by simp))
namespace Pl
def bA(l:List UInt8):ByteArray:=⟨l.toArray⟩
theorem Ca(l r:List UInt8):bA l++bA r=bA (l++r):=by
 apply ByteArray.ext;rw[ByteArray.data_append];simp[bA]
theorem D2(l:List UInt8):(bA l).size=l.length:=by simp[bA,ByteArray.size]
theorem Abt(s:ByteArray):bA s.data.toList=s:=by simp[bA]
def lo8(n:Int):UInt8:=UInt8.ofNat (n%256).toNat
def Ew(n:Int):Nat→List UInt8
 |0=>[]
 |k+1=>Ew (n/256) k++[lo8 n]
theorem Amg{n:Nat}(h:n<256):lo8 (n:Int)=UInt8.ofNat n:=by
 unfold lo8;rw[show((n:Int)%256).toNat=n by omega]
theorem U1(n:Int)(k:Nat):(Ew n k).length=k:=by
 induction k generalizing n with
 |zero=>rfl
 |succ k ih=>simp[Ew,ih]
theorem Aoj{x n:Int}{k i:Nat}{l:List UInt8}(hlt:i<k)(h:Ew x (k-i)++l=Ew n k):Ew (x/256) (k-(i+1))++lo8 x::l=Ew n k:=by
 rw[←h,show k-i=(k-(i+1))+1 by omega,Ew];simp
end Pl
theorem Be(n:Int)(k:Nat)(h0:0≤n)(hn:n≤4611686018427387904)(hk:k≤100):Fun Tryz.prog 106 [.c (.v (.int .i64 n)),.c (.v (.int .i64 (k:Int)))] [.c (.v (.string (bA (Ew n k))))]:=by
 refine Ar P6 rfl ?_;refine G0 ?_;(refine⟨[],none,{p:Nat×Int×List UInt8//p.1≤k∧0≤p.2.1∧p.2.1≤4611686018427387904∧p.2.2.length=p.1∧Ew p.2.1 (k-p.1)++p.2.2=Ew n k},[1],fun⟨⟨i,x,l⟩,h1,h2,h3,h4,h5⟩=>[(0,.v (.int .i64 x)),(5,.v (.string (bA l))),(6,.v (.int .i64 (i:Int)))],[],fun⟨⟨i,x,l⟩,h1,h2,h3,h4,h5⟩=>[],fun⟨⟨i,x,l⟩,h1,h2,h3,h4,h5⟩=>k-i,trivial,fun _=>⟨trivial,fun _=>⟨⟨(0,n,[]),ZU _,h0,hn,rfl,List.append_nil _⟩,tI,Af _ _,tI,Ae _ _⟩⟩,fun⟨⟨i,x,l⟩,h1,h2,h3,h4,h5⟩=>?_⟩);simp only at h1 h2 h3 h4 h5;refine G0 ?_;(refine Aa (fun h=>?_) (fun h=>?_)<;>rw[h])
 ·have hlt:i<k:=(by have:=ZV h;omega);refine G0 ?_;refine⟨by omega,x%256,Int.tmod_eq_emod_of_nonneg h2,?_⟩;refine G0 ?_;refine⟨x%256,by rw[Oo];omega,?_⟩;refine G1 ?_;intro gg;refine⟨[x%256],rfl,?_⟩;refine G0 ?_;refine⟨by have e1:(Nl [x%256]).size=1:=rfl;have e2:=D2 l;omega,?_⟩;rw[show Nl [x%256]++bA l=bA (lo8 x::l)from Ca [lo8 x] l];refine G0 ?_;refine⟨by omega,x/256,by rw[Int.tdiv_eq_ediv_of_nonneg h2];exact A6 (by omega) (by omega),?_⟩;refine G0 ?_;(exact⟨none,trivial,fun _=>⟨⟨(i+1,x/256,lo8 x::l),by show i+1≤k;omega,by show 0≤x/256;omega,by show x/256≤4611686018427387904;omega,by show l.length+1=i+1;omega,Aoj hlt h5⟩,by show k-(i+1)<k-i;omega,tI,tI,tI,tI⟩⟩)
 ·have hge:¬i<k:=(by have:=ZW h;omega);refine G0 ?_;have e:l=Ew n k:=by
   have:k-i=0:=by omega
   rw[this]at h5;exact h5
  rw[show bA l=bA (Ew n k)from congrArg bA e];(exact⟨[],aI⟩)
theorem I8(s:ByteArray)(hs:s.size≤120):Fun Tryz.prog 107 [.c (.v (.string s))] [.c (.v (.string (bA (Bv s))))]:=by
 have hL:=Jk s;have hsm:∀x∈A5 s,x.size≤120:=fun x hx=>XI (Fm hx) hs;refine Ar N1 rfl ?_;refine G0 ?_;(refine .inl ⟨_,_,false,[],aI,Q9 s (by omega),Ab,nI,?_⟩);unfold Bv;generalize A5 s=ls at *;refine G1 ?_;intro gg;(refine⟨[],none,{k:Nat//k≤ls.length},[4],fun⟨k,hk⟩=>[(3,.v (.string (bA (D7 (ls.take k))))),(5,.v (.int .i64 (k:Int)))],[],fun⟨k,hk⟩=>[],fun⟨k,hk⟩=>ls.length-k,trivial,fun _=>⟨trivial,fun _=>⟨⟨0,by omega⟩,tI,Af _ _,tI,Ae _ _⟩⟩,fun⟨k,hk⟩=>?_⟩);have hlen:(D7 (ls.take k)).length≤121*121:=by
  have h1:=Rs (l:=ls.take k) (m:=120) (fun x hx=>hsm x (List.mem_of_mem_take hx));rw[ZM]at h1;have:min k ls.length≤121:=by omega
  have:=Nat.mul_le_mul_left 121 this;omega
 refine G0 ?_;rw[ZE];(refine Aa (fun h1=>?_) (fun h1=>?_)<;>rw[h1])
 ·have hlt:k<ls.length:=(by have:=ZV h1;omega);have hz:=hsm _ (ZK hlt);have e:bA (D7 (ls.take k))++(bA (Ew ((ls[k].size:Nat):Int) 1)++ls[k])=bA (D7 (ls.take (k+1))):=by
   rw[Aac hlt,show Ew ((ls[k].size:Nat):Int) 1=[UInt8.ofNat ls[k].size]from by rw[←Amg (by omega)];rfl]
   conv=>lhs;rhs;rhs;rw[←Abt ls[k]]
   rw[Ca,Ca,ZS]
  refine G0 ?_;refine⟨k,_,rfl,Ad hlt,?_⟩;refine G0 ?_;(refine⟨_,_,false,aI,Be ((ls[k].size:Nat):Int) 1 (by omega) (by omega) (by omega),Ab,nI,?_⟩);refine G1 ?_;intro gg;refine⟨k,_,rfl,Ad hlt,?_⟩;refine G0 ?_;refine⟨by rw[D2,U1];omega,?_⟩;refine G0 ?_;refine⟨by rw[XP,D2,D2,U1];omega,?_⟩;rw[e];refine G0 ?_;(exact⟨none,trivial,fun _=>⟨⟨k+1,by omega⟩,by show ls.length-(k+1)<ls.length-k;omega,tI,tI,tI,tI⟩⟩)
 ·have hge:¬k<ls.length:=(by have:=ZW h1;omega);obtain rfl:k=ls.length:=by omega
  refine G0 ?_;(refine .inl ⟨_,_,false,[],aI,Be 0 1 (by omega) (by omega) (by omega),Ab,nI,?_⟩);refine G1 ?_;intro gg;refine⟨by rw[D2,D2,U1];omega,?_⟩;rw[show bA (D7 (ls.take ls.length))++bA (Ew 0 1)=bA (D7 ls++[0])by rw[Ca,XF];rfl];refine G0 ?_;(exact⟨[],aI⟩)
namespace Pl
theorem I7{n:Int}(h0:0≤n)(h1:n≤65535):Ew n 2=Av [n]:=by
 show([]++[lo8 (n/256)])++[lo8 n]=[UInt8.ofNat (n/256).toNat,UInt8.ofNat (n%256).toNat];unfold lo8;rw[show n/256%256=n/256 by omega];rfl
theorem Ri{n:Int}(h0:0≤n)(h1:n≤4294967295):Ew n 4=Av [n/65536,n%65536]:=by
 show((([]++[lo8 (n/256/256/256)])++[lo8 (n/256/256)])++[lo8 (n/256)])++[lo8 n]=[UInt8.ofNat (n/65536/256).toNat,UInt8.ofNat (n/65536%256).toNat,UInt8.ofNat (n%65536/256).toNat,UInt8.ofNat (n%65536%256).toNat];unfold lo8;rw[show n/256/256/256%256=n/65536/256 by omega,show n/256/256%256=n/65536%256 by omega,show n/256%256=n%65536/256 by omega,show n%65536%256=n%256 by omega];rfl
theorem Aj3{f co:Int}(h0:0≤f)(h1:f≤255)(h2:0≤co)(h3:co≤15):Ew f 1++Ew co 1=Av [co+256*f]:=by
 show([]++[lo8 f])++([]++[lo8 co])=[UInt8.ofNat ((co+256*f)/256).toNat,UInt8.ofNat ((co+256*f)%256).toNat];unfold lo8;rw[show(co+256*f)/256=f by omega,show(co+256*f)%256=co%256 by omega,show f%256=f by omega];rfl
def hdB(m:Ms):List UInt8:=Av [m.id,Ec m,1,(m.rs.length:Int),0,0]++Bv m.qn++Av [m.qt,1]
theorem Ax6{id:Int}{an ct:Bool}{co:Int}{qn:ByteArray}{qt:Int}{rs:List Rr}(h:(⟨id,an,ct,co,qn,qt,rs⟩:Ms).Good)(f:Int)(hf:f=(if an then 128 else 0)+(if ct then 2 else 0)):
  Ew id 2++Ew f 1++Ew co 1++Ew 1 2++Ew (rs.length:Int) 2++Ew 0 4++Bv qn++Ew qt 2++Ew 1 2=hdB ⟨id,an,ct,co,qn,qt,rs⟩:=by
 obtain⟨h1,h2,_,_,h5,h6,_⟩:=h;simp only at h1 h2 h5 h6;have hf':0≤f∧f≤255:=by subst hf;cases an<;>cases ct<;>decide
 have e:Ec ⟨id,an,ct,co,qn,qt,rs⟩=co+256*f:=by
  subst hf;unfold Ec;simp only;cases an<;>cases ct<;>simp<;>omega
 unfold hdB;rw[e,I7 h1.1 h1.2,I7 (by omega) (by omega:(1:Int)≤65535),I7 (by omega) (by omega:(rs.length:Int)≤65535),Ri (by omega) (by omega:(0:Int)≤4294967295),I7 (by omega) (by omega:qt≤65535),
  ZS (Av [id]),Aj3 hf'.1 hf'.2 h2.1 h2.2]
 simp[Av]
theorem Au3{m:Ms}(h:m.Good):(hdB m).length≤15100:=by
 have:=Dz h.qnz;unfold hdB;rw[ZF,ZF,Au,Au];simp only[ZJ,ZN];omega
theorem Aek{r:Rr}(h:r.Good)(i:List UInt8)(hi:i=inB r):Bv r.nm++Ew r.ty 2++Ew 1 2++Ew r.ls 4++Ew (i.length:Int) 2++i=H5 r:=by
 have:=Ok h;subst hi;obtain⟨_,_,h3,h4,_⟩:=h;unfold H5;rw[I7 (by omega) (by omega:r.ty≤65535),I7 (by omega) (by omega:(1:Int)≤65535),Ri h4.1 (by omega),I7 (by omega) (by omega)];simp[Av]
theorem Ayt{r:Rr}(h:r.Good)(ht:r.ty=1):Ew r.ad 4=inB r:=by
 unfold inB;rw[if_pos ht,Ri h.ad.1 h.ad.2]
theorem Azg{r:Rr}(h:r.Good)(ht:r.ty=16):Ew ((r.tx.size:Nat):Int) 1++r.tx.data.toList=inB r:=by
 have:=h.tx;unfold inB;rw[if_neg (by omega),if_pos ht];show([]++[lo8 _])++_=_;rw[Amg (by omega)];rfl
theorem Azl{r:Rr}(h:r.Good)(ht:r.ty=33):Ew 0 4++Ew r.pt 2++Bv r.tg=inB r:=by
 unfold inB;rw[if_neg (by omega),if_neg (by omega),Ri (by omega) (by omega),I7 h.pt.1 h.pt.2];simp[Av]
end Pl
theorem szI{p:Prop}(h:p:=by(simp only[XP,D2,ZF,U1];omega)):p:=h
set_option maxHeartbeats 2000000 in
theorem Ao5(id:Int)(an ct:Bool)(co:Int)(qn:ByteArray)(qt:Int)(rs:List Rr)(hm:(⟨id,an,ct,co,qn,qt,rs⟩:Ms).Good):Fun Tryz.prog 69 [.c (.agg (⟨id,an,ct,co,qn,qt,rs⟩:Ms).row)] [.c (.v (.string (bA (Cx (⟨id,an,ct,co,qn,qt,rs⟩:Ms)))))]:=by
 have hH:=Ax6 hm ((if an then 128 else 0)+(if ct then 2 else 0)) rfl;have hHl:=Au3 hm;have hrl:=Fw hm.rs;obtain⟨h1,h2,h3,hq,h5,h6,hr⟩:=hm;simp only at h1 h2 hq h5 h6 hr hrl;have hnl:=Dz hq;refine Akt (rcD:=H8 [true,true,false] (H8 [true,true,true,false] Gd)) Ky (by kernel_rfl) rfl ?_;refine G1 ?_;intro gg;refine⟨Unit,[1,2],fun _=>[(3,.v (.int .i64 (bif an then 128 else 0)))],[16],fun _=>[],?_,fun _=>?_⟩
 ·refine G0 ?_;cases an
  ·refine G0 ?_;(exact⟨(),tI,tI,tI,tI⟩)
  ·refine G0 ?_;(exact⟨(),tI,tI,tI,tI⟩)
 refine G0 ?_;refine⟨Unit,[1,2],fun _=>[(3,.v (.int .i64 (bif ct then(bif an then 128 else 0)+2 else(bif an then 128 else 0))))],[16],fun _=>[],?_,fun _=>?_⟩
 ·refine G0 ?_;cases ct
  ·refine G0 ?_;(exact⟨(),tI,tI,tI,tI⟩)
  ·obtain⟨z,hz⟩:∃z:Int,z=(bif an then 128 else 0):=⟨_,rfl⟩;have hz2:0≤z∧z≤128:=by rw[hz];cases an<;>decide
   rw[←hz];refine G0 ?_;(exact⟨(),tI,tI,tI,tI⟩)
 obtain⟨f,hf⟩:∃f:Int,f=(bif ct then(bif an then 128 else 0)+2 else(bif an then 128 else 0)):=⟨_,rfl⟩;have hf2:f=(if an then 128 else 0)+(if ct then 2 else 0):=by rw[hf];cases an<;>cases ct<;>rfl
 have hf3:0≤f∧f≤130:=by rw[hf];cases an<;>cases ct<;>decide
 rw[←hf];rw[←hf2]at hH;clear hf hf2;refine G0 ?_;(refine⟨_,_,false,aI,Be id 2 (by omega) (by omega) (by omega),Ab,nI,?_⟩);refine G1 ?_;intro gg;(refine⟨_,_,false,aI,Be f 1 (by omega) (by omega) (by omega),Ab,nI,?_⟩);refine G1 ?_;intro gg;refine⟨szI,?_⟩;rw[Ca];refine G0 ?_;(refine⟨_,_,false,aI,Be co 1 (by omega) (by omega) (by omega),Ab,nI,?_⟩);refine G1 ?_;intro gg;refine⟨szI,?_⟩;rw[Ca];refine G0 ?_;(refine⟨_,_,false,aI,Be 1 2 (by omega) (by omega) (by omega),Ab,nI,?_⟩);refine G1 ?_;intro gg;refine⟨szI,?_⟩;rw[Ca];refine G0 ?_;simp only[ZE];(refine⟨_,_,false,aI,Be ((rs.length:Nat):Int) 2 (by omega) (by omega) (by omega),Ab,nI,?_⟩);refine G1 ?_;intro gg;refine⟨szI,?_⟩;rw[Ca];refine G0 ?_;(refine⟨_,_,false,aI,Be 0 4 (by omega) (by omega) (by omega),Ab,nI,?_⟩);refine G1 ?_;intro gg;refine⟨szI,?_⟩;rw[Ca];refine G0 ?_;(refine⟨_,_,false,aI,I8 qn hq,Ab,nI,?_⟩);refine G1 ?_;intro gg;refine⟨szI,?_⟩;rw[Ca];refine G0 ?_;(refine⟨_,_,false,aI,Be qt 2 (by omega) (by omega) (by omega),Ab,nI,?_⟩);refine G1 ?_;intro gg;refine⟨szI,?_⟩;rw[Ca];refine G0 ?_;(refine⟨_,_,false,aI,Be 1 2 (by omega) (by omega) (by omega),Ab,nI,?_⟩);refine G1 ?_;intro gg;refine⟨szI,?_⟩;rw[Ca];refine G0 ?_;rw[hH,show bA (hdB (⟨id,an,ct,co,qn,qt,rs⟩:Ms))=bA (hdB (⟨id,an,ct,co,qn,qt,rs⟩:Ms)++Bg (rs.take 0))from by simp[Bg]];refine G0 ?_;(refine⟨[],none,{k:Nat//k≤rs.length},[1],fun⟨k,hk⟩=>[(4,.v (.string (bA (hdB (⟨id,an,ct,co,qn,qt,rs⟩:Ms)++Bg (rs.take k))))),(5,.v (.int .i64 (k:Int)))],[16],fun⟨k,hk⟩=>[],fun⟨k,hk⟩=>rs.length-k,trivial,fun _=>⟨trivial,fun _=>⟨⟨0,by omega⟩,tI,Af _ _,tI,Ae _ _⟩⟩,fun⟨k,hk⟩=>?_⟩);have hsl:(Bg (rs.take k)).length≤620000:=by
  have h:=Fw (l:=rs.take k) (fun r hx=>hr r (List.mem_of_mem_take hx));rw[ZM]at h;have:min k rs.length≤20:=by omega
  have:=Nat.mul_le_mul_left 31000 this;omega
 refine G0 ?_;simp only[ZE];(refine Aa (fun h=>?_) (fun h=>?_)<;>rw[h])
 ·have hlt:k<rs.length:=(by have:=ZV h;omega);obtain⟨g1,g2,g3,g4,g5,g6,g7,g8,g9⟩:=hr _ (ZK hlt);have hnn:=Dz g2;have hnt:=Dz g9;have hil:=Ok (hr _ (ZK hlt));have hrb:=Afy (hr _ (ZK hlt));refine G0 ?_;refine⟨k,_,rfl,Ad hlt,?_⟩;refine G1 ?_;intro gg;rcases g3 with g3|g3|g3
  ·rw[show(rs[k].ty==1)=true from by rw[g3];rfl];refine G0 ?_;(refine .inl ⟨_,_,false,[],aI,Be rs[k].ad 4 (by omega) (by omega) (by omega),Ab,nI,?_⟩);refine G1 ?_;intro gg;obtain⟨I,hI⟩:∃I,I=Ew rs[k].ad 4:=⟨_,rfl⟩;rw[←hI];have hIe:=hI.trans (Ayt (hr _ (ZK hlt)) g3);clear hI;have hIl:I.length≤15100:=by rw[hIe];exact hil.2
   (refine⟨_,_,false,aI,I8 rs[k].nm g2,Ab,nI,?_⟩);refine G1 ?_;intro gg;(refine⟨_,_,false,aI,Be rs[k].ty 2 (by omega) (by omega) (by omega),Ab,nI,?_⟩);refine G1 ?_;intro gg;refine⟨szI,?_⟩;rw[Ca];refine G0 ?_;(refine⟨_,_,false,aI,Be 1 2 (by omega) (by omega) (by omega),Ab,nI,?_⟩);refine G1 ?_;intro gg;refine⟨szI,?_⟩;rw[Ca];refine G0 ?_;(refine⟨_,_,false,aI,Be rs[k].ls 4 (by omega) (by omega) (by omega),Ab,nI,?_⟩);refine G1 ?_;intro gg;refine⟨szI,?_⟩;rw[Ca];refine G0 ?_;rw[D2];(refine⟨_,_,false,aI,Be ((I:List UInt8).length:Int) 2 (by omega) (by omega) (by omega),Ab,nI,?_⟩);refine G1 ?_;intro gg;refine⟨szI,?_⟩;rw[Ca];refine G0 ?_;refine⟨szI,?_⟩;rw[Ca];refine G0 ?_;rw[Aek (hr _ (ZK hlt)) _ (hIe)];refine G0 ?_;refine⟨szI,?_⟩;rw[show bA (hdB (⟨id,an,ct,co,qn,qt,rs⟩:Ms)++Bg (rs.take k))++bA (H5 rs[k])=bA (hdB (⟨id,an,ct,co,qn,qt,rs⟩:Ms)++Bg (rs.take (k+1)))by rw[Ca,Hm hlt,ZS]];refine G0 ?_;(exact⟨none,trivial,fun _=>⟨⟨k+1,by omega⟩,by show rs.length-(k+1)<rs.length-k;omega,tI,tI,tI,tI⟩⟩)
  ·rw[show(rs[k].ty==1)=false from by rw[g3];rfl];refine G0 ?_;rw[show(rs[k].ty==16)=true from by rw[g3];rfl];refine G0 ?_;(refine⟨_,_,false,aI,Be ((rs[k].tx.size:Nat):Int) 1 (by omega) (by omega) (by omega),Ab,nI,?_⟩);refine G1 ?_;intro gg;refine⟨szI,?_⟩;rw[show bA (Ew ((rs[k].tx.size:Nat):Int) 1)++rs[k].tx=bA (Ew ((rs[k].tx.size:Nat):Int) 1++rs[k].tx.data.toList)by rw[←Ca,Abt]];refine G0 ?_;obtain⟨I,hI⟩:∃I,I=Ew ((rs[k].tx.size:Nat):Int) 1++rs[k].tx.data.toList:=⟨_,rfl⟩;rw[←hI];have hIe:=hI.trans (Azg (hr _ (ZK hlt)) g3);clear hI;have hIl:I.length≤15100:=by rw[hIe];exact hil.2
   (refine⟨_,_,false,aI,I8 rs[k].nm g2,Ab,nI,?_⟩);refine G1 ?_;intro gg;(refine⟨_,_,false,aI,Be rs[k].ty 2 (by omega) (by omega) (by omega),Ab,nI,?_⟩);refine G1 ?_;intro gg;refine⟨szI,?_⟩;rw[Ca];refine G0 ?_;(refine⟨_,_,false,aI,Be 1 2 (by omega) (by omega) (by omega),Ab,nI,?_⟩);refine G1 ?_;intro gg;refine⟨szI,?_⟩;rw[Ca];refine G0 ?_;(refine⟨_,_,false,aI,Be rs[k].ls 4 (by omega) (by omega) (by omega),Ab,nI,?_⟩);refine G1 ?_;intro gg;refine⟨szI,?_⟩;rw[Ca];refine G0 ?_;rw[D2];(refine⟨_,_,false,aI,Be ((I:List UInt8).length:Int) 2 (by omega) (by omega) (by omega),Ab,nI,?_⟩);refine G1 ?_;intro gg;refine⟨szI,?_⟩;rw[Ca];refine G0 ?_;refine⟨szI,?_⟩;rw[Ca];refine G0 ?_;rw[Aek (hr _ (ZK hlt)) _ (hIe)];refine G0 ?_;refine⟨szI,?_⟩;rw[show bA (hdB (⟨id,an,ct,co,qn,qt,rs⟩:Ms)++Bg (rs.take k))++bA (H5 rs[k])=bA (hdB (⟨id,an,ct,co,qn,qt,rs⟩:Ms)++Bg (rs.take (k+1)))by rw[Ca,Hm hlt,ZS]];refine G0 ?_;(exact⟨none,trivial,fun _=>⟨⟨k+1,by omega⟩,by show rs.length-(k+1)<rs.length-k;omega,tI,tI,tI,tI⟩⟩)
  ·rw[show(rs[k].ty==1)=false from by rw[g3];rfl];refine G0 ?_;rw[show(rs[k].ty==16)=false from by rw[g3];rfl];refine G0 ?_;rw[show(rs[k].ty==33)=true from by rw[g3];rfl];refine G0 ?_;(refine⟨_,_,false,aI,Be 0 4 (by omega) (by omega) (by omega),Ab,nI,?_⟩);refine G1 ?_;intro gg;(refine⟨_,_,false,aI,Be rs[k].pt 2 (by omega) (by omega) (by omega),Ab,nI,?_⟩);refine G1 ?_;intro gg;refine⟨szI,?_⟩;rw[Ca];refine G0 ?_;(refine⟨_,_,false,aI,I8 rs[k].tg g9,Ab,nI,?_⟩);refine G1 ?_;intro gg;refine⟨szI,?_⟩;rw[Ca];refine G0 ?_;obtain⟨I,hI⟩:∃I,I=Ew 0 4++Ew rs[k].pt 2++Bv rs[k].tg:=⟨_,rfl⟩;rw[←hI];have hIe:=hI.trans (Azl (hr _ (ZK hlt)) g3);clear hI;have hIl:I.length≤15100:=by rw[hIe];exact hil.2
   (refine⟨_,_,false,aI,I8 rs[k].nm g2,Ab,nI,?_⟩);refine G1 ?_;intro gg;(refine⟨_,_,false,aI,Be rs[k].ty 2 (by omega) (by omega) (by omega),Ab,nI,?_⟩);refine G1 ?_;intro gg;refine⟨szI,?_⟩;rw[Ca];refine G0 ?_;(refine⟨_,_,false,aI,Be 1 2 (by omega) (by omega) (by omega),Ab,nI,?_⟩);refine G1 ?_;intro gg;refine⟨szI,?_⟩;rw[Ca];refine G0 ?_;(refine⟨_,_,false,aI,Be rs[k].ls 4 (by omega) (by omega) (by omega),Ab,nI,?_⟩);refine G1 ?_;intro gg;refine⟨szI,?_⟩;rw[Ca];refine G0 ?_;rw[D2];(refine⟨_,_,false,aI,Be ((I:List UInt8).length:Int) 2 (by omega) (by omega) (by omega),Ab,nI,?_⟩);refine G1 ?_;intro gg;refine⟨szI,?_⟩;rw[Ca];refine G0 ?_;refine⟨szI,?_⟩;rw[Ca];refine G0 ?_;rw[Aek (hr _ (ZK hlt)) _ (hIe)];refine G0 ?_;refine⟨szI,?_⟩;rw[show bA (hdB (⟨id,an,ct,co,qn,qt,rs⟩:Ms)++Bg (rs.take k))++bA (H5 rs[k])=bA (hdB (⟨id,an,ct,co,qn,qt,rs⟩:Ms)++Bg (rs.take (k+1)))by rw[Ca,Hm hlt,ZS]];refine G0 ?_;(exact⟨none,trivial,fun _=>⟨⟨k+1,by omega⟩,by show rs.length-(k+1)<rs.length-k;omega,tI,tI,tI,tI⟩⟩)
 ·have hge:¬k<rs.length:=(by have:=ZW h;omega);obtain rfl:k=rs.length:=by omega
  refine G0 ?_;rw[XF,show hdB (⟨id,an,ct,co,qn,qt,rs⟩:Ms)++Bg rs=Cx (⟨id,an,ct,co,qn,qt,rs⟩:Ms)from rfl];(exact⟨[],aI⟩)
theorem Aol(m:Ms)(hm:m.Good):Fun Tryz.prog 69 [.c (.agg m.row)] [.c (.v (.string (bA (Cx m))))]:=by
 obtain⟨id,an,ct,co,qn,qt,rs⟩:=m;exact Ao5 id an ct co qn qt rs hm
section
open Go.Joins Go.ChangeShapes Go.WideShapes Go.Deep
def Bd1(B:Nat):V→Prop
 |.v (.string x)=>x.size≤B
 |_=>True
def Bd(B:Nat):V→Prop
 |.v (.string x)=>x.size≤B
 |.sl _ rows=>rows.length≤B∧∀row∈rows,∀u∈row,Bd1 B u
 |_=>True
theorem Bd.one{B:Nat}{u:V}(h:Bd B u):Bd1 B u:=by
 unfold Bd at h;unfold Bd1;split at h<;>simp_all
structure Avw{H:Type}(bk:DataW H→Nat):Prop where
 str:∀l,l.length≤bk (.lit (.string l))
 agg:∀ds d,d∈ds→bk d≤bk (.agg ds)
 sl:∀es sp,es.length≤bk (.slice es sp)∧∀d∈es,bk d≤bk (.slice es sp)
section
variable {H:Type} {enc:TypeId×Value→H} {P:Program} {w:World} {base:Nat} {spare:Nat→Bool} {held:Bool} {bk:DataW H→Nat} {B:Nat}
end
end

structure Aox(m:Ms):Prop where
 sz:m.Sized
 ln:m.rs.length≤1048576
namespace Pl
def Eh(m:Ms)(n:Nat):Ms:=⟨m.id,m.an,m.ct||decide (n<m.rs.length),m.co,m.qn,m.qt,m.rs.take n⟩
theorem Acz{m:Ms}(h:m.Good)(n:Nat):(Eh m n).Good:=⟨h.id,h.co,h.qn,h.qnz,h.qt,by show(m.rs.take n).length≤20;have:=h.len;rw[ZM];omega,fun r hr=>h.rs r (List.mem_of_mem_take hr)⟩
theorem Aqh(m:Ms):Eh m m.rs.length=m:=by
 obtain⟨id,an,ct,co,qn,qt,rs⟩:=m;unfold Eh;simp
def Ny(m:Ms)(z:Int):Nat→ByteArray×Int
 |0=>if((Cx (Eh m 0)).length:Int)≤z then(bA (Cx (Eh m 0)),0)else(⟨#[]⟩,2)
 |n+1=>if((Cx (Eh m (n+1))).length:Int)≤z then(bA (Cx (Eh m (n+1))),0)else Ny m z n
theorem Qf{m:Ms}{z:Int}{n:Nat}(h:((Cx (Eh m n)).length:Int)≤z):Ny m z n=(bA (Cx (Eh m n)),0):=by
 cases n with
 |zero=>exact if_pos h
 |succ n=>exact if_pos h
theorem Afj{m:Ms}{z:Int}{n:Nat}(h:¬((Cx (Eh m (n+1))).length:Int)≤z):Ny m z (n+1)=Ny m z n:=if_neg h
theorem Ag3{m:Ms}{z:Int}(h:¬((Cx (Eh m 0)).length:Int)≤z):Ny m z 0=(⟨#[]⟩,2):=if_neg h
theorem Adl{m:Ms}{z:Int}{k:Nat}{R:ByteArray×Int}(h:¬((Cx (Eh m k)).length:Int)≤z)(e:Ny m z k=R):0<k→Ny m z (k-1)=R:=by
 intro h0;rcases k with _|k
 ·omega
 ·exact(Afj h).symm.trans e
theorem Adu{m:Ms}{z:Int}{k:Nat}{R:ByteArray×Int}(h:¬((Cx (Eh m k)).length:Int)≤z)(e:Ny m z k=R):k=0→R=(⟨#[]⟩,2):=by
 intro h0;subst h0;exact e.symm.trans (Ag3 h)
def Jn(m:Ms)(z:Int):ByteArray×Int:=bif !wIn z 12 512 then(⟨#[]⟩,3)else if A4 m≠0 then(⟨#[]⟩,A4 m)else Ny m z m.rs.length
end Pl
set_option maxHeartbeats 2000000 in
theorem Auv(m:Ms)(z:Int)(hm:Aox m):Fun Tryz.prog 31 [.c (.agg m.row),.c (.v (.int .i64 z))] [.c (.v (.string (Jn m z).1)),.c (.v (.int .i64 (Jn m z).2))]:=by
 have hl:m.rs.length≤9223372036854775807:=by have:=hm.ln;omega
 have hC:=Vp m hm.sz hl;have e0:Jn m z=bif !wIn z 12 512 then(⟨#[]⟩,3)else if A4 m≠0 then(⟨#[]⟩,A4 m)else Ny m z m.rs.length:=rfl
 refine Ar Ak1 rfl ?_;refine G1 ?_;intro gg;revert gg;intro gz;refine .inl (cX (Iw z 12 512) ?_);refine G1 ?_;intro gg;refine Aa (fun k0=>?_) (fun k0=>?_)<;>rw[k0]<;>rw[k0]at e0
 ·refine G0 ?_;rw[e0];(exact⟨[],aI⟩)
 ·simp only[cond_false]at e0;refine G0 ?_;refine .inl (cX hC ?_);refine G1 ?_;intro gg;by_cases he:A4 m=0
  ·rw[if_neg (by simp[he])]at e0;rw[show(A4 m !=0)=false by simp[he]];have hg:=(G9 he).1;have hln:=hg.len;refine G0 ?_;(refine⟨[],none,{n:Nat//n≤m.rs.length∧Ny m z n=Ny m z m.rs.length},[1,2],fun⟨n,hn,hf⟩=>[],[],fun⟨n,hn,hf⟩=>[(32,⟨gz,.b 52,7,[(Eh m n).row]⟩)],fun⟨n,hn,hf⟩=>n,trivial,fun _=>⟨trivial,fun _=>⟨⟨m.rs.length,ZT _,rfl⟩,tI,Af _ _,?_,Ae _ _⟩⟩,fun⟨n,hn,hf⟩=>?_⟩;focus (exact⟨congrArg (fun r=>some (Ent.mk gz (.b 52) 7 [r])) (show m.row=(Eh m m.rs.length).row by rw[Aqh]),trivial⟩));have hw:Fun Tryz.prog 36 [.c (.agg (Eh m n).row)] [.c (.v (.string (bA (Cx (Eh m n)))))]:=Acn _ (Acz hg n);refine G0 ?_;refine .inl (cX hw ?_);refine G1 ?_;intro gg;rw[D2];by_cases h1:((Cx (Eh m n)).length:Int)≤z
   ·rw[show decide (((Cx (Eh m n)).length:Int)≤z)=true from ZX h1];rw[←hf,Qf h1]at e0;refine G0 ?_;rw[e0];(exact⟨[],aI⟩)
   ·rw[show decide (((Cx (Eh m n)).length:Int)≤z)=false from ZY h1];rcases n with _|n
    ·rw[←hf,Ag3 h1]at e0;refine G0 ?_;rw[e0];(exact⟨[],aI⟩)
    ·have hlen:((Eh m (n+1)).rs.map Rr.row).length=n+1:=by
      show((m.rs.take (n+1)).map Rr.row).length=n+1;rw[ZE,ZM];omega
     have hsb:(((Eh m (n+1)).rs.map Rr.row).length:Int)-1=(n:Int):=by rw[hlen];omega
     have hsl:((((Eh m (n+1)).rs.map Rr.row).drop 0).take (n-0))=(Eh m n).rs.map Rr.row:=by
      show(((m.rs.take (n+1)).map Rr.row).drop 0).take n=(m.rs.take n).map Rr.row;rw[List.drop_zero,←List.map_take,List.take_take,Nat.min_eq_left (by omega)]
     have hct:(m.ct||decide (n<m.rs.length))=true:=by rw[show decide (n<m.rs.length)=true from ZX (by omega),Bool.or_true]
     have hrow:([.v (.int .i64 m.id),.v (.bool m.an),.v (.bool true),.v (.int .i64 m.co),.v (.string m.qn),.v (.int .i64 m.qt),.sl false ((Eh m n).rs.map Rr.row)]:List V)=(Eh m n).row:=by
      unfold Ms.row Eh;rw[hct]
     refine G0 ?_;rw[show((((Eh m (n+1)).rs.map Rr.row).length:Int)==0)=false by rw[hlen];exact ZG.2 (by omega)];refine G0 ?_;refine⟨0,n,rfl,⟨.i64,congrArg (fun x=>V.v (.int .i64 x)) hsb⟩,ZU _,by rw[hlen];omega,.inr ⟨_,Ad (k:=0) (l:=(Eh m (n+1)).rs) (by show 0<(m.rs.take (n+1)).length;rw[ZM];omega),rfl⟩,?_⟩;rw[hsl];refine G0 ?_;(exact⟨none,trivial,fun gr=>⟨⟨n,by omega,(Afj h1).symm.trans hf⟩,by show n<n+1;omega,tI,tI,⟨congrArg (fun r=>some (Ent.mk gz (.b 52) 7 [r])) hrow,trivial⟩,tI⟩⟩)
  ·rw[if_pos he]at e0;rw[show(A4 m !=0)=true from ZZ.2 he];refine G0 ?_;rw[e0];(exact⟨[],aI⟩)
set_option maxHeartbeats 2000000 in
theorem Ki(m:Ms)(z:Int)(hm:Aox m):Fun Tryz.prog 34 [.c (.agg m.row),.c (.v (.int .i64 z))] [.c (.v (.string (Jn m z).1)),.c (.v (.int .i64 (Jn m z).2))]:=by
 have hl:m.rs.length≤9223372036854775807:=by have:=hm.ln;omega
 have hC:=Tt m hm.sz hl;have e0:Jn m z=bif !wIn z 12 512 then(⟨#[]⟩,3)else if A4 m≠0 then(⟨#[]⟩,A4 m)else Ny m z m.rs.length:=rfl
 refine Ar Sm rfl ?_;refine G1 ?_;intro gg;refine .inl (cX (Es z 12 512) ?_);refine G1 ?_;intro gg;refine Aa (fun k0=>?_) (fun k0=>?_)<;>rw[k0]<;>rw[k0]at e0
 ·refine G0 ?_;rw[e0];(exact⟨[],aI⟩)
 ·simp only[cond_false]at e0;refine G0 ?_;refine .inl (cX hC ?_);refine G1 ?_;intro gg;by_cases he:A4 m=0
  ·rw[if_neg (by simp[he])]at e0;rw[show(A4 m !=0)=false by simp[he]];have hg:=(G9 he).1;have hln:=hg.len;refine G0 ?_;obtain⟨id,an,ct,co,qn,qt,rs⟩:=m;simp only at hln;have row0:(rs.map Rr.row)=[]∨∃row,(rs.map Rr.row)[0]? =some row∧row.length=7:=by
    rcases rs with _|⟨r,rs⟩
    ·exact .inl rfl
    ·exact .inr ⟨_,rfl,rfl⟩
   rw[ZE,show(rs.length:Int)=((rs.length+1:Nat):Int)-1 by omega];(refine⟨[],none,{k:Nat//k≤rs.length+1∧(0<k→Ny ⟨id,an,ct,co,qn,qt,rs⟩ z (k-1)=Ny ⟨id,an,ct,co,qn,qt,rs⟩ z rs.length)∧(k=0→Ny ⟨id,an,ct,co,qn,qt,rs⟩ z rs.length=(⟨#[]⟩,2))},[1,2],fun⟨k,hk,hf,hf0⟩=>[(7,.v (.int .i64 ((k:Int)-1)))],[32],fun⟨k,hk,hf,hf0⟩=>[],fun⟨k,hk,hf,hf0⟩=>k,trivial,fun _=>⟨trivial,fun _=>⟨⟨rs.length+1,ZT _,fun _=>rfl,fun h=>by omega⟩,tI,Af _ _,tI,Ae _ _⟩⟩,fun⟨k,hk,hf,hf0⟩=>?_⟩);rcases k with _|k
   ·refine G0 ?_;rw[hf0 rfl]at e0;rw[e0];(exact⟨[],aI⟩)
   ·have hk1:((k+1:Nat):Int)-1=(k:Int):=by omega
    have hfk:Ny ⟨id,an,ct,co,qn,qt,rs⟩ z k=Ny ⟨id,an,ct,co,qn,qt,rs⟩ z rs.length:=hf (by omega);have hM:=Aol _ (Acz hg k);have hsl:((rs.map Rr.row).drop 0).take (k-0)=(rs.take k).map Rr.row:=by rw[List.drop_zero,List.map_take,Nat.sub_zero]
    refine G0 ?_;rw[show decide ((0:Int)≤((k+1:Nat):Int)-1)=true from ZX (by omega)];refine G1 ?_;intro gg;refine⟨0,k,rfl,⟨.i64,congrArg (fun x=>V.v (.int .i64 x)) hk1⟩,ZU _,by show k≤(rs.map Rr.row).length;rw[ZE];omega,row0,?_⟩;rw[hsl];refine G0 ?_;cases ct
    ·refine G0 ?_;rw[show decide (((k+1:Nat):Int)-1<((rs.map Rr.row).length:Int))=decide (k<rs.length)from by rw[ZE,hk1];exact decide_eq_decide.2 (by omega)];refine G0 ?_;refine .inl (cX hM ?_);refine G1 ?_;intro gg;rw[D2];by_cases h1:((Cx (Eh ⟨id,an,false,co,qn,qt,rs⟩ k)).length:Int)≤z
     ·rw[show decide (((Cx (Eh ⟨id,an,false,co,qn,qt,rs⟩ k)).length:Int)≤z)=true from ZX h1];have e1:Jn ⟨id,an,false,co,qn,qt,rs⟩ z=(bA (Cx (Eh ⟨id,an,false,co,qn,qt,rs⟩ k)),0):=e0.trans (hfk.symm.trans (Qf h1));rw[e1];refine G0 ?_;(exact⟨[],aI⟩)
     ·rw[show decide (((Cx (Eh ⟨id,an,false,co,qn,qt,rs⟩ k)).length:Int)≤z)=false from ZY h1];refine G0 ?_;rw[show((k+1:Nat):Int)-1-1=(k:Int)-1 from by omega];(exact⟨none,trivial,fun _=>⟨⟨k,by omega,Adl h1 hfk,Adu h1 hfk⟩,by show k<k+1;omega,tI,tI,tI,tI⟩⟩)
    ·refine G0 ?_;refine .inl (cX hM ?_);refine G1 ?_;intro gg;rw[D2];by_cases h1:((Cx (Eh ⟨id,an,true,co,qn,qt,rs⟩ k)).length:Int)≤z
     ·rw[show decide (((Cx (Eh ⟨id,an,true,co,qn,qt,rs⟩ k)).length:Int)≤z)=true from ZX h1];have e1:Jn ⟨id,an,true,co,qn,qt,rs⟩ z=(bA (Cx (Eh ⟨id,an,true,co,qn,qt,rs⟩ k)),0):=e0.trans (hfk.symm.trans (Qf h1));rw[e1];refine G0 ?_;(exact⟨[],aI⟩)
     ·rw[show decide (((Cx (Eh ⟨id,an,true,co,qn,qt,rs⟩ k)).length:Int)≤z)=false from ZY h1];refine G0 ?_;rw[show((k+1:Nat):Int)-1-1=(k:Int)-1 from by omega];(exact⟨none,trivial,fun _=>⟨⟨k,by omega,Adl h1 hfk,Adu h1 hfk⟩,by show k<k+1;omega,tI,tI,tI,tI⟩⟩)
  ·rw[if_pos he]at e0;rw[show(A4 m !=0)=true from ZZ.2 he];refine G0 ?_;rw[e0];(exact⟨[],aI⟩)
abbrev scT:TypeId:=108
def scZ(s:ByteArray)(x:Int)(b:Bool):List Par:=[.c (.v (.string s)),.c (.v (.int .i64 x)),.c (.v (.bool b))]
def scC(s:ByteArray)(a:Nat)(b:Bool):List Par:=scZ s (a:Int) b
namespace Pl
def atB(s:ByteArray)(a:Nat):Nat:=match s[a]? with|some c=>c.toNat|none=>0
theorem Gu{s:ByteArray}{a:Nat}{c:UInt8}(h:s[a]? =some c):atB s a=c.toNat:=by unfold atB;rw[h]
theorem Is(s:ByteArray)(a:Nat):atB s a<256:=by
 unfold atB;split
 ·exact UInt8.toNat_lt _
 ·omega
def Dx(s:ByteArray)(a:Nat):Nat→Nat
 |0=>0
 |k+1=>256*Dx s a k+atB s (a+k)
theorem An8(s:ByteArray)(a k:Nat):Dx s a k<256^k:=by
 induction k with
 |zero=>exact Nat.zero_lt_one
 |succ k ih=>
  have:=Is s (a+k);rw[Nat.pow_succ];show 256*Dx s a k+atB s (a+k)<_;omega
theorem An4(s:ByteArray)(a:Nat){k:Nat}(h:k≤4):Dx s a k≤4294967295:=by
 have h1:=An8 s a k;have h2:256^k≤256^4:=Nat.pow_le_pow_right (by decide) h;have h3:256^4=4294967296:=by decide
 omega
def B6(s:ByteArray)(k a:Nat):Nat:=if a+k≤s.size then Dx s a k else 0
def Aq(s:ByteArray)(k a:Nat):Nat:=if a+k≤s.size then a+k else max a s.size
def B7(s:ByteArray)(k a:Nat)(b:Bool):Bool:=b||decide (s.size<a+k)
theorem Cf{s:ByteArray}{k a:Nat}{b:Bool}(h:a+k≤s.size):B6 s k a=Dx s a k∧Aq s k a=a+k∧B7 s k a b=b:=by
 refine⟨if_pos h,if_pos h,?_⟩;unfold B7;rw[ZY (by omega),Bool.or_false]
theorem Hn{s:ByteArray}{k a:Nat}{b:Bool}(h:¬a+k≤s.size):B6 s k a=0∧Aq s k a=max a s.size∧B7 s k a b=true:=by
 refine⟨if_neg h,if_neg h,?_⟩;unfold B7;rw[ZX (by omega),Bool.or_true]
theorem Bj{s:ByteArray}{k a m:Nat}(h1:a≤m)(h2:s.size≤m):Aq s k a≤m:=by
 unfold Aq;split<;>omega
theorem E6(s:ByteArray)(a:Nat){k:Nat}(h:k≤4):B6 s k a≤4294967295:=by
 unfold B6;split
 ·exact An4 s a h
 ·omega
end Pl
set_option maxHeartbeats 2000000 in
theorem Aw(s:ByteArray)(a k:Nat)(b:Bool)(hs:s.size≤1000000)(ha:a≤1000000)(hk0:0<k)(hk:k≤4):H3 Tryz.prog 64 [.mn scT (scC s a b) (scC s (Aq s k a) (B7 s k a b)),.p (.c (.v (.int .i64 (k:Int))))] [.p (.c (.v (.int .i64 (B6 s k a:Int))))]:=by
 refine Jr Lt rfl rfl (Ka rfl) ?_;refine G0 ?_;(refine⟨[],none,{i:Nat//i≤k∧(0<i→a+i≤s.size)},[0,1],fun⟨i,hi,h0⟩=>[(5,.v (.int .i64 (Dx s a i:Int))),(6,.v (.int .i64 (i:Int)))],[],fun⟨i,hi,h0⟩=>[(0,⟨0,.b scT,3,[[.v (.string s),.v (.int .i64 ((a+i:Nat):Int)),.v (.bool b)]]⟩)],fun⟨i,hi,h0⟩=>k-i,trivial,fun _=>⟨trivial,fun _=>⟨⟨0,ZU _,fun h=>by omega⟩,tI,Af _ _,?_,Ae _ _⟩⟩,fun⟨i,hi,h0⟩=>?_⟩;focus (exact⟨rfl,trivial⟩));have hV:=An4 s a (show i≤4 by omega);refine G0 ?_;by_cases h1:i<k
 ·rw[show decide ((i:Int)<(k:Int))=true from ZX (by omega)];have hV3:Dx s a i≤16777215:=by
   have h1:=An8 s a i;have h2:256^i≤256^3:=Nat.pow_le_pow_right (by decide) (by omega);have h3:256^3=16777216:=by decide
   omega
  refine G0 ?_;by_cases h2:s.size≤a+i
  ·rw[show decide ((s.size:Int)≤((a+i:Nat):Int))=true from ZX (by omega)];obtain⟨e1,e2,e3⟩:=Hn (s:=s) (k:=k) (a:=a) (b:=b) (by omega);rw[e1,e2,e3,show max a s.size=a+i by omega];refine G0 ?_;(exact⟨0::([]++[]),Ez (by first|exact As rfl|assumption) (Jf (gone:=[]) (gone1:=[]) rfl aI (by decide) (by decide) (by decide) (.nil _))⟩)
  ·rw[show decide ((s.size:Int)≤((a+i:Nat):Int))=false from ZY (by omega)];have hlt:a+i<s.size:=by omega
   obtain⟨c,hc⟩:∃c,s[a+i]? =some c:=⟨s[a+i],by simp[hlt]⟩;have hc8:c.toNat<256:=c.toNat_lt;have hn:(256*(Dx s a i:Int)+(c.toNat:Int))=(Dx s a (i+1):Int):=by
    show _=((256*Dx s a i+atB s (a+i):Nat):Int);rw[Gu hc];omega
   refine G0 ?_;refine⟨a+i,c,rfl,hc,?_⟩;refine G0 ?_;rw[hn];refine G0 ?_;(exact⟨none,trivial,fun gr=>⟨⟨i+1,by omega,fun _=>by omega⟩,by show k-(i+1)<k-i;omega,tI,tI,⟨congrArg (fun x=>some (Ent.mk 0 (.b scT) 3 [[.v (.string s),.v (.int .i64 x),.v (.bool b)]])) (show((a+i:Nat):Int)+1=((a+(i+1):Nat):Int)by omega),trivial⟩,tI⟩⟩)
 ·rw[show decide ((i:Int)<(k:Int))=false from ZY (by omega)];obtain rfl:i=k:=by omega
  obtain⟨e1,e2,e3⟩:=Cf (s:=s) (k:=i) (a:=a) (b:=b) (h0 hk0);rw[e1,e2,e3];refine G0 ?_;(exact⟨0::([]++[]),Ez (by first|exact As rfl|assumption) (Jf (gone:=[]) (gone1:=[]) rfl aI (by decide) (by decide) (by decide) (.nil _))⟩)
namespace Pl
abbrev Kk:ByteArray:=⟨#[46]⟩
theorem Aaa(l:List ByteArray):Df Kk l=bA (Lib.join (l.map (·.data.toList)) [46]):=rfl
theorem Aos(x:ByteArray):Df Kk [x]=x:=by
 rw[Aaa];simp[Lib.join,List.intercalate,Abt]
theorem Anj(l:List (List UInt8))(x sep:List UInt8)(h:l≠[]):Lib.join (l++[x]) sep=Lib.join l sep++(sep++x):=by
 rcases l with _|⟨y,l⟩
 ·exact absurd rfl h
 ·rw[List.cons_append,Lib.join_cons,Lib.join_cons];unfold Lib.joinTail;simp
theorem Aj5(l:List ByteArray)(x:ByteArray)(h:l≠[]):Df Kk (l++[x])=Df Kk l++Kk++x:=by
 rw[Aaa,Aaa,ZI,List.map_cons,List.map_nil,Anj _ _ _ (by simpa using h)]
 conv=>rhs;rhs;rw[←Abt x]
 rw[show Kk=bA [46]from rfl,Ca,Ca,ZS]
theorem Vn{α:Type}{l:List α}{k:Nat}(h:k<l.length):l.take (k+1)=l.take k++[l[k]]:=by rw[XT,ZC h];rfl
theorem X3{l:List ByteArray}(h:0<l.length):Df Kk (l.take 0)++l[0]=Df Kk (l.take (0+1)):=by
 rw[Vn h,List.take_zero,List.nil_append,Aos,show Df Kk []=bA []from rfl]
 conv=>lhs;rhs;rw[←Abt l[0]]
 rw[Ca,List.nil_append,Abt]
theorem Ab9{l:List ByteArray}{k:Nat}(h:k+1<l.length):Df Kk (l.take (k+1))++Kk++l[k+1]=Df Kk (l.take (k+1+1)):=by
 rw[Vn h,Aj5 _ _ (by intro e;have:=congrArg List.length e;rw[ZM]at this;simp only[ZN]at this;omega)]
theorem Ads(l:List ByteArray)(h:∀x∈l,x.size≤1000)(k:Nat)(hk:k≤l.length):(Df Kk (l.take k)).size≤1001*k:=by
 induction k with
 |zero=>exact ZT 0
 |succ k ih=>
  have h1:=ih (by omega);have h2:=h _ (ZK (show k<l.length by omega));rcases k with _|k
  ·rw[←X3 (by omega),XP];omega
  ·rw[←Ab9 (by omega),XP,XP];have:Kk.size=1:=rfl;omega
end Pl
theorem Ajl(c:Bool)(l:List ByteArray)(hl:l.length≤100)(hz:∀x∈l,x.size≤1000):Fun Tryz.prog 104 [.c (.sl c (l.map A1))] [.c (.v (.string (Df Kk l)))]:=by
 refine Ar Qk rfl ?_;refine G0 ?_;(refine⟨[],none,{k:Nat//k≤l.length},[0],fun⟨k,hk⟩=>[(3,.v (.string (Df Kk (l.take k)))),(4,.v (.int .i64 (k:Int)))],[],fun⟨k,hk⟩=>[],fun⟨k,hk⟩=>l.length-k,trivial,fun _=>⟨trivial,fun _=>⟨⟨0,by omega⟩,tI,Af _ _,tI,Ae _ _⟩⟩,fun⟨k,hk⟩=>?_⟩);have hsz:(Df Kk (l.take k)).size≤100100:=by
  have:=Ads l hz k hk;omega
 refine G0 ?_;rw[ZE];(refine Aa (fun h1=>?_) (fun h1=>?_)<;>rw[h1])
 ·have hlt:k<l.length:=(by have:=ZV h1;omega);have hx:=hz _ (ZK hlt);have hd:Kk.size=1:=rfl;rcases k with _|k
  ·refine G0 ?_;refine⟨0,_,rfl,Ad hlt,?_⟩;refine G0 ?_;refine⟨by rw[show(Df Kk (l.take 0)).size=0 from rfl];omega,?_⟩;rw[X3 hlt];refine G0 ?_;(exact⟨none,trivial,fun _=>⟨⟨1,by omega⟩,by show l.length-1<l.length-0;omega,tI,tI,tI,tI⟩⟩)
  ·refine G0 ?_;rw[show decide ((0:Int)<((k+1:Nat):Int))=true from ZX (by omega)];refine G0 ?_;refine⟨by rw[hd];omega,?_⟩;refine G0 ?_;refine⟨k+1,_,rfl,Ad hlt,?_⟩;refine G0 ?_;refine⟨by rw[XP,hd];omega,?_⟩;rw[Ab9 hlt];refine G0 ?_;(exact⟨none,trivial,fun _=>⟨⟨k+1+1,by omega⟩,by show l.length-(k+1+1)<l.length-(k+1);omega,tI,tI,tI,tI⟩⟩)
 ·have hge:¬k<l.length:=(by have:=ZW h1;omega);obtain rfl:k=l.length:=by omega
  refine G0 ?_;rw[XF];(exact⟨[],aI⟩)
namespace Pl
theorem Nm(s:ByteArray)(a:Nat):B6 s 1 a=atB s a:=by
 unfold B6;split
 ·show 256*0+atB s (a+0)=_;rw[Nat.mul_zero,Nat.zero_add,Nat.add_zero]
 ·rename_i h;unfold atB;rw[show s[a]? =none from by simp;omega]
theorem An6{s:ByteArray}{a:Nat}(h:s.size≤a):atB s a=0:=by
 unfold atB;rw[show s[a]? =none from by simp;omega]
theorem Aon(s:ByteArray)(i a:Nat):B6 s 1 (Aq s i a)=atB s (a+i):=by
 rw[Nm];unfold Aq;split
 ·rfl
 ·rw[An6 (by omega),An6 (by omega)]
theorem Apl(s:ByteArray)(i a:Nat):Aq s 1 (Aq s i a)=Aq s (i+1) a:=by
 unfold Aq;split<;>split<;>split<;>omega
theorem Anh(s:ByteArray)(i a:Nat)(b:Bool):B7 s 1 (Aq s i a) (B7 s i a b)=B7 s (i+1) a b:=by
 unfold B7 Aq;by_cases h:a+i≤s.size
 ·rw[if_pos h,show decide (s.size<a+i)=false from ZY (by omega),Bool.or_false,Nat.add_assoc]
 ·rw[if_neg h,show decide (s.size<a+i)=true from ZX (by omega),show decide (s.size<a+(i+1))=true from ZX (by omega)];simp
def Du(s:ByteArray)(a:Nat):Nat→List UInt8
 |0=>[]
 |i+1=>Du s a i++[F8 (UInt8.ofNat (atB s (a+i)))]
theorem Y4(s:ByteArray)(a n:Nat):(Du s a n).length=n:=by
 induction n with
 |zero=>rfl
 |succ n ih=>show(Du s a n++[_]).length=n+1;rw[ZF,ih];rfl
def Ej(c:Nat):Nat:=if 65≤c∧c≤90 then c+32 else c
theorem Ann{c:Nat}(h:c<256):Ej c<256:=by unfold Ej;split<;>omega
theorem As7{c:Nat}(h:c<256):F8 (UInt8.ofNat c)=UInt8.ofNat (Ej c):=by
 have key:∀c:Fin 256,F8 (UInt8.ofNat c.val)=UInt8.ofNat (Ej c.val):=by decide+kernel
 exact key ⟨c,h⟩
def Je(s:ByteArray):Nat→Nat→List ByteArray→Option Nat→Nat→Option (List ByteArray×Nat)×Nat
 |0,_,_,_,_=>(none,0)
 |f+1,a,l,e,fr=>
  if a+1≤s.size then
   if atB s a=0 then(some (l,e.getD (a+1)),0)
   else if 192≤atB s a then
    if a+2≤s.size∧(atB s a-192)*256+atB s (a+1)<fr then Je s f ((atB s a-192)*256+atB s (a+1)) l (some (e.getD (a+2))) ((atB s a-192)*256+atB s (a+1))
    else(none,(atB s a-192)*256+atB s (a+1))
   else if a+1+atB s a≤s.size∧lab (Du s (a+1) (atB s a))=true∧l.length+1≤8 then Je s f (Aq s (atB s a) (a+1)) (l++[bA (Du s (a+1) (atB s a))]) e fr
   else(none,Aq s (atB s a) (a+1))
  else(none,max a s.size)
def Abk(s:ByteArray)(a:Nat)(b:Bool):Option (List ByteArray×Nat)×Nat:=bif b then(none,a)else Je s (a+10) a [] none a
def Dp(s:ByteArray)(a:Nat)(b:Bool):ByteArray×Nat×Bool:=match Abk s a b with
 |(some p,_)=>(Df Kk p.1,p.2,false)
 |(none,x)=>(⟨#[]⟩,x,true)
def eI:Option Nat→Int
 |none=> -1
 |some x=>(x:Int)
structure NqI(s:ByteArray)(Q:Option (List ByteArray×Nat)×Nat)(a:Nat)(b:Bool)(l:List ByteArray)(e:Option Nat)(fr:Nat):Prop where
 ha:a≤1000000
 hl:l.length≤9
 hz:∀x∈l,x.size≤1000
 he:e.getD 0≤1000000
 hf:fr≤1000000
 no:b=false→l.length≤8∧∃f,fr+10≤f+l.length∧Je s f a l e fr=Q
 yes:b=true→Q=(none,a)
def nmM(b:Bool)(l:List ByteArray)(fr:Nat):Nat:=if b then 0 else 1+fr+(9-l.length)
theorem NqI.start{s:ByteArray}{a:Nat}(b:Bool)(ha:a≤1000000):NqI s (Abk s a b) a b [] none a:=
 ⟨ha,by simp,by simp,by simp,ha,fun h=>by subst h;exact⟨by simp,a+10,by simp,rfl⟩,fun h=>by subst h;rfl⟩
section
variable {s:ByteArray} {Q:Option (List ByteArray×Nat)×Nat} {a fr:Nat} {l:List ByteArray} {e:Option Nat}
theorem NqI.out(h:NqI s Q a false l e fr)(c:¬a+1≤s.size):Q=(none,max a s.size):=by
 obtain⟨h8,f,hf,hq⟩:=h.no rfl;obtain⟨f,rfl⟩:∃f',f=f'+1:=⟨f-1,by omega⟩;rw[←hq,Je,if_neg c]
theorem NqI.zero(h:NqI s Q a false l e fr)(c:a+1≤s.size)(c0:atB s a=0):Q=(some (l,e.getD (a+1)),0):=by
 obtain⟨h8,f,hf,hq⟩:=h.no rfl;obtain⟨f,rfl⟩:∃f',f=f'+1:=⟨f-1,by omega⟩;rw[←hq,Je,if_pos c,if_pos c0]
theorem Ag1(s:ByteArray)(a:Nat):(atB s a-192)*256+atB s (a+1)≤1000000:=by
 have:=Is s a;have:=Is s (a+1);omega
theorem Ael{e:Option Nat}{x:Nat}(h:e.getD 0≤1000000)(hx:x≤1000000):(some (e.getD x)).getD 0≤1000000:=by
 cases e with
 |none=>exact hx
 |some y=>exact h
theorem NqI.ptr_ok(h:NqI s Q a false l e fr)(hs:s.size≤1000000)(c:a+1≤s.size)(c0:atB s a≠0)(c1:192≤atB s a)(c2:a+2≤s.size)(c3:(atB s a-192)*256+atB s (a+1)<fr):NqI s Q ((atB s a-192)*256+atB s (a+1)) false l (some (e.getD (a+2))) ((atB s a-192)*256+atB s (a+1)):=by
 obtain⟨h8,f,hf,hq⟩:=h.no rfl;obtain⟨f,rfl⟩:∃f',f=f'+1:=⟨f-1,by omega⟩;rw[Je,if_pos c,if_neg c0,if_pos c1,if_pos ⟨c2,c3⟩]at hq;exact⟨Ag1 s a,h.hl,h.hz,Ael h.he (by omega),Ag1 s a,fun _=>⟨h8,f,by omega,hq⟩,fun h=>(by cases h)⟩
theorem NqI.ptr_bad(h:NqI s Q a false l e fr)(hs:s.size≤1000000)(c:a+1≤s.size)(c0:atB s a≠0)(c1:192≤atB s a)(c2:¬(a+2≤s.size∧(atB s a-192)*256+atB s (a+1)<fr)):NqI s Q ((atB s a-192)*256+atB s (a+1)) true l (some (e.getD (Aq s 1 (a+1)))) ((atB s a-192)*256+atB s (a+1)):=by
 obtain⟨h8,f,hf,hq⟩:=h.no rfl;obtain⟨f,rfl⟩:∃f',f=f'+1:=⟨f-1,by omega⟩;rw[Je,if_pos c,if_neg c0,if_pos c1,if_neg c2]at hq;exact⟨Ag1 s a,h.hl,h.hz,Ael h.he (Bj (by omega) hs),Ag1 s a,fun h=>(by cases h),fun _=>hq.symm⟩
theorem Akz(h:∀x∈l,x.size≤1000){n:Nat}(hn:n<256)(b:Nat):∀x∈l++[bA (Du s b n)],x.size≤1000:=fun x hx=>by
 rcases XM.1 hx with hx|hx
 ·exact h x hx
 ·rw[XN]at hx;subst hx;rw[D2,Y4];omega
theorem NqI.lab_ok(h:NqI s Q a false l e fr)(hs:s.size≤1000000)(c:a+1≤s.size)(c0:atB s a≠0)(c1:¬192≤atB s a)(c2:a+1+atB s a≤s.size∧lab (Du s (a+1) (atB s a))=true∧l.length+1≤8):NqI s Q (Aq s (atB s a) (a+1)) false (l++[bA (Du s (a+1) (atB s a))]) e fr:=by
 obtain⟨h8,f,hf,hq⟩:=h.no rfl;obtain⟨f,rfl⟩:∃f',f=f'+1:=⟨f-1,by omega⟩;rw[Je,if_pos c,if_neg c0,if_neg c1,if_pos c2]at hq;exact⟨Bj (by omega) hs,by rw[ZF];simp only[ZJ,ZN];omega,Akz h.hz (Is s a) _,h.he,h.hf,fun _=>⟨by rw[ZF];simp only[ZJ,ZN];omega,f,by rw[ZF];simp only[ZJ,ZN];omega,hq⟩,fun h=>(by cases h)⟩
theorem NqI.lab_bad(h:NqI s Q a false l e fr)(hs:s.size≤1000000)(c:a+1≤s.size)(c0:atB s a≠0)(c1:¬192≤atB s a)(c2:¬(a+1+atB s a≤s.size∧lab (Du s (a+1) (atB s a))=true∧l.length+1≤8)):NqI s Q (Aq s (atB s a) (a+1)) true (l++[bA (Du s (a+1) (atB s a))]) e fr:=by
 obtain⟨h8,f,hf,hq⟩:=h.no rfl;obtain⟨f,rfl⟩:∃f',f=f'+1:=⟨f-1,by omega⟩;rw[Je,if_pos c,if_neg c0,if_neg c1,if_neg c2]at hq;exact⟨Bj (by omega) hs,by rw[ZF];simp only[ZJ,ZN];omega,Akz h.hz (Is s a) _,h.he,h.hf,fun h=>(by cases h),fun _=>hq.symm⟩
theorem Ts{b:Bool}{p:List ByteArray×Nat}{x:Nat}(h:Abk s a b=(some p,x)):Dp s a b=(Df Kk p.1,p.2,false):=by unfold Dp;rw[h]
theorem O0{b:Bool}{x:Nat}(h:Abk s a b=(none,x)):Dp s a b=(⟨#[]⟩,x,true):=by unfold Dp;rw[h]
end
end Pl
set_option maxHeartbeats 4000000 in
theorem Rv(s:ByteArray)(a0:Nat)(b0:Bool)(hs:s.size≤1000000)(ha:a0≤1000000):H3 Tryz.prog 65 [.mn scT (scC s a0 b0) (scC s (Dp s a0 b0).2.1 (Dp s a0 b0).2.2)] [.p (.c (.v (.string (Dp s a0 b0).1)))]:=by
 obtain⟨Q,hQ⟩:∃Q,Q=Abk s a0 b0:=⟨_,rfl⟩;have hI0:=NqI.start (s:=s) b0 ha;rw[←hQ]at hI0;refine Jr Oa rfl rfl (Ka rfl) ?_;refine G0 ?_;(refine⟨[(3,48,9,1)],none,{p:Nat×Bool×List ByteArray×Option Nat×Nat×Nat//NqI s Q p.1 p.2.1 p.2.2.1 p.2.2.2.1 p.2.2.2.2.1},[],fun⟨⟨a,b,l,e,fr,g⟩,h⟩=>[(0,.ptr 0 0 0 0),(3,.own 48 g),(4,.v (.int .i64 (fr:Int))),(5,.v (.int .i64 (eI e)))],[],fun⟨⟨a,b,l,e,fr,g⟩,h⟩=>[(0,⟨0,.b scT,3,[[.v (.string s),.v (.int .i64 (a:Int)),.v (.bool b)]]⟩),(48,⟨g,.t 9,1,l.map A1⟩)],fun⟨⟨a,b,l,e,fr,g⟩,h⟩=>nmM b l fr,(by exact⟨rfl,by decide,(fun _ _ _ _ h=>by cases h),trivial⟩),fun gs=>⟨trivial,fun _=>⟨⟨(a0,b0,[],none,a0,gs 48),hI0⟩,tI,tI,tI,tI⟩⟩,fun⟨⟨a,b,l,e,fr,g⟩,h⟩=>?_⟩);simp only at h;simp only[Ou,O8,Iz,Iv];have hla:=h.ha;cases b
 ·refine G0 ?_;(refine .inr (.inl ⟨_,_,false,0::([]++[]),?_,Aw s a 1 false hs hla (by omega) (by omega),Ab,oI,dI,?_⟩);focus (exact wI));refine G1 ?_;intro gg;by_cases c:a+1≤s.size;rotate_left
  ·obtain⟨e1,e2,e3⟩:=Hn (s:=s) (k:=1) (a:=a) (b:=false) c;have hq:=h.out c;rw[hQ]at hq;rw[O0 hq,e3];refine G0 ?_;rw[e2];(exact⟨0::([]++[]),Ez (by first|exact As rfl|assumption) (Jf (gone:=[]) (gone1:=[]) rfl aI (by decide) (by decide) (by decide) (.nil _))⟩)
  have e1:B6 s 1 a=atB s a:=Nm s a;obtain⟨_,e2,e3⟩:=Cf (s:=s) (k:=1) (a:=a) (b:=false) c;rw[e1,e2,e3];refine G0 ?_;by_cases c0:atB s a=0
  ·have hq:=h.zero c c0;rw[hQ]at hq;rw[Ts hq,show((atB s a:Int)==0)=true from ZR.2 (by omega)];have hN:=Ajl false l (by have:=h.hl;omega) h.hz;rcases e with _|x
   ·refine G0 ?_;refine .inl (cY hN ?_);refine G1 ?_;intro gg;(exact⟨0::([]++[]),Ez (by first|exact As rfl|assumption) (Jf (gone:=[]) (gone1:=[]) rfl aI (by decide) (by decide) (by decide) (.nil _))⟩)
   ·refine G0 ?_;rw[show decide ((0:Int)≤eI (some x))=true from ZX (show(0:Int)≤(x:Int)by omega)];refine G0 ?_;refine .inl (cY hN ?_);refine G1 ?_;intro gg;(exact⟨0::([]++[]),Ez (by first|exact As rfl|assumption) (Jf (gone:=[]) (gone1:=[]) rfl aI (by decide) (by decide) (by decide) (.nil _))⟩)
  rw[show((atB s a:Int)==0)=false from ZG.2 (by omega)];refine G0 ?_;by_cases c1:192≤atB s a
  ·rw[show decide ((192:Int)≤(atB s a:Int))=true from ZX (by omega)];have hb8:=Is s a;have hb9:=Is s (a+1);refine G0 ?_;(refine .inr (.inl ⟨_,_,false,0::([]++[]),?_,Aw s (a+1) 1 false hs (by omega) (by omega) (by omega),Ab,oI,dI,?_⟩);focus (exact wI));rw[Nm];refine G1 ?_;intro gg;rw[show((atB s a:Int)-192)*256+(atB s (a+1):Int)=(((atB s a-192)*256+atB s (a+1):Nat):Int)from by omega];refine G0 ?_;by_cases c2:a+2≤s.size;rotate_left
   ·obtain⟨_,f2,f3⟩:=Hn (s:=s) (k:=1) (a:=a+1) (b:=false) (by omega);rw[f3];rcases e with _|x
    ·refine G0 ?_;(exact⟨none,trivial,fun gr=>⟨⟨(((atB s a-192)*256+atB s (a+1)),true,l,some (Aq s 1 (a+1)),((atB s a-192)*256+atB s (a+1)),g),h.ptr_bad hs c c0 c1 (fun q=>c2 q.1)⟩,by show 0<1+fr+(9-l.length);omega,tI,tI,⟨rfl,⟨rfl,trivial⟩⟩,tI⟩⟩)
    ·refine G0 ?_;rw[show decide (eI (some x)<0)=false from ZY (show¬(x:Int)<0 by omega)];refine G0 ?_;(exact⟨none,trivial,fun gr=>⟨⟨(((atB s a-192)*256+atB s (a+1)),true,l,some (x),((atB s a-192)*256+atB s (a+1)),g),h.ptr_bad hs c c0 c1 (fun q=>c2 q.1)⟩,by show 0<1+fr+(9-l.length);omega,tI,tI,⟨rfl,⟨rfl,trivial⟩⟩,tI⟩⟩)
   obtain⟨_,f2,f3⟩:=Cf (s:=s) (k:=1) (a:=a+1) (b:=false) (by omega);have hpb:=fun(c3:¬((atB s a-192)*256+atB s (a+1))<fr)=>h.ptr_bad hs c c0 c1 (fun q=>c3 q.2);rw[f2]at hpb;rw[f3,f2];rcases e with _|x
   ·refine G0 ?_;by_cases c3:((atB s a-192)*256+atB s (a+1))<fr
    ·rw[show decide ((fr:Int)≤((((atB s a-192)*256+atB s (a+1)):Nat):Int))=false from ZY (by omega)];refine G0 ?_;(exact⟨none,trivial,fun gr=>⟨⟨(((atB s a-192)*256+atB s (a+1)),false,l,some (a+2),((atB s a-192)*256+atB s (a+1)),g),h.ptr_ok hs c c0 c1 c2 c3⟩,by show 1+((atB s a-192)*256+atB s (a+1))+(9-l.length)<1+fr+(9-l.length);omega,tI,tI,⟨rfl,⟨rfl,trivial⟩⟩,tI⟩⟩)
    ·rw[show decide ((fr:Int)≤((((atB s a-192)*256+atB s (a+1)):Nat):Int))=true from ZX (by omega)];refine G0 ?_;(exact⟨none,trivial,fun gr=>⟨⟨(((atB s a-192)*256+atB s (a+1)),true,l,some (a+2),((atB s a-192)*256+atB s (a+1)),g),hpb c3⟩,by show 0<1+fr+(9-l.length);omega,tI,tI,⟨rfl,⟨rfl,trivial⟩⟩,tI⟩⟩)
   ·refine G0 ?_;rw[show decide (eI (some x)<0)=false from ZY (show¬(x:Int)<0 by omega)];refine G0 ?_;by_cases c3:((atB s a-192)*256+atB s (a+1))<fr
    ·rw[show decide ((fr:Int)≤((((atB s a-192)*256+atB s (a+1)):Nat):Int))=false from ZY (by omega)];refine G0 ?_;(exact⟨none,trivial,fun gr=>⟨⟨(((atB s a-192)*256+atB s (a+1)),false,l,some (x),((atB s a-192)*256+atB s (a+1)),g),h.ptr_ok hs c c0 c1 c2 c3⟩,by show 1+((atB s a-192)*256+atB s (a+1))+(9-l.length)<1+fr+(9-l.length);omega,tI,tI,⟨rfl,⟨rfl,trivial⟩⟩,tI⟩⟩)
    ·rw[show decide ((fr:Int)≤((((atB s a-192)*256+atB s (a+1)):Nat):Int))=true from ZX (by omega)];refine G0 ?_;(exact⟨none,trivial,fun gr=>⟨⟨(((atB s a-192)*256+atB s (a+1)),true,l,some (x),((atB s a-192)*256+atB s (a+1)),g),hpb c3⟩,by show 0<1+fr+(9-l.length);omega,tI,tI,⟨rfl,⟨rfl,trivial⟩⟩,tI⟩⟩)
  rw[show decide ((192:Int)≤(atB s a:Int))=false from ZY (by omega)];obtain⟨n,hn⟩:∃n,n=atB s a:=⟨_,rfl⟩;have hok:=h.lab_ok hs c c0 c1;have hbad:=h.lab_bad hs c c0 c1;have hn8:=Is s a;rw[←hn]at c0 c1 hok hbad hn8 ⊢;have hl8:=(h.no rfl).1;obtain⟨_,q2,q3⟩:=Cf (s:=s) (k:=0) (a:=a+1) (b:=false) c;have hst:some (Ent.mk 0 (.b scT) 3 [[.v (.string s),.v (.int .i64 ((a+1:Nat):Int)),.v (.bool false)]])=some (Ent.mk 0 (.b scT) 3 [[.v (.string s),.v (.int .i64 (Aq s 0 (a+1):Int)),.v (.bool (B7 s 0 (a+1) false))]]):=by rw[q2,q3]
  clear h e1 e2 e3 hn q2 q3;refine G0 ?_;(refine⟨[],none,{i:Nat//i≤n},[],fun⟨i,hi⟩=>[(0,.ptr 0 0 0 0),(3,.own 48 g),(4,.v (.int .i64 (fr:Int))),(5,.v (.int .i64 (eI e))),(6,.v (.int .i64 (n:Int))),(8,.v (.string (bA (Du s (a+1) i)))),(9,.v (.int .i64 (i:Int)))],[],fun⟨i,hi⟩=>[(0,⟨0,.b scT,3,[[.v (.string s),.v (.int .i64 (Aq s i (a+1):Int)),.v (.bool (B7 s i (a+1) false))]]⟩),(48,⟨g,.t 9,1,l.map A1⟩)],fun⟨i,hi⟩=>n-i,trivial,fun _=>⟨trivial,fun _=>⟨⟨0,ZU _⟩,tI,Af _ _,?_,Ae _ _⟩⟩,fun⟨i,hi⟩=>?_⟩;focus (exact⟨hst,⟨rfl,trivial⟩⟩));simp only[Ou,O8,Iz,Iv];by_cases d1:i<n
  ·have hA:Aq s i (a+1)≤1000000:=Bj (by omega) hs;have hc8:=Is s (a+1+i);have hsm:=Ann hc8;have hlen:=Y4 s (a+1) i;refine G0 ?_;rw[show decide ((i:Int)<(n:Int))=true from ZX (by omega)];refine G0 ?_;(refine .inr (.inl ⟨_,_,false,0::([]++[]),?_,Aw s (Aq s i (a+1)) 1 (B7 s i (a+1) false) hs hA (by omega) (by omega),Ab,oI,dI,?_⟩);focus (exact wI));rw[Aon,Apl,Anh];generalize hx:atB s (a+1+i)=x at *;refine G1 ?_;intro gg;have hlem:bA (Du s (a+1) i)++Nl [(Ej x:Int)]=bA (Du s (a+1) (i+1)):=by
    rw[show Nl [(Ej x:Int)]=bA [UInt8.ofNat (Ej x)]from rfl,Ca,←As7 hc8,←hx];rfl
   by_cases d2:65≤x;rotate_left
   ·have hy:Ej x=x:=by unfold Ej;rw[if_neg (by omega)]
    rw[show decide ((65:Int)≤(x:Int))=false from ZY (by omega)];refine G0 ?_;refine⟨(Ej x:Int),by rw[Oo];omega,?_⟩;refine G1 ?_;intro gg;refine⟨[(Ej x:Int)],rfl,?_⟩;refine G0 ?_;refine⟨by have e1:(Nl [(Ej x:Int)]).size=1:=rfl;have e2:=D2 (Du s (a+1) i);omega,?_⟩;rw[hlem];refine G0 ?_;(exact⟨none,trivial,fun gr=>⟨⟨i+1,by omega⟩,by show n-(i+1)<n-i;omega,tI,tI,⟨rfl,⟨rfl,trivial⟩⟩,tI⟩⟩)
   rw[show decide ((65:Int)≤(x:Int))=true from ZX (by omega)];refine G0 ?_;by_cases d3:x≤90;rotate_left
   ·have hy:Ej x=x:=by unfold Ej;rw[if_neg (by omega)]
    rw[show decide ((x:Int)≤(90:Int))=false from ZY (by omega)];refine G0 ?_;refine⟨(Ej x:Int),by rw[Oo];omega,?_⟩;refine G1 ?_;intro gg;refine⟨[(Ej x:Int)],rfl,?_⟩;refine G0 ?_;refine⟨by have e1:(Nl [(Ej x:Int)]).size=1:=rfl;have e2:=D2 (Du s (a+1) i);omega,?_⟩;rw[hlem];refine G0 ?_;(exact⟨none,trivial,fun gr=>⟨⟨i+1,by omega⟩,by show n-(i+1)<n-i;omega,tI,tI,⟨rfl,⟨rfl,trivial⟩⟩,tI⟩⟩)
   have hy:Ej x=x+32:=by unfold Ej;rw[if_pos (by omega)]
   rw[show decide ((x:Int)≤(90:Int))=true from ZX (by omega)];refine G0 ?_;refine⟨(Ej x:Int),by rw[Oo];omega,?_⟩;refine G1 ?_;intro gg;refine⟨[(Ej x:Int)],rfl,?_⟩;refine G0 ?_;refine⟨by have e1:(Nl [(Ej x:Int)]).size=1:=rfl;have e2:=D2 (Du s (a+1) i);omega,?_⟩;rw[hlem];refine G0 ?_;(exact⟨none,trivial,fun gr=>⟨⟨i+1,by omega⟩,by show n-(i+1)<n-i;omega,tI,tI,⟨rfl,⟨rfl,trivial⟩⟩,tI⟩⟩)
  ·obtain rfl:i=n:=by omega
   refine G0 ?_;rw[show decide ((i:Int)<(i:Int))=false from ZY (by omega)];refine G0 ?_;have hll:(l.map A1++[A1 (bA (Du s (a+1) i))]).length=l.length+1:=by rw[ZF,ZE];rfl
   have hTs:(bA (Du s (a+1) i)).size=i:=by rw[D2,Y4]
   have hn8:i<256:=hn8;by_cases d2:a+1+i≤s.size;rotate_left
   ·obtain⟨_,_,f3⟩:=Hn (s:=s) (k:=i) (a:=a+1) (b:=false) d2;rw[f3];refine G1 ?_;intro gg;refine⟨lI,lI,?_⟩;refine G1 ?_;intro gg;refine Aa (fun hh=>?_) (fun hh=>?_)<;>rw[hh]
    ·have d4:¬l.length+1≤8:=by have:=ZV (show decide ((8:Int)<((l.map A1++[A1 (bA (Du s (a+1) i))]).length:Int))=true from hh);rw[hll]at this;omega
     refine G0 ?_;(exact⟨none,trivial,fun gr=>⟨⟨(Aq s i (a+1),true,l++[bA (Du s (a+1) i)],e,fr,gg),hbad (fun q=>d2 q.1)⟩,by show 0<1+fr+(9-l.length);omega,tI,tI,⟨rfl,⟨congrArg (fun r=>some (Ent.mk gg (.t 9) 1 r)) (show l.map A1++[A1 (bA (Du s (a+1) i))]=(l++[bA (Du s (a+1) i)]).map A1 by rw[ZI];rfl),trivial⟩⟩,tI⟩⟩)
    ·have d4:l.length+1≤8:=by have:=ZW (show decide ((8:Int)<((l.map A1++[A1 (bA (Du s (a+1) i))]).length:Int))=false from hh);rw[hll]at this;omega
     refine G0 ?_;(exact⟨none,trivial,fun gr=>⟨⟨(Aq s i (a+1),true,l++[bA (Du s (a+1) i)],e,fr,gg),hbad (fun q=>d2 q.1)⟩,by show 0<1+fr+(9-l.length);omega,tI,tI,⟨rfl,⟨congrArg (fun r=>some (Ent.mk gg (.t 9) 1 r)) (show l.map A1++[A1 (bA (Du s (a+1) i))]=(l++[bA (Du s (a+1) i)]).map A1 by rw[ZI];rfl),trivial⟩⟩,tI⟩⟩)
   obtain⟨_,_,f3⟩:=Cf (s:=s) (k:=i) (a:=a+1) (b:=false) d2;rw[f3];refine G0 ?_;(refine .inl ⟨_,_,false,[],aI,Eb (bA (Du s (a+1) i)) (by rw[hTs];omega),Ab,nI,?_⟩);rw[show(bA (Du s (a+1) i)).data.toList=Du s (a+1) i from by simp[bA]];(refine goI ?_;repeat (intro gg;refine goI ?_));by_cases d3:lab (Du s (a+1) i)=true
   ·rw[d3];refine G0 ?_;refine⟨lI,lI,?_⟩;refine G1 ?_;intro gg;refine Aa (fun hh=>?_) (fun hh=>?_)<;>rw[hh]
    ·have d4:¬l.length+1≤8:=by have:=ZV (show decide ((8:Int)<((l.map A1++[A1 (bA (Du s (a+1) i))]).length:Int))=true from hh);rw[hll]at this;omega
     refine G0 ?_;(exact⟨none,trivial,fun gr=>⟨⟨(Aq s i (a+1),true,l++[bA (Du s (a+1) i)],e,fr,gg),hbad (fun q=>d4 q.2.2)⟩,by show 0<1+fr+(9-l.length);omega,tI,tI,⟨rfl,⟨congrArg (fun r=>some (Ent.mk gg (.t 9) 1 r)) (show l.map A1++[A1 (bA (Du s (a+1) i))]=(l++[bA (Du s (a+1) i)]).map A1 by rw[ZI];rfl),trivial⟩⟩,tI⟩⟩)
    ·have d4:l.length+1≤8:=by have:=ZW (show decide ((8:Int)<((l.map A1++[A1 (bA (Du s (a+1) i))]).length:Int))=false from hh);rw[hll]at this;omega
     refine G0 ?_;(exact⟨none,trivial,fun gr=>⟨⟨(Aq s i (a+1),false,l++[bA (Du s (a+1) i)],e,fr,gg),hok ⟨d2,d3,d4⟩⟩,by show 1+fr+(9-(l++[bA (Du s (a+1) i)]).length)<1+fr+(9-l.length);rw[ZF];simp only[ZJ,ZN];omega,tI,tI,⟨rfl,⟨congrArg (fun r=>some (Ent.mk gg (.t 9) 1 r)) (show l.map A1++[A1 (bA (Du s (a+1) i))]=(l++[bA (Du s (a+1) i)]).map A1 by rw[ZI];rfl),trivial⟩⟩,tI⟩⟩)
   ·rw[XE.2 d3];refine G0 ?_;refine⟨lI,lI,?_⟩;refine G1 ?_;intro gg;refine Aa (fun hh=>?_) (fun hh=>?_)<;>rw[hh]
    ·have d4:¬l.length+1≤8:=by have:=ZV (show decide ((8:Int)<((l.map A1++[A1 (bA (Du s (a+1) i))]).length:Int))=true from hh);rw[hll]at this;omega
     refine G0 ?_;(exact⟨none,trivial,fun gr=>⟨⟨(Aq s i (a+1),true,l++[bA (Du s (a+1) i)],e,fr,gg),hbad (fun q=>d3 q.2.1)⟩,by show 0<1+fr+(9-l.length);omega,tI,tI,⟨rfl,⟨congrArg (fun r=>some (Ent.mk gg (.t 9) 1 r)) (show l.map A1++[A1 (bA (Du s (a+1) i))]=(l++[bA (Du s (a+1) i)]).map A1 by rw[ZI];rfl),trivial⟩⟩,tI⟩⟩)
    ·have d4:l.length+1≤8:=by have:=ZW (show decide ((8:Int)<((l.map A1++[A1 (bA (Du s (a+1) i))]).length:Int))=false from hh);rw[hll]at this;omega
     refine G0 ?_;(exact⟨none,trivial,fun gr=>⟨⟨(Aq s i (a+1),true,l++[bA (Du s (a+1) i)],e,fr,gg),hbad (fun q=>d3 q.2.1)⟩,by show 0<1+fr+(9-l.length);omega,tI,tI,⟨rfl,⟨congrArg (fun r=>some (Ent.mk gg (.t 9) 1 r)) (show l.map A1++[A1 (bA (Du s (a+1) i))]=(l++[bA (Du s (a+1) i)]).map A1 by rw[ZI];rfl),trivial⟩⟩,tI⟩⟩)
 ·have hq:=h.yes rfl;rw[hQ]at hq;rw[O0 hq];refine G0 ?_;(exact⟨0::([]++[]),Ez (by first|exact As rfl|assumption) (Jf (gone:=[]) (gone1:=[]) rfl aI (by decide) (by decide) (by decide) (.nil _))⟩)
namespace Pl
theorem Kw(s:ByteArray)(i j a:Nat):Aq s j (Aq s i a)=Aq s (i+j) a:=by
 unfold Aq;split<;>split<;>split<;>omega
theorem K2(s:ByteArray)(i j a:Nat)(b:Bool):B7 s j (Aq s i a) (B7 s i a b)=B7 s (i+j) a b:=by
 unfold B7 Aq;by_cases h:a+i≤s.size
 ·rw[if_pos h,show decide (s.size<a+i)=false from ZY (by omega),Bool.or_false,Nat.add_assoc]
 ·rw[if_neg h,show decide (s.size<a+i)=true from ZX (by omega),show decide (s.size<a+(i+j))=true from ZX (by omega)];simp
def M1(s:ByteArray)(a:Nat)(b:Bool):Nat×Bool:=bif b then(a,true)else(Aq s 2 a,(B6 s 2 a:Int) !=1)
def Uk(a e:Nat)(b:Bool):Bool:=bif b then true else((a:Int) !=(e:Int))
def Aa1(s:ByteArray)(nm:ByteArray)(t ls a e:Nat):Option (Rr×Nat×Bool):=
 if t=1 then some (⟨nm,t,ls,B6 s 4 a,⟨#[]⟩,0,⟨#[]⟩⟩,Aq s 4 a,Uk (Aq s 4 a) e (B7 s 4 a false))
 else if t=16 then
  if B7 s 1 a false=true∨s.size<Aq s 1 a+B6 s 1 a then none
  else some (⟨nm,t,ls,0,s.extract (Aq s 1 a) (Aq s 1 a+B6 s 1 a),0,⟨#[]⟩⟩,Aq s 1 a+B6 s 1 a,Uk (Aq s 1 a+B6 s 1 a) e false)
 else if t=33 then
  some (⟨nm,t,ls,0,⟨#[]⟩,B6 s 2 (Aq s 4 a),(Dp s (Aq s 2 (Aq s 4 a)) (B7 s 2 (Aq s 4 a) ((B6 s 4 a:Int) !=0))).1⟩,
   (Dp s (Aq s 2 (Aq s 4 a)) (B7 s 2 (Aq s 4 a) ((B6 s 4 a:Int) !=0))).2.1,
   Uk (Dp s (Aq s 2 (Aq s 4 a)) (B7 s 2 (Aq s 4 a) ((B6 s 4 a:Int) !=0))).2.1 e (Dp s (Aq s 2 (Aq s 4 a)) (B7 s 2 (Aq s 4 a) ((B6 s 4 a:Int) !=0))).2.2)
 else some (⟨nm,t,ls,0,⟨#[]⟩,0,⟨#[]⟩⟩,a,Uk a e false)
def Xx(s:ByteArray)(nm:ByteArray)(a1:Nat)(b1:Bool):Option (Rr×Nat×Bool):=
 let o:=M1 s (Aq s 2 a1) (B7 s 2 a1 b1)
 if B7 s 6 o.1 o.2=true∨s.size<Aq s 6 o.1+B6 s 2 (Aq s 4 o.1)then none
 else Aa1 s nm (B6 s 2 a1) (B6 s 4 o.1) (Aq s 6 o.1) (Aq s 6 o.1+B6 s 2 (Aq s 4 o.1))
def Oj(s:ByteArray)(a:Nat):Option (Rr×Nat×Bool):=Xx s (Dp s a false).1 (Dp s a false).2.1 (Dp s a false).2.2
def Gy(s:ByteArray):Nat→Nat→Bool→List Rr→Option (List Rr×Nat×Bool)
 |0,a,b,L=>some (L,a,b)
 |n+1,a,b,L=>bif b then some (L,a,true)else(Oj s a).bind fun r=>Gy s n r.2.1 r.2.2 (L++[r.1])
structure Hd where
 id:Nat
 fl:Nat
 co:Nat
 one:Nat
 n:Nat
 z:Nat
def hdS(s:ByteArray):Hd:=⟨B6 s 2 0,B6 s 1 (Aq s 2 0),B6 s 1 (Aq s 3 0),B6 s 2 (Aq s 4 0),B6 s 2 (Aq s 6 0),B6 s 4 (Aq s 8 0)⟩
def Hd.ok(h:Hd):Prop:=(h.fl=0∨h.fl=2∨h.fl=128∨h.fl=130)∧h.co≤15∧h.one=1∧h.n≤20∧h.z=0
instance (h:Hd):Decidable h.ok:=by unfold Hd.ok;exact inferInstance
def Cs(s:ByteArray):Ms×Int:=
 if 512<s.size then(A9,2)
 else if 12≤s.size∧(hdS s).ok then
  let Q:=Dp s 12 false
  let o:=M1 s (Aq s 2 Q.2.1) (B7 s 2 Q.2.1 Q.2.2)
  match Gy s (hdS s).n o.1 o.2 []with
  |none=>(A9,1)
  |some (L,a,b)=>
   if b=false∧a=s.size∧A4 ⟨(hdS s).id,decide (128≤(hdS s).fl),decide (2≤(hdS s).fl%4),(hdS s).co,Q.1,B6 s 2 Q.2.1,L⟩=0 then(⟨(hdS s).id,decide (128≤(hdS s).fl),decide (2≤(hdS s).fl%4),(hdS s).co,Q.1,B6 s 2 Q.2.1,L⟩,0)
   else(A9,1)
 else(A9,1)
theorem Aaw{s:ByteArray}(hs:s.size≤1000000):∀(f a:Nat) (l:List ByteArray) (e:Option Nat) (fr:Nat),a≤1000000→e.getD 0≤1000000→l.length≤8→(∀x∈l,x.size≤1000)→
  (Je s f a l e fr).2≤1000000∧∀p,(Je s f a l e fr).1=some p→p.2≤1000000∧p.1.length≤8∧∀x∈p.1,x.size≤1000
 |0,a,l,e,fr,ha,he,hl,hz=>⟨ZU _,fun p h=>by cases h⟩
 |f+1,a,l,e,fr,ha,he,hl,hz=>by
  have ht:=Ag1 s a;have hb:=Is s a;unfold Je;split
  ·split
   ·refine⟨ZU _,fun p h=>?_⟩;cases h;refine⟨?_,hl,hz⟩;cases e with
    |none=>show a+1≤_;omega
    |some y=>exact he
   ·split
    ·split
     ·exact Aaw hs f _ l _ _ ht (Ael he (by omega)) hl hz
     ·exact⟨ht,fun p h=>by cases h⟩
    ·split
     ·rename_i h3;exact Aaw hs f _ _ e fr (Bj (by omega) hs) he (by rw[ZF];exact h3.2.2) (Akz hz hb _)
     ·exact⟨Bj (by omega) hs,fun p h=>by cases h⟩
  ·exact⟨by show max a s.size≤_;omega,fun p h=>by cases h⟩
theorem Uf{s:ByteArray}(hs:s.size≤1000000){a:Nat}(ha:a≤1000000)(b:Bool):(Dp s a b).2.1≤1000000∧(Dp s a b).1.size≤10000:=by
 cases b with
 |true=>exact⟨ha,show(⟨#[]⟩:ByteArray).size≤10000 from by decide⟩
 |false=>
  obtain⟨h1,h2⟩:=Aaw hs (a+10) a [] none a ha (by simp) (by simp) (by simp);rcases hq:Je s (a+10) a [] none a with⟨_|p,x⟩
  ·rw[O0 (b:=false) hq];rw[hq]at h1;exact⟨h1,show(⟨#[]⟩:ByteArray).size≤10000 from by decide⟩
  ·rw[Ts (b:=false) hq];rw[hq]at h2;obtain⟨g1,g2,g3⟩:=h2 p rfl;refine⟨g1,?_⟩;have:=Ads p.1 g3 p.1.length (ZT _);rw[XF]at this;show(Df Kk p.1).size≤_;omega
theorem Amq{s:ByteArray}(hs:s.size≤1000000){a:Nat}(ha:a≤1000000)(b:Bool):(M1 s a b).1≤1000000:=by
 cases b with
 |true=>exact ha
 |false=>exact Bj ha hs
structure Rr.Sh(r:Rr):Prop where
 nm:r.nm.size≤1000000
 tx:r.tx.size≤1000000
 tg:r.tg.size≤1000000
theorem Asm{s:ByteArray}(hs:s.size≤1000000){nm:ByteArray}(hn:nm.size≤10000){t ls a e:Nat}(ha:a≤1000000){r:Rr}{a':Nat}{b':Bool}(h:Aa1 s nm t ls a e=some (r,a',b')):r.Sh∧a'≤1000000:=by
 have h0:(⟨#[]⟩:ByteArray).size=0:=rfl;unfold Aa1 at h;split at h
 ·cases h;exact⟨⟨by show nm.size≤_;omega,by show(⟨#[]⟩:ByteArray).size≤_;omega,by show(⟨#[]⟩:ByteArray).size≤_;omega⟩,Bj ha hs⟩
 ·split at h
  ·split at h
   ·cases h
   ·rename_i h3;cases h;refine⟨⟨by show nm.size≤_;omega,?_,by show(⟨#[]⟩:ByteArray).size≤_;omega⟩,?_⟩
    ·show(s.extract (Aq s 1 a) (Aq s 1 a+B6 s 1 a)).size≤_;rw[ByteArray.size_extract];omega
    ·simp only[not_or]at h3;omega
  ·split at h
   ·cases h;obtain⟨g1,g2⟩:=Uf hs (Bj (Bj ha hs) hs:Aq s 2 (Aq s 4 a)≤1000000) (B7 s 2 (Aq s 4 a) ((B6 s 4 a:Int) !=0));exact⟨⟨by show nm.size≤_;omega,by show(⟨#[]⟩:ByteArray).size≤_;omega,XI g2 (by decide)⟩,g1⟩
   ·cases h;exact⟨⟨by show nm.size≤_;omega,by show(⟨#[]⟩:ByteArray).size≤_;omega,by show(⟨#[]⟩:ByteArray).size≤_;omega⟩,ha⟩
theorem Aul{s:ByteArray}(hs:s.size≤1000000){a:Nat}(ha:a≤1000000){r:Rr}{a':Nat}{b':Bool}(h:Oj s a=some (r,a',b')):r.Sh∧a'≤1000000:=by
 obtain⟨g1,g2⟩:=Uf hs ha false;unfold Oj Xx at h;simp only at h;split at h
 ·cases h
 ·exact Asm hs g2 (Bj (Amq hs (Bj g1 hs) _) hs) h
structure RsI(s:ByteArray)(n:Nat)(R:Option (List Rr×Nat×Bool))(k a:Nat)(b:Bool)(L:List Rr):Prop where
 hr:Gy s (n-k) a b L=R
 hk:k≤n
 hl:L.length=k
 ha:a≤1000000
 hz:∀r∈L,r.Sh
section
variable {s:ByteArray} {n k a:Nat} {R:Option (List Rr×Nat×Bool)} {L:List Rr} {b:Bool}
theorem RsI.start(ha:a≤1000000):RsI s n (Gy s n a b []) 0 a b []:=⟨rfl,ZU _,rfl,ha,by simp⟩
theorem RsI.next(h:RsI s n R k a false L)(hs:s.size≤1000000)(hk:k<n){r:Rr}{a':Nat}{b':Bool}(e:Oj s a=some (r,a',b')):RsI s n R (k+1) a' b' (L++[r]):=by
 have hb:=Aul hs h.ha e;refine⟨?_,hk,by rw[ZF,h.hl];rfl,hb.2,fun x hx=>?_⟩
 ·have:=h.hr;rw[show n-k=(n-(k+1))+1 by omega,Gy,e]at this;exact this
 ·rcases XM.1 hx with hx|hx
  ·exact h.hz x hx
  ·rw[XN.1 hx];exact hb.1
theorem RsI.none(h:RsI s n R k a false L)(hk:k<n)(e:Oj s a=none):R=none:=by
 rw[←h.hr,show n-k=(n-(k+1))+1 by omega,Gy,e];rfl
theorem RsI.stop(h:RsI s n R k a true L):R=some (L,a,true):=by
 rw[←h.hr];rcases n-k with _|m
 ·rfl
 ·rfl
theorem RsI.end_(h:RsI s n R k a b L)(hk:¬k<n):R=some (L,a,b):=by
 have:=h.hk;rw[←h.hr,show n-k=0 by omega];rfl
end
end Pl
theorem C2{env:Nat→V}{H:Nat→Option Ent}{ts:List RT}{cs cs':List V}{v:V}(hG:Jp env H ts [.agg cs,v])(hc:Ek H [] cs cs')(hv:Cl v):∃us gone,Jp env H ts us∧A7 H gone true gone us [.c (.agg cs'),.c v]:=⟨_,[],hG,.bora hc (.same hv (.nil _))⟩
namespace Pl
section
variable {s:ByteArray} {a:Nat}
theorem Hw(h:a+1≤s.size):Cr s a=some (atB s a,a+1):=by
 unfold Cr atB;have:s[a]? =some s[a]:=by simp
 rw[this];rfl
theorem Qj(h:¬a+1≤s.size):Cr s a=none:=by
 unfold Cr;rw[show s[a]? =none from by simp;omega];rfl
theorem Qv:Dx s a 2=atB s a*256+atB s (a+1):=by
 show 256*(256*0+atB s (a+0))+atB s (a+1)=_;rw[Nat.add_zero];omega
theorem Nn:Dx s a 4=Dx s a 2*65536+Dx s (a+2) 2:=by
 rw[Qv,Qv];show 256*(256*Dx s a 2+atB s (a+2))+atB s (a+3)=_;rw[Qv,show a+2+1=a+3 from rfl];omega
theorem Dt(h:a+2≤s.size):Bt s a=some (Dx s a 2,a+2):=by
 unfold Bt;rw[Hw (by omega),ZA];simp only;rw[Hw (by omega),ZA,Qv]
theorem I3(h:¬a+2≤s.size):Bt s a=none:=by
 unfold Bt;by_cases h1:a+1≤s.size
 ·rw[Hw h1,ZA];simp only;rw[Qj (by omega)];rfl
 ·rw[Qj h1];rfl
theorem Wc(h:a+4≤s.size):Gp s a=some (Dx s a 4,a+4):=by
 unfold Gp;rw[Dt (by omega),ZA];simp only;rw[Dt (by omega),ZA,Nn]
theorem Agr(h:¬a+4≤s.size):Gp s a=none:=by
 unfold Gp;by_cases h1:a+2≤s.size
 ·rw[Dt h1,ZA];simp only;rw[I3 (by omega)];rfl
 ·rw[I3 h1];rfl
end
theorem Al6{s:ByteArray}{a n:Nat}(h:a+n≤s.size):Du s a n=(C6 (s.extract a (a+n))).data.toList:=by
 have key:∀n,a+n≤s.size→Du s a n=(s.extract a (a+n)).data.toList.map F8:=by
  intro n
  induction n with
  |zero=>intro _;show []=_;rw[Nat.add_zero,D3,List.drop_eq_nil_of_le (by rw[ZM];omega)];rfl
  |succ n ih=>
   intro hn;show Du s a n++[F8 (UInt8.ofNat (atB s (a+n)))]=_;have hl:s.data.toList.length=s.size:=by simp
   rw[ih (by omega),D3,D3,←Nat.add_assoc,Vn (show a+n<s.data.toList.length by omega),List.drop_append_of_le_length (by rw[ZM];omega),ZI];congr 1;have e1:s[a+n]? =some s[a+n]:=by simp
   rw[Gu e1];simp;rfl
 rw[key n h];unfold C6;simp
theorem Adx{s:ByteArray}:∀(f a:Nat) (l:List ByteArray) (e:Option Nat) (fr:Nat),l.length≤8→(Je s f a l e fr).1=nameR s f a l e fr
 |0,a,l,e,fr,hl=>rfl
 |f+1,a,l,e,fr,hl=>by
  unfold Je nameR;rw[if_pos hl];by_cases c:a+1≤s.size
  ·rw[if_pos c,Hw c,ZA];simp only;by_cases c0:atB s a=0
   ·rw[if_pos c0,if_pos c0]
   ·rw[if_neg c0,if_neg c0];by_cases c1:192≤atB s a
    ·rw[if_pos c1,if_pos c1];have hb:=Is s a;by_cases c2:a+2≤s.size
     ·rw[Hw (a:=a+1) (by omega),ZA];simp only;rw[show atB s a%64=atB s a-192 by omega];by_cases c3:(atB s a-192)*256+atB s (a+1)<fr
      ·rw[if_pos ⟨c2,c3⟩,if_pos c3];exact Adx f _ l _ _ hl
      ·rw[if_neg (fun q=>c3 q.2),if_neg c3]
     ·rw[if_neg (fun q=>c2 q.1),Qj (by omega)];rfl
    ·rw[if_neg c1,if_neg c1];unfold Fo;by_cases c2:a+1+atB s a≤s.size
     ·rw[if_pos c2,ZA];simp only;rw[←Al6 c2];by_cases c3:lab (Du s (a+1) (atB s a))=true
      ·rw[if_pos c3];have eB:C6 (s.extract (a+1) (a+1+atB s a))=bA (Du s (a+1) (atB s a)):=by rw[Al6 c2,Abt]
       by_cases c4:l.length+1≤8
       ·rw[if_pos ⟨c2,c3,c4⟩,(Cf (b:=false) c2).2.1,eB];exact Adx f _ _ e fr (by rw[ZF];exact c4)
       ·rw[if_neg (fun q=>c4 q.2.2)];cases f with
        |zero=>rfl
        |succ f=>unfold nameR;rw[if_neg (by rw[ZF];exact c4)]
      ·rw[if_neg (fun q=>c3 q.2.1),if_neg c3]
     ·rw[if_neg (fun q=>c2 q.1),if_neg c2];rfl
  ·rw[if_neg c,Qj c];rfl
theorem Aeh(s:ByteArray)(a:Nat):(∀v a',Eq s a=some (v,a')→Dp s a false=(v,a',false))∧(Eq s a=none→(Dp s a false).2.2=true):=by
 have h:=Adx (s:=s) (a+10) a [] none a (by simp);rcases hq:Je s (a+10) a [] none a with⟨_|p,x⟩
 ·rw[hq]at h;have e:Eq s a=none:=by unfold Eq;rw[←h];rfl
  refine⟨fun v a' h=>(by rw[e]at h;cases h),fun _=>by rw[O0 (b:=false) hq]⟩
 ·rw[hq]at h;have e:Eq s a=some (Df Kk p.1,p.2):=by unfold Eq;rw[←h];rfl
  refine⟨fun v a' h=>?_,fun h=>(by rw[e]at h;cases h)⟩;rw[e]at h;cases h;exact Ts (b:=false) hq
end Pl
end Go.Proofs.YtbnocibpoghfhaaGreatDoor
