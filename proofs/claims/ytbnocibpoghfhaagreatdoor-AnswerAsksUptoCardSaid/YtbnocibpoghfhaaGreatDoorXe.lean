/- Texts of this claim, joined. -/
import Derived.WalkKit
import Derived.Defers
import Derived.Recover
import Derived.Laws.Pointers
import Derived.Test.YtbnocibpoghfhaaGreatDoorRows
import Derived.Test.YtbnocibpoghfhaaGreatDoorXa
import Derived.Test.YtbnocibpoghfhaaGreatDoorXb
import Derived.Test.YtbnocibpoghfhaaGreatDoorXc
import Derived.Test.YtbnocibpoghfhaaGreatDoorXd
set_option linter.unusedSimpArgs false
set_option linter.unusedVariables false
namespace Go.Proofs.YtbnocibpoghfhaaGreatDoor
open Go Go.RowKit Pl
set_option maxHeartbeats 4000000 in
theorem Afk{s:ByteArray}{v:Ms}(h:Od s=some v)(hs:s.size≤1000000):H3 Tryz.prog 38 [.mn rdT (rdC s 0) (rdC s s.size)] [.p (.c (.agg v.row))]:=by
 unfold Od at h;refine Ame Im rfl (Ka rfl) ?_;refine G1 ?_;intro gg;revert gg;intro gz;rcases e1:Bt s 0 with _|⟨i,a1⟩
 ·rw[e1]at h;cases h
 rw[e1,ZA]at h;simp only at h;have be1:=Bk e1;(refine .inr (.inl ⟨_,_,false,0::([]++[]),?_,Bl e1 hs,Ab,oI,dI,?_⟩);focus (exact wI));(refine goI ?_;repeat (intro gg;refine goI ?_));revert gg;intro gb;rcases e2:Cr s a1 with _|⟨fl,a2⟩
 ·rw[e2]at h;cases h
 rw[e2,ZA]at h;simp only at h;have be2:=C4 e2;(refine .inr (.inl ⟨_,_,false,0::([]++[]),?_,Em e2 hs,Ab,oI,dI,?_⟩);focus (exact wI));refine G1 ?_;intro gg;rcases e3:Cr s a2 with _|⟨co,a3⟩
 ·rw[e3]at h;cases h
 rw[e3,ZA]at h;simp only at h;have be3:=C4 e3;(refine .inr (.inl ⟨_,_,false,0::([]++[]),?_,Em e3 hs,Ab,oI,dI,?_⟩);focus (exact wI));refine G1 ?_;intro gg;refine⟨_,rfl,?_⟩;refine G0 ?_;rw[Avt be2.1];by_cases q1:Af0 fl=true;rotate_left
 ·rw[if_neg (by simp[q1])]at h;cases h
 rw[q1]at h ⊢;refine G0 ?_;by_cases q2:co<16;rotate_left
 ·rw[if_neg (by simp[q2])]at h;cases h
 rw[if_pos (by simp[q2])]at h;(refine .inl ⟨_,_,true,[],aI,Bi _ (ZX (by omega)),(fun _=>fI),nI,?_⟩);refine G1 ?_;intro gg;refine⟨_,rfl,?_⟩;refine G0 ?_;refine⟨_,rfl,?_⟩;refine G0 ?_;rw[Ave be2.1,Avf be2.1];obtain⟨an,han⟩:∃x,x=decide (128≤fl):=⟨_,rfl⟩;obtain⟨ct,hct⟩:∃x,x=decide (fl%4≥2):=⟨_,rfl⟩;rw[←han,←hct]at h ⊢;rcases e4:Bt s a3 with _|⟨one,a4⟩
 ·rw[e4]at h;cases h
 rw[e4,ZA]at h;simp only at h;have be4:=Bk e4;(refine .inr (.inl ⟨_,_,false,0::([]++[]),?_,Bl e4 hs,Ab,oI,dI,?_⟩);focus (exact wI));refine G1 ?_;intro gg;by_cases c4:one=1;rotate_left
 ·rw[if_neg c4]at h;cases h
 rw[if_pos c4]at h;(refine .inl ⟨_,_,true,[],aI,Bi _ (ZR.2 (by omega)),(fun _=>fI),nI,?_⟩);refine G1 ?_;intro gg;rcases e5:Bt s a4 with _|⟨n,a5⟩
 ·rw[e5]at h;cases h
 rw[e5,ZA]at h;simp only at h;have be5:=Bk e5;(refine .inr (.inl ⟨_,_,false,0::([]++[]),?_,Bl e5 hs,Ab,oI,dI,?_⟩);focus (exact wI));refine G1 ?_;intro gg;by_cases c5:n≤20;rotate_left
 ·rw[if_neg c5]at h;cases h
 rw[if_pos c5]at h;rw[show(decide ((n:Int)≤20))=true from ZX (by omega)];refine G0 ?_;rcases e6:Bt s a5 with _|⟨z,a6⟩
 ·rw[e6]at h;cases h
 rw[e6,ZA]at h;simp only at h;have be6:=Bk e6;(refine .inr (.inl ⟨_,_,false,0::([]++[]),?_,Bl e6 hs,Ab,oI,dI,?_⟩);focus (exact wI));refine G1 ?_;intro gg;by_cases c6:z=0;rotate_left
 ·rw[if_neg c6]at h;cases h
 rw[if_pos c6]at h;rw[show((z:Int)==0)=true from ZR.2 (by omega)];refine G0 ?_;rcases e7:Bt s a6 with _|⟨y,a7⟩
 ·rw[e7]at h;cases h
 rw[e7,ZA]at h;simp only at h;have be7:=Bk e7;(refine .inr (.inl ⟨_,_,false,0::([]++[]),?_,Bl e7 hs,Ab,oI,dI,?_⟩);focus (exact wI));refine G1 ?_;intro gg;by_cases c7:y=0;rotate_left
 ·rw[if_neg c7]at h;cases h
 rw[if_pos c7]at h;(refine .inl ⟨_,_,true,[],aI,Bi _ (ZR.2 (by omega)),(fun _=>fI),nI,?_⟩);refine G1 ?_;intro gg;rcases e8:Eq s a7 with _|⟨qn,a8⟩
 ·rw[e8]at h;cases h
 rw[e8,ZA]at h;simp only at h;have be8:=Ij e8;(refine .inr (.inl ⟨_,_,false,0::([]++[]),?_,Kh e8 hs (by omega),Ab,oI,dI,?_⟩);focus (exact wI));refine G1 ?_;intro gg;rcases e9:Bt s a8 with _|⟨qt,a9⟩
 ·rw[e9]at h;cases h
 rw[e9,ZA]at h;simp only at h;have be9:=Bk e9;(refine .inr (.inl ⟨_,_,false,0::([]++[]),?_,Bl e9 hs,Ab,oI,dI,?_⟩);focus (exact wI));refine G1 ?_;intro gg;rcases e10:Bt s a9 with _|⟨d,a10⟩
 ·rw[e10]at h;cases h
 rw[e10,ZA]at h;simp only at h;have be10:=Bk e10;(refine .inr (.inl ⟨_,_,false,0::([]++[]),?_,Bl e10 hs,Ab,oI,dI,?_⟩);focus (exact wI));refine G1 ?_;intro gg;by_cases c10:d=1;rotate_left
 ·rw[if_neg c10]at h;cases h
 rw[if_pos c10]at h;(refine .inl ⟨_,_,true,[],aI,Bi _ (ZR.2 (by omega)),(fun _=>fI),nI,?_⟩);refine G1 ?_;intro gg;have hT:=be10.2.2;clear e1 e2 e3 e4 e5 e6 e7 e8 e9 e10 be1 be2 be3 be4 be6 be7 be9 be10;(refine⟨[],none,{p:Nat×Nat×List Rr×Nat//RcI s n (Fg s n a10) p.1 p.2.1 p.2.2.1},[],fun⟨⟨k,a,L,g⟩,hp⟩=>[(0,.ptr 0 0 0 0),(2,.ptr 32 gz 0 0),(3,.ptr 48 gb 0 0),(65,.v (.int .i64 (n:Int))),(66,.v (.int .i64 (k:Int)))],[],fun⟨⟨k,a,L,g⟩,hp⟩=>Ba4 s gz gb i an ct co qn qt a L g,fun⟨⟨k,a,L,g⟩,hp⟩=>n-k,trivial,fun _=>⟨trivial,fun _=>⟨⟨(0,a10,[],0),RcI.start hT⟩,tI,Af _ _,tI,Ae _ _⟩⟩,fun⟨⟨k,a,L,g⟩,hp⟩=>?_⟩);simp only at hp;simp only[Ou,O8,Iz,Iv];have hk:=hp.hk;have hl:=hp.hl;by_cases c11:k<n
 ·rcases e:Pp s a with _|⟨r,a2⟩
  ·have hn:=hp.none c11 e;rw[hn]at h;cases h
  ·have hnx:=RcI.next hp c11 e;have b:=Yv e;have hr7:(([r].map Rr.row):List (List V))=[r.row]:=rfl;have hn20:L.length≤20:=by omega
   rcases L with _|⟨r0,L⟩
   ·refine G0 ?_;(refine Ic ?_ ?_;focus (exact ZX (by omega)));refine G0 ?_;refine⟨?_,?_⟩
    ·refine G0 ?_;refine⟨?_,?_⟩
     ·refine G0 ?_;(refine .inr (.inl ⟨_,_,false,0::([]++[]),?_,Bb e hs hp.ha,Ab,oI,dI,?_⟩);focus (exact wI));(refine goI ?_;repeat (intro gg;refine goI ?_));refine⟨lI,lI,?_⟩;refine G1 ?_;intro gg;(exact⟨none,trivial,fun gr=>⟨⟨(k+1,a2,[r],gg),hnx⟩,by show n-(k+1)<n-k;omega,tI,tI,⟨rfl,⟨rfl,⟨rfl,⟨rfl,trivial⟩⟩⟩⟩,tI⟩⟩)
     ·refine G0 ?_;refine⟨?_,?_⟩
      ·refine G0 ?_;(refine .inr (.inl ⟨_,_,false,0::([]++[]),?_,Bb e hs hp.ha,Ab,oI,dI,?_⟩);focus (exact wI));(refine goI ?_;repeat (intro gg;refine goI ?_));refine⟨lI,lI,?_⟩;refine G1 ?_;intro gg;(exact⟨none,trivial,fun gr=>⟨⟨(k+1,a2,[r],gg),hnx⟩,by show n-(k+1)<n-k;omega,tI,tI,⟨rfl,⟨rfl,⟨rfl,⟨rfl,trivial⟩⟩⟩⟩,tI⟩⟩)
      ·refine G0 ?_;(refine .inr (.inl ⟨_,_,false,0::([]++[]),?_,Bb e hs hp.ha,Ab,oI,dI,?_⟩);focus (exact wI));refine G1 ?_;intro gg;refine⟨?_,?_⟩
       ·refine G1 ?_;intro gg;refine⟨lI,lI,?_⟩;refine G1 ?_;intro gg;(exact⟨none,trivial,fun gr=>⟨⟨(k+1,a2,[r],gg),hnx⟩,by show n-(k+1)<n-k;omega,tI,tI,⟨rfl,⟨rfl,⟨rfl,⟨rfl,trivial⟩⟩⟩⟩,tI⟩⟩)
       ·refine G1 ?_;intro gg;refine⟨lI,lI,?_⟩;refine G1 ?_;intro gg;(exact⟨none,trivial,fun gr=>⟨⟨(k+1,a2,[r],gg),hnx⟩,by show n-(k+1)<n-k;omega,tI,tI,⟨rfl,⟨rfl,⟨rfl,⟨rfl,trivial⟩⟩⟩⟩,tI⟩⟩)
    ·refine G0 ?_;refine⟨?_,?_⟩
     ·refine G0 ?_;refine⟨?_,?_⟩
      ·refine G0 ?_;(refine .inr (.inl ⟨_,_,false,0::([]++[]),?_,Bb e hs hp.ha,Ab,oI,dI,?_⟩);focus (exact wI));(refine goI ?_;repeat (intro gg;refine goI ?_));refine⟨lI,lI,?_⟩;refine G1 ?_;intro gg;(exact⟨none,trivial,fun gr=>⟨⟨(k+1,a2,[r],gg),hnx⟩,by show n-(k+1)<n-k;omega,tI,tI,⟨rfl,⟨rfl,⟨rfl,⟨rfl,trivial⟩⟩⟩⟩,tI⟩⟩)
      ·refine G0 ?_;(refine .inr (.inl ⟨_,_,false,0::([]++[]),?_,Bb e hs hp.ha,Ab,oI,dI,?_⟩);focus (exact wI));refine G1 ?_;intro gg;refine⟨?_,?_⟩
       ·refine G1 ?_;intro gg;refine⟨lI,lI,?_⟩;refine G1 ?_;intro gg;(exact⟨none,trivial,fun gr=>⟨⟨(k+1,a2,[r],gg),hnx⟩,by show n-(k+1)<n-k;omega,tI,tI,⟨rfl,⟨rfl,⟨rfl,⟨rfl,trivial⟩⟩⟩⟩,tI⟩⟩)
       ·refine G1 ?_;intro gg;refine⟨lI,lI,?_⟩;refine G1 ?_;intro gg;(exact⟨none,trivial,fun gr=>⟨⟨(k+1,a2,[r],gg),hnx⟩,by show n-(k+1)<n-k;omega,tI,tI,⟨rfl,⟨rfl,⟨rfl,⟨rfl,trivial⟩⟩⟩⟩,tI⟩⟩)
     ·refine G0 ?_;(refine .inr (.inl ⟨_,_,false,0::([]++[]),?_,Bb e hs hp.ha,Ab,oI,dI,?_⟩);focus (exact wI));refine G1 ?_;intro gg;refine⟨?_,?_⟩
      ·refine G0 ?_;refine⟨?_,?_⟩
       ·refine G1 ?_;intro gg;refine⟨lI,lI,?_⟩;refine G1 ?_;intro gg;(exact⟨none,trivial,fun gr=>⟨⟨(k+1,a2,[r],gg),hnx⟩,by show n-(k+1)<n-k;omega,tI,tI,⟨rfl,⟨rfl,⟨rfl,⟨rfl,trivial⟩⟩⟩⟩,tI⟩⟩)
       ·refine G1 ?_;intro gg;refine⟨lI,lI,?_⟩;refine G1 ?_;intro gg;(exact⟨none,trivial,fun gr=>⟨⟨(k+1,a2,[r],gg),hnx⟩,by show n-(k+1)<n-k;omega,tI,tI,⟨rfl,⟨rfl,⟨rfl,⟨rfl,trivial⟩⟩⟩⟩,tI⟩⟩)
      ·refine G1 ?_;intro gg;refine⟨lI,lI,?_⟩;refine G1 ?_;intro gg;(exact⟨none,trivial,fun gr=>⟨⟨(k+1,a2,[r],gg),hnx⟩,by show n-(k+1)<n-k;omega,tI,tI,⟨rfl,⟨rfl,⟨rfl,⟨rfl,trivial⟩⟩⟩⟩,tI⟩⟩)
   ·have hn21:L.length≤20:=by simp only[ZJ]at hn20;omega
    refine G0 ?_;(refine Ic ?_ ?_;focus (exact ZX (by omega)));refine G0 ?_;refine⟨?_,?_⟩
    ·refine G0 ?_;refine⟨?_,?_⟩
     ·refine G0 ?_;(refine .inr (.inl ⟨_,_,false,0::([]++[]),?_,Bb e hs hp.ha,Ab,oI,dI,?_⟩);focus (exact wI));(refine goI ?_;repeat (intro gg;refine goI ?_));refine⟨lI,lI,?_⟩;refine G1 ?_;intro gg;(exact⟨none,trivial,fun gr=>⟨⟨(k+1,a2,(r0::L)++[r],gg),hnx⟩,by show n-(k+1)<n-k;omega,tI,tI,⟨rfl,⟨rfl,⟨congrArg (fun x=>some (Ent.mk gg (.t 42) 7 x)) (show(r0::L).map Rr.row++[r.row]=((r0::L)++[r]).map Rr.row by rw[ZI];rfl),⟨rfl,trivial⟩⟩⟩⟩,tI⟩⟩)
     ·refine G0 ?_;refine⟨?_,?_⟩
      ·refine G0 ?_;(refine .inr (.inl ⟨_,_,false,0::([]++[]),?_,Bb e hs hp.ha,Ab,oI,dI,?_⟩);focus (exact wI));(refine goI ?_;repeat (intro gg;refine goI ?_));refine⟨lI,lI,?_⟩;refine G1 ?_;intro gg;(exact⟨none,trivial,fun gr=>⟨⟨(k+1,a2,(r0::L)++[r],gg),hnx⟩,by show n-(k+1)<n-k;omega,tI,tI,⟨rfl,⟨rfl,⟨congrArg (fun x=>some (Ent.mk gg (.t 42) 7 x)) (show(r0::L).map Rr.row++[r.row]=((r0::L)++[r]).map Rr.row by rw[ZI];rfl),⟨rfl,trivial⟩⟩⟩⟩,tI⟩⟩)
      ·refine G0 ?_;(refine .inr (.inl ⟨_,_,false,0::([]++[]),?_,Bb e hs hp.ha,Ab,oI,dI,?_⟩);focus (exact wI));refine G1 ?_;intro gg;refine⟨?_,?_⟩
       ·refine G1 ?_;intro gg;refine⟨lI,lI,?_⟩;refine G1 ?_;intro gg;(exact⟨none,trivial,fun gr=>⟨⟨(k+1,a2,(r0::L)++[r],gg),hnx⟩,by show n-(k+1)<n-k;omega,tI,tI,⟨rfl,⟨rfl,⟨congrArg (fun x=>some (Ent.mk gg (.t 42) 7 x)) (show(r0::L).map Rr.row++[r.row]=((r0::L)++[r]).map Rr.row by rw[ZI];rfl),⟨rfl,trivial⟩⟩⟩⟩,tI⟩⟩)
       ·refine G1 ?_;intro gg;refine⟨lI,lI,?_⟩;refine G1 ?_;intro gg;(exact⟨none,trivial,fun gr=>⟨⟨(k+1,a2,(r0::L)++[r],gg),hnx⟩,by show n-(k+1)<n-k;omega,tI,tI,⟨rfl,⟨rfl,⟨congrArg (fun x=>some (Ent.mk gg (.t 42) 7 x)) (show(r0::L).map Rr.row++[r.row]=((r0::L)++[r]).map Rr.row by rw[ZI];rfl),⟨rfl,trivial⟩⟩⟩⟩,tI⟩⟩)
    ·refine G0 ?_;refine⟨?_,?_⟩
     ·refine G0 ?_;refine⟨?_,?_⟩
      ·refine G0 ?_;(refine .inr (.inl ⟨_,_,false,0::([]++[]),?_,Bb e hs hp.ha,Ab,oI,dI,?_⟩);focus (exact wI));(refine goI ?_;repeat (intro gg;refine goI ?_));refine⟨lI,lI,?_⟩;refine G1 ?_;intro gg;(exact⟨none,trivial,fun gr=>⟨⟨(k+1,a2,(r0::L)++[r],gg),hnx⟩,by show n-(k+1)<n-k;omega,tI,tI,⟨rfl,⟨rfl,⟨congrArg (fun x=>some (Ent.mk gg (.t 42) 7 x)) (show(r0::L).map Rr.row++[r.row]=((r0::L)++[r]).map Rr.row by rw[ZI];rfl),⟨rfl,trivial⟩⟩⟩⟩,tI⟩⟩)
      ·refine G0 ?_;(refine .inr (.inl ⟨_,_,false,0::([]++[]),?_,Bb e hs hp.ha,Ab,oI,dI,?_⟩);focus (exact wI));refine G1 ?_;intro gg;refine⟨?_,?_⟩
       ·refine G1 ?_;intro gg;refine⟨lI,lI,?_⟩;refine G1 ?_;intro gg;(exact⟨none,trivial,fun gr=>⟨⟨(k+1,a2,(r0::L)++[r],gg),hnx⟩,by show n-(k+1)<n-k;omega,tI,tI,⟨rfl,⟨rfl,⟨congrArg (fun x=>some (Ent.mk gg (.t 42) 7 x)) (show(r0::L).map Rr.row++[r.row]=((r0::L)++[r]).map Rr.row by rw[ZI];rfl),⟨rfl,trivial⟩⟩⟩⟩,tI⟩⟩)
       ·refine G1 ?_;intro gg;refine⟨lI,lI,?_⟩;refine G1 ?_;intro gg;(exact⟨none,trivial,fun gr=>⟨⟨(k+1,a2,(r0::L)++[r],gg),hnx⟩,by show n-(k+1)<n-k;omega,tI,tI,⟨rfl,⟨rfl,⟨congrArg (fun x=>some (Ent.mk gg (.t 42) 7 x)) (show(r0::L).map Rr.row++[r.row]=((r0::L)++[r]).map Rr.row by rw[ZI];rfl),⟨rfl,trivial⟩⟩⟩⟩,tI⟩⟩)
     ·refine G0 ?_;(refine .inr (.inl ⟨_,_,false,0::([]++[]),?_,Bb e hs hp.ha,Ab,oI,dI,?_⟩);focus (exact wI));refine G1 ?_;intro gg;refine⟨?_,?_⟩
      ·refine G0 ?_;refine⟨?_,?_⟩
       ·refine G1 ?_;intro gg;refine⟨lI,lI,?_⟩;refine G1 ?_;intro gg;(exact⟨none,trivial,fun gr=>⟨⟨(k+1,a2,(r0::L)++[r],gg),hnx⟩,by show n-(k+1)<n-k;omega,tI,tI,⟨rfl,⟨rfl,⟨congrArg (fun x=>some (Ent.mk gg (.t 42) 7 x)) (show(r0::L).map Rr.row++[r.row]=((r0::L)++[r]).map Rr.row by rw[ZI];rfl),⟨rfl,trivial⟩⟩⟩⟩,tI⟩⟩)
       ·refine G1 ?_;intro gg;refine⟨lI,lI,?_⟩;refine G1 ?_;intro gg;(exact⟨none,trivial,fun gr=>⟨⟨(k+1,a2,(r0::L)++[r],gg),hnx⟩,by show n-(k+1)<n-k;omega,tI,tI,⟨rfl,⟨rfl,⟨congrArg (fun x=>some (Ent.mk gg (.t 42) 7 x)) (show(r0::L).map Rr.row++[r.row]=((r0::L)++[r]).map Rr.row by rw[ZI];rfl),⟨rfl,trivial⟩⟩⟩⟩,tI⟩⟩)
      ·refine G1 ?_;intro gg;refine⟨lI,lI,?_⟩;refine G1 ?_;intro gg;(exact⟨none,trivial,fun gr=>⟨⟨(k+1,a2,(r0::L)++[r],gg),hnx⟩,by show n-(k+1)<n-k;omega,tI,tI,⟨rfl,⟨rfl,⟨congrArg (fun x=>some (Ent.mk gg (.t 42) 7 x)) (show(r0::L).map Rr.row++[r.row]=((r0::L)++[r]).map Rr.row by rw[ZI];rfl),⟨rfl,trivial⟩⟩⟩⟩,tI⟩⟩)
 ·have he:=hp.end_ c11;rw[he,ZA]at h;simp only at h;rcases L with _|⟨r0,L⟩
  ·refine G0 ?_;(refine Hr ?_ ?_;focus (exact ZY (by omega)));refine G0 ?_;by_cases c12:a=s.size
   ·rw[if_pos c12]at h;cases h;subst c12;refine .inl (cY (Bi _ (beq_self_eq_true _)) ?_);refine G1 ?_;intro gg;(exact⟨_,0::([]++[]),.cell1 rfl rfl rfl rfl rfl rfl .nil,Aei cBI (Jf (gone:=[]) (gone1:=[]) rfl aI (by decide) (by decide) (by decide) (.nil _))⟩)
   ·rw[if_neg c12]at h;cases h
  ·refine G0 ?_;(refine Hr ?_ ?_;focus (exact ZY (by omega)));refine G0 ?_;by_cases c12:a=s.size
   ·rw[if_pos c12]at h;cases h;subst c12;refine .inl (cY (Bi _ (beq_self_eq_true _)) ?_);refine G1 ?_;intro gg;(exact⟨_,0::([]++[]),.cell1 rfl rfl rfl rfl rfl rfl .nil,Aei cBI (Jf (gone:=[]) (gone1:=[]) rfl aI (by decide) (by decide) (by decide) (.nil _))⟩)
   ·rw[if_neg c12]at h;cases h
set_option maxHeartbeats 4000000 in
theorem Adw{s:ByteArray}{R:List Par}(h:Od s=none)(hs:s.size≤1000000):Hi Tryz.prog 38 [.mn rdT (rdC s 0) R] Hl:=by
 unfold Od at h;refine Acq Im rfl (Ka rfl) ?_;refine G1 ?_;intro gg;revert gg;intro gz;rcases e1:Bt s 0 with _|⟨i,a1⟩
 ·(refine .inr (.inr ⟨_,false,0::([]++[]),_,?_,Ea (R:=rdC s 0) e1 hs,rfl⟩);focus (exact wI))
 rw[e1,ZA]at h;simp only at h;have be1:=Bk e1;(refine .inr (.inl ⟨_,_,false,0::([]++[]),?_,Bl e1 hs,Ab,oI,dI,?_⟩);focus (exact wI));(refine goI ?_;repeat (intro gg;refine goI ?_));revert gg;intro gb;rcases e2:Cr s a1 with _|⟨fl,a2⟩
 ·(refine .inr (.inr ⟨_,false,0::([]++[]),_,?_,Kr (R:=rdC s 0) e2 hs,rfl⟩);focus (exact wI))
 rw[e2,ZA]at h;simp only at h;have be2:=C4 e2;(refine .inr (.inl ⟨_,_,false,0::([]++[]),?_,Em e2 hs,Ab,oI,dI,?_⟩);focus (exact wI));refine G1 ?_;intro gg;rcases e3:Cr s a2 with _|⟨co,a3⟩
 ·(refine .inr (.inr ⟨_,false,0::([]++[]),_,?_,Kr (R:=rdC s 0) e3 hs,rfl⟩);focus (exact wI))
 rw[e3,ZA]at h;simp only at h;have be3:=C4 e3;(refine .inr (.inl ⟨_,_,false,0::([]++[]),?_,Em e3 hs,Ab,oI,dI,?_⟩);focus (exact wI));refine G1 ?_;intro gg;refine⟨_,rfl,?_⟩;refine G0 ?_;rw[Avt be2.1];by_cases q1:Af0 fl=true;rotate_left
 ·rw[XE.2 q1];refine G0 ?_;(exact .inr (.inr ⟨_,true,[],_,aM,Cj _ rfl,rfl⟩))
 rw[q1]at h ⊢;refine G0 ?_;by_cases q2:co<16;rotate_left
 ·(exact .inr (.inr ⟨_,true,[],_,aM,Cj _ (ZY (by omega)),rfl⟩))
 rw[if_pos (by simp[q2])]at h;(refine .inl ⟨_,_,true,[],aI,Bi _ (ZX (by omega)),(fun _=>fI),nI,?_⟩);refine G1 ?_;intro gg;refine⟨_,rfl,?_⟩;refine G0 ?_;refine⟨_,rfl,?_⟩;refine G0 ?_;rw[Ave be2.1,Avf be2.1];obtain⟨an,han⟩:∃x,x=decide (128≤fl):=⟨_,rfl⟩;obtain⟨ct,hct⟩:∃x,x=decide (fl%4≥2):=⟨_,rfl⟩;rw[←han,←hct]at h ⊢;rcases e4:Bt s a3 with _|⟨one,a4⟩
 ·(refine .inr (.inr ⟨_,false,0::([]++[]),_,?_,Ea (R:=rdC s 0) e4 hs,rfl⟩);focus (exact wI))
 rw[e4,ZA]at h;simp only at h;have be4:=Bk e4;(refine .inr (.inl ⟨_,_,false,0::([]++[]),?_,Bl e4 hs,Ab,oI,dI,?_⟩);focus (exact wI));refine G1 ?_;intro gg;by_cases c4:one=1;rotate_left
 ·(exact .inr (.inr ⟨_,true,[],_,aM,Cj _ (ZG.2 (by omega)),rfl⟩))
 rw[if_pos c4]at h;(refine .inl ⟨_,_,true,[],aI,Bi _ (ZR.2 (by omega)),(fun _=>fI),nI,?_⟩);refine G1 ?_;intro gg;rcases e5:Bt s a4 with _|⟨n,a5⟩
 ·(refine .inr (.inr ⟨_,false,0::([]++[]),_,?_,Ea (R:=rdC s 0) e5 hs,rfl⟩);focus (exact wI))
 rw[e5,ZA]at h;simp only at h;have be5:=Bk e5;(refine .inr (.inl ⟨_,_,false,0::([]++[]),?_,Bl e5 hs,Ab,oI,dI,?_⟩);focus (exact wI));refine G1 ?_;intro gg;by_cases c5:n≤20;rotate_left
 ·rw[show(decide ((n:Int)≤20))=false from ZY (by omega)];refine G0 ?_;(exact .inr (.inr ⟨_,true,[],_,aM,Cj _ rfl,rfl⟩))
 rw[if_pos c5]at h;rw[show(decide ((n:Int)≤20))=true from ZX (by omega)];refine G0 ?_;rcases e6:Bt s a5 with _|⟨z,a6⟩
 ·(refine .inr (.inr ⟨_,false,0::([]++[]),_,?_,Ea (R:=rdC s 0) e6 hs,rfl⟩);focus (exact wI))
 rw[e6,ZA]at h;simp only at h;have be6:=Bk e6;(refine .inr (.inl ⟨_,_,false,0::([]++[]),?_,Bl e6 hs,Ab,oI,dI,?_⟩);focus (exact wI));refine G1 ?_;intro gg;by_cases c6:z=0;rotate_left
 ·rw[show((z:Int)==0)=false from ZG.2 (by omega)];refine G0 ?_;(exact .inr (.inr ⟨_,true,[],_,aM,Cj _ rfl,rfl⟩))
 rw[if_pos c6]at h;rw[show((z:Int)==0)=true from ZR.2 (by omega)];refine G0 ?_;rcases e7:Bt s a6 with _|⟨y,a7⟩
 ·(refine .inr (.inr ⟨_,false,0::([]++[]),_,?_,Ea (R:=rdC s 0) e7 hs,rfl⟩);focus (exact wI))
 rw[e7,ZA]at h;simp only at h;have be7:=Bk e7;(refine .inr (.inl ⟨_,_,false,0::([]++[]),?_,Bl e7 hs,Ab,oI,dI,?_⟩);focus (exact wI));refine G1 ?_;intro gg;by_cases c7:y=0;rotate_left
 ·(exact .inr (.inr ⟨_,true,[],_,aM,Cj _ (ZG.2 (by omega)),rfl⟩))
 rw[if_pos c7]at h;(refine .inl ⟨_,_,true,[],aI,Bi _ (ZR.2 (by omega)),(fun _=>fI),nI,?_⟩);refine G1 ?_;intro gg;rcases e8:Eq s a7 with _|⟨qn,a8⟩
 ·(refine .inr (.inr ⟨_,false,0::([]++[]),_,?_,Vj (R:=rdC s 0) e8 hs (by omega),rfl⟩);focus (exact wI))
 rw[e8,ZA]at h;simp only at h;have be8:=Ij e8;(refine .inr (.inl ⟨_,_,false,0::([]++[]),?_,Kh e8 hs (by omega),Ab,oI,dI,?_⟩);focus (exact wI));refine G1 ?_;intro gg;rcases e9:Bt s a8 with _|⟨qt,a9⟩
 ·(refine .inr (.inr ⟨_,false,0::([]++[]),_,?_,Ea (R:=rdC s 0) e9 hs,rfl⟩);focus (exact wI))
 rw[e9,ZA]at h;simp only at h;have be9:=Bk e9;(refine .inr (.inl ⟨_,_,false,0::([]++[]),?_,Bl e9 hs,Ab,oI,dI,?_⟩);focus (exact wI));refine G1 ?_;intro gg;rcases e10:Bt s a9 with _|⟨d,a10⟩
 ·(refine .inr (.inr ⟨_,false,0::([]++[]),_,?_,Ea (R:=rdC s 0) e10 hs,rfl⟩);focus (exact wI))
 rw[e10,ZA]at h;simp only at h;have be10:=Bk e10;(refine .inr (.inl ⟨_,_,false,0::([]++[]),?_,Bl e10 hs,Ab,oI,dI,?_⟩);focus (exact wI));refine G1 ?_;intro gg;by_cases c10:d=1;rotate_left
 ·(exact .inr (.inr ⟨_,true,[],_,aM,Cj _ (ZG.2 (by omega)),rfl⟩))
 rw[if_pos c10]at h;(refine .inl ⟨_,_,true,[],aI,Bi _ (ZR.2 (by omega)),(fun _=>fI),nI,?_⟩);refine G1 ?_;intro gg;have hT:=be10.2.2;clear e1 e2 e3 e4 e5 e6 e7 e8 e9 e10 be1 be2 be3 be4 be6 be7 be9 be10;(refine⟨[],none,{p:Nat×Nat×List Rr×Nat//RcI s n (Fg s n a10) p.1 p.2.1 p.2.2.1},[],fun⟨⟨k,a,L,g⟩,hp⟩=>[(0,.ptr 0 0 0 0),(2,.ptr 32 gz 0 0),(3,.ptr 48 gb 0 0),(65,.v (.int .i64 (n:Int))),(66,.v (.int .i64 (k:Int)))],[],fun⟨⟨k,a,L,g⟩,hp⟩=>Ba4 s gz gb i an ct co qn qt a L g,fun⟨⟨k,a,L,g⟩,hp⟩=>n-k,trivial,fun _=>⟨trivial,fun _=>⟨⟨(0,a10,[],0),RcI.start hT⟩,tI,Af _ _,tI,Ae _ _⟩⟩,fun⟨⟨k,a,L,g⟩,hp⟩=>?_⟩);simp only at hp;simp only[Ou,O8,Iz,Iv];have hk:=hp.hk;have hl:=hp.hl;by_cases c11:k<n
 ·rcases e:Pp s a with _|⟨r,a2⟩
  ·have hn:=hp.none c11 e;rcases L with _|⟨r0,L⟩
   ·refine G0 ?_;(refine Ic ?_ ?_;focus (exact ZX (by omega)));refine G0 ?_;refine⟨?_,?_⟩
    ·refine G0 ?_;refine⟨?_,?_⟩
     ·refine G0 ?_;(refine .inr (.inr ⟨_,false,0::([]++[]),_,?_,De (R:=rdC s 0) e hs hp.ha,rfl⟩);focus (exact wI))
     ·refine G0 ?_;refine⟨?_,?_⟩
      ·refine G0 ?_;(refine .inr (.inr ⟨_,false,0::([]++[]),_,?_,De (R:=rdC s 0) e hs hp.ha,rfl⟩);focus (exact wI))
      ·refine G0 ?_;(refine .inr (.inr ⟨_,false,0::([]++[]),_,?_,De (R:=rdC s 0) e hs hp.ha,rfl⟩);focus (exact wI))
    ·refine G0 ?_;refine⟨?_,?_⟩
     ·refine G0 ?_;refine⟨?_,?_⟩
      ·refine G0 ?_;(refine .inr (.inr ⟨_,false,0::([]++[]),_,?_,De (R:=rdC s 0) e hs hp.ha,rfl⟩);focus (exact wI))
      ·refine G0 ?_;(refine .inr (.inr ⟨_,false,0::([]++[]),_,?_,De (R:=rdC s 0) e hs hp.ha,rfl⟩);focus (exact wI))
     ·refine G0 ?_;(refine .inr (.inr ⟨_,false,0::([]++[]),_,?_,De (R:=rdC s 0) e hs hp.ha,rfl⟩);focus (exact wI))
   ·refine G0 ?_;(refine Ic ?_ ?_;focus (exact ZX (by omega)));refine G0 ?_;refine⟨?_,?_⟩
    ·refine G0 ?_;refine⟨?_,?_⟩
     ·refine G0 ?_;(refine .inr (.inr ⟨_,false,0::([]++[]),_,?_,De (R:=rdC s 0) e hs hp.ha,rfl⟩);focus (exact wI))
     ·refine G0 ?_;refine⟨?_,?_⟩
      ·refine G0 ?_;(refine .inr (.inr ⟨_,false,0::([]++[]),_,?_,De (R:=rdC s 0) e hs hp.ha,rfl⟩);focus (exact wI))
      ·refine G0 ?_;(refine .inr (.inr ⟨_,false,0::([]++[]),_,?_,De (R:=rdC s 0) e hs hp.ha,rfl⟩);focus (exact wI))
    ·refine G0 ?_;refine⟨?_,?_⟩
     ·refine G0 ?_;refine⟨?_,?_⟩
      ·refine G0 ?_;(refine .inr (.inr ⟨_,false,0::([]++[]),_,?_,De (R:=rdC s 0) e hs hp.ha,rfl⟩);focus (exact wI))
      ·refine G0 ?_;(refine .inr (.inr ⟨_,false,0::([]++[]),_,?_,De (R:=rdC s 0) e hs hp.ha,rfl⟩);focus (exact wI))
     ·refine G0 ?_;(refine .inr (.inr ⟨_,false,0::([]++[]),_,?_,De (R:=rdC s 0) e hs hp.ha,rfl⟩);focus (exact wI))
  ·have hnx:=RcI.next hp c11 e;have b:=Yv e;have hr7:(([r].map Rr.row):List (List V))=[r.row]:=rfl;have hn20:L.length≤20:=by omega
   rcases L with _|⟨r0,L⟩
   ·refine G0 ?_;(refine Ic ?_ ?_;focus (exact ZX (by omega)));refine G0 ?_;refine⟨?_,?_⟩
    ·refine G0 ?_;refine⟨?_,?_⟩
     ·refine G0 ?_;(refine .inr (.inl ⟨_,_,false,0::([]++[]),?_,Bb e hs hp.ha,Ab,oI,dI,?_⟩);focus (exact wI));(refine goI ?_;repeat (intro gg;refine goI ?_));refine⟨lI,lI,?_⟩;refine G1 ?_;intro gg;(exact⟨none,trivial,fun gr=>⟨⟨(k+1,a2,[r],gg),hnx⟩,by show n-(k+1)<n-k;omega,tI,tI,⟨rfl,⟨rfl,⟨rfl,⟨rfl,trivial⟩⟩⟩⟩,tI⟩⟩)
     ·refine G0 ?_;refine⟨?_,?_⟩
      ·refine G0 ?_;(refine .inr (.inl ⟨_,_,false,0::([]++[]),?_,Bb e hs hp.ha,Ab,oI,dI,?_⟩);focus (exact wI));(refine goI ?_;repeat (intro gg;refine goI ?_));refine⟨lI,lI,?_⟩;refine G1 ?_;intro gg;(exact⟨none,trivial,fun gr=>⟨⟨(k+1,a2,[r],gg),hnx⟩,by show n-(k+1)<n-k;omega,tI,tI,⟨rfl,⟨rfl,⟨rfl,⟨rfl,trivial⟩⟩⟩⟩,tI⟩⟩)
      ·refine G0 ?_;(refine .inr (.inl ⟨_,_,false,0::([]++[]),?_,Bb e hs hp.ha,Ab,oI,dI,?_⟩);focus (exact wI));refine G1 ?_;intro gg;refine⟨?_,?_⟩
       ·refine G1 ?_;intro gg;refine⟨lI,lI,?_⟩;refine G1 ?_;intro gg;(exact⟨none,trivial,fun gr=>⟨⟨(k+1,a2,[r],gg),hnx⟩,by show n-(k+1)<n-k;omega,tI,tI,⟨rfl,⟨rfl,⟨rfl,⟨rfl,trivial⟩⟩⟩⟩,tI⟩⟩)
       ·refine G1 ?_;intro gg;refine⟨lI,lI,?_⟩;refine G1 ?_;intro gg;(exact⟨none,trivial,fun gr=>⟨⟨(k+1,a2,[r],gg),hnx⟩,by show n-(k+1)<n-k;omega,tI,tI,⟨rfl,⟨rfl,⟨rfl,⟨rfl,trivial⟩⟩⟩⟩,tI⟩⟩)
    ·refine G0 ?_;refine⟨?_,?_⟩
     ·refine G0 ?_;refine⟨?_,?_⟩
      ·refine G0 ?_;(refine .inr (.inl ⟨_,_,false,0::([]++[]),?_,Bb e hs hp.ha,Ab,oI,dI,?_⟩);focus (exact wI));(refine goI ?_;repeat (intro gg;refine goI ?_));refine⟨lI,lI,?_⟩;refine G1 ?_;intro gg;(exact⟨none,trivial,fun gr=>⟨⟨(k+1,a2,[r],gg),hnx⟩,by show n-(k+1)<n-k;omega,tI,tI,⟨rfl,⟨rfl,⟨rfl,⟨rfl,trivial⟩⟩⟩⟩,tI⟩⟩)
      ·refine G0 ?_;(refine .inr (.inl ⟨_,_,false,0::([]++[]),?_,Bb e hs hp.ha,Ab,oI,dI,?_⟩);focus (exact wI));refine G1 ?_;intro gg;refine⟨?_,?_⟩
       ·refine G1 ?_;intro gg;refine⟨lI,lI,?_⟩;refine G1 ?_;intro gg;(exact⟨none,trivial,fun gr=>⟨⟨(k+1,a2,[r],gg),hnx⟩,by show n-(k+1)<n-k;omega,tI,tI,⟨rfl,⟨rfl,⟨rfl,⟨rfl,trivial⟩⟩⟩⟩,tI⟩⟩)
       ·refine G1 ?_;intro gg;refine⟨lI,lI,?_⟩;refine G1 ?_;intro gg;(exact⟨none,trivial,fun gr=>⟨⟨(k+1,a2,[r],gg),hnx⟩,by show n-(k+1)<n-k;omega,tI,tI,⟨rfl,⟨rfl,⟨rfl,⟨rfl,trivial⟩⟩⟩⟩,tI⟩⟩)
     ·refine G0 ?_;(refine .inr (.inl ⟨_,_,false,0::([]++[]),?_,Bb e hs hp.ha,Ab,oI,dI,?_⟩);focus (exact wI));refine G1 ?_;intro gg;refine⟨?_,?_⟩
      ·refine G0 ?_;refine⟨?_,?_⟩
       ·refine G1 ?_;intro gg;refine⟨lI,lI,?_⟩;refine G1 ?_;intro gg;(exact⟨none,trivial,fun gr=>⟨⟨(k+1,a2,[r],gg),hnx⟩,by show n-(k+1)<n-k;omega,tI,tI,⟨rfl,⟨rfl,⟨rfl,⟨rfl,trivial⟩⟩⟩⟩,tI⟩⟩)
       ·refine G1 ?_;intro gg;refine⟨lI,lI,?_⟩;refine G1 ?_;intro gg;(exact⟨none,trivial,fun gr=>⟨⟨(k+1,a2,[r],gg),hnx⟩,by show n-(k+1)<n-k;omega,tI,tI,⟨rfl,⟨rfl,⟨rfl,⟨rfl,trivial⟩⟩⟩⟩,tI⟩⟩)
      ·refine G1 ?_;intro gg;refine⟨lI,lI,?_⟩;refine G1 ?_;intro gg;(exact⟨none,trivial,fun gr=>⟨⟨(k+1,a2,[r],gg),hnx⟩,by show n-(k+1)<n-k;omega,tI,tI,⟨rfl,⟨rfl,⟨rfl,⟨rfl,trivial⟩⟩⟩⟩,tI⟩⟩)
   ·have hn21:L.length≤20:=by simp only[ZJ]at hn20;omega
    refine G0 ?_;(refine Ic ?_ ?_;focus (exact ZX (by omega)));refine G0 ?_;refine⟨?_,?_⟩
    ·refine G0 ?_;refine⟨?_,?_⟩
     ·refine G0 ?_;(refine .inr (.inl ⟨_,_,false,0::([]++[]),?_,Bb e hs hp.ha,Ab,oI,dI,?_⟩);focus (exact wI));(refine goI ?_;repeat (intro gg;refine goI ?_));refine⟨lI,lI,?_⟩;refine G1 ?_;intro gg;(exact⟨none,trivial,fun gr=>⟨⟨(k+1,a2,(r0::L)++[r],gg),hnx⟩,by show n-(k+1)<n-k;omega,tI,tI,⟨rfl,⟨rfl,⟨congrArg (fun x=>some (Ent.mk gg (.t 42) 7 x)) (show(r0::L).map Rr.row++[r.row]=((r0::L)++[r]).map Rr.row by rw[ZI];rfl),⟨rfl,trivial⟩⟩⟩⟩,tI⟩⟩)
     ·refine G0 ?_;refine⟨?_,?_⟩
      ·refine G0 ?_;(refine .inr (.inl ⟨_,_,false,0::([]++[]),?_,Bb e hs hp.ha,Ab,oI,dI,?_⟩);focus (exact wI));(refine goI ?_;repeat (intro gg;refine goI ?_));refine⟨lI,lI,?_⟩;refine G1 ?_;intro gg;(exact⟨none,trivial,fun gr=>⟨⟨(k+1,a2,(r0::L)++[r],gg),hnx⟩,by show n-(k+1)<n-k;omega,tI,tI,⟨rfl,⟨rfl,⟨congrArg (fun x=>some (Ent.mk gg (.t 42) 7 x)) (show(r0::L).map Rr.row++[r.row]=((r0::L)++[r]).map Rr.row by rw[ZI];rfl),⟨rfl,trivial⟩⟩⟩⟩,tI⟩⟩)
      ·refine G0 ?_;(refine .inr (.inl ⟨_,_,false,0::([]++[]),?_,Bb e hs hp.ha,Ab,oI,dI,?_⟩);focus (exact wI));refine G1 ?_;intro gg;refine⟨?_,?_⟩
       ·refine G1 ?_;intro gg;refine⟨lI,lI,?_⟩;refine G1 ?_;intro gg;(exact⟨none,trivial,fun gr=>⟨⟨(k+1,a2,(r0::L)++[r],gg),hnx⟩,by show n-(k+1)<n-k;omega,tI,tI,⟨rfl,⟨rfl,⟨congrArg (fun x=>some (Ent.mk gg (.t 42) 7 x)) (show(r0::L).map Rr.row++[r.row]=((r0::L)++[r]).map Rr.row by rw[ZI];rfl),⟨rfl,trivial⟩⟩⟩⟩,tI⟩⟩)
       ·refine G1 ?_;intro gg;refine⟨lI,lI,?_⟩;refine G1 ?_;intro gg;(exact⟨none,trivial,fun gr=>⟨⟨(k+1,a2,(r0::L)++[r],gg),hnx⟩,by show n-(k+1)<n-k;omega,tI,tI,⟨rfl,⟨rfl,⟨congrArg (fun x=>some (Ent.mk gg (.t 42) 7 x)) (show(r0::L).map Rr.row++[r.row]=((r0::L)++[r]).map Rr.row by rw[ZI];rfl),⟨rfl,trivial⟩⟩⟩⟩,tI⟩⟩)
    ·refine G0 ?_;refine⟨?_,?_⟩
     ·refine G0 ?_;refine⟨?_,?_⟩
      ·refine G0 ?_;(refine .inr (.inl ⟨_,_,false,0::([]++[]),?_,Bb e hs hp.ha,Ab,oI,dI,?_⟩);focus (exact wI));(refine goI ?_;repeat (intro gg;refine goI ?_));refine⟨lI,lI,?_⟩;refine G1 ?_;intro gg;(exact⟨none,trivial,fun gr=>⟨⟨(k+1,a2,(r0::L)++[r],gg),hnx⟩,by show n-(k+1)<n-k;omega,tI,tI,⟨rfl,⟨rfl,⟨congrArg (fun x=>some (Ent.mk gg (.t 42) 7 x)) (show(r0::L).map Rr.row++[r.row]=((r0::L)++[r]).map Rr.row by rw[ZI];rfl),⟨rfl,trivial⟩⟩⟩⟩,tI⟩⟩)
      ·refine G0 ?_;(refine .inr (.inl ⟨_,_,false,0::([]++[]),?_,Bb e hs hp.ha,Ab,oI,dI,?_⟩);focus (exact wI));refine G1 ?_;intro gg;refine⟨?_,?_⟩
       ·refine G1 ?_;intro gg;refine⟨lI,lI,?_⟩;refine G1 ?_;intro gg;(exact⟨none,trivial,fun gr=>⟨⟨(k+1,a2,(r0::L)++[r],gg),hnx⟩,by show n-(k+1)<n-k;omega,tI,tI,⟨rfl,⟨rfl,⟨congrArg (fun x=>some (Ent.mk gg (.t 42) 7 x)) (show(r0::L).map Rr.row++[r.row]=((r0::L)++[r]).map Rr.row by rw[ZI];rfl),⟨rfl,trivial⟩⟩⟩⟩,tI⟩⟩)
       ·refine G1 ?_;intro gg;refine⟨lI,lI,?_⟩;refine G1 ?_;intro gg;(exact⟨none,trivial,fun gr=>⟨⟨(k+1,a2,(r0::L)++[r],gg),hnx⟩,by show n-(k+1)<n-k;omega,tI,tI,⟨rfl,⟨rfl,⟨congrArg (fun x=>some (Ent.mk gg (.t 42) 7 x)) (show(r0::L).map Rr.row++[r.row]=((r0::L)++[r]).map Rr.row by rw[ZI];rfl),⟨rfl,trivial⟩⟩⟩⟩,tI⟩⟩)
     ·refine G0 ?_;(refine .inr (.inl ⟨_,_,false,0::([]++[]),?_,Bb e hs hp.ha,Ab,oI,dI,?_⟩);focus (exact wI));refine G1 ?_;intro gg;refine⟨?_,?_⟩
      ·refine G0 ?_;refine⟨?_,?_⟩
       ·refine G1 ?_;intro gg;refine⟨lI,lI,?_⟩;refine G1 ?_;intro gg;(exact⟨none,trivial,fun gr=>⟨⟨(k+1,a2,(r0::L)++[r],gg),hnx⟩,by show n-(k+1)<n-k;omega,tI,tI,⟨rfl,⟨rfl,⟨congrArg (fun x=>some (Ent.mk gg (.t 42) 7 x)) (show(r0::L).map Rr.row++[r.row]=((r0::L)++[r]).map Rr.row by rw[ZI];rfl),⟨rfl,trivial⟩⟩⟩⟩,tI⟩⟩)
       ·refine G1 ?_;intro gg;refine⟨lI,lI,?_⟩;refine G1 ?_;intro gg;(exact⟨none,trivial,fun gr=>⟨⟨(k+1,a2,(r0::L)++[r],gg),hnx⟩,by show n-(k+1)<n-k;omega,tI,tI,⟨rfl,⟨rfl,⟨congrArg (fun x=>some (Ent.mk gg (.t 42) 7 x)) (show(r0::L).map Rr.row++[r.row]=((r0::L)++[r]).map Rr.row by rw[ZI];rfl),⟨rfl,trivial⟩⟩⟩⟩,tI⟩⟩)
      ·refine G1 ?_;intro gg;refine⟨lI,lI,?_⟩;refine G1 ?_;intro gg;(exact⟨none,trivial,fun gr=>⟨⟨(k+1,a2,(r0::L)++[r],gg),hnx⟩,by show n-(k+1)<n-k;omega,tI,tI,⟨rfl,⟨rfl,⟨congrArg (fun x=>some (Ent.mk gg (.t 42) 7 x)) (show(r0::L).map Rr.row++[r.row]=((r0::L)++[r]).map Rr.row by rw[ZI];rfl),⟨rfl,trivial⟩⟩⟩⟩,tI⟩⟩)
 ·have he:=hp.end_ c11;rw[he,ZA]at h;simp only at h;rcases L with _|⟨r0,L⟩
  ·refine G0 ?_;(refine Hr ?_ ?_;focus (exact ZY (by omega)));refine G0 ?_;by_cases c12:a=s.size
   ·rw[if_pos c12]at h;cases h
   ·(exact .inr (.inr ⟨_,true,[],_,aM,Cj _ (ZG.2 (by omega)),rfl⟩))
  ·refine G0 ?_;(refine Hr ?_ ?_;focus (exact ZY (by omega)));refine G0 ?_;by_cases c12:a=s.size
   ·rw[if_pos c12]at h;cases h
   ·(exact .inr (.inr ⟨_,true,[],_,aM,Cj _ (ZG.2 (by omega)),rfl⟩))
section
variable {P:Program} {ops:Array Oper} {Q:Exit→Act→List Frame→World→Prop} {a:Act} {cs:List Frame} {w w':World} {i:Nat} {Bz:List Nat} {o:Oper} {v:Value}
end
theorem Ak6(T:TypeId)(w:World):(Instr.typeAssert Hl T 77 true).run Tryz.prog w=.ok (.tuple #[.agg #[],.bool true]) w:=by
 have hu:=Tryz.underlying77;simp[Instr.typeAssert,Hl,run_underlying hu]
theorem Aoc(T:TypeId)(w:World):(Instr.typeAssert .nilIface T 77 true).run Tryz.prog w=.ok (.tuple #[.agg #[],.bool false]) w:=by
 have hu:=Tryz.underlying77;have h:(Tryz.prog.info? 77).map (·.zero)=some (some (.agg #[])):=by kernel_rfl
 obtain⟨i,hi,hz⟩:=Option.map_eq_some_iff.1 h;simp[Instr.typeAssert,run_underlying hu,zeroValue,typeInfo,hi,hz]
def K4:Array Value:= #[.int .i64 0,.bool false,.bool false,.int .i64 0,.string ⟨#[]⟩,.int .i64 0,.slice none 0 0]
structure Ar1(w:World)(p q:Nat)(w':World):Prop where
 m:Blk w' p 52 K4
 e:Blk w' q 32 #[.int .i64 1]
 fr:Fr (fun k=>k=p∨k=q) w w'
theorem Fr.set_{F:Nat→Prop}{w w':World}(h:Fr F w w'){b:Nat}(hb:F b)(i:Nat)(v:Value):Fr F w (w'.setCell ⟨b,i,none⟩ v):=by
 have hs:=h.size;refine⟨h.os,h.tape,h.output,by simp[World.setCell];omega,fun k hk hF=>?_⟩;rw[←h.block k hk hF];have:k≠b:=fun e=>hF (e▸hb);exact Below.heap_setCell w' ⟨b,i,none⟩ v k this
theorem Fr.alloc_{F:Nat→Prop}{w w':World}(h:Fr F w w')(o:Obj):Fr F w (w'.alloc o):=by
 have hs:=h.size;refine⟨h.os,h.tape,h.output,by rw[show(w'.alloc o).heap.size=w'.heap.size+1 from by simp[World.alloc,-World.alloc_eq]];omega,fun k hk hF=>?_⟩;rw[←h.block k hk hF];exact Below.heap_alloc w' o k (by omega)
set_option maxRecDepth 100000 in
set_option maxHeartbeats 2000000 in
theorem Akc(p q:Nat)(c0 c1 c2 c3 c4 c5 c6 x:Value)(w:World)(hp:Blk w p 52 #[c0,c1,c2,c3,c4,c5,c6])(hq:Blk w q 32 #[x])(hpq:p≠q):
  CallsD Tryz.prog 37 #[.pointer (some ⟨p,0,none⟩),.pointer (some ⟨q,0,none⟩)] (.panicking [{v:=Hl,recovered:=false}]) w fun e u' w'=>e=.returned (.tuple #[])∧u'=.panicking [{v:=Hl,recovered:=true}]∧Ar1 w p q w':=by
 have hlp:=hp.lt;have hlq:=hq.lt;refine callsD_of_wpS Tryz.func37 rfl fun c₀ cs hu=>?_;apply wpS_seq;apply wpS_region;have hrec:recoverD (c₀::cs)=some (Hl,{c₀ with mode:=.panicking ({v:=Hl,recovered:=true} ::[])} ::cs):=by simp[recoverD,hu]
 simp[wpOpsS,go_sem,hrec,Tryz.ntmps37,Exit.thenS,Ak6];have e0:w.cell? ⟨p,0,none⟩=some c0:=hp.cell 0;have e1:w.cell? ⟨p,1,none⟩=some c1:=hp.cell 1;have e2:w.cell? ⟨p,2,none⟩=some c2:=hp.cell 2;have e3:w.cell? ⟨p,3,none⟩=some c3:=hp.cell 3;have e4:w.cell? ⟨p,4,none⟩=some c4:=hp.cell 4;have e5:w.cell? ⟨p,5,none⟩=some c5:=hp.cell 5;have e6:w.cell? ⟨p,6,none⟩=some c6:=hp.cell 6;have f0:=fun i=>hp.frozen i;have g0:w.cell? ⟨q,0,none⟩=some x:=hq.cell 0;have h0:=hq.frozen 0;refine wpS_of_wp ?_
 go_wp2
 have key:Ar1 w p q (((((((((w.setCell ⟨p,0,none⟩ (.int .i64 0)).setCell ⟨p,1,none⟩ (.bool false)).setCell ⟨p,2,none⟩ (.bool false)).setCell ⟨p,3,none⟩ (.int .i64 0)).setCell ⟨p,4,none⟩ (.string ⟨#[]⟩)).setCell ⟨p,5,none⟩ (.int .i64 0)).setCell ⟨p,6,none⟩ (.slice none 0 0)).setCell ⟨q,0,none⟩ (.int .i64 1)).alloc (Obj.cells #[] 77)):=by
  refine⟨?_,?_,?_⟩
  ·exact(((((((((hp.set_ 0 _).set_ 1 _).set_ 2 _).set_ 3 _).set_ 4 _).set_ 5 _).set_ 6 _).far hpq _).alloc _)
  ·exact(((((((((hq.far (Ne.symm hpq) _).far (Ne.symm hpq) _).far (Ne.symm hpq) _).far (Ne.symm hpq) _).far (Ne.symm hpq) _).far (Ne.symm hpq) _).far (Ne.symm hpq) _).set_ 0 _).alloc _)
  ·exact(((((((((Fr.refl _ w).set_ (.inl rfl) 0 _).set_ (.inl rfl) 1 _).set_ (.inl rfl) 2 _).set_ (.inl rfl) 3 _).set_ (.inl rfl) 4 _).set_ (.inl rfl) 5 _).set_ (.inl rfl) 6 _).set_ (.inr rfl) 0 _).alloc_ _
 simp[bodyPostS,results,Tryz.results37];exact key
set_option maxRecDepth 100000 in
set_option maxHeartbeats 2000000 in
theorem Abj(p q:Nat)(w:World):
  CallsD Tryz.prog 37 #[.pointer (some ⟨p,0,none⟩),.pointer (some ⟨q,0,none⟩)] .returning w fun e u' w'=>e=.returned (.tuple #[])∧u'=.returning∧w'=w.alloc (.cells #[] 77):=by
 refine callsD_of_wpS Tryz.func37 rfl fun c₀ cs hu=>?_;apply wpS_seq;apply wpS_region;have hrec:recoverD (c₀::cs)=none:=by simp[recoverD,hu]
 simp[wpOpsS,go_sem,hrec,Tryz.ntmps37,Exit.thenS,Aoc];refine wpS_of_wp ?_
 go_wp2
 simp[bodyPostS,results,Tryz.results37,hu];cases c₀;simp_all
theorem Avr{n:Int}(h0:0≤n)(h1:n≤15):IntKind.i64.wrap ((BitVec.ofInt IntKind.i64.bits n|||BitVec.ofInt IntKind.i64.bits 32768).toNat)=n+32768:=by
 have key:∀k:Fin 16,IntKind.i64.wrap ((BitVec.ofInt IntKind.i64.bits (k.val:Int)|||BitVec.ofInt IntKind.i64.bits 32768).toNat)=(k.val:Int)+32768:=by decide
 obtain⟨k,rfl⟩:=Int.eq_ofNat_of_zero_le h0;exact key ⟨k,by omega⟩
theorem Az9{n:Int}(h0:0≤n)(h1:n≤15):IntKind.i64.wrap ((BitVec.ofInt IntKind.i64.bits n|||BitVec.ofInt IntKind.i64.bits 512).toNat)=n+512:=by
 have key:∀k:Fin 16,IntKind.i64.wrap ((BitVec.ofInt IntKind.i64.bits (k.val:Int)|||BitVec.ofInt IntKind.i64.bits 512).toNat)=(k.val:Int)+512:=by decide
 obtain⟨k,rfl⟩:=Int.eq_ofNat_of_zero_le h0;exact key ⟨k,by omega⟩
theorem Axt{n:Int}(h0:0≤n)(h1:n≤15):IntKind.i64.wrap ((BitVec.ofInt IntKind.i64.bits (n+32768)|||BitVec.ofInt IntKind.i64.bits 512).toNat)=n+32768+512:=by
 have key:∀k:Fin 16,IntKind.i64.wrap ((BitVec.ofInt IntKind.i64.bits ((k.val:Int)+32768)|||BitVec.ofInt IntKind.i64.bits 512).toNat)=(k.val:Int)+32768+512:=by decide
 obtain⟨k,rfl⟩:=Int.eq_ofNat_of_zero_le h0;exact key ⟨k,by omega⟩
def Dl(id fl n:Int)(qn:ByteArray)(qt:Int):List UInt8:=Av [id,fl,1,n,0,0]++Bv qn++Av [qt,1]
theorem Sa{id fl n qt:Int}{qn:ByteArray}(h:qn.size≤120):0<(Dl id fl n qn qt).length∧(Dl id fl n qn qt).length≤15100:=by
 have:=Dz h;unfold Dl;rw[ZF,ZF,Au,Au];simp only[ZJ,ZN];omega
theorem Y1(m:Ms):Cx m=Dl m.id (Ec m) (m.rs.length:Int) m.qn m.qt++Bg m.rs:=rfl
set_option maxHeartbeats 2000000 in
theorem Agu(m:Ms)(hm:m.Good)(ha:m.an=false)(hc:m.ct=false):Fun Tryz.prog 36 [.c (.agg m.row)] [.c (.v (.string ⟨(Cx m).toArray⟩))]:=by
 obtain⟨id,an,ct,co,qn,qt,rs⟩:=m;obtain⟨h1,h2,h3,h4,h5,h6,h7⟩:=hm;simp only at h1 h2 h3 h4 h5 h6 h7 ha hc;subst ha hc;have eF:Ec ⟨id,false,false,co,qn,qt,rs⟩=co:=by simp[Ec]
 rw[Y1,eF];have hh:=Sa (id:=id) (fl:=co) (n:=(rs.length:Int)) (qt:=qt) h4;have hR:=Fw h7;refine Ar J7 rfl ?_;(refine goI ?_;repeat (intro gg;refine goI ?_));rename_i gw;rw[ZE];(refine .inr (.inl ⟨_,_,true,[128],Zj rfl (Iy rfl) Kp (by decide) (by decide) aM,E3 [] false [id,co,1,(rs.length:Int),0,0] (by simp only[XC,XD,or_false,forall_eq_or_imp,forall_eq];omega) (by simp) (by simp),(fun _=>Gr),oI,dI,?_⟩));refine G1 ?_;intro gg;(refine .inr (.inl ⟨_,_,false,[128],aM,Jm ([]++Av [id,co,1,(rs.length:Int),0,0]) qn h3 h4 (by simp only[ZF,Au,ZJ,ZN];omega),Ab,oI,dI,?_⟩));(refine goI ?_;repeat (intro gg;refine goI ?_));(refine .inr (.inl ⟨_,_,true,[128],aM,E3 ([]++Av [id,co,1,(rs.length:Int),0,0]++Bv qn) false [qt,1] (by simp only[XC,XD,or_false,forall_eq_or_imp,forall_eq];omega) (by simp) (by have:=Dz h4;simp only[ZF,Au,ZJ,ZN];omega),(fun _=>Gr),oI,dI,?_⟩));refine G1 ?_;intro gg;rw[ZE];(refine⟨[],none,{k:Nat//k≤rs.length},[3,40,41],fun⟨k,hk⟩=>[(42,.v (.int .i64 k))],[],fun⟨k,hk⟩=>[(128,⟨gw,.q (Fe wT (Dl id (co) (rs.length:Int) qn qt++Bg (rs.take k))),0,[]⟩)],fun⟨k,hk⟩=>rs.length-k,trivial,fun _=>⟨trivial,fun _=>⟨⟨0,by omega⟩,tI,Af _ _,?_,Ae _ _⟩⟩,fun⟨k,hk⟩=>?_⟩;focus (exact⟨congrArg (fun r=>some (Ent.mk gw (.q (Fe wT r)) 0 [])) (show Dl id (co) (rs.length:Int) qn qt=Dl id (co) (rs.length:Int) qn qt++Bg (rs.take 0)by simp[Bg]),trivial⟩));refine G0 ?_;(refine Aa (fun q1=>?_) (fun q1=>?_)<;>rw[q1])
 ·have hlt:k<rs.length:=by have:=ZV (show decide ((k:Int)<(rs.length:Int))=true from q1);omega
  have hl1:=Fw (l:=rs.take k) fun r hr=>h7 r (List.mem_of_mem_take hr);rw[ZM]at hl1;have e:Dl id (co) (rs.length:Int) qn qt++Bg (rs.take k)++H5 rs[k]=Dl id (co) (rs.length:Int) qn qt++Bg (rs.take (k+1)):=by rw[Hm hlt,ZS]
  refine G0 ?_;refine⟨k,_,rfl,Ad hlt,?_⟩;refine G1 ?_;intro gg;(refine .inr (.inl ⟨_,_,false,[128],aM,Ot (Dl id (co) (rs.length:Int) qn qt++Bg (rs.take k)) rs[k] (h7 _ (ZK hlt)) (by rw[ZF];omega),Ab,oI,dI,?_⟩));refine G1 ?_;intro gg;(exact⟨none,trivial,fun gr=>⟨⟨k+1,by omega⟩,by show rs.length-(k+1)<rs.length-k;omega,tI,tI,⟨congrArg (fun r=>some (Ent.mk gw (.q (Fe wT r)) 0 [])) e,trivial⟩,tI⟩⟩)
 ·have hge:¬k<rs.length:=by have:=ZW (show decide ((k:Int)<(rs.length:Int))=false from q1);omega
  obtain rfl:k=rs.length:=by omega
  have hne:Dl id (co) (rs.length:Int) qn qt++Bg (rs.take rs.length)≠[]:=fun q=>by
   have:=congrArg List.length q;rw[ZF,ZN]at this;omega
  rw[show Bg rs=Bg (rs.take rs.length)by rw[XF]];refine G0 ?_;(refine .inr (.inl ⟨_,_,false,[128],aM,F7 (T:=wT) (Dl id (co) (rs.length:Int) qn qt++Bg (rs.take rs.length)) hne,Ab,oI,dI,?_⟩));refine G1 ?_;intro gg;(exact⟨[],aI⟩)
set_option maxHeartbeats 2000000 in
theorem Ag0(m:Ms)(hm:m.Good)(ha:m.an=true)(hc:m.ct=false):Fun Tryz.prog 36 [.c (.agg m.row)] [.c (.v (.string ⟨(Cx m).toArray⟩))]:=by
 obtain⟨id,an,ct,co,qn,qt,rs⟩:=m;obtain⟨h1,h2,h3,h4,h5,h6,h7⟩:=hm;simp only at h1 h2 h3 h4 h5 h6 h7 ha hc;subst ha hc;have eF:Ec ⟨id,true,false,co,qn,qt,rs⟩=co+32768:=by simp[Ec]
 rw[Y1,eF];have hh:=Sa (id:=id) (fl:=co+32768) (n:=(rs.length:Int)) (qt:=qt) h4;have hR:=Fw h7;refine Ar J7 rfl ?_;(refine goI ?_;repeat (intro gg;refine goI ?_))
 rename Nat=>gw
 refine⟨_,Avr h2.1 h2.2,?_⟩;refine G1 ?_;intro gg;rw[ZE];(refine .inr (.inl ⟨_,_,true,[128],Zj rfl (Iy rfl) Kp (by decide) (by decide) aM,E3 [] false [id,co+32768,1,(rs.length:Int),0,0] (by simp only[XC,XD,or_false,forall_eq_or_imp,forall_eq];omega) (by simp) (by simp),(fun _=>Gr),oI,dI,?_⟩));refine G1 ?_;intro gg;(refine .inr (.inl ⟨_,_,false,[128],aM,Jm ([]++Av [id,co+32768,1,(rs.length:Int),0,0]) qn h3 h4 (by simp only[ZF,Au,ZJ,ZN];omega),Ab,oI,dI,?_⟩));(refine goI ?_;repeat (intro gg;refine goI ?_));(refine .inr (.inl ⟨_,_,true,[128],aM,E3 ([]++Av [id,co+32768,1,(rs.length:Int),0,0]++Bv qn) false [qt,1] (by simp only[XC,XD,or_false,forall_eq_or_imp,forall_eq];omega) (by simp) (by have:=Dz h4;simp only[ZF,Au,ZJ,ZN];omega),(fun _=>Gr),oI,dI,?_⟩));refine G1 ?_;intro gg;rw[ZE];(refine⟨[],none,{k:Nat//k≤rs.length},[3,40,41],fun⟨k,hk⟩=>[(42,.v (.int .i64 k))],[],fun⟨k,hk⟩=>[(128,⟨gw,.q (Fe wT (Dl id (co+32768) (rs.length:Int) qn qt++Bg (rs.take k))),0,[]⟩)],fun⟨k,hk⟩=>rs.length-k,trivial,fun _=>⟨trivial,fun _=>⟨⟨0,by omega⟩,tI,Af _ _,?_,Ae _ _⟩⟩,fun⟨k,hk⟩=>?_⟩;focus (exact⟨congrArg (fun r=>some (Ent.mk gw (.q (Fe wT r)) 0 [])) (show Dl id (co+32768) (rs.length:Int) qn qt=Dl id (co+32768) (rs.length:Int) qn qt++Bg (rs.take 0)by simp[Bg]),trivial⟩));refine G0 ?_;(refine Aa (fun q1=>?_) (fun q1=>?_)<;>rw[q1])
 ·have hlt:k<rs.length:=by have:=ZV (show decide ((k:Int)<(rs.length:Int))=true from q1);omega
  have hl1:=Fw (l:=rs.take k) fun r hr=>h7 r (List.mem_of_mem_take hr);rw[ZM]at hl1;have e:Dl id (co+32768) (rs.length:Int) qn qt++Bg (rs.take k)++H5 rs[k]=Dl id (co+32768) (rs.length:Int) qn qt++Bg (rs.take (k+1)):=by rw[Hm hlt,ZS]
  refine G0 ?_;refine⟨k,_,rfl,Ad hlt,?_⟩;refine G1 ?_;intro gg;(refine .inr (.inl ⟨_,_,false,[128],aM,Ot (Dl id (co+32768) (rs.length:Int) qn qt++Bg (rs.take k)) rs[k] (h7 _ (ZK hlt)) (by rw[ZF];omega),Ab,oI,dI,?_⟩));refine G1 ?_;intro gg;(exact⟨none,trivial,fun gr=>⟨⟨k+1,by omega⟩,by show rs.length-(k+1)<rs.length-k;omega,tI,tI,⟨congrArg (fun r=>some (Ent.mk gw (.q (Fe wT r)) 0 [])) e,trivial⟩,tI⟩⟩)
 ·have hge:¬k<rs.length:=by have:=ZW (show decide ((k:Int)<(rs.length:Int))=false from q1);omega
  obtain rfl:k=rs.length:=by omega
  have hne:Dl id (co+32768) (rs.length:Int) qn qt++Bg (rs.take rs.length)≠[]:=fun q=>by
   have:=congrArg List.length q;rw[ZF,ZN]at this;omega
  rw[show Bg rs=Bg (rs.take rs.length)by rw[XF]];refine G0 ?_;(refine .inr (.inl ⟨_,_,false,[128],aM,F7 (T:=wT) (Dl id (co+32768) (rs.length:Int) qn qt++Bg (rs.take rs.length)) hne,Ab,oI,dI,?_⟩));refine G1 ?_;intro gg;(exact⟨[],aI⟩)
set_option maxHeartbeats 2000000 in
theorem Aia(m:Ms)(hm:m.Good)(ha:m.an=false)(hc:m.ct=true):Fun Tryz.prog 36 [.c (.agg m.row)] [.c (.v (.string ⟨(Cx m).toArray⟩))]:=by
 obtain⟨id,an,ct,co,qn,qt,rs⟩:=m;obtain⟨h1,h2,h3,h4,h5,h6,h7⟩:=hm;simp only at h1 h2 h3 h4 h5 h6 h7 ha hc;subst ha hc;have eF:Ec ⟨id,false,true,co,qn,qt,rs⟩=co+512:=by simp[Ec]
 rw[Y1,eF];have hh:=Sa (id:=id) (fl:=co+512) (n:=(rs.length:Int)) (qt:=qt) h4;have hR:=Fw h7;refine Ar J7 rfl ?_;(refine goI ?_;repeat (intro gg;refine goI ?_))
 rename Nat=>gw
 refine⟨_,Az9 h2.1 h2.2,?_⟩;refine G1 ?_;intro gg;rw[ZE];(refine .inr (.inl ⟨_,_,true,[128],Zj rfl (Iy rfl) Kp (by decide) (by decide) aM,E3 [] false [id,co+512,1,(rs.length:Int),0,0] (by simp only[XC,XD,or_false,forall_eq_or_imp,forall_eq];omega) (by simp) (by simp),(fun _=>Gr),oI,dI,?_⟩));refine G1 ?_;intro gg;(refine .inr (.inl ⟨_,_,false,[128],aM,Jm ([]++Av [id,co+512,1,(rs.length:Int),0,0]) qn h3 h4 (by simp only[ZF,Au,ZJ,ZN];omega),Ab,oI,dI,?_⟩));(refine goI ?_;repeat (intro gg;refine goI ?_));(refine .inr (.inl ⟨_,_,true,[128],aM,E3 ([]++Av [id,co+512,1,(rs.length:Int),0,0]++Bv qn) false [qt,1] (by simp only[XC,XD,or_false,forall_eq_or_imp,forall_eq];omega) (by simp) (by have:=Dz h4;simp only[ZF,Au,ZJ,ZN];omega),(fun _=>Gr),oI,dI,?_⟩));refine G1 ?_;intro gg;rw[ZE];(refine⟨[],none,{k:Nat//k≤rs.length},[3,40,41],fun⟨k,hk⟩=>[(42,.v (.int .i64 k))],[],fun⟨k,hk⟩=>[(128,⟨gw,.q (Fe wT (Dl id (co+512) (rs.length:Int) qn qt++Bg (rs.take k))),0,[]⟩)],fun⟨k,hk⟩=>rs.length-k,trivial,fun _=>⟨trivial,fun _=>⟨⟨0,by omega⟩,tI,Af _ _,?_,Ae _ _⟩⟩,fun⟨k,hk⟩=>?_⟩;focus (exact⟨congrArg (fun r=>some (Ent.mk gw (.q (Fe wT r)) 0 [])) (show Dl id (co+512) (rs.length:Int) qn qt=Dl id (co+512) (rs.length:Int) qn qt++Bg (rs.take 0)by simp[Bg]),trivial⟩));refine G0 ?_;(refine Aa (fun q1=>?_) (fun q1=>?_)<;>rw[q1])
 ·have hlt:k<rs.length:=by have:=ZV (show decide ((k:Int)<(rs.length:Int))=true from q1);omega
  have hl1:=Fw (l:=rs.take k) fun r hr=>h7 r (List.mem_of_mem_take hr);rw[ZM]at hl1;have e:Dl id (co+512) (rs.length:Int) qn qt++Bg (rs.take k)++H5 rs[k]=Dl id (co+512) (rs.length:Int) qn qt++Bg (rs.take (k+1)):=by rw[Hm hlt,ZS]
  refine G0 ?_;refine⟨k,_,rfl,Ad hlt,?_⟩;refine G1 ?_;intro gg;(refine .inr (.inl ⟨_,_,false,[128],aM,Ot (Dl id (co+512) (rs.length:Int) qn qt++Bg (rs.take k)) rs[k] (h7 _ (ZK hlt)) (by rw[ZF];omega),Ab,oI,dI,?_⟩));refine G1 ?_;intro gg;(exact⟨none,trivial,fun gr=>⟨⟨k+1,by omega⟩,by show rs.length-(k+1)<rs.length-k;omega,tI,tI,⟨congrArg (fun r=>some (Ent.mk gw (.q (Fe wT r)) 0 [])) e,trivial⟩,tI⟩⟩)
 ·have hge:¬k<rs.length:=by have:=ZW (show decide ((k:Int)<(rs.length:Int))=false from q1);omega
  obtain rfl:k=rs.length:=by omega
  have hne:Dl id (co+512) (rs.length:Int) qn qt++Bg (rs.take rs.length)≠[]:=fun q=>by
   have:=congrArg List.length q;rw[ZF,ZN]at this;omega
  rw[show Bg rs=Bg (rs.take rs.length)by rw[XF]];refine G0 ?_;(refine .inr (.inl ⟨_,_,false,[128],aM,F7 (T:=wT) (Dl id (co+512) (rs.length:Int) qn qt++Bg (rs.take rs.length)) hne,Ab,oI,dI,?_⟩));refine G1 ?_;intro gg;(exact⟨[],aI⟩)
set_option maxHeartbeats 2000000 in
theorem Agd(m:Ms)(hm:m.Good)(ha:m.an=true)(hc:m.ct=true):Fun Tryz.prog 36 [.c (.agg m.row)] [.c (.v (.string ⟨(Cx m).toArray⟩))]:=by
 obtain⟨id,an,ct,co,qn,qt,rs⟩:=m;obtain⟨h1,h2,h3,h4,h5,h6,h7⟩:=hm;simp only at h1 h2 h3 h4 h5 h6 h7 ha hc;subst ha hc;have eF:Ec ⟨id,true,true,co,qn,qt,rs⟩=co+32768+512:=by simp[Ec]
 rw[Y1,eF];have hh:=Sa (id:=id) (fl:=co+32768+512) (n:=(rs.length:Int)) (qt:=qt) h4;have hR:=Fw h7;refine Ar J7 rfl ?_;(refine goI ?_;repeat (intro gg;refine goI ?_))
 rename Nat=>gw
 refine⟨_,Avr h2.1 h2.2,?_⟩;refine G0 ?_;refine⟨_,Axt h2.1 h2.2,?_⟩;refine G1 ?_;intro gg;rw[ZE];(refine .inr (.inl ⟨_,_,true,[128],Zj rfl (Iy rfl) Kp (by decide) (by decide) aM,E3 [] false [id,co+32768+512,1,(rs.length:Int),0,0] (by simp only[XC,XD,or_false,forall_eq_or_imp,forall_eq];omega) (by simp) (by simp),(fun _=>Gr),oI,dI,?_⟩));refine G1 ?_;intro gg;(refine .inr (.inl ⟨_,_,false,[128],aM,Jm ([]++Av [id,co+32768+512,1,(rs.length:Int),0,0]) qn h3 h4 (by simp only[ZF,Au,ZJ,ZN];omega),Ab,oI,dI,?_⟩));(refine goI ?_;repeat (intro gg;refine goI ?_));(refine .inr (.inl ⟨_,_,true,[128],aM,E3 ([]++Av [id,co+32768+512,1,(rs.length:Int),0,0]++Bv qn) false [qt,1] (by simp only[XC,XD,or_false,forall_eq_or_imp,forall_eq];omega) (by simp) (by have:=Dz h4;simp only[ZF,Au,ZJ,ZN];omega),(fun _=>Gr),oI,dI,?_⟩));refine G1 ?_;intro gg;rw[ZE];(refine⟨[],none,{k:Nat//k≤rs.length},[3,40,41],fun⟨k,hk⟩=>[(42,.v (.int .i64 k))],[],fun⟨k,hk⟩=>[(128,⟨gw,.q (Fe wT (Dl id (co+32768+512) (rs.length:Int) qn qt++Bg (rs.take k))),0,[]⟩)],fun⟨k,hk⟩=>rs.length-k,trivial,fun _=>⟨trivial,fun _=>⟨⟨0,by omega⟩,tI,Af _ _,?_,Ae _ _⟩⟩,fun⟨k,hk⟩=>?_⟩;focus (exact⟨congrArg (fun r=>some (Ent.mk gw (.q (Fe wT r)) 0 [])) (show Dl id (co+32768+512) (rs.length:Int) qn qt=Dl id (co+32768+512) (rs.length:Int) qn qt++Bg (rs.take 0)by simp[Bg]),trivial⟩));refine G0 ?_;(refine Aa (fun q1=>?_) (fun q1=>?_)<;>rw[q1])
 ·have hlt:k<rs.length:=by have:=ZV (show decide ((k:Int)<(rs.length:Int))=true from q1);omega
  have hl1:=Fw (l:=rs.take k) fun r hr=>h7 r (List.mem_of_mem_take hr);rw[ZM]at hl1;have e:Dl id (co+32768+512) (rs.length:Int) qn qt++Bg (rs.take k)++H5 rs[k]=Dl id (co+32768+512) (rs.length:Int) qn qt++Bg (rs.take (k+1)):=by rw[Hm hlt,ZS]
  refine G0 ?_;refine⟨k,_,rfl,Ad hlt,?_⟩;refine G1 ?_;intro gg;(refine .inr (.inl ⟨_,_,false,[128],aM,Ot (Dl id (co+32768+512) (rs.length:Int) qn qt++Bg (rs.take k)) rs[k] (h7 _ (ZK hlt)) (by rw[ZF];omega),Ab,oI,dI,?_⟩));refine G1 ?_;intro gg;(exact⟨none,trivial,fun gr=>⟨⟨k+1,by omega⟩,by show rs.length-(k+1)<rs.length-k;omega,tI,tI,⟨congrArg (fun r=>some (Ent.mk gw (.q (Fe wT r)) 0 [])) e,trivial⟩,tI⟩⟩)
 ·have hge:¬k<rs.length:=by have:=ZW (show decide ((k:Int)<(rs.length:Int))=false from q1);omega
  obtain rfl:k=rs.length:=by omega
  have hne:Dl id (co+32768+512) (rs.length:Int) qn qt++Bg (rs.take rs.length)≠[]:=fun q=>by
   have:=congrArg List.length q;rw[ZF,ZN]at this;omega
  rw[show Bg rs=Bg (rs.take rs.length)by rw[XF]];refine G0 ?_;(refine .inr (.inl ⟨_,_,false,[128],aM,F7 (T:=wT) (Dl id (co+32768+512) (rs.length:Int) qn qt++Bg (rs.take rs.length)) hne,Ab,oI,dI,?_⟩));refine G1 ?_;intro gg;(exact⟨[],aI⟩)
theorem Acn(m:Ms)(hm:m.Good):Fun Tryz.prog 36 [.c (.agg m.row)] [.c (.v (.string ⟨(Cx m).toArray⟩))]:=by
 rcases Bool.eq_false_or_eq_true m.an with ha|ha<;>rcases Bool.eq_false_or_eq_true m.ct with hc|hc
 ·exact Agd m hm ha hc
 ·exact Ag0 m hm ha hc
 ·exact Aia m hm ha hc
 ·exact Agu m hm ha hc
namespace Pl
theorem Vc{n a b:Int}(h:(!wIn n a b)=false):a≤n∧n≤b:=by
 unfold wIn at h;cases h1:decide (a≤n)with
 |true=>rw[h1]at h;exact⟨ZV h1,by simpa using h⟩
 |false=>rw[h1]at h;cases h
theorem Pa{nm:ByteArray}(h:Ao nm=0):nm.size≤120:=by
 unfold Ao at h;split at h
 ·cases h
 ·split at h
  ·cases h
  ·split at h
   ·cases h
   ·omega
theorem Ald{r:Rr}(h:Cu r=0):r.Good∧r.un=true:=by
 unfold Cu at h;split at h
 ·rename_i h0;exact absurd h h0
 ·rename_i h0;have h0:Ao r.nm=0:=by simpa using h0
  cases h1:(!Fk r.ty)with
  |true=>rw[h1]at h;cases h
  |false=>
   rw[h1]at h;cases h2:(!wIn r.ls 0 2147483647)with
   |true=>rw[h2]at h;cases h
   |false=>
    rw[h2]at h;cases h3:(!r.un)with
    |true=>rw[h3]at h;cases h
    |false=>
     rw[h3]at h;cases h4:(!wIn r.ad 0 4294967295)with
     |true=>rw[h4]at h;cases h
     |false=>
      rw[h4]at h;cases h5:(!wIn r.pt 0 65535)with
      |true=>rw[h5]at h;cases h
      |false=>
       rw[h5]at h;simp only[cond_false]at h;split at h
       ·cases h
       ·rename_i h6;exact⟨⟨h0,Pa h0,T3 h1,Vc h2,Vc h4,Vc h5,by omega,h,Pa h⟩,by simpa using h3⟩
theorem P5{l:List Int}(h:Cp l=0):∀e∈l,e=0:=by
 induction l with
 |nil=>intro e he;cases he
 |cons a l ih=>
  have h:(if a≠0 then a else Cp l)=0:=h;split at h
  ·rename_i ha;exact absurd h ha
  ·rename_i ha;intro e he;rcases XC.1 he with rfl|he
   ·simpa using ha
   ·exact ih h e he
theorem G9{m:Ms}(h:A4 m=0):m.Good∧∀r∈m.rs,r.un=true:=by
 unfold A4 at h;cases h1:(!wIn m.id 0 65535)with
 |true=>rw[h1]at h;cases h
 |false=>
  rw[h1]at h;cases h2:(!wIn m.co 0 15)with
  |true=>rw[h2]at h;cases h
  |false=>
   rw[h2]at h;simp only[cond_false]at h;split at h
   ·cases h
   ·rename_i h3;split at h
    ·rename_i h4;exact absurd h h4
    ·rename_i h4;have h4:Ao m.qn=0:=by simpa using h4
     cases h5:(!Fk m.qt)with
     |true=>rw[h5]at h;cases h
     |false=>
      rw[h5]at h;have h6:=P5 h;have h7:∀r∈m.rs,Cu r=0:=fun r hr=>h6 _ (List.mem_map_of_mem hr);exact⟨⟨Vc h1,Vc h2,h4,Pa h4,T3 h5,by omega,fun r hr=>(Ald (h7 r hr)).1⟩,fun r hr=>(Ald (h7 r hr)).2⟩
def wrE(m:Ms):Int:=if A4 m≠0 then A4 m else if 512<(Cx m).length then 2 else 0
def wrS(m:Ms):ByteArray:=if wrE m=0 then⟨(Cx m).toArray⟩else⟨#[]⟩
theorem Akm{m:Ms}(h:A4 m≠0):wrE m=A4 m∧wrS m=⟨#[]⟩:=by
 have e:wrE m=A4 m:=if_pos h;refine⟨e,?_⟩;unfold wrS;rw[e,if_neg h]
theorem Aec{m:Ms}(h:A4 m=0)(h2:512<(Cx m).length):wrE m=2∧wrS m=⟨#[]⟩:=by
 have e:wrE m=2:=by unfold wrE;rw[if_neg (by simpa using h),if_pos h2]
 refine⟨e,?_⟩;unfold wrS;rw[e];rfl
theorem Amk{m:Ms}(h:A4 m=0)(h2:¬512<(Cx m).length):wrE m=0∧wrS m=⟨(Cx m).toArray⟩:=by
 have e:wrE m=0:=by unfold wrE;rw[if_neg (by simpa using h),if_neg h2]
 refine⟨e,?_⟩;unfold wrS;rw[e];rfl
end Pl
theorem Adh(m:Ms)(hm:m.Sized)(hl:m.rs.length≤9223372036854775807):Fun Tryz.prog 16 [.c (.agg m.row)] [.c (.v (.string (wrS m))),.c (.v (.int .i64 (wrE m)))]:=by
 have hC:=Vp m hm hl;by_cases he:A4 m=0
 ·have hW:=Acn m (G9 he).1;have hs:(⟨(Cx m).toArray⟩:ByteArray).size=(Cx m).length:=by show(Cx m).toArray.size=_;simp
  rw[he]at hC;refine Ar Ui rfl ?_;refine G1 ?_;intro gg;refine .inl (cX hC ?_);refine G1 ?_;intro gg;refine .inl (cX hW ?_);refine G1 ?_;intro gg;refine Aa (fun k0=>?_) (fun k0=>?_)<;>rw[k0]
  ·have k1:=ZV k0;rw[hs]at k1;have h2:512<(Cx m).length:=by omega
   rw[(Aec he h2).1,(Aec he h2).2];refine G0 ?_;(exact⟨[],aI⟩)
  ·have k1:=ZW k0;rw[hs]at k1;have h2:¬512<(Cx m).length:=by omega
   rw[(Amk he h2).1,(Amk he h2).2];refine G0 ?_;(exact⟨[],aI⟩)
 ·refine Ar Ui rfl ?_;refine G1 ?_;intro gg;refine .inl (cX hC ?_);refine G1 ?_;intro gg;rw[show(A4 m !=0)=true from ZZ.2 he];rw[(Akm he).1,(Akm he).2];refine G0 ?_;(exact⟨[],aI⟩)
namespace Pl
theorem Axy{a b:ByteArray}(h:a.data.toList=b.data.toList):a=b:=by
 obtain⟨a⟩:=a;obtain⟨b⟩:=b;congr 1;exact Array.ext' h
theorem Aw9{l:List UInt8}{c:UInt8}{m:Nat}(h:Lib.indexByte l c=(m:Int)):l[m]? =some c:=by
 induction l generalizing m with
 |nil=>simp[Lib.indexByte]at h
 |cons b l ih=>
  unfold Lib.indexByte at h;by_cases hb:(b==c)=true
  ·rw[if_pos hb]at h;have:b=c:=by simpa using hb
   obtain rfl:m=0:=by omega
   simp[this]
  ·rw[if_neg hb]at h;have hg:=Lib.indexByte_ge l c;split at h
   ·omega
   ·rename_i h1;have h1':¬Lib.indexByte l c= -1:=by simpa using h1
    obtain⟨k,hk⟩:∃k:Nat,Lib.indexByte l c=(k:Int):=⟨(Lib.indexByte l c).toNat,by omega⟩;obtain rfl:m=k+1:=by omega
    simpa using ih hk
theorem Aj4(c:UInt8)(s:ByteArray){k:Nat}(h:k<cnb s c):(Bz c s k).data.toList=(S0 c s k).data.toList++[c]++(Bz c s (k+1)).data.toList:=by
 obtain⟨m,h1,h2,h3,h4⟩:=Alb c s h;have hm:=Aw9 (l:=(Bz c s k).data.toList) (c:=c) (m:=m) h1;have hlen:(Bz c s k).data.toList.length=(Bz c s k).size:=by simp
 rw[h3,h4,D3,D3,List.drop_zero];rw[List.take_of_length_le (i:=(Bz c s k).size) (by omega)];have hd:(Bz c s k).data.toList.drop m=c::(Bz c s k).data.toList.drop (m+1):=by
  rw[List.drop_eq_getElem_cons (by omega)];congr 1;rw[ZC (by omega)]at hm;exact Option.some.inj hm
 rw[ZS];show _=List.take m _++(c::List.drop (m+1) _);rw[←hd,List.take_append_drop]
theorem Anu(s:ByteArray)(c:UInt8):∀(j k:Nat),k+j=cnb s c→Lib.join ((((List.range' k j).map (S0 c s))++[Bz c s (cnb s c)]).map (·.data.toList)) [c]=(Bz c s k).data.toList:=by
 intro j
 induction j with
 |zero=>
  intro k hk;have hk:k=cnb s c:=by omega
  rw[hk];simp[Lib.join]
 |succ j ih=>
  intro k hk;have h1:=ih (k+1) (by omega);rw[List.range'_succ,List.map_cons,List.cons_append,List.map_cons];rw[Aj4 c s (k:=k) (by omega),←h1];obtain⟨x,xs,hx⟩:∃x xs,(((List.range' (k+1) j).map (S0 c s))++[Bz c s (cnb s c)]).map (·.data.toList)=x::xs:=by
   cases j<;>simp[List.range'_succ]
  rw[hx];simp[Lib.join]
theorem Agl(s:ByteArray):Df ⟨#[46]⟩ (A5 s)=s:=by
 apply Axy;unfold A5;split
 ·rename_i h;have:=toList_inj (ZR.1 h);subst this;rfl
 ·have h:=Anu s 46 (cnb s 46) 0 (by omega);rw[←List.range_eq_range']at h;exact h
def At(s:ByteArray)(a:Nat)(l:List UInt8):Prop:=∃pre post,s.data.toList=pre++l++post∧pre.length=a
theorem At.app{s:ByteArray}{a:Nat}{l l':List UInt8}(h:At s a (l++l')):At s a l∧At s (a+l.length) l':=by
 obtain⟨pre,post,h1,h2⟩:=h;exact⟨⟨pre,l'++post,by rw[h1];simp,h2⟩,⟨pre++l,post,by rw[h1];simp,by simp[h2]⟩⟩
theorem At.le{s:ByteArray}{a:Nat}{l:List UInt8}(h:At s a l):a+l.length≤s.size:=by
 obtain⟨pre,post,h1,h2⟩:=h;have:=congrArg List.length h1;simp at this;omega
theorem At.byte{s:ByteArray}{a:Nat}{c:UInt8}(h:At s a [c]):Cr s a=some (c.toNat,a+1):=by
 obtain⟨pre,post,h1,h2⟩:=h;unfold Cr;have:s.data.toList[a]? =some c:=by rw[h1];subst h2;simp
 have hlt:a<s.size:=by
  have:=(ZB.1 this).1;simpa using this
 have e:s[a]? =some c:=by
  rw[getElem?_pos s a hlt];congr 1;have:=(ZB.1 this).2;rw[Array.getElem_toList]at this;exact this
 rw[e];rfl
theorem At.two{s:ByteArray}{a:Nat}{n:Int}(h:At s a (Av [n]))(h0:0≤n)(h1:n≤65535):Bt s a=some (n.toNat,a+2):=by
 have e:Av [n]=[UInt8.ofNat (n/256).toNat]++[UInt8.ofNat (n%256).toNat]:=rfl;rw[e]at h;have b1:=h.app.1.byte;have b2:=h.app.2.byte;unfold Bt;rw[b1,ZA];simp only[ZJ,ZN]at b2 ⊢;rw[b2,ZA];have e1:(UInt8.ofNat (n/256).toNat).toNat=(n/256).toNat:=by rw[UInt8.toNat_ofNat'];exact Nat.mod_eq_of_lt (by omega)
 have e2:(UInt8.ofNat (n%256).toNat).toNat=(n%256).toNat:=by rw[UInt8.toNat_ofNat'];exact Nat.mod_eq_of_lt (by omega)
 rw[e1,e2];congr 2;omega
theorem Fi(n:Int)(ns:List Int):Av (n::ns)=Av [n]++Av ns:=by simp[Av]
theorem At.four{s:ByteArray}{a:Nat}{n:Int}(h:At s a (Av [n/65536,n%65536]))(h0:0≤n)(h1:n≤4294967295):Gp s a=some (n.toNat,a+4):=by
 rw[Fi]at h;have b1:=h.app.1.two (by omega) (by omega);have b2:=h.app.2.two (by omega) (by omega);rw[Au]at b2;unfold Gp;rw[b1,ZA];simp only[ZJ,ZN]at b2 ⊢;rw[b2,ZA];congr 2;omega
theorem At.bytes{s:ByteArray}{a:Nat}{x:ByteArray}(h:At s a x.data.toList):Fo s a x.size=some (x,a+x.size):=by
 have hx:x.data.toList.length=x.size:=by simp
 have:=h.le;unfold Fo;rw[if_pos (by omega)];congr 2;apply Axy;rw[D3];obtain⟨pre,post,h1,h2⟩:=h;rw[h1,←hx,ZS];subst h2;rw[List.take_append,List.drop_append];simp
theorem Anf{c:UInt8}(h:okB c.toNat=true):F8 c=c:=by
 unfold F8;rw[if_neg];intro⟨h1,h2⟩;unfold okB at h;simp at h;omega
theorem Ap1{x:ByteArray}(h:lab x.data.toList=true):C6 x=x:=by
 apply Axy;unfold C6;show x.data.toList.map F8=x.data.toList;have h2:∀c∈x.data.toList,okB c.toNat=true:=by
  unfold lab at h;exact fun c hc=>List.all_eq_true.1 (Bool.and_eq_true_iff.1 h).1 c hc
 have:x.data.toList.map F8=x.data.toList.map id:=List.map_congr_left fun c hc=>Anf (h2 c hc);rw[this,List.map_id]
theorem Aj2{x:ByteArray}(h:lab x.data.toList=true):1≤x.size∧x.size≤30:=by
 unfold lab at h;have:=ZV (Bool.and_eq_true_iff.1 h).2;have e:x.data.toList.length=x.size:=by simp
 omega
theorem At.nameR{s:ByteArray}:∀(ls l0:List ByteArray) (a f fr:Nat),At s a (D7 ls++[0])→(∀x∈ls,lab x.data.toList=true)→l0.length+ls.length≤8→ls.length<f→
  nameR s f a l0 none fr=some (l0++ls,a+(D7 ls).length+1):=by
 intro ls
 induction ls with
 |nil=>
  intro l0 a f fr h hl h8 hf;obtain⟨f,rfl⟩:∃f',f=f'+1:=⟨f-1,by simp at hf;omega⟩;have b:=At.byte (c:=0) h;rw[Pl.nameR,if_pos (by simpa using h8),b,ZA];simp only[List.append_nil];rw[if_pos (by decide)];rfl
 |cons x ls ih=>
  intro l0 a f fr h hl h8 hf;obtain⟨f,rfl⟩:∃f',f=f'+1:=⟨f-1,by omega⟩;have hx:=hl x (by simp);have hz:=Aj2 hx;have e:D7 (x::ls)++[0]=[UInt8.ofNat x.size]++(x.data.toList++(D7 ls++[0])):=by simp[D7,Aqx]
  rw[e]at h;have b1:=h.app.1.byte;have h2:=h.app.2;rw[show [UInt8.ofNat x.size].length=1 from rfl]at h2;have b2:=h2.app.1.bytes;have h3:=h2.app.2;have el:x.data.toList.length=x.size:=by simp
  rw[el]at h3;have ez:(UInt8.ofNat x.size).toNat=x.size:=by rw[UInt8.toNat_ofNat'];exact Nat.mod_eq_of_lt (by omega)
  rw[ez]at b1;simp only[ZJ]at h8 hf;rw[Pl.nameR,if_pos (by omega),b1,ZA];simp only;rw[if_neg (by omega),if_neg (by omega),b2,ZA];simp only;rw[Ap1 hx,if_pos hx,ih (l0++[x]) (a+1+x.size) f fr h3 (fun y hy=>hl y (by simp[hy])) (by simp;omega) (by omega)];have:(D7 (x::ls)).length=1+x.size+(D7 ls).length:=by simp[D7,Aqx];omega
  rw[this];simp only[ZS,List.cons_append,List.nil_append];congr 2;omega
theorem Ab4{nm:ByteArray}(h:Ao nm=0):(∀x∈A5 nm,lab x.data.toList=true)∧(A5 nm).length≤8∧nm.size≤120:=by
 unfold Ao at h;split at h
 ·cases h
 ·rename_i h1;split at h
  ·cases h
  ·split at h
   ·cases h
   ·refine⟨fun x hx=>?_,by omega,by omega⟩;have h2:(A5 nm).any (fun x=> !lab x.data.toList)=false:=by simpa using h1
    have:=List.any_eq_false.1 h2 x hx;simpa using this
theorem At.name{s:ByteArray}{a:Nat}{nm:ByteArray}(h:At s a (Bv nm))(hn:Ao nm=0):Eq s a=some (nm,a+(Bv nm).length):=by
 obtain⟨h1,h2,h3⟩:=Ab4 hn;unfold Eq;rw[At.nameR (A5 nm) [] a (a+10) a h h1 (by simpa using h2) (by omega)];show some (Df ⟨#[46]⟩ ([]++A5 nm),_)=_;rw[List.nil_append,Agl];simp[Bv];omega
theorem At.byteN{s:ByteArray}{a n:Nat}{l:List UInt8}(h:At s a (UInt8.ofNat n::l))(hn:n<256):Cr s a=some (n,a+1)∧At s (a+1) l:=by
 have h':At s a ([UInt8.ofNat n]++l):=h;refine⟨?_,h'.app.2⟩;rw[h'.app.1.byte,UInt8.toNat_ofNat',Nat.mod_eq_of_lt (by omega)]
theorem Amo{x:ByteArray}(h:em x=true):x=⟨#[]⟩:=toList_inj (ZR.1 h)
theorem Bai{nm tx tg:ByteArray}{ls ad pt:Int}(h:Rr.un ⟨nm,1,ls,ad,tx,pt,tg⟩=true):tx=⟨#[]⟩∧pt=0∧tg=⟨#[]⟩:=by
 unfold Rr.un at h;simp at h;exact⟨Amo h.1,h.2.1,Amo h.2.2⟩
theorem Az5{nm tx tg:ByteArray}{ls ad pt:Int}(h:Rr.un ⟨nm,16,ls,ad,tx,pt,tg⟩=true):ad=0∧pt=0∧tg=⟨#[]⟩:=by
 unfold Rr.un at h;simp at h;exact⟨h.1,h.2.1,Amo h.2.2⟩
theorem Azw{nm tx tg:ByteArray}{ls ad pt:Int}(h:Rr.un ⟨nm,33,ls,ad,tx,pt,tg⟩=true):ad=0∧tx=⟨#[]⟩:=by
 unfold Rr.un at h;simp at h;exact⟨h.1,Amo h.2⟩
theorem At.body{s:ByteArray}{a:Nat}{r:Rr}(h:At s a (inB r))(hg:r.Good)(hu:r.un=true):Il s r.ty.toNat a=some ((r.ad.toNat,r.tx,r.pt.toNat,r.tg),a+(inB r).length):=by
 obtain⟨nm,ty,ls,ad,tx,pt,tg⟩:=r;obtain⟨h1,h2,h3,h4,h5,h6,h7,h8,h9⟩:=hg;simp only at h1 h2 h3 h4 h5 h6 h7 h8 h9;rcases h3 with rfl|rfl|rfl
 ·obtain⟨rfl,rfl,rfl⟩:=Bai hu;have e:inB ⟨nm,1,ls,ad,⟨#[]⟩,0,⟨#[]⟩⟩=Av [ad/65536,ad%65536]:=rfl;rw[e]at h ⊢;have b:=h.four h5.1 h5.2;show Il s 1 a=some ((ad.toNat,⟨#[]⟩,0,⟨#[]⟩),_);unfold Il;rw[if_pos rfl,b,Au];rfl
 ·obtain⟨rfl,rfl,rfl⟩:=Az5 hu;have e:inB ⟨nm,16,ls,0,tx,0,⟨#[]⟩⟩=UInt8.ofNat tx.size::tx.data.toList:=rfl;rw[e]at h ⊢;obtain⟨b1,g1⟩:=h.byteN (by omega);have b2:=g1.bytes;have hx:tx.data.toList.length=tx.size:=by simp
  show Il s 16 a=some ((0,tx,0,⟨#[]⟩),_);unfold Il;rw[if_neg (by decide),if_pos rfl,b1,ZA];simp only;rw[b2,ZA];simp only[ZJ,hx];congr 2;omega
 ·obtain⟨rfl,rfl⟩:=Azw hu;have e:inB ⟨nm,33,ls,0,⟨#[]⟩,pt,tg⟩=Av [0]++(Av [0]++(Av [pt]++Bv tg)):=by
   show Av [0,0,pt]++Bv tg=_;simp[Av]
  rw[e]at h ⊢;have b1:=h.app.1.two (by omega) (by omega);have g1:=h.app.2;rw[Au]at g1;have b2:=g1.app.1.two (by omega) (by omega);have g2:=g1.app.2;rw[Au]at g2;have b3:=g2.app.1.two h6.1 h6.2;have g3:=g2.app.2;rw[Au]at g3;have b4:=g3.name h8;simp only[ZJ,ZN]at b2 b3 b4;show Il s 33 a=some ((0,⟨#[]⟩,pt.toNat,tg),_);unfold Il;rw[if_neg (by decide),if_neg (by decide),if_pos rfl,b1,ZA];simp only;rw[if_pos (by decide),b2,ZA];simp only;rw[if_pos (by decide),b3,ZA];simp only;rw[b4,ZA];simp only[ZF,Au,ZJ,ZN];congr 2;omega
theorem Aue(r:Rr):H5 r=Bv r.nm++(Av [r.ty]++(Av [1]++(Av [r.ls/65536,r.ls%65536]++(Av [((inB r).length:Int)]++inB r)))):=by
 unfold H5;rw[Fi r.ty,Fi 1];simp only[ZS]
theorem At.rec_{s:ByteArray}{a:Nat}{r:Rr}(h:At s a (H5 r))(hg:r.Good)(hu:r.un=true):Pp s a=some (r,a+(H5 r).length):=by
 have hin:=Ok hg;have hle:=h.le;rw[Aue]at h hle ⊢;have b1:=h.app.1.name hg.nm;have g1:=h.app.2;have hty:0≤r.ty∧r.ty≤65535:=by rcases hg.ty with q|q|q<;>omega
 have b2:=g1.app.1.two hty.1 hty.2;have g2:=g1.app.2;rw[Au]at g2;have b3:=g2.app.1.two (by omega) (by omega);have g3:=g2.app.2;rw[Au]at g3;have b4:=g3.app.1.four hg.ls.1 (by have:=hg.ls.2;omega);have g4:=g3.app.2;rw[Au]at g4;have b5:=g4.app.1.two (by omega) (by omega);have g5:=g4.app.2;rw[Au]at g5;have b6:=g5.body hg hu;simp only[ZF,Au,ZJ,ZN]at b2 b3 b4 b5 b6 hle ⊢;unfold Pp;rw[b1,ZA];simp only;rw[b2,ZA];simp only;rw[b3,ZA];simp only;rw[if_pos (by decide)];have e4:a+(Bv r.nm).length+2*1+2=a+(Bv r.nm).length+2*(0+1)+2*(0+1):=by omega
 simp only[Nat.zero_add,Nat.mul_one]at *;rw[b4,ZA];simp only;rw[show a+(Bv r.nm).length+2+2+4=a+(Bv r.nm).length+2+2+2*(1+1)by omega,b5,ZA];simp only;rw[if_pos (by omega),b6,ZA];simp only;rw[if_pos (by omega)];obtain⟨nm,ty,ls,ad,tx,pt,tg⟩:=r;have q1:=hg.ls.1;have q2:=hg.ad.1;have q3:=hg.pt.1;simp only at q1 q2 q3 hty;simp only[ZD,Prod.mk.injEq,Rr.mk.injEq,true_and,and_true];omega
theorem At.recs{s:ByteArray}:∀(l:List Rr) (a:Nat),At s a (Bg l)→(∀r∈l,r.Good∧r.un=true)→Fg s l.length a=some (l,a+(Bg l).length)
 |[],a,_,_=>rfl
 |r::l,a,h,hg=>by
  have e:Bg (r::l)=H5 r++Bg l:=rfl;rw[e]at h ⊢;have b1:=h.app.1.rec_ (hg r (by simp)).1 (hg r (by simp)).2;have b2:=At.recs l _ h.app.2 fun x hx=>hg x (by simp[hx]);show Fg s (l.length+1) a=_;rw[Fg,b1,ZA];simp only;rw[b2,ZA];simp only[ZF];congr 2;omega
theorem Av4(m:Ms)(h:0≤m.co∧m.co≤15):(Ec m/256).toNat=(if m.an then 128 else 0)+(if m.ct then 2 else 0)∧(Ec m%256).toNat=m.co.toNat:=by
 unfold Ec;cases m.an<;>cases m.ct<;>simp<;>omega
theorem Zp(m:Ms):Cx m=Av [m.id]++(UInt8.ofNat (Ec m/256).toNat::UInt8.ofNat (Ec m%256).toNat::(Av [1]++(Av [(m.rs.length:Int)]++(Av [0]++(Av [0]++(Bv m.qn++(Av [m.qt]++(Av [1]++Bg m.rs)))))))):=by
 unfold Cx;rw[Fi m.id,Fi (Ec m),Fi 1,Fi (m.rs.length:Int),Fi 0,Fi m.qt];rw[show Av [Ec m]=[UInt8.ofNat (Ec m/256).toNat,UInt8.ofNat (Ec m%256).toNat]from rfl];simp only[ZS,List.cons_append,List.nil_append]
theorem Ata{m:Ms}(hm:m.Good)(hu:∀r∈m.rs,r.un=true):Od ⟨(Cx m).toArray⟩=some m:=by
 have h:At ⟨(Cx m).toArray⟩ 0 (Cx m):=⟨[],[],by simp,rfl⟩;have hs:(⟨(Cx m).toArray⟩:ByteArray).size=(Cx m).length:=by show(Cx m).toArray.size=_;simp
 obtain⟨f1,f2⟩:=Av4 m hm.co;generalize hS:(⟨(Cx m).toArray⟩:ByteArray)=s at *;have hlen:(Cx m).length=12+(Bv m.qn).length+4+(Bg m.rs).length:=by
  rw[Zp];simp only[ZF,ZJ,Au,ZN];omega
 rw[hlen]at hs;rw[Zp]at h;have hty:0≤m.qt∧m.qt≤65535:=by rcases hm.qt with q|q|q<;>omega
 have hln:=hm.len;have hco:=hm.co;have b1:=h.app.1.two hm.id.1 hm.id.2;have g1:=h.app.2;rw[Au]at g1;have hA:(Ec m/256).toNat<256:=by rw[f1];cases m.an<;>cases m.ct<;>decide
 obtain⟨b2,g2⟩:=g1.byteN hA;obtain⟨b3,g3⟩:=g2.byteN (by rw[f2];omega);have b4:=g3.app.1.two (by omega) (by omega);have g4:=g3.app.2;rw[Au]at g4;have b5:=g4.app.1.two (by omega) (by omega);have g5:=g4.app.2;rw[Au]at g5;have b6:=g5.app.1.two (by omega) (by omega);have g6:=g5.app.2;rw[Au]at g6;have b7:=g6.app.1.two (by omega) (by omega);have g7:=g6.app.2;rw[Au]at g7;have b8:=g7.app.1.name hm.qn;have g8:=g7.app.2;have b9:=g8.app.1.two hty.1 hty.2;have g9:=g8.app.2;rw[Au]at g9;have b10:=g9.app.1.two (by omega) (by omega);have g10:=g9.app.2;rw[Au]at g10;have b11:=At.recs m.rs _ g10 fun r hr=>⟨hm.rs r hr,hu r hr⟩;simp only[ZJ,ZN,Nat.zero_add,Nat.mul_one]at b1 b2 b3 b4 b5 b6 b7 b8 b9 b10 b11;unfold Od;rw[b1,ZA];simp only[Nat.zero_add];rw[b2,ZA];simp only;rw[b3,ZA];simp only;rw[f1,f2,if_pos (by cases m.an<;>cases m.ct<;>simp[Af0]<;>omega),b4,ZA];simp only;rw[if_pos (by decide),b5,ZA];simp only;rw[if_pos (by omega),b6,ZA];simp only;rw[if_pos (by decide),b7,ZA];simp only;rw[if_pos (by decide),b8,ZA];simp only;rw[b9,ZA];simp only;rw[b10,ZA];simp only;rw[if_pos (by decide),Int.toNat_natCast,b11,ZA];simp only;rw[if_pos (by omega)];obtain⟨id,an,ct,co,qn,qt,rs⟩:=m;have q1:=hm.id.1;simp only at q1 hco hty;simp only[ZD,Ms.mk.injEq,and_true,true_and];refine⟨by omega,?_,?_,by omega,by omega⟩
 ·cases an<;>cases ct<;>simp
 ·cases an<;>cases ct<;>simp
end Pl
namespace Pl
def A9:Ms:=⟨0,false,false,0,⟨#[]⟩,0,[]⟩
def rdP(s:ByteArray):Ms×Int:=if 512<s.size then(A9,2)else match Od s with
 |none=>(A9,1)
 |some m=>if A4 m=0 then(m,0)else(A9,1)
end Pl
theorem Fr.out{L:Nat→Prop}{a b c:World}(h:Fr (fun _=>False) a b)(k:Fr L b c)(hl:∀i,L i→a.heap.size≤i):Fr (fun _=>False) a c:=
 ⟨k.os.trans h.os,k.tape.trans h.tape,k.output.trans h.output,XI h.size k.size,fun i hi _=>(k.block i (XH hi h.size) (fun hL=>by have:=hl i hL;omega)).trans (h.block i hi id)⟩
theorem Fr.blk{L:Nat→Prop}{a b:World}{g:Nat}{t:TypeId}{cs:Array Value}(h:Fr L a b)(hb:Blk a g t cs)(hl:¬L g):Blk b g t cs:=(h.block g hb.lt hl).trans hb
def msV(m:Ms)(y:Value):Value:=.agg #[.int .i64 m.id,.bool m.an,.bool m.ct,.int .i64 m.co,.string m.qn,.int .i64 m.qt,y]
theorem Amf{w:World}{R:Nat→Prop}{m:Ms}{y:Value}(h:RV w R noG (.sl false (m.rs.map Rr.row)) y):RV w R noG (.agg m.row) (msV m y):=by
 refine .agg m.row [.int .i64 m.id,.bool m.an,.bool m.ct,.int .i64 m.co,.string m.qn,.int .i64 m.qt,y] rfl fun i u x hu hx=>?_;unfold Ms.row at hu;rcases i with _|_|_|_|_|_|_|i
 all_goals first
  |(cases hu;cases hx;exact .v _)
  |(cases hu;cases hx;exact h)
  |(simp at hu)
theorem Ba3{w:World}{R:Nat→Prop}{m:Ms}{x:Value}(h:RV w R noG (.agg m.row) x):∃y,x=msV m y∧RV w R noG (.sl false (m.rs.map Rr.row)) y:=by
 cases h with
 |agg cs xs hl h=>
  obtain⟨x0,x1,x2,x3,x4,x5,x6,rfl⟩:∃x0 x1 x2 x3 x4 x5 x6,xs=[x0,x1,x2,x3,x4,x5,x6]:=by
   rcases xs with _|⟨x0,_|⟨x1,_|⟨x2,_|⟨x3,_|⟨x4,_|⟨x5,_|⟨x6,_|⟨x7,xs⟩⟩⟩⟩⟩⟩⟩⟩<;>simp[Ms.row]at hl;exact⟨_,_,_,_,_,_,_,rfl⟩
  have h0:=Ce (h 0 _ _ rfl rfl);have h1:=Ce (h 1 _ _ rfl rfl);have h2:=Ce (h 2 _ _ rfl rfl);have h3:=Ce (h 3 _ _ rfl rfl);have h4:=Ce (h 4 _ _ rfl rfl);have h5:=Ce (h 5 _ _ rfl rfl);subst h0 h1 h2 h3 h4 h5;exact⟨x6,rfl,h 6 _ _ rfl rfl⟩
theorem Aps{w:World}{R:Nat→Prop}{G:Nat→Option Loc}{cl:Bool}{rows:List (List V)}{x:Value}(h:RV w R G (.sl cl rows) x):∃a k c,x=.slice a k c:=by
 generalize e:V.sl cl rows=u at h;cases h with
 |nil=>exact⟨_,_,_,rfl⟩
 |sl=>exact⟨_,_,_,rfl⟩
 |_=>cases e
theorem Adm{w:World}{R:Nat→Prop}{u:V}{x:Value}(h:RV w R noG u x):Kx w R [.c u] [x]:=by
 refine⟨rfl,fun i p y h1 h2=>?_,fun i j T sz rows T' sz' rows' x y b hij h1=>?_,fun b h=>?_⟩
 ·rcases i with _|i
  ·cases h1;cases h2;exact h
  ·simp at h1
 ·rcases i with _|i<;>simp at h1
 ·obtain⟨i,T,sz,rows,x,h1,_⟩:=h;rcases i with _|i<;>simp at h1
theorem Aee{u:V}{x:Value}{b:Nat}(h:A2 [.c u] [x] b):False:=by
 obtain⟨i,T,sz,rows,x,h1,_⟩:=h;rcases i with _|i<;>simp at h1
theorem Afg(w:World)(R:Nat→Prop):RV w R noG (.agg A9.row) (.agg K4):=Amf (m:=A9) (y:=.slice none 0 0) (.nil false none 0 (by simp))
def Af7(R:Nat→Prop)(w:World)(m:Ms)(er:Int)(e:Ending)(w':World):Prop:=
 ∃(x:Value) (R':Nat→Prop),e=.returned (.tuple #[x,.int .i64 er])∧Fr (fun _=>False) w w'∧(∀b,R b→R' b)∧(∀b,R' b→R b∨(b<w'.heap.size∧w.heap.size≤b))∧RV w' R' noG (.agg m.row) x
theorem Am3{s:ByteArray}{W:World}{R:Nat→Prop}{n:Nat}{cs:List Par}(hb:Blk W n rdT #[.string s,.int .i64 0])(hn:¬R n):Di W R [.mn rdT (rdC s 0) cs] [.pointer (some ⟨n,0,none⟩)] (fun k=>k=n):=by
 have hp:Kx W R (rdC s 0) [.string s,.int .i64 0]:=by
  refine⟨rfl,fun i p x h1 h2=>?_,fun i j T sz rows T' sz' rows' x y b hij h1=>?_,fun b h=>?_⟩
  ·rcases i with _|_|i
   ·cases h1;cases h2;exact .v _
   ·cases h1;cases h2;exact .v _
   ·simp[rdC,rdZ]at h1
  ·rcases i with _|_|i<;>simp[rdC,rdZ]at h1
  ·obtain⟨i,T,sz,rows,x,h1,_⟩:=h;rcases i with _|_|i<;>simp[rdC,rdZ]at h1
 have hnb:∀k,¬A2 (rdC s 0) [.string s,.int .i64 0] k:=fun k h=>by
  obtain⟨i,T,sz,rows,x,h1,_⟩:=h;rcases i with _|_|i<;>simp[rdC,rdZ]at h1
 refine⟨fun k=>k=n,fun _=>False,⟨n,[.string s,.int .i64 0],rfl,by simp[rdC,rdZ],⟨rfl,.inr ⟨n,1,_,rfl,ZU _,hb,by simp,by decide,rfl,rfl⟩⟩,hp,by simp[Value.oneCell'],hnb n,fun k=>⟨.inl,fun h=>h.elim id (fun h=>absurd h (hnb k))⟩⟩,fun _ h=>h,fun b h=>⟨id,by rw[h];exact hn⟩,fun b=>⟨.inl,fun h=>h.elim id False.elim⟩⟩
set_option maxRecDepth 100000 in
set_option maxHeartbeats 2000000 in
theorem Aob(s:ByteArray)(w:World)(h:(512:Int)<(s.size:Int))(R:Nat→Prop)(hlt:∀b,R b→b<w.heap.size):Calls Tryz.prog 17 #[.string s] w (Af7 R w A9 2):=by
 have hmf:∀(fn:Fn) (first cap:Array Value) (w:World),(Instr.makeFunc fn first cap).run Tryz.prog w=.ok (.func fn first cap) w:=fun _ _ _ _=>rfl
 go_enter_defers Tryz.func17,Tryz.ntmps17
 go_wp2
 have B0:=Blk.new w 52 K4;have B1:=Blk.new (w.alloc (.cells K4 52)) 32 #[.int .i64 2];have B2:=B0.alloc (.cells #[.int .i64 2] 32);simp[bodyPostD,Leaves,settle,results,Tryz.results17,go_sem];refine⟨.agg K4,R,rfl,?_,fun b h=>h,fun b h=>.inl h,Afg _ _⟩;exact((Fr.refl _ w).alloc_ _).alloc_ _
set_option maxRecDepth 100000 in
set_option maxHeartbeats 2000000 in
theorem As2(s:ByteArray)(w:World)(h:¬(512:Int)<(s.size:Int))(R:Nat→Prop)(hlt:∀b,R b→b<w.heap.size)(hd:Hi Tryz.prog 38 [.mn rdT (rdC s 0) (rdC s 0)] Hl):Calls Tryz.prog 17 #[.string s] w (Af7 R w A9 1):=by
 have hmf:∀(fn:Fn) (first cap:Array Value) (w:World),(Instr.makeFunc fn first cap).run Tryz.prog w=.ok (.func fn first cap) w:=fun _ _ _ _=>rfl
 go_enter_defers Tryz.func17,Tryz.ntmps17
 go_wp2_with fail
 have B0:=Blk.new w 52 K4;have B1:=Blk.new_ (w.alloc (.cells K4 52)) 32 #[.int .i64 0] (g:=w.heap.size+1) (by simp[World.alloc,-World.alloc_eq]);have B0':=B0.alloc (.cells #[.int .i64 0] 32);have B2:=Blk.new_ ((w.alloc (.cells K4 52)).alloc (.cells #[.int .i64 0] 32)) rdT #[.string s,.int .i64 0] (g:=w.heap.size+1+1) (by simp[World.alloc,-World.alloc_eq]);have B0'':=B0'.alloc (.cells #[.string s,.int .i64 0] rdT);have B1'':=B1.alloc (.cells #[.string s,.int .i64 0] rdT);refine(hd.2 _ (fun _=>False) [_] _ (fun _ h=>h.elim) (Am3 B2 id)).mono ?_
 rintro e w1 ⟨rfl,hf⟩
 have C0:=hf.blk B0'' (by omega);have C1:=hf.blk B1'' (by omega);refine leaves_cons (f:=37) (args:= #[.pointer (some ⟨w.heap.size,0,none⟩),.pointer (some ⟨w.heap.size+1,0,none⟩)]) (by simp) (by simp[go_sem]) ?_;refine(Akc w.heap.size (w.heap.size+1) _ _ _ _ _ _ _ _ w1 C0 C1 (by omega)).mono ?_
 rintro e u' w2 ⟨rfl,rfl,hC⟩
 obtain⟨D0,D1,hf2⟩:=hC;have e0:w2.cell? ⟨w.heap.size,0,none⟩=some (.int .i64 0):=D0.cell 0;have e1:w2.cell? ⟨w.heap.size,1,none⟩=some (.bool false):=D0.cell 1;have e2:w2.cell? ⟨w.heap.size,2,none⟩=some (.bool false):=D0.cell 2;have e3:w2.cell? ⟨w.heap.size,3,none⟩=some (.int .i64 0):=D0.cell 3;have e4:w2.cell? ⟨w.heap.size,4,none⟩=some (.string ⟨#[]⟩):=D0.cell 4;have e5:w2.cell? ⟨w.heap.size,5,none⟩=some (.int .i64 0):=D0.cell 5;have e6:w2.cell? ⟨w.heap.size,6,none⟩=some (.slice none 0 0):=D0.cell 6;have g0:w2.cell? ⟨w.heap.size+1,0,none⟩=some (.int .i64 1):=D1.cell 0;simp[Leaves,settle,results,Tryz.results17,go_sem,e0,e1,e2,e3,e4,e5,e6,g0];refine⟨.agg K4,R,rfl,?_,fun b h=>h,fun b h=>.inl h,Afg _ _⟩;have F0:Fr (fun _=>False) w _:=(((Fr.refl _ w).alloc_ (.cells K4 52)).alloc_ (.cells #[.int .i64 0] 32)).alloc_ (.cells #[.string s,.int .i64 0] rdT);exact(F0.out hf (fun i hi=>by omega)).out hf2 (fun i hi=>by omega)
set_option maxRecDepth 100000 in
set_option maxHeartbeats 2000000 in
theorem Atw(s:ByteArray)(m:Ms)(w:World)(h:¬(512:Int)<(s.size:Int))(R:Nat→Prop)(hlt:∀b,R b→b<w.heap.size)(hm:H3 Tryz.prog 38 [.mn rdT (rdC s 0) (rdC s s.size)] [.p (.c (.agg m.row))])(hc:Fun Tryz.prog 35 [.c (.agg m.row)] [.c (.v (.int .i64 (A4 m)))])(v:Ms)(er:Int)(hv:A4 m=0→v=m∧er=0)(hz:A4 m≠0→v=A9∧er=1):Calls Tryz.prog 17 #[.string s] w (Af7 R w v er):=by
 have hv:=hid hv;have hz:=hid hz;have hmf:∀(fn:Fn) (first cap:Array Value) (w:World),(Instr.makeFunc fn first cap).run Tryz.prog w=.ok (.func fn first cap) w:=fun _ _ _ _=>rfl
 go_enter_defers Tryz.func17,Tryz.ntmps17
 go_wp2_with fail
 have B0:=Blk.new w 52 K4;have B1:=Blk.new_ (w.alloc (.cells K4 52)) 32 #[.int .i64 0] (g:=w.heap.size+1) (by simp[World.alloc,-World.alloc_eq]);have B0':=B0.alloc (.cells #[.int .i64 0] 32);have B2:=Blk.new_ ((w.alloc (.cells K4 52)).alloc (.cells #[.int .i64 0] 32)) rdT #[.string s,.int .i64 0] (g:=w.heap.size+1+1) (by simp[World.alloc,-World.alloc_eq]);have B0'':=B0'.alloc (.cells #[.string s,.int .i64 0] rdT);have B1'':=B1.alloc (.cells #[.string s,.int .i64 0] rdT);have F0:Fr (fun _=>False) w _:=(((Fr.refl _ w).alloc_ (.cells K4 52)).alloc_ (.cells #[.int .i64 0] 32)).alloc_ (.cells #[.string s,.int .i64 0] rdT);refine(hm.2 _ R [_] _ (fun b hb=>XH (hlt b hb) F0.size) (Am3 B2 fun hR=>by have:=hlt _ hR;omega)).mono ?_
 rintro e w1 ⟨ys,R1,F1,rfl,hl,hf,hR1,hR2,hp,hF⟩
 have C0:=hf.blk B0'' (by omega);have C1:=hf.blk B1'' (by omega);obtain⟨x,rfl⟩:∃x,ys=[x]:=by
  rcases ys with _|⟨x,_|⟨x',ys⟩⟩<;>simp at hl;exact⟨x,rfl⟩
 obtain⟨y,rfl,hy⟩:∃y,x=msV m y∧RV w1 R1 noG (.sl false (m.rs.map Rr.row)) y:=by
  obtain⟨G1,G2,h1,_⟩:=hp;exact Ba3 h1.1
 obtain⟨a,k,c,rfl⟩:∃a k c,y=.slice a k c:=by
  exact Aps hy
 have hy:=hid hy;have hR1:=hid hR1;have hR2:=hid hR2;have hp:=hid hp;have hF:=hid hF;have HF:=hid hf;clear hf;have e0:w1.cell? ⟨w.heap.size,0,none⟩=some (.int .i64 0):=C0.cell 0;have e1:w1.cell? ⟨w.heap.size,1,none⟩=some (.bool false):=C0.cell 1;have e2:w1.cell? ⟨w.heap.size,2,none⟩=some (.bool false):=C0.cell 2;have e3:w1.cell? ⟨w.heap.size,3,none⟩=some (.int .i64 0):=C0.cell 3;have e4:w1.cell? ⟨w.heap.size,4,none⟩=some (.string ⟨#[]⟩):=C0.cell 4;have e5:w1.cell? ⟨w.heap.size,5,none⟩=some (.int .i64 0):=C0.cell 5;have e6:w1.cell? ⟨w.heap.size,6,none⟩=some (.slice none 0 0):=C0.cell 6;have f0:=fun i=>C0.frozen i;have g0:w1.cell? ⟨w.heap.size+1,0,none⟩=some (.int .i64 0):=C1.cell 0;have h0:=C1.frozen 0;simp only[G7,msV]
 go_wp2_with fail
 have D0:Blk (((((((w1.setCell ⟨w.heap.size,0,none⟩ (.int .i64 m.id)).setCell ⟨w.heap.size,1,none⟩ (.bool m.an)).setCell ⟨w.heap.size,2,none⟩ (.bool m.ct)).setCell ⟨w.heap.size,3,none⟩ (.int .i64 m.co)).setCell ⟨w.heap.size,4,none⟩ (.string m.qn)).setCell ⟨w.heap.size,5,none⟩ (.int .i64 m.qt)).setCell ⟨w.heap.size,6,none⟩ (.slice a k c)) w.heap.size 52 #[.int .i64 m.id,.bool m.an,.bool m.ct,.int .i64 m.co,.string m.qn,.int .i64 m.qt,.slice a k c]:=
  ((((((C0.set_ 0 _).set_ 1 _).set_ 2 _).set_ 3 _).set_ 4 _).set_ 5 _).set_ 6 _
 have D1:=((((((C1.far (p:=⟨w.heap.size,0,none⟩) (by simp) (.int .i64 m.id)).far (p:=⟨w.heap.size,1,none⟩) (by simp) (.bool m.an)).far (p:=⟨w.heap.size,2,none⟩) (by simp) (.bool m.ct)).far (p:=⟨w.heap.size,3,none⟩) (by simp) (.int .i64 m.co)).far (p:=⟨w.heap.size,4,none⟩) (by simp) (.string m.qn)).far (p:=⟨w.heap.size,5,none⟩) (by simp) (.int .i64 m.qt)).far (p:=⟨w.heap.size,6,none⟩) (by simp) (.slice a k c);have F2:Fr (fun k=>k=w.heap.size) w1 _:=(((((((Fr.refl (fun k=>k=w.heap.size) w1).set_ rfl 0 (.int .i64 m.id)).set_ rfl 1 (.bool m.an)).set_ rfl 2 (.bool m.ct)).set_ rfl 3 (.int .i64 m.co)).set_ rfl 4 (.string m.qn)).set_ rfl 5 (.int .i64 m.qt)).set_ rfl 6 (.slice a k c);generalize hw2:(((((((w1.setCell ⟨w.heap.size,0,none⟩ (.int .i64 m.id)).setCell ⟨w.heap.size,1,none⟩ (.bool m.an)).setCell ⟨w.heap.size,2,none⟩ (.bool m.ct)).setCell ⟨w.heap.size,3,none⟩ (.int .i64 m.co)).setCell ⟨w.heap.size,4,none⟩ (.string m.qn)).setCell ⟨w.heap.size,5,none⟩ (.int .i64 m.qt)).setCell ⟨w.heap.size,6,none⟩ (.slice a k c))=w2 at D0 D1 F2 ⊢;clear e0 e1 e2 e3 e4 e5 e6 f0 g0 h0 hw2;have hn1:∀b,R1 b→b≠w.heap.size∧b≠w.heap.size+1:=fun b hb=>by
  rcases hR2.out b hb with g|⟨g1,g2⟩
  ·have:=hlt b g;omega
  ·rcases g2 with g2|g2
   ·omega
   ·have:=F0.size;simp[World.alloc,-World.alloc_eq]at g2;omega
 have hlt1:∀b,R1 b→b<w1.heap.size:=fun b hb=>by
  rcases hR2.out b hb with g|⟨g1,g2⟩
  ·have:=hlt b g;have:=F0.size;have:=HF.out.size;omega
  ·exact g1
 have hy2:=hy.out.mono (fun b hb=>⟨hb,F2.block b (hlt1 b hb) (hn1 b hb).1⟩) (Gle.refl _);refine(hc.2 _ R1 [_] (fun b hb=>XH (hlt1 b hb) F2.size) (Adm (Amf hy2))).mono ?_
 rintro e w3 ⟨ys,R3,rfl,hf3,hR3,hR4,hp3,hF3⟩
 obtain⟨x,rfl⟩:∃x,ys=[x]:=by
  have hl:=hp3.len;rcases ys with _|⟨x,_|⟨x',ys⟩⟩<;>simp at hl
  exact⟨x,rfl⟩
 have hx:x=.int .i64 (A4 m):=Ce (hp3.ok 0 _ _ rfl rfl);subst hx;have hf3':Fr (fun _=>False) w2 w3:=⟨hf3.os,hf3.tape,hf3.output,hf3.size,fun k hk _=>hf3.block k hk Aee⟩;have E0:=hf3'.blk D0 id;have E1:=hf3'.blk D1 id;have hy3:=hid (hy2.mono (fun b hb=>⟨hb,hf3'.block b (XH (hlt1 b hb) F2.size) id⟩) (Gle.refl _));have HF3:=hid hf3';have hp3:=hid hp3;have hn1:=hid hn1;have hlt1:=hid hlt1;clear hf3 hR3 hR4 hF3 hp3 hf3' hy2;simp only[G7];have e0:w3.cell? ⟨w.heap.size,0,none⟩=some (.int .i64 m.id):=E0.cell 0;have e1:w3.cell? ⟨w.heap.size,1,none⟩=some (.bool m.an):=E0.cell 1;have e2:w3.cell? ⟨w.heap.size,2,none⟩=some (.bool m.ct):=E0.cell 2;have e3:w3.cell? ⟨w.heap.size,3,none⟩=some (.int .i64 m.co):=E0.cell 3;have e4:w3.cell? ⟨w.heap.size,4,none⟩=some (.string m.qn):=E0.cell 4;have e5:w3.cell? ⟨w.heap.size,5,none⟩=some (.int .i64 m.qt):=E0.cell 5;have e6:w3.cell? ⟨w.heap.size,6,none⟩=some (.slice a k c):=E0.cell 6;have f0:=fun i=>E0.frozen i;have g0:w3.cell? ⟨w.heap.size+1,0,none⟩=some (.int .i64 0):=E1.cell 0;have h0:=E1.frozen 0;by_cases hE:A4 m=0
 ·obtain⟨h1,h2⟩:=hv.out hE;have h1:=hid h1;have h2:=hid h2
  go_wp2_with fail
  refine leaves_cons (f:=37) (args:= #[.pointer (some ⟨w.heap.size,0,none⟩),.pointer (some ⟨w.heap.size+1,0,none⟩)]) (by simp) (by simp[go_sem]) ?_;refine(Abj w.heap.size (w.heap.size+1) _).mono ?_
  rintro e u' w4 ⟨rfl,rfl,hw4⟩
  have F4:Fr (fun k=>k=w.heap.size∨k=w.heap.size+1) w3 w4:=by rw[hw4];exact(((((((((Fr.refl (fun k=>k=w.heap.size∨k=w.heap.size+1) w3).set_ (.inl rfl) 0 (.int .i64 m.id)).set_ (.inl rfl) 1 (.bool m.an)).set_ (.inl rfl) 2 (.bool m.ct)).set_ (.inl rfl) 3 (.int .i64 m.co)).set_ (.inl rfl) 4 (.string m.qn)).set_ (.inl rfl) 5 (.int .i64 m.qt)).set_ (.inl rfl) 6 (.slice a k c)).set_ (.inr rfl) 0 (.int .i64 0)).alloc_ (.cells #[] 77)
  have G0:Blk w4 w.heap.size 52 #[.int .i64 m.id,.bool m.an,.bool m.ct,.int .i64 m.co,.string m.qn,.int .i64 m.qt,.slice a k c]:=by rw[hw4];exact((((((((E0.set_ 0 (.int .i64 m.id)).set_ 1 (.bool m.an)).set_ 2 (.bool m.ct)).set_ 3 (.int .i64 m.co)).set_ 4 (.string m.qn)).set_ 5 (.int .i64 m.qt)).set_ 6 (.slice a k c)).far (p:=⟨w.heap.size+1,0,none⟩) (by simp) (.int .i64 0)).alloc (.cells #[] 77)
  have G1:Blk w4 (w.heap.size+1) 32 #[.int .i64 0]:=by rw[hw4];exact((((((((E1.far (p:=⟨w.heap.size,0,none⟩) (by simp) (.int .i64 m.id)).far (p:=⟨w.heap.size,1,none⟩) (by simp) (.bool m.an)).far (p:=⟨w.heap.size,2,none⟩) (by simp) (.bool m.ct)).far (p:=⟨w.heap.size,3,none⟩) (by simp) (.int .i64 m.co)).far (p:=⟨w.heap.size,4,none⟩) (by simp) (.string m.qn)).far (p:=⟨w.heap.size,5,none⟩) (by simp) (.int .i64 m.qt)).far (p:=⟨w.heap.size,6,none⟩) (by simp) (.slice a k c)).set_ 0 (.int .i64 0)).alloc (.cells #[] 77)
  clear hw4 e0 e1 e2 e3 e4 e5 e6 f0 g0 h0;have e0:w4.cell? ⟨w.heap.size,0,none⟩=some (.int .i64 m.id):=G0.cell 0;have e1:w4.cell? ⟨w.heap.size,1,none⟩=some (.bool m.an):=G0.cell 1;have e2:w4.cell? ⟨w.heap.size,2,none⟩=some (.bool m.ct):=G0.cell 2;have e3:w4.cell? ⟨w.heap.size,3,none⟩=some (.int .i64 m.co):=G0.cell 3;have e4:w4.cell? ⟨w.heap.size,4,none⟩=some (.string m.qn):=G0.cell 4;have e5:w4.cell? ⟨w.heap.size,5,none⟩=some (.int .i64 m.qt):=G0.cell 5;have e6:w4.cell? ⟨w.heap.size,6,none⟩=some (.slice a k c):=G0.cell 6;have g0:w4.cell? ⟨w.heap.size+1,0,none⟩=some (.int .i64 0):=G1.cell 0;simp[Leaves,settle,results,Tryz.results17,go_sem,e0,e1,e2,e3,e4,e5,e6,g0];rw[h1.out,h2.out];refine⟨msV m (.slice a k c),R1,rfl,((((F0.out HF.out (fun i hi=>by omega)).out F2 (fun i hi=>by omega)).out HF3.out (fun i hi=>hi.elim))).out F4 (fun i hi=>by omega),hR1.out,fun b hb=>?_,Amf (hy3.out.mono (fun b hb=>⟨hb,F4.block b (XH (hlt1.out b hb) (XI F2.size HF3.out.size)) (by have:=hn1.out b hb;omega)⟩) (Gle.refl _))⟩;rcases hR2.out b hb with g|⟨g1,g2⟩
  ·exact .inl g
  ·refine .inr ⟨XH g1 (XI F2.size (XI HF3.out.size F4.size)),?_⟩;rcases g2 with g2|g2
   ·omega
   ·exact XI F0.size g2
 ·obtain⟨h1,h2⟩:=hz.out hE;have h1:=hid h1;have h2:=hid h2
  go_wp2_with fail
  refine leaves_cons (f:=37) (args:= #[.pointer (some ⟨w.heap.size,0,none⟩),.pointer (some ⟨w.heap.size+1,0,none⟩)]) (by simp) (by simp[go_sem]) ?_;refine(Abj w.heap.size (w.heap.size+1) _).mono ?_
  rintro e u' w4 ⟨rfl,rfl,hw4⟩
  have F4:Fr (fun k=>k=w.heap.size∨k=w.heap.size+1) w3 w4:=by rw[hw4];exact(((((((((Fr.refl (fun k=>k=w.heap.size∨k=w.heap.size+1) w3).set_ (.inl rfl) 0 (.int .i64 0)).set_ (.inl rfl) 1 (.bool false)).set_ (.inl rfl) 2 (.bool false)).set_ (.inl rfl) 3 (.int .i64 0)).set_ (.inl rfl) 4 (.string ⟨#[]⟩)).set_ (.inl rfl) 5 (.int .i64 0)).set_ (.inl rfl) 6 (.slice none 0 0)).set_ (.inr rfl) 0 (.int .i64 1)).alloc_ (.cells #[] 77)
  have G0:Blk w4 w.heap.size 52 #[.int .i64 0,.bool false,.bool false,.int .i64 0,.string ⟨#[]⟩,.int .i64 0,.slice none 0 0]:=by rw[hw4];exact((((((((E0.set_ 0 (.int .i64 0)).set_ 1 (.bool false)).set_ 2 (.bool false)).set_ 3 (.int .i64 0)).set_ 4 (.string ⟨#[]⟩)).set_ 5 (.int .i64 0)).set_ 6 (.slice none 0 0)).far (p:=⟨w.heap.size+1,0,none⟩) (by simp) (.int .i64 1)).alloc (.cells #[] 77)
  have G1:Blk w4 (w.heap.size+1) 32 #[.int .i64 1]:=by rw[hw4];exact((((((((E1.far (p:=⟨w.heap.size,0,none⟩) (by simp) (.int .i64 0)).far (p:=⟨w.heap.size,1,none⟩) (by simp) (.bool false)).far (p:=⟨w.heap.size,2,none⟩) (by simp) (.bool false)).far (p:=⟨w.heap.size,3,none⟩) (by simp) (.int .i64 0)).far (p:=⟨w.heap.size,4,none⟩) (by simp) (.string ⟨#[]⟩)).far (p:=⟨w.heap.size,5,none⟩) (by simp) (.int .i64 0)).far (p:=⟨w.heap.size,6,none⟩) (by simp) (.slice none 0 0)).set_ 0 (.int .i64 1)).alloc (.cells #[] 77)
  clear hw4 e0 e1 e2 e3 e4 e5 e6 f0 g0 h0;have e0:w4.cell? ⟨w.heap.size,0,none⟩=some (.int .i64 0):=G0.cell 0;have e1:w4.cell? ⟨w.heap.size,1,none⟩=some (.bool false):=G0.cell 1;have e2:w4.cell? ⟨w.heap.size,2,none⟩=some (.bool false):=G0.cell 2;have e3:w4.cell? ⟨w.heap.size,3,none⟩=some (.int .i64 0):=G0.cell 3;have e4:w4.cell? ⟨w.heap.size,4,none⟩=some (.string ⟨#[]⟩):=G0.cell 4;have e5:w4.cell? ⟨w.heap.size,5,none⟩=some (.int .i64 0):=G0.cell 5;have e6:w4.cell? ⟨w.heap.size,6,none⟩=some (.slice none 0 0):=G0.cell 6;have g0:w4.cell? ⟨w.heap.size+1,0,none⟩=some (.int .i64 1):=G1.cell 0;simp[Leaves,settle,results,Tryz.results17,go_sem,e0,e1,e2,e3,e4,e5,e6,g0];rw[h1.out,h2.out];refine⟨.agg K4,R1,rfl,((((F0.out HF.out (fun i hi=>by omega)).out F2 (fun i hi=>by omega)).out HF3.out (fun i hi=>hi.elim))).out F4 (fun i hi=>by omega),hR1.out,fun b hb=>?_,Afg _ _⟩;rcases hR2.out b hb with g|⟨g1,g2⟩
  ·exact .inl g
  ·refine .inr ⟨XH g1 (XI F2.size (XI HF3.out.size F4.size)),?_⟩;rcases g2 with g2|g2
   ·omega
   ·exact XI F0.size g2
theorem Afv{s:ByteArray}:∀{n a:Nat} {L:List Rr} {a':Nat},Fg s n a=some (L,a')→L.length=n∧∀r∈L,r.nm.size≤1000∧r.tx.size≤s.size∧r.tg.size≤1000
 |0,a,L,a',h=>by
  unfold Fg at h;cases h;exact⟨rfl,fun r hr=>by cases hr⟩
 |n+1,a,L,a',h=>by
  unfold Fg at h;rcases e:Pp s a with _|⟨r,a1⟩
  ·rw[e]at h;cases h
  rw[e,ZA]at h;simp only at h;rcases e2:Fg s n a1 with _|⟨L1,a2⟩
  ·rw[e2]at h;cases h
  rw[e2,ZA]at h;cases h;obtain⟨h1,h2⟩:=Afv e2;have hb:=Yv e;refine⟨by rw[ZJ,h1],fun x hx=>?_⟩;rcases XC.1 hx with rfl|hx
  ·exact⟨hb.2.1,hb.2.2.1,hb.2.2.2⟩
  ·exact h2 x hx
theorem Auz{s:ByteArray}{m:Ms}(hs:s.size≤1000000)(h:Od s=some m):m.Sized∧m.rs.length≤20:=by
 unfold Od at h;rcases e1:Bt s 0 with _|⟨x1,a1⟩
 ·rw[e1]at h;cases h
 rw[e1,ZA]at h;simp only at h;rcases e2:Cr s a1 with _|⟨x2,a2⟩
 ·rw[e2]at h;cases h
 rw[e2,ZA]at h;simp only at h;rcases e3:Cr s a2 with _|⟨x3,a3⟩
 ·rw[e3]at h;cases h
 rw[e3,ZA]at h;simp only at h;split at h;rotate_left
 ·cases h
 rcases e4:Bt s a3 with _|⟨x4,a4⟩
 ·rw[e4]at h;cases h
 rw[e4,ZA]at h;simp only at h;split at h;rotate_left
 ·cases h
 rcases e5:Bt s a4 with _|⟨x5,a5⟩
 ·rw[e5]at h;cases h
 rw[e5,ZA]at h;simp only at h;split at h;rotate_left
 ·cases h
 rename_i c5;rcases e6:Bt s a5 with _|⟨x6,a6⟩
 ·rw[e6]at h;cases h
 rw[e6,ZA]at h;simp only at h;split at h;rotate_left
 ·cases h
 rcases e7:Bt s a6 with _|⟨x7,a7⟩
 ·rw[e7]at h;cases h
 rw[e7,ZA]at h;simp only at h;split at h;rotate_left
 ·cases h
 rcases e8:Eq s a7 with _|⟨x8,a8⟩
 ·rw[e8]at h;cases h
 rw[e8,ZA]at h;simp only at h;rcases e9:Bt s a8 with _|⟨x9,a9⟩
 ·rw[e9]at h;cases h
 rw[e9,ZA]at h;simp only at h;rcases e10:Bt s a9 with _|⟨x10,a10⟩
 ·rw[e10]at h;cases h
 rw[e10,ZA]at h;simp only at h;split at h;rotate_left
 ·cases h
 rcases e11:Fg s x5 a10 with _|⟨x11,a11⟩
 ·rw[e11]at h;cases h
 rw[e11,ZA]at h;simp only at h;split at h;rotate_left
 ·cases h
 cases h;obtain⟨h1,h2⟩:=Afv e11;have h8:=(Ij e8).2;refine⟨⟨by show x8.size≤_;omega,fun r hr=>?_⟩,by show x11.length≤20;omega⟩;obtain⟨g1,g2,g3⟩:=h2 r hr;exact⟨by omega,by omega,by omega⟩
theorem Qm{s:ByteArray}(h:512<s.size):rdP s=(A9,2):=if_pos h
theorem Fu{s:ByteArray}(h:¬512<s.size)(e:Od s=none):rdP s=(A9,1):=by unfold rdP;rw[if_neg h,e]
theorem N5{s:ByteArray}{m:Ms}(h:¬512<s.size)(e:Od s=some m):rdP s=if A4 m=0 then(m,0)else(A9,1):=by unfold rdP;rw[if_neg h,e]
theorem At4(s:ByteArray)(w:World)(R:Nat→Prop)(hlt:∀b,R b→b<w.heap.size):Calls Tryz.prog 17 #[.string s] w (Af7 R w (rdP s).1 (rdP s).2):=by
 by_cases h:512<s.size
 ·rw[Qm h];exact Aob s w (by omega) R hlt
 ·rcases e:Od s with _|m
  ·rw[Fu h e];exact As2 s w (by omega) R hlt (Adw e (by omega))
  ·obtain⟨h1,h2⟩:=Auz (by omega) e;rw[N5 h e];refine Atw s m w (by omega) R hlt (Afk e (by omega)) (Vp m h1 (by omega)) _ _ (fun he=>?_) (fun he=>?_)
   ·rw[if_pos he];exact⟨rfl,rfl⟩
   ·rw[if_neg he];exact⟨rfl,rfl⟩
theorem Up(s:ByteArray):Fun Tryz.prog 17 [.c (.v (.string s))] [.c (.agg (rdP s).1.row),.c (.v (.int .i64 (rdP s).2))]:=by
 refine⟨⟨_,Tryz.func17,by kernel_rfl,by kernel_rfl⟩,fun w R xs hlt hp=>?_⟩;obtain⟨x,rfl⟩:∃x,xs=[x]:=by
  have hl:=hp.len;rcases xs with _|⟨x,_|⟨x',xs⟩⟩<;>simp at hl
  exact⟨x,rfl⟩
 have hx:x=.string s:=Ce (hp.ok 0 _ _ rfl rfl);subst hx;refine(At4 s w R hlt).mono ?_
 rintro e w' ⟨x,R',rfl,hf,h1,h2,h3⟩
 have hnb:∀b,¬A2 [.c (.agg (rdP s).1.row),.c (.v (.int .i64 (rdP s).2))] [x,.int .i64 (rdP s).2] b:=fun b=>Mr (by intro p hp;rcases XC.1 hp with rfl|hp;exact⟨_,rfl⟩;rcases XC.1 hp with rfl|hp;exact⟨_,rfl⟩;cases hp);refine⟨[x,.int .i64 (rdP s).2],R',rfl,⟨hf.os,hf.tape,hf.output,hf.size,fun k hk _=>hf.block k hk id⟩,h1,fun b hb=>(h2 b hb).imp id (fun g=>⟨g.1,.inr g.2⟩),⟨rfl,fun i p y q1 q2=>?_,fun i j T sz rows T' sz' rows' x y b hij q1=>?_,fun b hb=>(hnb b hb).elim⟩,fun b hb=>(hnb b hb).elim⟩
 ·rcases i with _|_|i
  ·cases q1;cases q2;exact h3
  ·cases q1;cases q2;exact .v _
  ·simp at q1
 ·rcases i with _|_|i<;>simp at q1
namespace Pl
def m0:Ms:=⟨258,false,false,0,⟨#[97,46,98]⟩,1,[]⟩
theorem Asv:A4 m0=0:=by decide+kernel
theorem Ajg:(Cx m0).length=21:=by decide+kernel
theorem Ag4{m:Ms}(h:A4 m=0)(hl:¬512<(Cx m).length):rdP ⟨(Cx m).toArray⟩=(m,0):=by
 obtain⟨h1,h2⟩:=G9 h;rw[N5 (by simpa[ByteArray.size]using hl) (Ata h1 h2),if_pos h]
end Pl
theorem Fun.sub1{P:Program}{f:FuncId}{u u':V}{rs:List Par}(h:Fun P f [.c u] rs)(hs:∀(w:World) (R:Nat→Prop) (x:Value),RV w R noG u' x→RV w R noG u x):Fun P f [.c u'] rs:=by
 refine⟨h.1,fun w R xs hlt hp=>?_⟩;obtain⟨x,rfl⟩:∃x,xs=[x]:=by
  have hl:=hp.len;rcases xs with _|⟨x,_|⟨x',xs⟩⟩<;>simp at hl
  exact⟨x,rfl⟩
 have hq:∀b,A2 [.c u] [x] b↔A2 [.c u'] [x] b:=fun b=>⟨fun h=>(Aee h).elim,fun h=>(Aee h).elim⟩;refine(h.2 w R [x] hlt (Adm (hs w R x (hp.ok 0 _ _ rfl rfl)))).mono ?_
 rintro e w' ⟨ys,R',h1,h2,h3,h4,h5,h6⟩
 exact⟨ys,R',h1,⟨h2.os,h2.tape,h2.output,h2.size,fun k hk hn=>h2.block k hk fun q=>hn ((hq k).1 q)⟩,h3,fun b hb=>(h4 b hb).imp id fun g=>⟨g.1,g.2.imp (hq b).1 id⟩,h5,fun b hb=>(h6 b hb).imp (hq b).1 id⟩
def Zv(m:Ms):List V:=[.v (.int .i64 m.id),.v (.bool m.an),.v (.bool m.ct),.v (.int .i64 m.co),.v (.string m.qn),.v (.int .i64 m.qt),.v (.slice none 0 0)]
theorem Aiy{w:World}{R:Nat→Prop}{m:Ms}{x:Value}(hm:m.rs=[])(h:RV w R noG (.agg (Zv m)) x):RV w R noG (.agg m.row) x:=by
 cases h with
 |agg cs xs hl h=>
  obtain⟨x0,x1,x2,x3,x4,x5,x6,rfl⟩:∃x0 x1 x2 x3 x4 x5 x6,xs=[x0,x1,x2,x3,x4,x5,x6]:=by
   rcases xs with _|⟨x0,_|⟨x1,_|⟨x2,_|⟨x3,_|⟨x4,_|⟨x5,_|⟨x6,_|⟨x7,xs⟩⟩⟩⟩⟩⟩⟩⟩<;>simp[Zv]at hl;exact⟨_,_,_,_,_,_,_,rfl⟩
  have h0:=Ce (h 0 _ _ rfl rfl);have h1:=Ce (h 1 _ _ rfl rfl);have h2:=Ce (h 2 _ _ rfl rfl);have h3:=Ce (h 3 _ _ rfl rfl);have h4:=Ce (h 4 _ _ rfl rfl);have h5:=Ce (h 5 _ _ rfl rfl);have h6:=Ce (h 6 _ _ rfl rfl);subst h0 h1 h2 h3 h4 h5 h6;exact Amf (by rw[hm];exact .nil false none 0 (by simp))
theorem Avq:Fun Tryz.prog 15 [] [.c (.v (.bool true))]:=by
 obtain⟨w1,w2⟩:=Amk Asv (by rw[Ajg];decide);have r1:=Ag4 Asv (by rw[Ajg];decide);have hW:=(Adh m0 ⟨by decide,by simp[m0]⟩ (by decide)).sub1 (u':=.agg (Zv m0)) fun w R x h=>Aiy rfl h;rw[w1,w2]at hW;obtain⟨t,ht⟩:∃t:ByteArray,t=⟨(Cx m0).toArray⟩:=⟨_,rfl⟩;have hs:t.size=21:=by rw[ht];simpa[ByteArray.size]using Ajg
 rw[←ht]at hW r1;have hR:=Up t;rw[r1]at hR;simp only at hR;refine Ar O9 rfl ?_;refine G0 ?_;refine .inl (cX hW ?_);refine G1 ?_;intro gg;refine .inl (cX hR ?_);(refine goI ?_;repeat (intro gg;refine goI ?_));rw[hs];refine G0 ?_;rw[show(m0.qn.toList==(⟨#[97,46,98]⟩:ByteArray).toList)=true from beq_self_eq_true _];(exact⟨[],aI⟩)
namespace Pl
def bA(l:List UInt8):ByteArray:=⟨l.toArray⟩
theorem Ca(l r:List UInt8):bA l++bA r=bA (l++r):=by
 apply ByteArray.ext;rw[ByteArray.data_append];simp[bA]
theorem D2(l:List UInt8):(bA l).size=l.length:=by simp[bA,ByteArray.size]
theorem Abt(s:ByteArray):bA s.data.toList=s:=by simp[bA]
def lo8(n:Int):UInt8:=UInt8.ofNat (n%256).toNat
def Ew(n:Int):Nat→List UInt8
 |0=>[]
 |k+1=>Ew (n/256) k++[lo8 n]
theorem Amg{n:Nat}(h:n<256):lo8 (n:Int)=UInt8.ofNat n:=by
 unfold lo8;rw[show((n:Int)%256).toNat=n by omega]
theorem U1(n:Int)(k:Nat):(Ew n k).length=k:=by
 induction k generalizing n with
 |zero=>rfl
 |succ k ih=>simp[Ew,ih]
theorem Aoj{x n:Int}{k i:Nat}{l:List UInt8}(hlt:i<k)(h:Ew x (k-i)++l=Ew n k):Ew (x/256) (k-(i+1))++lo8 x::l=Ew n k:=by
 rw[←h,show k-i=(k-(i+1))+1 by omega,Ew];simp
end Pl
theorem Be(n:Int)(k:Nat)(h0:0≤n)(hn:n≤4611686018427387904)(hk:k≤100):Fun Tryz.prog 106 [.c (.v (.int .i64 n)),.c (.v (.int .i64 (k:Int)))] [.c (.v (.string (bA (Ew n k))))]:=by
 refine Ar P6 rfl ?_;refine G0 ?_;(refine⟨[],none,{p:Nat×Int×List UInt8//p.1≤k∧0≤p.2.1∧p.2.1≤4611686018427387904∧p.2.2.length=p.1∧Ew p.2.1 (k-p.1)++p.2.2=Ew n k},[1],fun⟨⟨i,x,l⟩,h1,h2,h3,h4,h5⟩=>[(0,.v (.int .i64 x)),(5,.v (.string (bA l))),(6,.v (.int .i64 (i:Int)))],[],fun⟨⟨i,x,l⟩,h1,h2,h3,h4,h5⟩=>[],fun⟨⟨i,x,l⟩,h1,h2,h3,h4,h5⟩=>k-i,trivial,fun _=>⟨trivial,fun _=>⟨⟨(0,n,[]),ZU _,h0,hn,rfl,List.append_nil _⟩,tI,Af _ _,tI,Ae _ _⟩⟩,fun⟨⟨i,x,l⟩,h1,h2,h3,h4,h5⟩=>?_⟩);simp only at h1 h2 h3 h4 h5;refine G0 ?_;(refine Aa (fun h=>?_) (fun h=>?_)<;>rw[h])
 ·have hlt:i<k:=(by have:=ZV h;omega);refine G0 ?_;refine⟨by omega,x%256,Int.tmod_eq_emod_of_nonneg h2,?_⟩;refine G0 ?_;refine⟨x%256,by rw[Oo];omega,?_⟩;refine G1 ?_;intro gg;refine⟨[x%256],rfl,?_⟩;refine G0 ?_;refine⟨by have e1:(Nl [x%256]).size=1:=rfl;have e2:=D2 l;omega,?_⟩;rw[show Nl [x%256]++bA l=bA (lo8 x::l)from Ca [lo8 x] l];refine G0 ?_;refine⟨by omega,x/256,by rw[Int.tdiv_eq_ediv_of_nonneg h2];exact A6 (by omega) (by omega),?_⟩;refine G0 ?_;(exact⟨none,trivial,fun _=>⟨⟨(i+1,x/256,lo8 x::l),by show i+1≤k;omega,by show 0≤x/256;omega,by show x/256≤4611686018427387904;omega,by show l.length+1=i+1;omega,Aoj hlt h5⟩,by show k-(i+1)<k-i;omega,tI,tI,tI,tI⟩⟩)
 ·have hge:¬i<k:=(by have:=ZW h;omega);refine G0 ?_;have e:l=Ew n k:=by
   have:k-i=0:=by omega
   rw[this]at h5;exact h5
  rw[show bA l=bA (Ew n k)from congrArg bA e];(exact⟨[],aI⟩)
theorem I8(s:ByteArray)(hs:s.size≤120):Fun Tryz.prog 107 [.c (.v (.string s))] [.c (.v (.string (bA (Bv s))))]:=by
 have hL:=Jk s;have hsm:∀x∈A5 s,x.size≤120:=fun x hx=>XI (Fm hx) hs;refine Ar N1 rfl ?_;refine G0 ?_;(refine .inl ⟨_,_,false,[],aI,Q9 s (by omega),Ab,nI,?_⟩);unfold Bv;generalize A5 s=ls at *;refine G1 ?_;intro gg;(refine⟨[],none,{k:Nat//k≤ls.length},[4],fun⟨k,hk⟩=>[(3,.v (.string (bA (D7 (ls.take k))))),(5,.v (.int .i64 (k:Int)))],[],fun⟨k,hk⟩=>[],fun⟨k,hk⟩=>ls.length-k,trivial,fun _=>⟨trivial,fun _=>⟨⟨0,by omega⟩,tI,Af _ _,tI,Ae _ _⟩⟩,fun⟨k,hk⟩=>?_⟩);have hlen:(D7 (ls.take k)).length≤121*121:=by
  have h1:=Rs (l:=ls.take k) (m:=120) (fun x hx=>hsm x (List.mem_of_mem_take hx));rw[ZM]at h1;have:min k ls.length≤121:=by omega
  have:=Nat.mul_le_mul_left 121 this;omega
 refine G0 ?_;rw[ZE];(refine Aa (fun h1=>?_) (fun h1=>?_)<;>rw[h1])
 ·have hlt:k<ls.length:=(by have:=ZV h1;omega);have hz:=hsm _ (ZK hlt);have e:bA (D7 (ls.take k))++(bA (Ew ((ls[k].size:Nat):Int) 1)++ls[k])=bA (D7 (ls.take (k+1))):=by
   rw[Aac hlt,show Ew ((ls[k].size:Nat):Int) 1=[UInt8.ofNat ls[k].size]from by rw[←Amg (by omega)];rfl]
   conv=>lhs;rhs;rhs;rw[←Abt ls[k]]
   rw[Ca,Ca,ZS]
  refine G0 ?_;refine⟨k,_,rfl,Ad hlt,?_⟩;refine G0 ?_;(refine⟨_,_,false,aI,Be ((ls[k].size:Nat):Int) 1 (by omega) (by omega) (by omega),Ab,nI,?_⟩);refine G1 ?_;intro gg;refine⟨k,_,rfl,Ad hlt,?_⟩;refine G0 ?_;refine⟨by rw[D2,U1];omega,?_⟩;refine G0 ?_;refine⟨by rw[XP,D2,D2,U1];omega,?_⟩;rw[e];refine G0 ?_;(exact⟨none,trivial,fun _=>⟨⟨k+1,by omega⟩,by show ls.length-(k+1)<ls.length-k;omega,tI,tI,tI,tI⟩⟩)
 ·have hge:¬k<ls.length:=(by have:=ZW h1;omega);obtain rfl:k=ls.length:=by omega
  refine G0 ?_;(refine .inl ⟨_,_,false,[],aI,Be 0 1 (by omega) (by omega) (by omega),Ab,nI,?_⟩);refine G1 ?_;intro gg;refine⟨by rw[D2,D2,U1];omega,?_⟩;rw[show bA (D7 (ls.take ls.length))++bA (Ew 0 1)=bA (D7 ls++[0])by rw[Ca,XF];rfl];refine G0 ?_;(exact⟨[],aI⟩)
namespace Pl
theorem I7{n:Int}(h0:0≤n)(h1:n≤65535):Ew n 2=Av [n]:=by
 show([]++[lo8 (n/256)])++[lo8 n]=[UInt8.ofNat (n/256).toNat,UInt8.ofNat (n%256).toNat];unfold lo8;rw[show n/256%256=n/256 by omega];rfl
theorem Ri{n:Int}(h0:0≤n)(h1:n≤4294967295):Ew n 4=Av [n/65536,n%65536]:=by
 show((([]++[lo8 (n/256/256/256)])++[lo8 (n/256/256)])++[lo8 (n/256)])++[lo8 n]=[UInt8.ofNat (n/65536/256).toNat,UInt8.ofNat (n/65536%256).toNat,UInt8.ofNat (n%65536/256).toNat,UInt8.ofNat (n%65536%256).toNat];unfold lo8;rw[show n/256/256/256%256=n/65536/256 by omega,show n/256/256%256=n/65536%256 by omega,show n/256%256=n%65536/256 by omega,show n%65536%256=n%256 by omega];rfl
theorem Aj3{f co:Int}(h0:0≤f)(h1:f≤255)(h2:0≤co)(h3:co≤15):Ew f 1++Ew co 1=Av [co+256*f]:=by
 show([]++[lo8 f])++([]++[lo8 co])=[UInt8.ofNat ((co+256*f)/256).toNat,UInt8.ofNat ((co+256*f)%256).toNat];unfold lo8;rw[show(co+256*f)/256=f by omega,show(co+256*f)%256=co%256 by omega,show f%256=f by omega];rfl
def hdB(m:Ms):List UInt8:=Av [m.id,Ec m,1,(m.rs.length:Int),0,0]++Bv m.qn++Av [m.qt,1]
theorem Ax6{id:Int}{an ct:Bool}{co:Int}{qn:ByteArray}{qt:Int}{rs:List Rr}(h:(⟨id,an,ct,co,qn,qt,rs⟩:Ms).Good)(f:Int)(hf:f=(if an then 128 else 0)+(if ct then 2 else 0)):
  Ew id 2++Ew f 1++Ew co 1++Ew 1 2++Ew (rs.length:Int) 2++Ew 0 4++Bv qn++Ew qt 2++Ew 1 2=hdB ⟨id,an,ct,co,qn,qt,rs⟩:=by
 obtain⟨h1,h2,_,_,h5,h6,_⟩:=h;simp only at h1 h2 h5 h6;have hf':0≤f∧f≤255:=by subst hf;cases an<;>cases ct<;>decide
 have e:Ec ⟨id,an,ct,co,qn,qt,rs⟩=co+256*f:=by
  subst hf;unfold Ec;simp only;cases an<;>cases ct<;>simp<;>omega
 unfold hdB;rw[e,I7 h1.1 h1.2,I7 (by omega) (by omega:(1:Int)≤65535),I7 (by omega) (by omega:(rs.length:Int)≤65535),Ri (by omega) (by omega:(0:Int)≤4294967295),I7 (by omega) (by omega:qt≤65535),
  ZS (Av [id]),Aj3 hf'.1 hf'.2 h2.1 h2.2]
 simp[Av]
theorem Au3{m:Ms}(h:m.Good):(hdB m).length≤15100:=by
 have:=Dz h.qnz;unfold hdB;rw[ZF,ZF,Au,Au];simp only[ZJ,ZN];omega
theorem Aek{r:Rr}(h:r.Good)(i:List UInt8)(hi:i=inB r):Bv r.nm++Ew r.ty 2++Ew 1 2++Ew r.ls 4++Ew (i.length:Int) 2++i=H5 r:=by
 have:=Ok h;subst hi;obtain⟨_,_,h3,h4,_⟩:=h;unfold H5;rw[I7 (by omega) (by omega:r.ty≤65535),I7 (by omega) (by omega:(1:Int)≤65535),Ri h4.1 (by omega),I7 (by omega) (by omega)];simp[Av]
theorem Ayt{r:Rr}(h:r.Good)(ht:r.ty=1):Ew r.ad 4=inB r:=by
 unfold inB;rw[if_pos ht,Ri h.ad.1 h.ad.2]
theorem Azg{r:Rr}(h:r.Good)(ht:r.ty=16):Ew ((r.tx.size:Nat):Int) 1++r.tx.data.toList=inB r:=by
 have:=h.tx;unfold inB;rw[if_neg (by omega),if_pos ht];show([]++[lo8 _])++_=_;rw[Amg (by omega)];rfl
theorem Azl{r:Rr}(h:r.Good)(ht:r.ty=33):Ew 0 4++Ew r.pt 2++Bv r.tg=inB r:=by
 unfold inB;rw[if_neg (by omega),if_neg (by omega),Ri (by omega) (by omega),I7 h.pt.1 h.pt.2];simp[Av]
end Pl
theorem szI{p:Prop}(h:p:=by(simp only[XP,D2,ZF,U1];omega)):p:=h
set_option maxHeartbeats 2000000 in
theorem Ao5(id:Int)(an ct:Bool)(co:Int)(qn:ByteArray)(qt:Int)(rs:List Rr)(hm:(⟨id,an,ct,co,qn,qt,rs⟩:Ms).Good):Fun Tryz.prog 69 [.c (.agg (⟨id,an,ct,co,qn,qt,rs⟩:Ms).row)] [.c (.v (.string (bA (Cx (⟨id,an,ct,co,qn,qt,rs⟩:Ms)))))]:=by
 have hH:=Ax6 hm ((if an then 128 else 0)+(if ct then 2 else 0)) rfl;have hHl:=Au3 hm;have hrl:=Fw hm.rs;obtain⟨h1,h2,h3,hq,h5,h6,hr⟩:=hm;simp only at h1 h2 hq h5 h6 hr hrl;have hnl:=Dz hq;refine Akt (rcD:=H8 [true,true,false] (H8 [true,true,true,false] Gd)) Ky (by kernel_rfl) rfl ?_;refine G1 ?_;intro gg;refine⟨Unit,[1,2],fun _=>[(3,.v (.int .i64 (bif an then 128 else 0)))],[16],fun _=>[],?_,fun _=>?_⟩
 ·refine G0 ?_;cases an
  ·refine G0 ?_;(exact⟨(),tI,tI,tI,tI⟩)
  ·refine G0 ?_;(exact⟨(),tI,tI,tI,tI⟩)
 refine G0 ?_;refine⟨Unit,[1,2],fun _=>[(3,.v (.int .i64 (bif ct then(bif an then 128 else 0)+2 else(bif an then 128 else 0))))],[16],fun _=>[],?_,fun _=>?_⟩
 ·refine G0 ?_;cases ct
  ·refine G0 ?_;(exact⟨(),tI,tI,tI,tI⟩)
  ·obtain⟨z,hz⟩:∃z:Int,z=(bif an then 128 else 0):=⟨_,rfl⟩;have hz2:0≤z∧z≤128:=by rw[hz];cases an<;>decide
   rw[←hz];refine G0 ?_;(exact⟨(),tI,tI,tI,tI⟩)
 obtain⟨f,hf⟩:∃f:Int,f=(bif ct then(bif an then 128 else 0)+2 else(bif an then 128 else 0)):=⟨_,rfl⟩;have hf2:f=(if an then 128 else 0)+(if ct then 2 else 0):=by rw[hf];cases an<;>cases ct<;>rfl
 have hf3:0≤f∧f≤130:=by rw[hf];cases an<;>cases ct<;>decide
 rw[←hf];rw[←hf2]at hH;clear hf hf2;refine G0 ?_;(refine⟨_,_,false,aI,Be id 2 (by omega) (by omega) (by omega),Ab,nI,?_⟩);refine G1 ?_;intro gg;(refine⟨_,_,false,aI,Be f 1 (by omega) (by omega) (by omega),Ab,nI,?_⟩);refine G1 ?_;intro gg;refine⟨szI,?_⟩;rw[Ca];refine G0 ?_;(refine⟨_,_,false,aI,Be co 1 (by omega) (by omega) (by omega),Ab,nI,?_⟩);refine G1 ?_;intro gg;refine⟨szI,?_⟩;rw[Ca];refine G0 ?_;(refine⟨_,_,false,aI,Be 1 2 (by omega) (by omega) (by omega),Ab,nI,?_⟩);refine G1 ?_;intro gg;refine⟨szI,?_⟩;rw[Ca];refine G0 ?_;simp only[ZE];(refine⟨_,_,false,aI,Be ((rs.length:Nat):Int) 2 (by omega) (by omega) (by omega),Ab,nI,?_⟩);refine G1 ?_;intro gg;refine⟨szI,?_⟩;rw[Ca];refine G0 ?_;(refine⟨_,_,false,aI,Be 0 4 (by omega) (by omega) (by omega),Ab,nI,?_⟩);refine G1 ?_;intro gg;refine⟨szI,?_⟩;rw[Ca];refine G0 ?_;(refine⟨_,_,false,aI,I8 qn hq,Ab,nI,?_⟩);refine G1 ?_;intro gg;refine⟨szI,?_⟩;rw[Ca];refine G0 ?_;(refine⟨_,_,false,aI,Be qt 2 (by omega) (by omega) (by omega),Ab,nI,?_⟩);refine G1 ?_;intro gg;refine⟨szI,?_⟩;rw[Ca];refine G0 ?_;(refine⟨_,_,false,aI,Be 1 2 (by omega) (by omega) (by omega),Ab,nI,?_⟩);refine G1 ?_;intro gg;refine⟨szI,?_⟩;rw[Ca];refine G0 ?_;rw[hH,show bA (hdB (⟨id,an,ct,co,qn,qt,rs⟩:Ms))=bA (hdB (⟨id,an,ct,co,qn,qt,rs⟩:Ms)++Bg (rs.take 0))from by simp[Bg]];refine G0 ?_;(refine⟨[],none,{k:Nat//k≤rs.length},[1],fun⟨k,hk⟩=>[(4,.v (.string (bA (hdB (⟨id,an,ct,co,qn,qt,rs⟩:Ms)++Bg (rs.take k))))),(5,.v (.int .i64 (k:Int)))],[16],fun⟨k,hk⟩=>[],fun⟨k,hk⟩=>rs.length-k,trivial,fun _=>⟨trivial,fun _=>⟨⟨0,by omega⟩,tI,Af _ _,tI,Ae _ _⟩⟩,fun⟨k,hk⟩=>?_⟩);have hsl:(Bg (rs.take k)).length≤620000:=by
  have h:=Fw (l:=rs.take k) (fun r hx=>hr r (List.mem_of_mem_take hx));rw[ZM]at h;have:min k rs.length≤20:=by omega
  have:=Nat.mul_le_mul_left 31000 this;omega
 refine G0 ?_;simp only[ZE];(refine Aa (fun h=>?_) (fun h=>?_)<;>rw[h])
 ·have hlt:k<rs.length:=(by have:=ZV h;omega);obtain⟨g1,g2,g3,g4,g5,g6,g7,g8,g9⟩:=hr _ (ZK hlt);have hnn:=Dz g2;have hnt:=Dz g9;have hil:=Ok (hr _ (ZK hlt));have hrb:=Afy (hr _ (ZK hlt));refine G0 ?_;refine⟨k,_,rfl,Ad hlt,?_⟩;refine G1 ?_;intro gg;rcases g3 with g3|g3|g3
  ·rw[show(rs[k].ty==1)=true from by rw[g3];rfl];refine G0 ?_;(refine .inl ⟨_,_,false,[],aI,Be rs[k].ad 4 (by omega) (by omega) (by omega),Ab,nI,?_⟩);refine G1 ?_;intro gg;obtain⟨I,hI⟩:∃I,I=Ew rs[k].ad 4:=⟨_,rfl⟩;rw[←hI];have hIe:=hI.trans (Ayt (hr _ (ZK hlt)) g3);clear hI;have hIl:I.length≤15100:=by rw[hIe];exact hil.2
   (refine⟨_,_,false,aI,I8 rs[k].nm g2,Ab,nI,?_⟩);refine G1 ?_;intro gg;(refine⟨_,_,false,aI,Be rs[k].ty 2 (by omega) (by omega) (by omega),Ab,nI,?_⟩);refine G1 ?_;intro gg;refine⟨szI,?_⟩;rw[Ca];refine G0 ?_;(refine⟨_,_,false,aI,Be 1 2 (by omega) (by omega) (by omega),Ab,nI,?_⟩);refine G1 ?_;intro gg;refine⟨szI,?_⟩;rw[Ca];refine G0 ?_;(refine⟨_,_,false,aI,Be rs[k].ls 4 (by omega) (by omega) (by omega),Ab,nI,?_⟩);refine G1 ?_;intro gg;refine⟨szI,?_⟩;rw[Ca];refine G0 ?_;rw[D2];(refine⟨_,_,false,aI,Be ((I:List UInt8).length:Int) 2 (by omega) (by omega) (by omega),Ab,nI,?_⟩);refine G1 ?_;intro gg;refine⟨szI,?_⟩;rw[Ca];refine G0 ?_;refine⟨szI,?_⟩;rw[Ca];refine G0 ?_;rw[Aek (hr _ (ZK hlt)) _ (hIe)];refine G0 ?_;refine⟨szI,?_⟩;rw[show bA (hdB (⟨id,an,ct,co,qn,qt,rs⟩:Ms)++Bg (rs.take k))++bA (H5 rs[k])=bA (hdB (⟨id,an,ct,co,qn,qt,rs⟩:Ms)++Bg (rs.take (k+1)))by rw[Ca,Hm hlt,ZS]];refine G0 ?_;(exact⟨none,trivial,fun _=>⟨⟨k+1,by omega⟩,by show rs.length-(k+1)<rs.length-k;omega,tI,tI,tI,tI⟩⟩)
  ·rw[show(rs[k].ty==1)=false from by rw[g3];rfl];refine G0 ?_;rw[show(rs[k].ty==16)=true from by rw[g3];rfl];refine G0 ?_;(refine⟨_,_,false,aI,Be ((rs[k].tx.size:Nat):Int) 1 (by omega) (by omega) (by omega),Ab,nI,?_⟩);refine G1 ?_;intro gg;refine⟨szI,?_⟩;rw[show bA (Ew ((rs[k].tx.size:Nat):Int) 1)++rs[k].tx=bA (Ew ((rs[k].tx.size:Nat):Int) 1++rs[k].tx.data.toList)by rw[←Ca,Abt]];refine G0 ?_;obtain⟨I,hI⟩:∃I,I=Ew ((rs[k].tx.size:Nat):Int) 1++rs[k].tx.data.toList:=⟨_,rfl⟩;rw[←hI];have hIe:=hI.trans (Azg (hr _ (ZK hlt)) g3);clear hI;have hIl:I.length≤15100:=by rw[hIe];exact hil.2
   (refine⟨_,_,false,aI,I8 rs[k].nm g2,Ab,nI,?_⟩);refine G1 ?_;intro gg;(refine⟨_,_,false,aI,Be rs[k].ty 2 (by omega) (by omega) (by omega),Ab,nI,?_⟩);refine G1 ?_;intro gg;refine⟨szI,?_⟩;rw[Ca];refine G0 ?_;(refine⟨_,_,false,aI,Be 1 2 (by omega) (by omega) (by omega),Ab,nI,?_⟩);refine G1 ?_;intro gg;refine⟨szI,?_⟩;rw[Ca];refine G0 ?_;(refine⟨_,_,false,aI,Be rs[k].ls 4 (by omega) (by omega) (by omega),Ab,nI,?_⟩);refine G1 ?_;intro gg;refine⟨szI,?_⟩;rw[Ca];refine G0 ?_;rw[D2];(refine⟨_,_,false,aI,Be ((I:List UInt8).length:Int) 2 (by omega) (by omega) (by omega),Ab,nI,?_⟩);refine G1 ?_;intro gg;refine⟨szI,?_⟩;rw[Ca];refine G0 ?_;refine⟨szI,?_⟩;rw[Ca];refine G0 ?_;rw[Aek (hr _ (ZK hlt)) _ (hIe)];refine G0 ?_;refine⟨szI,?_⟩;rw[show bA (hdB (⟨id,an,ct,co,qn,qt,rs⟩:Ms)++Bg (rs.take k))++bA (H5 rs[k])=bA (hdB (⟨id,an,ct,co,qn,qt,rs⟩:Ms)++Bg (rs.take (k+1)))by rw[Ca,Hm hlt,ZS]];refine G0 ?_;(exact⟨none,trivial,fun _=>⟨⟨k+1,by omega⟩,by show rs.length-(k+1)<rs.length-k;omega,tI,tI,tI,tI⟩⟩)
  ·rw[show(rs[k].ty==1)=false from by rw[g3];rfl];refine G0 ?_;rw[show(rs[k].ty==16)=false from by rw[g3];rfl];refine G0 ?_;rw[show(rs[k].ty==33)=true from by rw[g3];rfl];refine G0 ?_;(refine⟨_,_,false,aI,Be 0 4 (by omega) (by omega) (by omega),Ab,nI,?_⟩);refine G1 ?_;intro gg;(refine⟨_,_,false,aI,Be rs[k].pt 2 (by omega) (by omega) (by omega),Ab,nI,?_⟩);refine G1 ?_;intro gg;refine⟨szI,?_⟩;rw[Ca];refine G0 ?_;(refine⟨_,_,false,aI,I8 rs[k].tg g9,Ab,nI,?_⟩);refine G1 ?_;intro gg;refine⟨szI,?_⟩;rw[Ca];refine G0 ?_;obtain⟨I,hI⟩:∃I,I=Ew 0 4++Ew rs[k].pt 2++Bv rs[k].tg:=⟨_,rfl⟩;rw[←hI];have hIe:=hI.trans (Azl (hr _ (ZK hlt)) g3);clear hI;have hIl:I.length≤15100:=by rw[hIe];exact hil.2
   (refine⟨_,_,false,aI,I8 rs[k].nm g2,Ab,nI,?_⟩);refine G1 ?_;intro gg;(refine⟨_,_,false,aI,Be rs[k].ty 2 (by omega) (by omega) (by omega),Ab,nI,?_⟩);refine G1 ?_;intro gg;refine⟨szI,?_⟩;rw[Ca];refine G0 ?_;(refine⟨_,_,false,aI,Be 1 2 (by omega) (by omega) (by omega),Ab,nI,?_⟩);refine G1 ?_;intro gg;refine⟨szI,?_⟩;rw[Ca];refine G0 ?_;(refine⟨_,_,false,aI,Be rs[k].ls 4 (by omega) (by omega) (by omega),Ab,nI,?_⟩);refine G1 ?_;intro gg;refine⟨szI,?_⟩;rw[Ca];refine G0 ?_;rw[D2];(refine⟨_,_,false,aI,Be ((I:List UInt8).length:Int) 2 (by omega) (by omega) (by omega),Ab,nI,?_⟩);refine G1 ?_;intro gg;refine⟨szI,?_⟩;rw[Ca];refine G0 ?_;refine⟨szI,?_⟩;rw[Ca];refine G0 ?_;rw[Aek (hr _ (ZK hlt)) _ (hIe)];refine G0 ?_;refine⟨szI,?_⟩;rw[show bA (hdB (⟨id,an,ct,co,qn,qt,rs⟩:Ms)++Bg (rs.take k))++bA (H5 rs[k])=bA (hdB (⟨id,an,ct,co,qn,qt,rs⟩:Ms)++Bg (rs.take (k+1)))by rw[Ca,Hm hlt,ZS]];refine G0 ?_;(exact⟨none,trivial,fun _=>⟨⟨k+1,by omega⟩,by show rs.length-(k+1)<rs.length-k;omega,tI,tI,tI,tI⟩⟩)
 ·have hge:¬k<rs.length:=(by have:=ZW h;omega);obtain rfl:k=rs.length:=by omega
  refine G0 ?_;rw[XF,show hdB (⟨id,an,ct,co,qn,qt,rs⟩:Ms)++Bg rs=Cx (⟨id,an,ct,co,qn,qt,rs⟩:Ms)from rfl];(exact⟨[],aI⟩)
theorem Aol(m:Ms)(hm:m.Good):Fun Tryz.prog 69 [.c (.agg m.row)] [.c (.v (.string (bA (Cx m))))]:=by
 obtain⟨id,an,ct,co,qn,qt,rs⟩:=m;exact Ao5 id an ct co qn qt rs hm
section
open Go.Joins Go.ChangeShapes Go.WideShapes Go.Deep
def Bd1(B:Nat):V→Prop
 |.v (.string x)=>x.size≤B
 |_=>True
def Bd(B:Nat):V→Prop
 |.v (.string x)=>x.size≤B
 |.sl _ rows=>rows.length≤B∧∀row∈rows,∀u∈row,Bd1 B u
 |_=>True
theorem Bd.one{B:Nat}{u:V}(h:Bd B u):Bd1 B u:=by
 unfold Bd at h;unfold Bd1;split at h<;>simp_all
structure Avw{H:Type}(bk:DataW H→Nat):Prop where
 str:∀l,l.length≤bk (.lit (.string l))
 agg:∀ds d,d∈ds→bk d≤bk (.agg ds)
 sl:∀es sp,es.length≤bk (.slice es sp)∧∀d∈es,bk d≤bk (.slice es sp)
section
variable {H:Type} {enc:TypeId×Value→H} {P:Program} {w:World} {base:Nat} {spare:Nat→Bool} {held:Bool} {bk:DataW H→Nat} {B:Nat}
theorem Abv{d fuel:Nat}{cs:List Value}(rc:∀(t:TypeId) (tys:List Ty) (cs:List Value) (x:DataW H×List MemPlace),Yh P d t=some tys→DataW.trod enc P w base spare held fuel t cs=some x→bk x.1≤B→∃us,L7 w tys cs us∧∀u∈us,Bd B u):
  ∀(fs:List Field) (off:Nat) (tys:List Ty) (xs:List (DataW H×List MemPlace)),Agk P (Yh P d) fs off=some tys→(∀(i:Nat) (f:Field),fs[i]? =some f→∃x,DataW.trod enc P w base spare held fuel f.type ((cs.drop f.offset).take (P.cellsOf f.type))=some x∧bk x.1≤B)→
   ∃us,L7 w tys ((cs.drop off).take tys.length) us∧∀u∈us,Bd B u:=by
 intro fs
 induction fs with
 |nil=>
  intro off tys xs h _;simp only[Agk,ZD]at h;subst h;exact⟨[],⟨⟨rfl,by simp⟩,by simp,by simp⟩,by simp⟩
 |cons f fs ih=>
  intro off tys xs h hf;simp only[Agk]at h;split at h
  ·rename_i ts hts;split at h
   ·rename_i hc;simp only[ZO,ZR]at hc;split at h
    ·rename_i r hr;injection h with h;subst h
     obtain⟨x0,hx0,hB0⟩:=hf 0 f rfl;obtain⟨us1,h1,hb1⟩:=rc _ _ _ _ hts hx0 hB0;obtain⟨us2,h2,hb2⟩:=ih _ _ xs hr (fun i g hg=>hf (i+1) g (by simpa using hg));rw[hc.1,hc.2]at h1;have hlen:((cs.drop off).take ts.length).length=ts.length:=by rw[h1.2.1,←h1.1.1]
     refine⟨us1++us2,?_,fun u hu=>(XM.1 hu).elim (hb1 u) (hb2 u)⟩;have e:(cs.drop off).take (ts++r).length=(cs.drop off).take ts.length++(cs.drop (off+ts.length)).take r.length:=by
      rw[ZF,List.take_add,List.drop_drop]
     rw[e];exact h1.app h2
    ·cases h
   ·cases h
  ·cases h
theorem Ao0(hk:Avw bk):∀(d fuel:Nat) (t:TypeId) (tys:List Ty) (cs:List Value) (x:DataW H×List MemPlace),Yh P d t=some tys→DataW.trod enc P w base spare held fuel t cs=some x→bk x.1≤B→∃us,L7 w tys cs us∧∀u∈us,Bd B u:=by
 intro d
 induction d with
 |zero=>intro fuel t tys cs x h;cases h
 |succ d ih=>
  intro fuel t tys cs x h hd hBd;simp only[Yh]at h;split at h
  ·rename_i hu;injection h with h;subst h
   obtain⟨n,rfl,_,hw⟩:=DataW.trod_int hu hd;have hb: -9223372036854775808≤n∧n≤9223372036854775807:=by simpa[Lit.wf,IntKind.min,IntKind.max,IntKind.signed,IntKind.bits]using hw
   exact⟨_,Fv (.i n hb.1 hb.2) (.v _),by simp[Bd]⟩
  ·rename_i hu;injection h with h;subst h
   obtain⟨s,rfl,rfl,hs⟩:=DataW.trod_string hu hd;exact⟨_,Fv (.s s (by simpa[maxLen]using hs)) (.v _),by
    have h1:=XI (hk.str s.data.toList) hBd;have e:s.data.toList.length=s.size:=by simp
    simp[Bd];omega⟩
  ·rename_i hu;injection h with h;subst h
   obtain⟨s,rfl,_⟩:=DataW.trod_bool hu hd;exact⟨_,Fv (.b s) (.v _),by simp[Bd]⟩
  ·rename_i fs hu;split at h
   ·rename_i ts hts;split at h
    ·rename_i hc;simp only[ZR]at hc;injection h with h;subst h
     obtain⟨xs,n,rfl,rfl,hcl,hxl,hf⟩:=DataW.trod_struct hu hd;obtain⟨us,hus,hub⟩:=Abv (B:=B) (bk:=bk) (cs:=cs) (fun t tys cs x h1 h2=>ih n t tys cs x h1 h2) fs.toList 0 ts xs hts (fun i f hi=>by
      have hi':fs[i]? =some f:=by simpa using hi
      have hlt:i<xs.length:=by rw[hxl];exact(XL.1 hi').1
      exact⟨_,(hf i f hi').trans (ZC hlt),XI (hk.agg _ _ (List.mem_map_of_mem (ZK hlt))) hBd⟩)
     refine⟨us,?_,hub⟩
     rwa[List.drop_zero,←hc,←hcl,XF]at hus
    ·cases h
   ·cases h
  ·rename_i e hu;split at h
   ·rename_i ts hts;split at h
    ·rename_i hc;simp only[ZO,ZR,decide_eq_true_eq]at hc;injection h with h;subst h
     rcases open_slice hu hd with⟨rfl,_⟩|⟨a,len,cap,m,n,D,Pl,rfl,hb,hl,hm,hmm,rfl,hi⟩
     ·exact⟨[.sl false []],Fv (.l _ [] (by simp) (by simp) (by simp)) (.nil _ _ _ (by simp)),by simp[Bd]⟩
     ·have hlm:len≤m:=by rw[hmm];split<;>omega
      have hall:∀i:Nat,∃p:List Value×List V,i<len→(L7 w ts p.1 p.2∧∀j,j<ts.length→w.cell? (a.add (i*ts.length+j))=p.1[j]?)∧∀u∈p.2,Bd B u:=fun i=>by
       by_cases hil:i<len
       ·obtain⟨cs',h1,h2⟩:=hi i (by omega);obtain⟨us,hus,hub⟩:=ih n e ts cs' _ hts h2 (XI ((hk.sl _ _).2 _ (XO.2 ⟨i,List.mem_range.2 hil,rfl⟩)) hBd);obtain⟨_,h3,h4⟩:=World.cells?_some h1;rw[hc.1]at h3 h4;exact⟨(cs',us),fun _=>⟨⟨hus,fun j hj=>by rw[←Go.Deep.add_add];exact h4 j hj⟩,hub⟩⟩
       ·exact⟨([],[]),fun h=>absurd h hil⟩
      obtain⟨f,hf0⟩:=Classical.axiomOfChoice hall;have hf:∀i,i<len→L7 w ts (f i).1 (f i).2∧∀j,j<ts.length→w.cell? (a.add (i*ts.length+j))=(f i).1[j]? :=fun i h=>(hf0 i h).1;have hsp:0<len→a.spot=none∧a.block<w.heap.size:=fun h0=>by
       obtain⟨h1,h2⟩:=hf 0 h0;have hx:=h2 0 hc.2;have hlt:0<(f 0).1.length:=by rw[h1.2.1,←h1.1.1];exact hc.2
       rw[ZC hlt]at hx;have e:a.add (0*ts.length+0)=a:=by simp[Addr.add]
       rw[e]at hx;refine⟨?_,World.block_lt_of_cell? w _ hx⟩;unfold World.cell? at hx;split at hx
       ·cases hq:a.spot with
        |none=>rfl
        |some k=>simp[hq]at hx
       ·cases hx
      refine⟨[.sl false ((List.range len).map fun i=>(f i).2)],Fv (.l _ _ (by simp only[ZE,List.length_range];simp only[maxLen]at hm;omega) ?_ ?_) ?_,?_⟩
      ·intro row hrow;simp only[XO,List.mem_range]at hrow;obtain⟨i,hil,rfl⟩:=hrow;exact(hf i hil).1.1.1
      ·intro row hrow j t u g1 g2;simp only[XO,List.mem_range]at hrow;obtain⟨i,hil,rfl⟩:=hrow;exact(hf i hil).1.1.2 j t u g1 g2
      ·rcases Nat.eq_zero_or_pos len with h0|h0
       ·subst h0;exact .nil _ _ _ (by simp)
       ·obtain⟨h1,h2⟩:=hsp h0;obtain⟨b,off,sp⟩:=a;simp only at h1 h2;subst h1;have hrows:∀(i:Nat) (row:List V),((List.range len).map fun i=>(f i).2)[i]? =some row→i<len∧row=(f i).2:=fun i row h=>by
         have hlt:=(ZB.1 h).1;simp only[ZE,List.length_range]at hlt;simp[hlt]at h;exact⟨hlt,h.symm⟩
        have e:=RV.sl (w:=w) (R:=fun b=>b<w.heap.size) (G:=noG) false ((List.range len).map fun i=>(f i).2) b off cap ts.length (fun i j=>((f i).1[j]?).getD undef) h2 (by simpa using hl) (by simp) (by
          intro row hrow;simp only[XO,List.mem_range]at hrow;obtain⟨i,hil,rfl⟩:=hrow;exact(hf i hil).1.1.1.symm) (by
          intro i j row u g1 g2;obtain⟨hil,rfl⟩:=hrows i row g1;have hj:j<ts.length:=by have:=(ZB.1 g2).1;rw[(hf i hil).1.1.1];exact this
          have hjl:j<(f i).1.length:=by rw[(hf i hil).1.2.1,←(hf i hil).1.1.1];exact hj
          have hx:=(hf i hil).2 j hj;rw[Afx _ _ rfl,ZC hjl]at hx;rw[ZC hjl];simp only[Option.getD_some];rw[Nat.add_assoc];exact hx) (by
          intro i j row u g1 g2;obtain⟨hil,rfl⟩:=hrows i row g1;have hj:j<ts.length:=by have:=(ZB.1 g2).1;rw[(hf i hil).1.1.1];exact this
          have hjl:j<(f i).1.length:=by rw[(hf i hil).1.2.1,←(hf i hil).1.1.1];exact hj
          rw[ZC hjl];exact(hf i hil).1.2.2 j u _ g2 (ZC hjl))
        have e2:((List.range len).map fun i=>(f i).2).length=len:=by simp
        rw[e2]at e;exact e
      ·intro u hu;simp only[XN]at hu;subst hu;refine⟨?_,fun row hrow u hu=>?_⟩
       ·have:=XI (hk.sl _ _).1 hBd;simpa using this
       ·simp only[XO,List.mem_range]at hrow;obtain⟨i,hil,rfl⟩:=hrow;exact(hf0 i hil).2 u hu|>.one
    ·cases h
   ·cases h
  ·cases h
theorem Adv{t:TypeId}{tys:List Ty}{r:Reach}{b0:Nat}{v:Value}{fs:Array Field}{d:DataW H}{p:List MemPlace}{dp:Nat}(hk:Avw bk)(hs:P.underlying t=some (.struct fs))(ht:Yh P dp t=some tys)(hv:Value.okWide P w r b0 t v)(h:DataW.Trod enc P w base spare held t v d p)(hB:bk d≤B):
  ∃us,Qp tys us∧RV w (fun b=>b<w.heap.size) noG (.agg us) v∧∀u∈us,Bd B u:=by
 obtain⟨cs,rfl,hsz⟩:=okWide_struct hs hv;obtain⟨fuel,hf⟩:=h;obtain⟨us,⟨h1,h3,h4⟩,h5⟩:=Ao0 hk dp fuel t _ _ _ ht hf hB;obtain⟨cs⟩:=cs;exact⟨us,h1,.agg us cs h3.symm h4,h5⟩
end
end
theorem Aqr{H:Type}(d:DataW H):1≤Rows.uptoBulk d:=by
 cases d with
 |lit l=>cases l<;>simp[Rows.uptoBulk]
 |_=>simp[Rows.uptoBulk]
theorem Z1{H:Type}:∀(ds:List (DataW H)) (d:DataW H),d∈ds→Rows.uptoBulk d≤Rows.uptoBulkAll ds
 |[],d,h=>by simp at h
 |e::ds,d,h=>by
  simp only[Rows.uptoBulkAll];rcases XC.1 h with rfl|h
  ·omega
  ·have:=Z1 ds d h;omega
theorem Ai4{H:Type}:∀(ds:List (DataW H)),ds.length≤Rows.uptoBulkAll ds
 |[]=>by simp
 |e::ds=>by
  simp only[Rows.uptoBulkAll,ZJ];have:=Ai4 ds;have:=Aqr e;omega
theorem Ao7{H:Type}:Avw (Rows.uptoBulk (H:=H)):=by
 refine⟨fun l=>by simp[Rows.uptoBulk],fun ds d hd=>?_,fun es sp=>⟨?_,fun d hd=>?_⟩⟩
 ·have:=Z1 ds d hd;simp only[Rows.uptoBulk];omega
 ·have:=Ai4 es;simp only[Rows.uptoBulk];omega
 ·have:=Z1 es d hd;simp only[Rows.uptoBulk];omega
theorem Awn(row:List V)(h:Qp [.s,.i,.i,.i,.s,.i,.s] row):∃r:Rr,row=r.row∧True:=by
 obtain⟨u0,_,rfl,f0,h⟩:=Ap h;obtain⟨u1,_,rfl,f1,h⟩:=Ap h;obtain⟨u2,_,rfl,f2,h⟩:=Ap h;obtain⟨u3,_,rfl,f3,h⟩:=Ap h;obtain⟨u4,_,rfl,f4,h⟩:=Ap h;obtain⟨u5,_,rfl,f5,h⟩:=Ap h;obtain⟨u6,_,rfl,f6,h⟩:=Ap h;obtain rfl:=Ln h;obtain⟨a,rfl,_⟩:=K3 f0;obtain⟨b,rfl,_⟩:=Ge f1;obtain⟨c,rfl,_⟩:=Ge f2;obtain⟨d,rfl,_⟩:=Ge f3;obtain⟨e,rfl,_⟩:=K3 f4;obtain⟨f,rfl,_⟩:=Ge f5;obtain⟨g,rfl,_⟩:=K3 f6;exact⟨⟨a,b,c,d,e,f,g⟩,rfl,trivial⟩
structure Aox(m:Ms):Prop where
 sz:m.Sized
 ln:m.rs.length≤1048576
theorem Avx{B:Nat}(hB:B≤1048576)(us:List V)(h:Qp [.i,.b,.b,.i,.s,.i,.l [.s,.i,.i,.i,.s,.i,.s]] us)(hb:∀u∈us,Bd B u):∃m:Ms,us=m.row∧Aox m:=by
 obtain⟨u0,_,rfl,f0,h⟩:=Ap h;obtain⟨u1,_,rfl,f1,h⟩:=Ap h;obtain⟨u2,_,rfl,f2,h⟩:=Ap h;obtain⟨u3,_,rfl,f3,h⟩:=Ap h;obtain⟨u4,_,rfl,f4,h⟩:=Ap h;obtain⟨u5,_,rfl,f5,h⟩:=Ap h;obtain⟨u6,_,rfl,f6,h⟩:=Ap h;obtain rfl:=Ln h;obtain⟨a,rfl,_⟩:=Ge f0;obtain⟨b,rfl⟩:=Ahf f1;obtain⟨c,rfl⟩:=Ahf f2;obtain⟨d,rfl,_⟩:=Ge f3;obtain⟨e,rfl,_⟩:=K3 f4;obtain⟨f,rfl,_⟩:=Ge f5;obtain⟨l,rfl,_,_⟩:=Vh Awn f6;have he:e.size≤B:=hb (.v (.string e)) (by simp);obtain⟨hl,hr⟩:(l.map Rr.row).length≤B∧∀row∈l.map Rr.row,∀u∈row,Bd1 B u:=hb (.sl false (l.map Rr.row)) (by simp);rw[ZE]at hl;refine⟨⟨a,b,c,d,e,f,l⟩,rfl,⟨by show e.size≤_;omega,fun r hx=>?_⟩,by show l.length≤_;omega⟩;have h1:=hr r.row (List.mem_map_of_mem hx);have g1:r.nm.size≤B:=h1 (.v (.string r.nm)) (by simp[Rr.row]);have g2:r.tx.size≤B:=h1 (.v (.string r.tx)) (by simp[Rr.row]);have g3:r.tg.size≤B:=h1 (.v (.string r.tg)) (by simp[Rr.row]);omega
namespace Pl
def Eh(m:Ms)(n:Nat):Ms:=⟨m.id,m.an,m.ct||decide (n<m.rs.length),m.co,m.qn,m.qt,m.rs.take n⟩
theorem Acz{m:Ms}(h:m.Good)(n:Nat):(Eh m n).Good:=⟨h.id,h.co,h.qn,h.qnz,h.qt,by show(m.rs.take n).length≤20;have:=h.len;rw[ZM];omega,fun r hr=>h.rs r (List.mem_of_mem_take hr)⟩
theorem Aqh(m:Ms):Eh m m.rs.length=m:=by
 obtain⟨id,an,ct,co,qn,qt,rs⟩:=m;unfold Eh;simp
def Ny(m:Ms)(z:Int):Nat→ByteArray×Int
 |0=>if((Cx (Eh m 0)).length:Int)≤z then(bA (Cx (Eh m 0)),0)else(⟨#[]⟩,2)
 |n+1=>if((Cx (Eh m (n+1))).length:Int)≤z then(bA (Cx (Eh m (n+1))),0)else Ny m z n
theorem Qf{m:Ms}{z:Int}{n:Nat}(h:((Cx (Eh m n)).length:Int)≤z):Ny m z n=(bA (Cx (Eh m n)),0):=by
 cases n with
 |zero=>exact if_pos h
 |succ n=>exact if_pos h
theorem Afj{m:Ms}{z:Int}{n:Nat}(h:¬((Cx (Eh m (n+1))).length:Int)≤z):Ny m z (n+1)=Ny m z n:=if_neg h
theorem Ag3{m:Ms}{z:Int}(h:¬((Cx (Eh m 0)).length:Int)≤z):Ny m z 0=(⟨#[]⟩,2):=if_neg h
theorem Adl{m:Ms}{z:Int}{k:Nat}{R:ByteArray×Int}(h:¬((Cx (Eh m k)).length:Int)≤z)(e:Ny m z k=R):0<k→Ny m z (k-1)=R:=by
 intro h0;rcases k with _|k
 ·omega
 ·exact(Afj h).symm.trans e
theorem Adu{m:Ms}{z:Int}{k:Nat}{R:ByteArray×Int}(h:¬((Cx (Eh m k)).length:Int)≤z)(e:Ny m z k=R):k=0→R=(⟨#[]⟩,2):=by
 intro h0;subst h0;exact e.symm.trans (Ag3 h)
def Jn(m:Ms)(z:Int):ByteArray×Int:=bif !wIn z 12 512 then(⟨#[]⟩,3)else if A4 m≠0 then(⟨#[]⟩,A4 m)else Ny m z m.rs.length
end Pl
set_option maxHeartbeats 2000000 in
theorem Auv(m:Ms)(z:Int)(hm:Aox m):Fun Tryz.prog 31 [.c (.agg m.row),.c (.v (.int .i64 z))] [.c (.v (.string (Jn m z).1)),.c (.v (.int .i64 (Jn m z).2))]:=by
 have hl:m.rs.length≤9223372036854775807:=by have:=hm.ln;omega
 have hC:=Vp m hm.sz hl;have e0:Jn m z=bif !wIn z 12 512 then(⟨#[]⟩,3)else if A4 m≠0 then(⟨#[]⟩,A4 m)else Ny m z m.rs.length:=rfl
 refine Ar Ak1 rfl ?_;refine G1 ?_;intro gg;revert gg;intro gz;refine .inl (cX (Iw z 12 512) ?_);refine G1 ?_;intro gg;refine Aa (fun k0=>?_) (fun k0=>?_)<;>rw[k0]<;>rw[k0]at e0
 ·refine G0 ?_;rw[e0];(exact⟨[],aI⟩)
 ·simp only[cond_false]at e0;refine G0 ?_;refine .inl (cX hC ?_);refine G1 ?_;intro gg;by_cases he:A4 m=0
  ·rw[if_neg (by simp[he])]at e0;rw[show(A4 m !=0)=false by simp[he]];have hg:=(G9 he).1;have hln:=hg.len;refine G0 ?_;(refine⟨[],none,{n:Nat//n≤m.rs.length∧Ny m z n=Ny m z m.rs.length},[1,2],fun⟨n,hn,hf⟩=>[],[],fun⟨n,hn,hf⟩=>[(32,⟨gz,.b 52,7,[(Eh m n).row]⟩)],fun⟨n,hn,hf⟩=>n,trivial,fun _=>⟨trivial,fun _=>⟨⟨m.rs.length,ZT _,rfl⟩,tI,Af _ _,?_,Ae _ _⟩⟩,fun⟨n,hn,hf⟩=>?_⟩;focus (exact⟨congrArg (fun r=>some (Ent.mk gz (.b 52) 7 [r])) (show m.row=(Eh m m.rs.length).row by rw[Aqh]),trivial⟩));have hw:Fun Tryz.prog 36 [.c (.agg (Eh m n).row)] [.c (.v (.string (bA (Cx (Eh m n)))))]:=Acn _ (Acz hg n);refine G0 ?_;refine .inl (cX hw ?_);refine G1 ?_;intro gg;rw[D2];by_cases h1:((Cx (Eh m n)).length:Int)≤z
   ·rw[show decide (((Cx (Eh m n)).length:Int)≤z)=true from ZX h1];rw[←hf,Qf h1]at e0;refine G0 ?_;rw[e0];(exact⟨[],aI⟩)
   ·rw[show decide (((Cx (Eh m n)).length:Int)≤z)=false from ZY h1];rcases n with _|n
    ·rw[←hf,Ag3 h1]at e0;refine G0 ?_;rw[e0];(exact⟨[],aI⟩)
    ·have hlen:((Eh m (n+1)).rs.map Rr.row).length=n+1:=by
      show((m.rs.take (n+1)).map Rr.row).length=n+1;rw[ZE,ZM];omega
     have hsb:(((Eh m (n+1)).rs.map Rr.row).length:Int)-1=(n:Int):=by rw[hlen];omega
     have hsl:((((Eh m (n+1)).rs.map Rr.row).drop 0).take (n-0))=(Eh m n).rs.map Rr.row:=by
      show(((m.rs.take (n+1)).map Rr.row).drop 0).take n=(m.rs.take n).map Rr.row;rw[List.drop_zero,←List.map_take,List.take_take,Nat.min_eq_left (by omega)]
     have hct:(m.ct||decide (n<m.rs.length))=true:=by rw[show decide (n<m.rs.length)=true from ZX (by omega),Bool.or_true]
     have hrow:([.v (.int .i64 m.id),.v (.bool m.an),.v (.bool true),.v (.int .i64 m.co),.v (.string m.qn),.v (.int .i64 m.qt),.sl false ((Eh m n).rs.map Rr.row)]:List V)=(Eh m n).row:=by
      unfold Ms.row Eh;rw[hct]
     refine G0 ?_;rw[show((((Eh m (n+1)).rs.map Rr.row).length:Int)==0)=false by rw[hlen];exact ZG.2 (by omega)];refine G0 ?_;refine⟨0,n,rfl,⟨.i64,congrArg (fun x=>V.v (.int .i64 x)) hsb⟩,ZU _,by rw[hlen];omega,.inr ⟨_,Ad (k:=0) (l:=(Eh m (n+1)).rs) (by show 0<(m.rs.take (n+1)).length;rw[ZM];omega),rfl⟩,?_⟩;rw[hsl];refine G0 ?_;(exact⟨none,trivial,fun gr=>⟨⟨n,by omega,(Afj h1).symm.trans hf⟩,by show n<n+1;omega,tI,tI,⟨congrArg (fun r=>some (Ent.mk gz (.b 52) 7 [r])) hrow,trivial⟩,tI⟩⟩)
  ·rw[if_pos he]at e0;rw[show(A4 m !=0)=true from ZZ.2 he];refine G0 ?_;rw[e0];(exact⟨[],aI⟩)
set_option maxHeartbeats 2000000 in
theorem Ki(m:Ms)(z:Int)(hm:Aox m):Fun Tryz.prog 34 [.c (.agg m.row),.c (.v (.int .i64 z))] [.c (.v (.string (Jn m z).1)),.c (.v (.int .i64 (Jn m z).2))]:=by
 have hl:m.rs.length≤9223372036854775807:=by have:=hm.ln;omega
 have hC:=Tt m hm.sz hl;have e0:Jn m z=bif !wIn z 12 512 then(⟨#[]⟩,3)else if A4 m≠0 then(⟨#[]⟩,A4 m)else Ny m z m.rs.length:=rfl
 refine Ar Sm rfl ?_;refine G1 ?_;intro gg;refine .inl (cX (Es z 12 512) ?_);refine G1 ?_;intro gg;refine Aa (fun k0=>?_) (fun k0=>?_)<;>rw[k0]<;>rw[k0]at e0
 ·refine G0 ?_;rw[e0];(exact⟨[],aI⟩)
 ·simp only[cond_false]at e0;refine G0 ?_;refine .inl (cX hC ?_);refine G1 ?_;intro gg;by_cases he:A4 m=0
  ·rw[if_neg (by simp[he])]at e0;rw[show(A4 m !=0)=false by simp[he]];have hg:=(G9 he).1;have hln:=hg.len;refine G0 ?_;obtain⟨id,an,ct,co,qn,qt,rs⟩:=m;simp only at hln;have row0:(rs.map Rr.row)=[]∨∃row,(rs.map Rr.row)[0]? =some row∧row.length=7:=by
    rcases rs with _|⟨r,rs⟩
    ·exact .inl rfl
    ·exact .inr ⟨_,rfl,rfl⟩
   rw[ZE,show(rs.length:Int)=((rs.length+1:Nat):Int)-1 by omega];(refine⟨[],none,{k:Nat//k≤rs.length+1∧(0<k→Ny ⟨id,an,ct,co,qn,qt,rs⟩ z (k-1)=Ny ⟨id,an,ct,co,qn,qt,rs⟩ z rs.length)∧(k=0→Ny ⟨id,an,ct,co,qn,qt,rs⟩ z rs.length=(⟨#[]⟩,2))},[1,2],fun⟨k,hk,hf,hf0⟩=>[(7,.v (.int .i64 ((k:Int)-1)))],[32],fun⟨k,hk,hf,hf0⟩=>[],fun⟨k,hk,hf,hf0⟩=>k,trivial,fun _=>⟨trivial,fun _=>⟨⟨rs.length+1,ZT _,fun _=>rfl,fun h=>by omega⟩,tI,Af _ _,tI,Ae _ _⟩⟩,fun⟨k,hk,hf,hf0⟩=>?_⟩);rcases k with _|k
   ·refine G0 ?_;rw[hf0 rfl]at e0;rw[e0];(exact⟨[],aI⟩)
   ·have hk1:((k+1:Nat):Int)-1=(k:Int):=by omega
    have hfk:Ny ⟨id,an,ct,co,qn,qt,rs⟩ z k=Ny ⟨id,an,ct,co,qn,qt,rs⟩ z rs.length:=hf (by omega);have hM:=Aol _ (Acz hg k);have hsl:((rs.map Rr.row).drop 0).take (k-0)=(rs.take k).map Rr.row:=by rw[List.drop_zero,List.map_take,Nat.sub_zero]
    refine G0 ?_;rw[show decide ((0:Int)≤((k+1:Nat):Int)-1)=true from ZX (by omega)];refine G1 ?_;intro gg;refine⟨0,k,rfl,⟨.i64,congrArg (fun x=>V.v (.int .i64 x)) hk1⟩,ZU _,by show k≤(rs.map Rr.row).length;rw[ZE];omega,row0,?_⟩;rw[hsl];refine G0 ?_;cases ct
    ·refine G0 ?_;rw[show decide (((k+1:Nat):Int)-1<((rs.map Rr.row).length:Int))=decide (k<rs.length)from by rw[ZE,hk1];exact decide_eq_decide.2 (by omega)];refine G0 ?_;refine .inl (cX hM ?_);refine G1 ?_;intro gg;rw[D2];by_cases h1:((Cx (Eh ⟨id,an,false,co,qn,qt,rs⟩ k)).length:Int)≤z
     ·rw[show decide (((Cx (Eh ⟨id,an,false,co,qn,qt,rs⟩ k)).length:Int)≤z)=true from ZX h1];have e1:Jn ⟨id,an,false,co,qn,qt,rs⟩ z=(bA (Cx (Eh ⟨id,an,false,co,qn,qt,rs⟩ k)),0):=e0.trans (hfk.symm.trans (Qf h1));rw[e1];refine G0 ?_;(exact⟨[],aI⟩)
     ·rw[show decide (((Cx (Eh ⟨id,an,false,co,qn,qt,rs⟩ k)).length:Int)≤z)=false from ZY h1];refine G0 ?_;rw[show((k+1:Nat):Int)-1-1=(k:Int)-1 from by omega];(exact⟨none,trivial,fun _=>⟨⟨k,by omega,Adl h1 hfk,Adu h1 hfk⟩,by show k<k+1;omega,tI,tI,tI,tI⟩⟩)
    ·refine G0 ?_;refine .inl (cX hM ?_);refine G1 ?_;intro gg;rw[D2];by_cases h1:((Cx (Eh ⟨id,an,true,co,qn,qt,rs⟩ k)).length:Int)≤z
     ·rw[show decide (((Cx (Eh ⟨id,an,true,co,qn,qt,rs⟩ k)).length:Int)≤z)=true from ZX h1];have e1:Jn ⟨id,an,true,co,qn,qt,rs⟩ z=(bA (Cx (Eh ⟨id,an,true,co,qn,qt,rs⟩ k)),0):=e0.trans (hfk.symm.trans (Qf h1));rw[e1];refine G0 ?_;(exact⟨[],aI⟩)
     ·rw[show decide (((Cx (Eh ⟨id,an,true,co,qn,qt,rs⟩ k)).length:Int)≤z)=false from ZY h1];refine G0 ?_;rw[show((k+1:Nat):Int)-1-1=(k:Int)-1 from by omega];(exact⟨none,trivial,fun _=>⟨⟨k,by omega,Adl h1 hfk,Adu h1 hfk⟩,by show k<k+1;omega,tI,tI,tI,tI⟩⟩)
  ·rw[if_pos he]at e0;rw[show(A4 m !=0)=true from ZZ.2 he];refine G0 ?_;rw[e0];(exact⟨[],aI⟩)
abbrev scT:TypeId:=108
def scZ(s:ByteArray)(x:Int)(b:Bool):List Par:=[.c (.v (.string s)),.c (.v (.int .i64 x)),.c (.v (.bool b))]
def scC(s:ByteArray)(a:Nat)(b:Bool):List Par:=scZ s (a:Int) b
namespace Pl
def atB(s:ByteArray)(a:Nat):Nat:=match s[a]? with|some c=>c.toNat|none=>0
theorem Gu{s:ByteArray}{a:Nat}{c:UInt8}(h:s[a]? =some c):atB s a=c.toNat:=by unfold atB;rw[h]
theorem Is(s:ByteArray)(a:Nat):atB s a<256:=by
 unfold atB;split
 ·exact UInt8.toNat_lt _
 ·omega
def Dx(s:ByteArray)(a:Nat):Nat→Nat
 |0=>0
 |k+1=>256*Dx s a k+atB s (a+k)
theorem An8(s:ByteArray)(a k:Nat):Dx s a k<256^k:=by
 induction k with
 |zero=>exact Nat.zero_lt_one
 |succ k ih=>
  have:=Is s (a+k);rw[Nat.pow_succ];show 256*Dx s a k+atB s (a+k)<_;omega
theorem An4(s:ByteArray)(a:Nat){k:Nat}(h:k≤4):Dx s a k≤4294967295:=by
 have h1:=An8 s a k;have h2:256^k≤256^4:=Nat.pow_le_pow_right (by decide) h;have h3:256^4=4294967296:=by decide
 omega
def B6(s:ByteArray)(k a:Nat):Nat:=if a+k≤s.size then Dx s a k else 0
def Aq(s:ByteArray)(k a:Nat):Nat:=if a+k≤s.size then a+k else max a s.size
def B7(s:ByteArray)(k a:Nat)(b:Bool):Bool:=b||decide (s.size<a+k)
theorem Cf{s:ByteArray}{k a:Nat}{b:Bool}(h:a+k≤s.size):B6 s k a=Dx s a k∧Aq s k a=a+k∧B7 s k a b=b:=by
 refine⟨if_pos h,if_pos h,?_⟩;unfold B7;rw[ZY (by omega),Bool.or_false]
theorem Hn{s:ByteArray}{k a:Nat}{b:Bool}(h:¬a+k≤s.size):B6 s k a=0∧Aq s k a=max a s.size∧B7 s k a b=true:=by
 refine⟨if_neg h,if_neg h,?_⟩;unfold B7;rw[ZX (by omega),Bool.or_true]
theorem Bj{s:ByteArray}{k a m:Nat}(h1:a≤m)(h2:s.size≤m):Aq s k a≤m:=by
 unfold Aq;split<;>omega
theorem E6(s:ByteArray)(a:Nat){k:Nat}(h:k≤4):B6 s k a≤4294967295:=by
 unfold B6;split
 ·exact An4 s a h
 ·omega
end Pl
set_option maxHeartbeats 2000000 in
theorem Aw(s:ByteArray)(a k:Nat)(b:Bool)(hs:s.size≤1000000)(ha:a≤1000000)(hk0:0<k)(hk:k≤4):H3 Tryz.prog 64 [.mn scT (scC s a b) (scC s (Aq s k a) (B7 s k a b)),.p (.c (.v (.int .i64 (k:Int))))] [.p (.c (.v (.int .i64 (B6 s k a:Int))))]:=by
 refine Jr Lt rfl rfl (Ka rfl) ?_;refine G0 ?_;(refine⟨[],none,{i:Nat//i≤k∧(0<i→a+i≤s.size)},[0,1],fun⟨i,hi,h0⟩=>[(5,.v (.int .i64 (Dx s a i:Int))),(6,.v (.int .i64 (i:Int)))],[],fun⟨i,hi,h0⟩=>[(0,⟨0,.b scT,3,[[.v (.string s),.v (.int .i64 ((a+i:Nat):Int)),.v (.bool b)]]⟩)],fun⟨i,hi,h0⟩=>k-i,trivial,fun _=>⟨trivial,fun _=>⟨⟨0,ZU _,fun h=>by omega⟩,tI,Af _ _,?_,Ae _ _⟩⟩,fun⟨i,hi,h0⟩=>?_⟩;focus (exact⟨rfl,trivial⟩));have hV:=An4 s a (show i≤4 by omega);refine G0 ?_;by_cases h1:i<k
 ·rw[show decide ((i:Int)<(k:Int))=true from ZX (by omega)];have hV3:Dx s a i≤16777215:=by
   have h1:=An8 s a i;have h2:256^i≤256^3:=Nat.pow_le_pow_right (by decide) (by omega);have h3:256^3=16777216:=by decide
   omega
  refine G0 ?_;by_cases h2:s.size≤a+i
  ·rw[show decide ((s.size:Int)≤((a+i:Nat):Int))=true from ZX (by omega)];obtain⟨e1,e2,e3⟩:=Hn (s:=s) (k:=k) (a:=a) (b:=b) (by omega);rw[e1,e2,e3,show max a s.size=a+i by omega];refine G0 ?_;(exact⟨0::([]++[]),Ez (by first|exact As rfl|assumption) (Jf (gone:=[]) (gone1:=[]) rfl aI (by decide) (by decide) (by decide) (.nil _))⟩)
  ·rw[show decide ((s.size:Int)≤((a+i:Nat):Int))=false from ZY (by omega)];have hlt:a+i<s.size:=by omega
   obtain⟨c,hc⟩:∃c,s[a+i]? =some c:=⟨s[a+i],by simp[hlt]⟩;have hc8:c.toNat<256:=c.toNat_lt;have hn:(256*(Dx s a i:Int)+(c.toNat:Int))=(Dx s a (i+1):Int):=by
    show _=((256*Dx s a i+atB s (a+i):Nat):Int);rw[Gu hc];omega
   refine G0 ?_;refine⟨a+i,c,rfl,hc,?_⟩;refine G0 ?_;rw[hn];refine G0 ?_;(exact⟨none,trivial,fun gr=>⟨⟨i+1,by omega,fun _=>by omega⟩,by show k-(i+1)<k-i;omega,tI,tI,⟨congrArg (fun x=>some (Ent.mk 0 (.b scT) 3 [[.v (.string s),.v (.int .i64 x),.v (.bool b)]])) (show((a+i:Nat):Int)+1=((a+(i+1):Nat):Int)by omega),trivial⟩,tI⟩⟩)
 ·rw[show decide ((i:Int)<(k:Int))=false from ZY (by omega)];obtain rfl:i=k:=by omega
  obtain⟨e1,e2,e3⟩:=Cf (s:=s) (k:=i) (a:=a) (b:=b) (h0 hk0);rw[e1,e2,e3];refine G0 ?_;(exact⟨0::([]++[]),Ez (by first|exact As rfl|assumption) (Jf (gone:=[]) (gone1:=[]) rfl aI (by decide) (by decide) (by decide) (.nil _))⟩)
namespace Pl
abbrev Kk:ByteArray:=⟨#[46]⟩
theorem Aaa(l:List ByteArray):Df Kk l=bA (Lib.join (l.map (·.data.toList)) [46]):=rfl
theorem Aos(x:ByteArray):Df Kk [x]=x:=by
 rw[Aaa];simp[Lib.join,List.intercalate,Abt]
theorem Anj(l:List (List UInt8))(x sep:List UInt8)(h:l≠[]):Lib.join (l++[x]) sep=Lib.join l sep++(sep++x):=by
 rcases l with _|⟨y,l⟩
 ·exact absurd rfl h
 ·rw[List.cons_append,Lib.join_cons,Lib.join_cons];unfold Lib.joinTail;simp
theorem Aj5(l:List ByteArray)(x:ByteArray)(h:l≠[]):Df Kk (l++[x])=Df Kk l++Kk++x:=by
 rw[Aaa,Aaa,ZI,List.map_cons,List.map_nil,Anj _ _ _ (by simpa using h)]
 conv=>rhs;rhs;rw[←Abt x]
 rw[show Kk=bA [46]from rfl,Ca,Ca,ZS]
theorem Vn{α:Type}{l:List α}{k:Nat}(h:k<l.length):l.take (k+1)=l.take k++[l[k]]:=by rw[XT,ZC h];rfl
theorem X3{l:List ByteArray}(h:0<l.length):Df Kk (l.take 0)++l[0]=Df Kk (l.take (0+1)):=by
 rw[Vn h,List.take_zero,List.nil_append,Aos,show Df Kk []=bA []from rfl]
 conv=>lhs;rhs;rw[←Abt l[0]]
 rw[Ca,List.nil_append,Abt]
theorem Ab9{l:List ByteArray}{k:Nat}(h:k+1<l.length):Df Kk (l.take (k+1))++Kk++l[k+1]=Df Kk (l.take (k+1+1)):=by
 rw[Vn h,Aj5 _ _ (by intro e;have:=congrArg List.length e;rw[ZM]at this;simp only[ZN]at this;omega)]
theorem Ads(l:List ByteArray)(h:∀x∈l,x.size≤1000)(k:Nat)(hk:k≤l.length):(Df Kk (l.take k)).size≤1001*k:=by
 induction k with
 |zero=>exact ZT 0
 |succ k ih=>
  have h1:=ih (by omega);have h2:=h _ (ZK (show k<l.length by omega));rcases k with _|k
  ·rw[←X3 (by omega),XP];omega
  ·rw[←Ab9 (by omega),XP,XP];have:Kk.size=1:=rfl;omega
end Pl
theorem Ajl(c:Bool)(l:List ByteArray)(hl:l.length≤100)(hz:∀x∈l,x.size≤1000):Fun Tryz.prog 104 [.c (.sl c (l.map A1))] [.c (.v (.string (Df Kk l)))]:=by
 refine Ar Qk rfl ?_;refine G0 ?_;(refine⟨[],none,{k:Nat//k≤l.length},[0],fun⟨k,hk⟩=>[(3,.v (.string (Df Kk (l.take k)))),(4,.v (.int .i64 (k:Int)))],[],fun⟨k,hk⟩=>[],fun⟨k,hk⟩=>l.length-k,trivial,fun _=>⟨trivial,fun _=>⟨⟨0,by omega⟩,tI,Af _ _,tI,Ae _ _⟩⟩,fun⟨k,hk⟩=>?_⟩);have hsz:(Df Kk (l.take k)).size≤100100:=by
  have:=Ads l hz k hk;omega
 refine G0 ?_;rw[ZE];(refine Aa (fun h1=>?_) (fun h1=>?_)<;>rw[h1])
 ·have hlt:k<l.length:=(by have:=ZV h1;omega);have hx:=hz _ (ZK hlt);have hd:Kk.size=1:=rfl;rcases k with _|k
  ·refine G0 ?_;refine⟨0,_,rfl,Ad hlt,?_⟩;refine G0 ?_;refine⟨by rw[show(Df Kk (l.take 0)).size=0 from rfl];omega,?_⟩;rw[X3 hlt];refine G0 ?_;(exact⟨none,trivial,fun _=>⟨⟨1,by omega⟩,by show l.length-1<l.length-0;omega,tI,tI,tI,tI⟩⟩)
  ·refine G0 ?_;rw[show decide ((0:Int)<((k+1:Nat):Int))=true from ZX (by omega)];refine G0 ?_;refine⟨by rw[hd];omega,?_⟩;refine G0 ?_;refine⟨k+1,_,rfl,Ad hlt,?_⟩;refine G0 ?_;refine⟨by rw[XP,hd];omega,?_⟩;rw[Ab9 hlt];refine G0 ?_;(exact⟨none,trivial,fun _=>⟨⟨k+1+1,by omega⟩,by show l.length-(k+1+1)<l.length-(k+1);omega,tI,tI,tI,tI⟩⟩)
 ·have hge:¬k<l.length:=(by have:=ZW h1;omega);obtain rfl:k=l.length:=by omega
  refine G0 ?_;rw[XF];(exact⟨[],aI⟩)
end Go.Proofs.YtbnocibpoghfhaaGreatDoor
