/- Texts of this claim, joined. -/
import Derived.WalkKit
import Derived.Defers
import Derived.Recover
import Derived.Laws.Pointers
import Derived.Test.YtkbjgdcdjccnaaaGreatDoorRows
import Derived.Test.YtkbjgdcdjccnaaaGreatDoorVa
import Derived.Test.YtkbjgdcdjccnaaaGreatDoorVb
import Derived.Test.YtkbjgdcdjccnaaaGreatDoorVc
import Derived.Test.YtkbjgdcdjccnaaaGreatDoorVd
import Derived.Test.YtkbjgdcdjccnaaaGreatDoorVe
set_option linter.unusedSimpArgs false
set_option linter.unusedVariables false
namespace Go.Proofs.YtkbjgdcdjccnaaaGreatDoor
open Go Go.RowKit Pl
set_option maxHeartbeats 4000000 in
theorem Aen{s:ByteArray}{v:Ms}(h:Ut s=some v)(hs:s.size≤1000000):Hv Tryz.prog 51 [.mn rdT (rdC s 0) (rdC s s.size)] [.p (.c (.agg v.row))]:=by
 unfold Ut at h;refine Aoh Ii rfl (Li rfl) ?_;refine G1 ?_;intro gg;revert gg;intro gz;rcases e1:Cb s 0 with _|⟨i,a1⟩
 ·rw[e1]at h;cases h
 rw[e1,ZA]at h;simp only at h;have be1:=Bo e1;(refine .inr (.inl ⟨_,_,false,0::([]++[]),?_,Bf e1 hs,Ae,oI,dI,?_⟩);focus (exact wI));(refine goI ?_;repeat (intro gg;refine goI ?_));revert gg;intro gb;rcases e2:Cr s a1 with _|⟨fl,a2⟩
 ·rw[e2]at h;cases h
 rw[e2,ZA]at h;simp only at h;have be2:=C3 e2;(refine .inr (.inl ⟨_,_,false,0::([]++[]),?_,D8 e2 hs,Ae,oI,dI,?_⟩);focus (exact wI));refine G1 ?_;intro gg;rcases e3:Cr s a2 with _|⟨co,a3⟩
 ·rw[e3]at h;cases h
 rw[e3,ZA]at h;simp only at h;have be3:=C3 e3;(refine .inr (.inl ⟨_,_,false,0::([]++[]),?_,D8 e3 hs,Ae,oI,dI,?_⟩);focus (exact wI));refine G1 ?_;intro gg;refine⟨_,rfl,?_⟩;refine G0 ?_;rw[Ay1 be2.1];by_cases q1:Aq5 fl=true;rotate_left
 ·rw[if_neg (by simp[q1])]at h;cases h
 rw[q1]at h ⊢;refine G0 ?_;by_cases q2:co<16;rotate_left
 ·rw[if_neg (by simp[q2])]at h;cases h
 rw[if_pos (by simp[q2])]at h;(refine .inl ⟨_,_,true,[],aI,Bc _ (ZX (by omega)),(fun _=>fI),nI,?_⟩);refine G1 ?_;intro gg;refine⟨_,rfl,?_⟩;refine G0 ?_;refine⟨_,rfl,?_⟩;refine G0 ?_;rw[Axn be2.1,Axk be2.1];obtain⟨an,han⟩:∃x,x=decide (128≤fl):=⟨_,rfl⟩;obtain⟨ct,hct⟩:∃x,x=decide (fl%4≥2):=⟨_,rfl⟩;rw[←han,←hct]at h ⊢;rcases e4:Cb s a3 with _|⟨one,a4⟩
 ·rw[e4]at h;cases h
 rw[e4,ZA]at h;simp only at h;have be4:=Bo e4;(refine .inr (.inl ⟨_,_,false,0::([]++[]),?_,Bf e4 hs,Ae,oI,dI,?_⟩);focus (exact wI));refine G1 ?_;intro gg;by_cases c4:one=1;rotate_left
 ·rw[if_neg c4]at h;cases h
 rw[if_pos c4]at h;(refine .inl ⟨_,_,true,[],aI,Bc _ (ZR.2 (by omega)),(fun _=>fI),nI,?_⟩);refine G1 ?_;intro gg;rcases e5:Cb s a4 with _|⟨n,a5⟩
 ·rw[e5]at h;cases h
 rw[e5,ZA]at h;simp only at h;have be5:=Bo e5;(refine .inr (.inl ⟨_,_,false,0::([]++[]),?_,Bf e5 hs,Ae,oI,dI,?_⟩);focus (exact wI));refine G1 ?_;intro gg;by_cases c5:n≤20;rotate_left
 ·rw[if_neg c5]at h;cases h
 rw[if_pos c5]at h;rw[show(decide ((n:Int)≤20))=true from ZX (by omega)];refine G0 ?_;rcases e6:Cb s a5 with _|⟨z,a6⟩
 ·rw[e6]at h;cases h
 rw[e6,ZA]at h;simp only at h;have be6:=Bo e6;(refine .inr (.inl ⟨_,_,false,0::([]++[]),?_,Bf e6 hs,Ae,oI,dI,?_⟩);focus (exact wI));refine G1 ?_;intro gg;by_cases c6:z=0;rotate_left
 ·rw[if_neg c6]at h;cases h
 rw[if_pos c6]at h;rw[show((z:Int)==0)=true from ZR.2 (by omega)];refine G0 ?_;rcases e7:Cb s a6 with _|⟨y,a7⟩
 ·rw[e7]at h;cases h
 rw[e7,ZA]at h;simp only at h;have be7:=Bo e7;(refine .inr (.inl ⟨_,_,false,0::([]++[]),?_,Bf e7 hs,Ae,oI,dI,?_⟩);focus (exact wI));refine G1 ?_;intro gg;by_cases c7:y=0;rotate_left
 ·rw[if_neg c7]at h;cases h
 rw[if_pos c7]at h;(refine .inl ⟨_,_,true,[],aI,Bc _ (ZR.2 (by omega)),(fun _=>fI),nI,?_⟩);refine G1 ?_;intro gg;rcases e8:Ih s a7 with _|⟨qn,a8⟩
 ·rw[e8]at h;cases h
 rw[e8,ZA]at h;simp only at h;have be8:=Hz e8;(refine .inr (.inl ⟨_,_,false,0::([]++[]),?_,J4 e8 hs (by omega),Ae,oI,dI,?_⟩);focus (exact wI));refine G1 ?_;intro gg;rcases e9:Cb s a8 with _|⟨qt,a9⟩
 ·rw[e9]at h;cases h
 rw[e9,ZA]at h;simp only at h;have be9:=Bo e9;(refine .inr (.inl ⟨_,_,false,0::([]++[]),?_,Bf e9 hs,Ae,oI,dI,?_⟩);focus (exact wI));refine G1 ?_;intro gg;rcases e10:Cb s a9 with _|⟨d,a10⟩
 ·rw[e10]at h;cases h
 rw[e10,ZA]at h;simp only at h;have be10:=Bo e10;(refine .inr (.inl ⟨_,_,false,0::([]++[]),?_,Bf e10 hs,Ae,oI,dI,?_⟩);focus (exact wI));refine G1 ?_;intro gg;by_cases c10:d=1;rotate_left
 ·rw[if_neg c10]at h;cases h
 rw[if_pos c10]at h;(refine .inl ⟨_,_,true,[],aI,Bc _ (ZR.2 (by omega)),(fun _=>fI),nI,?_⟩);refine G1 ?_;intro gg;have hT:=be10.2.2;clear e1 e2 e3 e4 e5 e6 e7 e8 e9 e10 be1 be2 be3 be4 be6 be7 be9 be10;(refine⟨[],none,{p:Nat×Nat×List Rr×Nat//RcI s n (Ig s n a10) p.1 p.2.1 p.2.2.1},[],fun⟨⟨k,a,L,g⟩,hp⟩=>[(0,.ptr 0 0 0 0),(2,.ptr 32 gz 0 0),(3,.ptr 48 gb 0 0),(65,.v (.int .i64 (n:Int))),(66,.v (.int .i64 (k:Int)))],[],fun⟨⟨k,a,L,g⟩,hp⟩=>Bdk s gz gb i an ct co qn qt a L g,fun⟨⟨k,a,L,g⟩,hp⟩=>n-k,trivial,fun _=>⟨trivial,fun _=>⟨⟨(0,a10,[],0),RcI.start hT⟩,tI,An _ _,tI,Am _ _⟩⟩,fun⟨⟨k,a,L,g⟩,hp⟩=>?_⟩);simp only at hp;simp only[An9,An6,Ad8,Adw];have hk:=hp.hk;have hl:=hp.hl;by_cases c11:k<n
 ·rcases e:Un s a with _|⟨r,a2⟩
  ·have hn:=hp.none c11 e;rw[hn]at h;cases h
  ·have hnx:=RcI.next hp c11 e;have b:=Ys e;have hr7:(([r].map Rr.row):List (List V))=[r.row]:=rfl;have hn20:L.length≤20:=by omega
   rcases L with _|⟨r0,L⟩
   ·refine G0 ?_;(refine Gn ?_ ?_;focus (exact ZX (by omega)));refine G0 ?_;refine⟨?_,?_⟩
    ·refine G0 ?_;refine⟨?_,?_⟩
     ·refine G0 ?_;(refine .inr (.inl ⟨_,_,false,0::([]++[]),?_,A8 e hs hp.ha,Ae,oI,dI,?_⟩);focus (exact wI));(refine goI ?_;repeat (intro gg;refine goI ?_));refine⟨lI,lI,?_⟩;refine G1 ?_;intro gg;(exact⟨none,trivial,fun gr=>⟨⟨(k+1,a2,[r],gg),hnx⟩,by show n-(k+1)<n-k;omega,tI,tI,⟨rfl,⟨rfl,⟨rfl,⟨rfl,trivial⟩⟩⟩⟩,tI⟩⟩)
     ·refine G0 ?_;refine⟨?_,?_⟩
      ·refine G0 ?_;(refine .inr (.inl ⟨_,_,false,0::([]++[]),?_,A8 e hs hp.ha,Ae,oI,dI,?_⟩);focus (exact wI));(refine goI ?_;repeat (intro gg;refine goI ?_));refine⟨lI,lI,?_⟩;refine G1 ?_;intro gg;(exact⟨none,trivial,fun gr=>⟨⟨(k+1,a2,[r],gg),hnx⟩,by show n-(k+1)<n-k;omega,tI,tI,⟨rfl,⟨rfl,⟨rfl,⟨rfl,trivial⟩⟩⟩⟩,tI⟩⟩)
      ·refine G0 ?_;(refine .inr (.inl ⟨_,_,false,0::([]++[]),?_,A8 e hs hp.ha,Ae,oI,dI,?_⟩);focus (exact wI));refine G1 ?_;intro gg;refine⟨?_,?_⟩
       ·refine G1 ?_;intro gg;refine⟨lI,lI,?_⟩;refine G1 ?_;intro gg;(exact⟨none,trivial,fun gr=>⟨⟨(k+1,a2,[r],gg),hnx⟩,by show n-(k+1)<n-k;omega,tI,tI,⟨rfl,⟨rfl,⟨rfl,⟨rfl,trivial⟩⟩⟩⟩,tI⟩⟩)
       ·refine G1 ?_;intro gg;refine⟨lI,lI,?_⟩;refine G1 ?_;intro gg;(exact⟨none,trivial,fun gr=>⟨⟨(k+1,a2,[r],gg),hnx⟩,by show n-(k+1)<n-k;omega,tI,tI,⟨rfl,⟨rfl,⟨rfl,⟨rfl,trivial⟩⟩⟩⟩,tI⟩⟩)
    ·refine G0 ?_;refine⟨?_,?_⟩
     ·refine G0 ?_;refine⟨?_,?_⟩
      ·refine G0 ?_;(refine .inr (.inl ⟨_,_,false,0::([]++[]),?_,A8 e hs hp.ha,Ae,oI,dI,?_⟩);focus (exact wI));(refine goI ?_;repeat (intro gg;refine goI ?_));refine⟨lI,lI,?_⟩;refine G1 ?_;intro gg;(exact⟨none,trivial,fun gr=>⟨⟨(k+1,a2,[r],gg),hnx⟩,by show n-(k+1)<n-k;omega,tI,tI,⟨rfl,⟨rfl,⟨rfl,⟨rfl,trivial⟩⟩⟩⟩,tI⟩⟩)
      ·refine G0 ?_;(refine .inr (.inl ⟨_,_,false,0::([]++[]),?_,A8 e hs hp.ha,Ae,oI,dI,?_⟩);focus (exact wI));refine G1 ?_;intro gg;refine⟨?_,?_⟩
       ·refine G1 ?_;intro gg;refine⟨lI,lI,?_⟩;refine G1 ?_;intro gg;(exact⟨none,trivial,fun gr=>⟨⟨(k+1,a2,[r],gg),hnx⟩,by show n-(k+1)<n-k;omega,tI,tI,⟨rfl,⟨rfl,⟨rfl,⟨rfl,trivial⟩⟩⟩⟩,tI⟩⟩)
       ·refine G1 ?_;intro gg;refine⟨lI,lI,?_⟩;refine G1 ?_;intro gg;(exact⟨none,trivial,fun gr=>⟨⟨(k+1,a2,[r],gg),hnx⟩,by show n-(k+1)<n-k;omega,tI,tI,⟨rfl,⟨rfl,⟨rfl,⟨rfl,trivial⟩⟩⟩⟩,tI⟩⟩)
     ·refine G0 ?_;(refine .inr (.inl ⟨_,_,false,0::([]++[]),?_,A8 e hs hp.ha,Ae,oI,dI,?_⟩);focus (exact wI));refine G1 ?_;intro gg;refine⟨?_,?_⟩
      ·refine G0 ?_;refine⟨?_,?_⟩
       ·refine G1 ?_;intro gg;refine⟨lI,lI,?_⟩;refine G1 ?_;intro gg;(exact⟨none,trivial,fun gr=>⟨⟨(k+1,a2,[r],gg),hnx⟩,by show n-(k+1)<n-k;omega,tI,tI,⟨rfl,⟨rfl,⟨rfl,⟨rfl,trivial⟩⟩⟩⟩,tI⟩⟩)
       ·refine G1 ?_;intro gg;refine⟨lI,lI,?_⟩;refine G1 ?_;intro gg;(exact⟨none,trivial,fun gr=>⟨⟨(k+1,a2,[r],gg),hnx⟩,by show n-(k+1)<n-k;omega,tI,tI,⟨rfl,⟨rfl,⟨rfl,⟨rfl,trivial⟩⟩⟩⟩,tI⟩⟩)
      ·refine G1 ?_;intro gg;refine⟨lI,lI,?_⟩;refine G1 ?_;intro gg;(exact⟨none,trivial,fun gr=>⟨⟨(k+1,a2,[r],gg),hnx⟩,by show n-(k+1)<n-k;omega,tI,tI,⟨rfl,⟨rfl,⟨rfl,⟨rfl,trivial⟩⟩⟩⟩,tI⟩⟩)
   ·have hn21:L.length≤20:=by simp only[ZJ]at hn20;omega
    refine G0 ?_;(refine Gn ?_ ?_;focus (exact ZX (by omega)));refine G0 ?_;refine⟨?_,?_⟩
    ·refine G0 ?_;refine⟨?_,?_⟩
     ·refine G0 ?_;(refine .inr (.inl ⟨_,_,false,0::([]++[]),?_,A8 e hs hp.ha,Ae,oI,dI,?_⟩);focus (exact wI));(refine goI ?_;repeat (intro gg;refine goI ?_));refine⟨lI,lI,?_⟩;refine G1 ?_;intro gg;(exact⟨none,trivial,fun gr=>⟨⟨(k+1,a2,(r0::L)++[r],gg),hnx⟩,by show n-(k+1)<n-k;omega,tI,tI,⟨rfl,⟨rfl,⟨congrArg (fun x=>some (Ent.mk gg (.t 51) 7 x)) (show(r0::L).map Rr.row++[r.row]=((r0::L)++[r]).map Rr.row by rw[ZI];rfl),⟨rfl,trivial⟩⟩⟩⟩,tI⟩⟩)
     ·refine G0 ?_;refine⟨?_,?_⟩
      ·refine G0 ?_;(refine .inr (.inl ⟨_,_,false,0::([]++[]),?_,A8 e hs hp.ha,Ae,oI,dI,?_⟩);focus (exact wI));(refine goI ?_;repeat (intro gg;refine goI ?_));refine⟨lI,lI,?_⟩;refine G1 ?_;intro gg;(exact⟨none,trivial,fun gr=>⟨⟨(k+1,a2,(r0::L)++[r],gg),hnx⟩,by show n-(k+1)<n-k;omega,tI,tI,⟨rfl,⟨rfl,⟨congrArg (fun x=>some (Ent.mk gg (.t 51) 7 x)) (show(r0::L).map Rr.row++[r.row]=((r0::L)++[r]).map Rr.row by rw[ZI];rfl),⟨rfl,trivial⟩⟩⟩⟩,tI⟩⟩)
      ·refine G0 ?_;(refine .inr (.inl ⟨_,_,false,0::([]++[]),?_,A8 e hs hp.ha,Ae,oI,dI,?_⟩);focus (exact wI));refine G1 ?_;intro gg;refine⟨?_,?_⟩
       ·refine G1 ?_;intro gg;refine⟨lI,lI,?_⟩;refine G1 ?_;intro gg;(exact⟨none,trivial,fun gr=>⟨⟨(k+1,a2,(r0::L)++[r],gg),hnx⟩,by show n-(k+1)<n-k;omega,tI,tI,⟨rfl,⟨rfl,⟨congrArg (fun x=>some (Ent.mk gg (.t 51) 7 x)) (show(r0::L).map Rr.row++[r.row]=((r0::L)++[r]).map Rr.row by rw[ZI];rfl),⟨rfl,trivial⟩⟩⟩⟩,tI⟩⟩)
       ·refine G1 ?_;intro gg;refine⟨lI,lI,?_⟩;refine G1 ?_;intro gg;(exact⟨none,trivial,fun gr=>⟨⟨(k+1,a2,(r0::L)++[r],gg),hnx⟩,by show n-(k+1)<n-k;omega,tI,tI,⟨rfl,⟨rfl,⟨congrArg (fun x=>some (Ent.mk gg (.t 51) 7 x)) (show(r0::L).map Rr.row++[r.row]=((r0::L)++[r]).map Rr.row by rw[ZI];rfl),⟨rfl,trivial⟩⟩⟩⟩,tI⟩⟩)
    ·refine G0 ?_;refine⟨?_,?_⟩
     ·refine G0 ?_;refine⟨?_,?_⟩
      ·refine G0 ?_;(refine .inr (.inl ⟨_,_,false,0::([]++[]),?_,A8 e hs hp.ha,Ae,oI,dI,?_⟩);focus (exact wI));(refine goI ?_;repeat (intro gg;refine goI ?_));refine⟨lI,lI,?_⟩;refine G1 ?_;intro gg;(exact⟨none,trivial,fun gr=>⟨⟨(k+1,a2,(r0::L)++[r],gg),hnx⟩,by show n-(k+1)<n-k;omega,tI,tI,⟨rfl,⟨rfl,⟨congrArg (fun x=>some (Ent.mk gg (.t 51) 7 x)) (show(r0::L).map Rr.row++[r.row]=((r0::L)++[r]).map Rr.row by rw[ZI];rfl),⟨rfl,trivial⟩⟩⟩⟩,tI⟩⟩)
      ·refine G0 ?_;(refine .inr (.inl ⟨_,_,false,0::([]++[]),?_,A8 e hs hp.ha,Ae,oI,dI,?_⟩);focus (exact wI));refine G1 ?_;intro gg;refine⟨?_,?_⟩
       ·refine G1 ?_;intro gg;refine⟨lI,lI,?_⟩;refine G1 ?_;intro gg;(exact⟨none,trivial,fun gr=>⟨⟨(k+1,a2,(r0::L)++[r],gg),hnx⟩,by show n-(k+1)<n-k;omega,tI,tI,⟨rfl,⟨rfl,⟨congrArg (fun x=>some (Ent.mk gg (.t 51) 7 x)) (show(r0::L).map Rr.row++[r.row]=((r0::L)++[r]).map Rr.row by rw[ZI];rfl),⟨rfl,trivial⟩⟩⟩⟩,tI⟩⟩)
       ·refine G1 ?_;intro gg;refine⟨lI,lI,?_⟩;refine G1 ?_;intro gg;(exact⟨none,trivial,fun gr=>⟨⟨(k+1,a2,(r0::L)++[r],gg),hnx⟩,by show n-(k+1)<n-k;omega,tI,tI,⟨rfl,⟨rfl,⟨congrArg (fun x=>some (Ent.mk gg (.t 51) 7 x)) (show(r0::L).map Rr.row++[r.row]=((r0::L)++[r]).map Rr.row by rw[ZI];rfl),⟨rfl,trivial⟩⟩⟩⟩,tI⟩⟩)
     ·refine G0 ?_;(refine .inr (.inl ⟨_,_,false,0::([]++[]),?_,A8 e hs hp.ha,Ae,oI,dI,?_⟩);focus (exact wI));refine G1 ?_;intro gg;refine⟨?_,?_⟩
      ·refine G0 ?_;refine⟨?_,?_⟩
       ·refine G1 ?_;intro gg;refine⟨lI,lI,?_⟩;refine G1 ?_;intro gg;(exact⟨none,trivial,fun gr=>⟨⟨(k+1,a2,(r0::L)++[r],gg),hnx⟩,by show n-(k+1)<n-k;omega,tI,tI,⟨rfl,⟨rfl,⟨congrArg (fun x=>some (Ent.mk gg (.t 51) 7 x)) (show(r0::L).map Rr.row++[r.row]=((r0::L)++[r]).map Rr.row by rw[ZI];rfl),⟨rfl,trivial⟩⟩⟩⟩,tI⟩⟩)
       ·refine G1 ?_;intro gg;refine⟨lI,lI,?_⟩;refine G1 ?_;intro gg;(exact⟨none,trivial,fun gr=>⟨⟨(k+1,a2,(r0::L)++[r],gg),hnx⟩,by show n-(k+1)<n-k;omega,tI,tI,⟨rfl,⟨rfl,⟨congrArg (fun x=>some (Ent.mk gg (.t 51) 7 x)) (show(r0::L).map Rr.row++[r.row]=((r0::L)++[r]).map Rr.row by rw[ZI];rfl),⟨rfl,trivial⟩⟩⟩⟩,tI⟩⟩)
      ·refine G1 ?_;intro gg;refine⟨lI,lI,?_⟩;refine G1 ?_;intro gg;(exact⟨none,trivial,fun gr=>⟨⟨(k+1,a2,(r0::L)++[r],gg),hnx⟩,by show n-(k+1)<n-k;omega,tI,tI,⟨rfl,⟨rfl,⟨congrArg (fun x=>some (Ent.mk gg (.t 51) 7 x)) (show(r0::L).map Rr.row++[r.row]=((r0::L)++[r]).map Rr.row by rw[ZI];rfl),⟨rfl,trivial⟩⟩⟩⟩,tI⟩⟩)
 ·have he:=hp.end_ c11;rw[he,ZA]at h;simp only at h;rcases L with _|⟨r0,L⟩
  ·refine G0 ?_;(refine F9 ?_ ?_;focus (exact ZY (by omega)));refine G0 ?_;by_cases c12:a=s.size
   ·rw[if_pos c12]at h;cases h;subst c12;refine .inl (cY (Bc _ (beq_self_eq_true _)) ?_);refine G1 ?_;intro gg;(exact⟨_,0::([]++[]),.cell1 rfl rfl rfl rfl rfl rfl .nil,Aga cBI (Oq (gone:=[]) (gone1:=[]) rfl aI (by decide) (by decide) (by decide) (.nil _))⟩)
   ·rw[if_neg c12]at h;cases h
  ·refine G0 ?_;(refine F9 ?_ ?_;focus (exact ZY (by omega)));refine G0 ?_;by_cases c12:a=s.size
   ·rw[if_pos c12]at h;cases h;subst c12;refine .inl (cY (Bc _ (beq_self_eq_true _)) ?_);refine G1 ?_;intro gg;(exact⟨_,0::([]++[]),.cell1 rfl rfl rfl rfl rfl rfl .nil,Aga cBI (Oq (gone:=[]) (gone1:=[]) rfl aI (by decide) (by decide) (by decide) (.nil _))⟩)
   ·rw[if_neg c12]at h;cases h
set_option maxHeartbeats 4000000 in
theorem Afo{s:ByteArray}{R:List Par}(h:Ut s=none)(hs:s.size≤1000000):Ha Tryz.prog 51 [.mn rdT (rdC s 0) R] Hg:=by
 unfold Ut at h;refine Ada Ii rfl (Li rfl) ?_;refine G1 ?_;intro gg;revert gg;intro gz;rcases e1:Cb s 0 with _|⟨i,a1⟩
 ·(refine .inr (.inr (.inl ⟨_,false,0::([]++[]),_,?_,Dt (R:=rdC s 0) e1 hs,rfl⟩));focus (exact wI))
 rw[e1,ZA]at h;simp only at h;have be1:=Bo e1;(refine .inr (.inl ⟨_,_,false,0::([]++[]),?_,Bf e1 hs,Ae,oI,dI,?_⟩);focus (exact wI));(refine goI ?_;repeat (intro gg;refine goI ?_));revert gg;intro gb;rcases e2:Cr s a1 with _|⟨fl,a2⟩
 ·(refine .inr (.inr (.inl ⟨_,false,0::([]++[]),_,?_,Kg (R:=rdC s 0) e2 hs,rfl⟩));focus (exact wI))
 rw[e2,ZA]at h;simp only at h;have be2:=C3 e2;(refine .inr (.inl ⟨_,_,false,0::([]++[]),?_,D8 e2 hs,Ae,oI,dI,?_⟩);focus (exact wI));refine G1 ?_;intro gg;rcases e3:Cr s a2 with _|⟨co,a3⟩
 ·(refine .inr (.inr (.inl ⟨_,false,0::([]++[]),_,?_,Kg (R:=rdC s 0) e3 hs,rfl⟩));focus (exact wI))
 rw[e3,ZA]at h;simp only at h;have be3:=C3 e3;(refine .inr (.inl ⟨_,_,false,0::([]++[]),?_,D8 e3 hs,Ae,oI,dI,?_⟩);focus (exact wI));refine G1 ?_;intro gg;refine⟨_,rfl,?_⟩;refine G0 ?_;rw[Ay1 be2.1];by_cases q1:Aq5 fl=true;rotate_left
 ·rw[XE.2 q1];refine G0 ?_;(exact .inr (.inr (.inl ⟨_,true,[],_,aM,Ca _ rfl,rfl⟩)))
 rw[q1]at h ⊢;refine G0 ?_;by_cases q2:co<16;rotate_left
 ·(exact .inr (.inr (.inl ⟨_,true,[],_,aM,Ca _ (ZY (by omega)),rfl⟩)))
 rw[if_pos (by simp[q2])]at h;(refine .inl ⟨_,_,true,[],aI,Bc _ (ZX (by omega)),(fun _=>fI),nI,?_⟩);refine G1 ?_;intro gg;refine⟨_,rfl,?_⟩;refine G0 ?_;refine⟨_,rfl,?_⟩;refine G0 ?_;rw[Axn be2.1,Axk be2.1];obtain⟨an,han⟩:∃x,x=decide (128≤fl):=⟨_,rfl⟩;obtain⟨ct,hct⟩:∃x,x=decide (fl%4≥2):=⟨_,rfl⟩;rw[←han,←hct]at h ⊢;rcases e4:Cb s a3 with _|⟨one,a4⟩
 ·(refine .inr (.inr (.inl ⟨_,false,0::([]++[]),_,?_,Dt (R:=rdC s 0) e4 hs,rfl⟩));focus (exact wI))
 rw[e4,ZA]at h;simp only at h;have be4:=Bo e4;(refine .inr (.inl ⟨_,_,false,0::([]++[]),?_,Bf e4 hs,Ae,oI,dI,?_⟩);focus (exact wI));refine G1 ?_;intro gg;by_cases c4:one=1;rotate_left
 ·(exact .inr (.inr (.inl ⟨_,true,[],_,aM,Ca _ (ZG.2 (by omega)),rfl⟩)))
 rw[if_pos c4]at h;(refine .inl ⟨_,_,true,[],aI,Bc _ (ZR.2 (by omega)),(fun _=>fI),nI,?_⟩);refine G1 ?_;intro gg;rcases e5:Cb s a4 with _|⟨n,a5⟩
 ·(refine .inr (.inr (.inl ⟨_,false,0::([]++[]),_,?_,Dt (R:=rdC s 0) e5 hs,rfl⟩));focus (exact wI))
 rw[e5,ZA]at h;simp only at h;have be5:=Bo e5;(refine .inr (.inl ⟨_,_,false,0::([]++[]),?_,Bf e5 hs,Ae,oI,dI,?_⟩);focus (exact wI));refine G1 ?_;intro gg;by_cases c5:n≤20;rotate_left
 ·rw[show(decide ((n:Int)≤20))=false from ZY (by omega)];refine G0 ?_;(exact .inr (.inr (.inl ⟨_,true,[],_,aM,Ca _ rfl,rfl⟩)))
 rw[if_pos c5]at h;rw[show(decide ((n:Int)≤20))=true from ZX (by omega)];refine G0 ?_;rcases e6:Cb s a5 with _|⟨z,a6⟩
 ·(refine .inr (.inr (.inl ⟨_,false,0::([]++[]),_,?_,Dt (R:=rdC s 0) e6 hs,rfl⟩));focus (exact wI))
 rw[e6,ZA]at h;simp only at h;have be6:=Bo e6;(refine .inr (.inl ⟨_,_,false,0::([]++[]),?_,Bf e6 hs,Ae,oI,dI,?_⟩);focus (exact wI));refine G1 ?_;intro gg;by_cases c6:z=0;rotate_left
 ·rw[show((z:Int)==0)=false from ZG.2 (by omega)];refine G0 ?_;(exact .inr (.inr (.inl ⟨_,true,[],_,aM,Ca _ rfl,rfl⟩)))
 rw[if_pos c6]at h;rw[show((z:Int)==0)=true from ZR.2 (by omega)];refine G0 ?_;rcases e7:Cb s a6 with _|⟨y,a7⟩
 ·(refine .inr (.inr (.inl ⟨_,false,0::([]++[]),_,?_,Dt (R:=rdC s 0) e7 hs,rfl⟩));focus (exact wI))
 rw[e7,ZA]at h;simp only at h;have be7:=Bo e7;(refine .inr (.inl ⟨_,_,false,0::([]++[]),?_,Bf e7 hs,Ae,oI,dI,?_⟩);focus (exact wI));refine G1 ?_;intro gg;by_cases c7:y=0;rotate_left
 ·(exact .inr (.inr (.inl ⟨_,true,[],_,aM,Ca _ (ZG.2 (by omega)),rfl⟩)))
 rw[if_pos c7]at h;(refine .inl ⟨_,_,true,[],aI,Bc _ (ZR.2 (by omega)),(fun _=>fI),nI,?_⟩);refine G1 ?_;intro gg;rcases e8:Ih s a7 with _|⟨qn,a8⟩
 ·(refine .inr (.inr (.inl ⟨_,false,0::([]++[]),_,?_,Vv (R:=rdC s 0) e8 hs (by omega),rfl⟩));focus (exact wI))
 rw[e8,ZA]at h;simp only at h;have be8:=Hz e8;(refine .inr (.inl ⟨_,_,false,0::([]++[]),?_,J4 e8 hs (by omega),Ae,oI,dI,?_⟩);focus (exact wI));refine G1 ?_;intro gg;rcases e9:Cb s a8 with _|⟨qt,a9⟩
 ·(refine .inr (.inr (.inl ⟨_,false,0::([]++[]),_,?_,Dt (R:=rdC s 0) e9 hs,rfl⟩));focus (exact wI))
 rw[e9,ZA]at h;simp only at h;have be9:=Bo e9;(refine .inr (.inl ⟨_,_,false,0::([]++[]),?_,Bf e9 hs,Ae,oI,dI,?_⟩);focus (exact wI));refine G1 ?_;intro gg;rcases e10:Cb s a9 with _|⟨d,a10⟩
 ·(refine .inr (.inr (.inl ⟨_,false,0::([]++[]),_,?_,Dt (R:=rdC s 0) e10 hs,rfl⟩));focus (exact wI))
 rw[e10,ZA]at h;simp only at h;have be10:=Bo e10;(refine .inr (.inl ⟨_,_,false,0::([]++[]),?_,Bf e10 hs,Ae,oI,dI,?_⟩);focus (exact wI));refine G1 ?_;intro gg;by_cases c10:d=1;rotate_left
 ·(exact .inr (.inr (.inl ⟨_,true,[],_,aM,Ca _ (ZG.2 (by omega)),rfl⟩)))
 rw[if_pos c10]at h;(refine .inl ⟨_,_,true,[],aI,Bc _ (ZR.2 (by omega)),(fun _=>fI),nI,?_⟩);refine G1 ?_;intro gg;have hT:=be10.2.2;clear e1 e2 e3 e4 e5 e6 e7 e8 e9 e10 be1 be2 be3 be4 be6 be7 be9 be10;(refine⟨[],none,{p:Nat×Nat×List Rr×Nat//RcI s n (Ig s n a10) p.1 p.2.1 p.2.2.1},[],fun⟨⟨k,a,L,g⟩,hp⟩=>[(0,.ptr 0 0 0 0),(2,.ptr 32 gz 0 0),(3,.ptr 48 gb 0 0),(65,.v (.int .i64 (n:Int))),(66,.v (.int .i64 (k:Int)))],[],fun⟨⟨k,a,L,g⟩,hp⟩=>Bdk s gz gb i an ct co qn qt a L g,fun⟨⟨k,a,L,g⟩,hp⟩=>n-k,trivial,fun _=>⟨trivial,fun _=>⟨⟨(0,a10,[],0),RcI.start hT⟩,tI,An _ _,tI,Am _ _⟩⟩,fun⟨⟨k,a,L,g⟩,hp⟩=>?_⟩);simp only at hp;simp only[An9,An6,Ad8,Adw];have hk:=hp.hk;have hl:=hp.hl;by_cases c11:k<n
 ·rcases e:Un s a with _|⟨r,a2⟩
  ·have hn:=hp.none c11 e;rcases L with _|⟨r0,L⟩
   ·refine G0 ?_;(refine Gn ?_ ?_;focus (exact ZX (by omega)));refine G0 ?_;refine⟨?_,?_⟩
    ·refine G0 ?_;refine⟨?_,?_⟩
     ·refine G0 ?_;(refine .inr (.inr (.inl ⟨_,false,0::([]++[]),_,?_,Cv (R:=rdC s 0) e hs hp.ha,rfl⟩));focus (exact wI))
     ·refine G0 ?_;refine⟨?_,?_⟩
      ·refine G0 ?_;(refine .inr (.inr (.inl ⟨_,false,0::([]++[]),_,?_,Cv (R:=rdC s 0) e hs hp.ha,rfl⟩));focus (exact wI))
      ·refine G0 ?_;(refine .inr (.inr (.inl ⟨_,false,0::([]++[]),_,?_,Cv (R:=rdC s 0) e hs hp.ha,rfl⟩));focus (exact wI))
    ·refine G0 ?_;refine⟨?_,?_⟩
     ·refine G0 ?_;refine⟨?_,?_⟩
      ·refine G0 ?_;(refine .inr (.inr (.inl ⟨_,false,0::([]++[]),_,?_,Cv (R:=rdC s 0) e hs hp.ha,rfl⟩));focus (exact wI))
      ·refine G0 ?_;(refine .inr (.inr (.inl ⟨_,false,0::([]++[]),_,?_,Cv (R:=rdC s 0) e hs hp.ha,rfl⟩));focus (exact wI))
     ·refine G0 ?_;(refine .inr (.inr (.inl ⟨_,false,0::([]++[]),_,?_,Cv (R:=rdC s 0) e hs hp.ha,rfl⟩));focus (exact wI))
   ·refine G0 ?_;(refine Gn ?_ ?_;focus (exact ZX (by omega)));refine G0 ?_;refine⟨?_,?_⟩
    ·refine G0 ?_;refine⟨?_,?_⟩
     ·refine G0 ?_;(refine .inr (.inr (.inl ⟨_,false,0::([]++[]),_,?_,Cv (R:=rdC s 0) e hs hp.ha,rfl⟩));focus (exact wI))
     ·refine G0 ?_;refine⟨?_,?_⟩
      ·refine G0 ?_;(refine .inr (.inr (.inl ⟨_,false,0::([]++[]),_,?_,Cv (R:=rdC s 0) e hs hp.ha,rfl⟩));focus (exact wI))
      ·refine G0 ?_;(refine .inr (.inr (.inl ⟨_,false,0::([]++[]),_,?_,Cv (R:=rdC s 0) e hs hp.ha,rfl⟩));focus (exact wI))
    ·refine G0 ?_;refine⟨?_,?_⟩
     ·refine G0 ?_;refine⟨?_,?_⟩
      ·refine G0 ?_;(refine .inr (.inr (.inl ⟨_,false,0::([]++[]),_,?_,Cv (R:=rdC s 0) e hs hp.ha,rfl⟩));focus (exact wI))
      ·refine G0 ?_;(refine .inr (.inr (.inl ⟨_,false,0::([]++[]),_,?_,Cv (R:=rdC s 0) e hs hp.ha,rfl⟩));focus (exact wI))
     ·refine G0 ?_;(refine .inr (.inr (.inl ⟨_,false,0::([]++[]),_,?_,Cv (R:=rdC s 0) e hs hp.ha,rfl⟩));focus (exact wI))
  ·have hnx:=RcI.next hp c11 e;have b:=Ys e;have hr7:(([r].map Rr.row):List (List V))=[r.row]:=rfl;have hn20:L.length≤20:=by omega
   rcases L with _|⟨r0,L⟩
   ·refine G0 ?_;(refine Gn ?_ ?_;focus (exact ZX (by omega)));refine G0 ?_;refine⟨?_,?_⟩
    ·refine G0 ?_;refine⟨?_,?_⟩
     ·refine G0 ?_;(refine .inr (.inl ⟨_,_,false,0::([]++[]),?_,A8 e hs hp.ha,Ae,oI,dI,?_⟩);focus (exact wI));(refine goI ?_;repeat (intro gg;refine goI ?_));refine⟨lI,lI,?_⟩;refine G1 ?_;intro gg;(exact⟨none,trivial,fun gr=>⟨⟨(k+1,a2,[r],gg),hnx⟩,by show n-(k+1)<n-k;omega,tI,tI,⟨rfl,⟨rfl,⟨rfl,⟨rfl,trivial⟩⟩⟩⟩,tI⟩⟩)
     ·refine G0 ?_;refine⟨?_,?_⟩
      ·refine G0 ?_;(refine .inr (.inl ⟨_,_,false,0::([]++[]),?_,A8 e hs hp.ha,Ae,oI,dI,?_⟩);focus (exact wI));(refine goI ?_;repeat (intro gg;refine goI ?_));refine⟨lI,lI,?_⟩;refine G1 ?_;intro gg;(exact⟨none,trivial,fun gr=>⟨⟨(k+1,a2,[r],gg),hnx⟩,by show n-(k+1)<n-k;omega,tI,tI,⟨rfl,⟨rfl,⟨rfl,⟨rfl,trivial⟩⟩⟩⟩,tI⟩⟩)
      ·refine G0 ?_;(refine .inr (.inl ⟨_,_,false,0::([]++[]),?_,A8 e hs hp.ha,Ae,oI,dI,?_⟩);focus (exact wI));refine G1 ?_;intro gg;refine⟨?_,?_⟩
       ·refine G1 ?_;intro gg;refine⟨lI,lI,?_⟩;refine G1 ?_;intro gg;(exact⟨none,trivial,fun gr=>⟨⟨(k+1,a2,[r],gg),hnx⟩,by show n-(k+1)<n-k;omega,tI,tI,⟨rfl,⟨rfl,⟨rfl,⟨rfl,trivial⟩⟩⟩⟩,tI⟩⟩)
       ·refine G1 ?_;intro gg;refine⟨lI,lI,?_⟩;refine G1 ?_;intro gg;(exact⟨none,trivial,fun gr=>⟨⟨(k+1,a2,[r],gg),hnx⟩,by show n-(k+1)<n-k;omega,tI,tI,⟨rfl,⟨rfl,⟨rfl,⟨rfl,trivial⟩⟩⟩⟩,tI⟩⟩)
    ·refine G0 ?_;refine⟨?_,?_⟩
     ·refine G0 ?_;refine⟨?_,?_⟩
      ·refine G0 ?_;(refine .inr (.inl ⟨_,_,false,0::([]++[]),?_,A8 e hs hp.ha,Ae,oI,dI,?_⟩);focus (exact wI));(refine goI ?_;repeat (intro gg;refine goI ?_));refine⟨lI,lI,?_⟩;refine G1 ?_;intro gg;(exact⟨none,trivial,fun gr=>⟨⟨(k+1,a2,[r],gg),hnx⟩,by show n-(k+1)<n-k;omega,tI,tI,⟨rfl,⟨rfl,⟨rfl,⟨rfl,trivial⟩⟩⟩⟩,tI⟩⟩)
      ·refine G0 ?_;(refine .inr (.inl ⟨_,_,false,0::([]++[]),?_,A8 e hs hp.ha,Ae,oI,dI,?_⟩);focus (exact wI));refine G1 ?_;intro gg;refine⟨?_,?_⟩
       ·refine G1 ?_;intro gg;refine⟨lI,lI,?_⟩;refine G1 ?_;intro gg;(exact⟨none,trivial,fun gr=>⟨⟨(k+1,a2,[r],gg),hnx⟩,by show n-(k+1)<n-k;omega,tI,tI,⟨rfl,⟨rfl,⟨rfl,⟨rfl,trivial⟩⟩⟩⟩,tI⟩⟩)
       ·refine G1 ?_;intro gg;refine⟨lI,lI,?_⟩;refine G1 ?_;intro gg;(exact⟨none,trivial,fun gr=>⟨⟨(k+1,a2,[r],gg),hnx⟩,by show n-(k+1)<n-k;omega,tI,tI,⟨rfl,⟨rfl,⟨rfl,⟨rfl,trivial⟩⟩⟩⟩,tI⟩⟩)
     ·refine G0 ?_;(refine .inr (.inl ⟨_,_,false,0::([]++[]),?_,A8 e hs hp.ha,Ae,oI,dI,?_⟩);focus (exact wI));refine G1 ?_;intro gg;refine⟨?_,?_⟩
      ·refine G0 ?_;refine⟨?_,?_⟩
       ·refine G1 ?_;intro gg;refine⟨lI,lI,?_⟩;refine G1 ?_;intro gg;(exact⟨none,trivial,fun gr=>⟨⟨(k+1,a2,[r],gg),hnx⟩,by show n-(k+1)<n-k;omega,tI,tI,⟨rfl,⟨rfl,⟨rfl,⟨rfl,trivial⟩⟩⟩⟩,tI⟩⟩)
       ·refine G1 ?_;intro gg;refine⟨lI,lI,?_⟩;refine G1 ?_;intro gg;(exact⟨none,trivial,fun gr=>⟨⟨(k+1,a2,[r],gg),hnx⟩,by show n-(k+1)<n-k;omega,tI,tI,⟨rfl,⟨rfl,⟨rfl,⟨rfl,trivial⟩⟩⟩⟩,tI⟩⟩)
      ·refine G1 ?_;intro gg;refine⟨lI,lI,?_⟩;refine G1 ?_;intro gg;(exact⟨none,trivial,fun gr=>⟨⟨(k+1,a2,[r],gg),hnx⟩,by show n-(k+1)<n-k;omega,tI,tI,⟨rfl,⟨rfl,⟨rfl,⟨rfl,trivial⟩⟩⟩⟩,tI⟩⟩)
   ·have hn21:L.length≤20:=by simp only[ZJ]at hn20;omega
    refine G0 ?_;(refine Gn ?_ ?_;focus (exact ZX (by omega)));refine G0 ?_;refine⟨?_,?_⟩
    ·refine G0 ?_;refine⟨?_,?_⟩
     ·refine G0 ?_;(refine .inr (.inl ⟨_,_,false,0::([]++[]),?_,A8 e hs hp.ha,Ae,oI,dI,?_⟩);focus (exact wI));(refine goI ?_;repeat (intro gg;refine goI ?_));refine⟨lI,lI,?_⟩;refine G1 ?_;intro gg;(exact⟨none,trivial,fun gr=>⟨⟨(k+1,a2,(r0::L)++[r],gg),hnx⟩,by show n-(k+1)<n-k;omega,tI,tI,⟨rfl,⟨rfl,⟨congrArg (fun x=>some (Ent.mk gg (.t 51) 7 x)) (show(r0::L).map Rr.row++[r.row]=((r0::L)++[r]).map Rr.row by rw[ZI];rfl),⟨rfl,trivial⟩⟩⟩⟩,tI⟩⟩)
     ·refine G0 ?_;refine⟨?_,?_⟩
      ·refine G0 ?_;(refine .inr (.inl ⟨_,_,false,0::([]++[]),?_,A8 e hs hp.ha,Ae,oI,dI,?_⟩);focus (exact wI));(refine goI ?_;repeat (intro gg;refine goI ?_));refine⟨lI,lI,?_⟩;refine G1 ?_;intro gg;(exact⟨none,trivial,fun gr=>⟨⟨(k+1,a2,(r0::L)++[r],gg),hnx⟩,by show n-(k+1)<n-k;omega,tI,tI,⟨rfl,⟨rfl,⟨congrArg (fun x=>some (Ent.mk gg (.t 51) 7 x)) (show(r0::L).map Rr.row++[r.row]=((r0::L)++[r]).map Rr.row by rw[ZI];rfl),⟨rfl,trivial⟩⟩⟩⟩,tI⟩⟩)
      ·refine G0 ?_;(refine .inr (.inl ⟨_,_,false,0::([]++[]),?_,A8 e hs hp.ha,Ae,oI,dI,?_⟩);focus (exact wI));refine G1 ?_;intro gg;refine⟨?_,?_⟩
       ·refine G1 ?_;intro gg;refine⟨lI,lI,?_⟩;refine G1 ?_;intro gg;(exact⟨none,trivial,fun gr=>⟨⟨(k+1,a2,(r0::L)++[r],gg),hnx⟩,by show n-(k+1)<n-k;omega,tI,tI,⟨rfl,⟨rfl,⟨congrArg (fun x=>some (Ent.mk gg (.t 51) 7 x)) (show(r0::L).map Rr.row++[r.row]=((r0::L)++[r]).map Rr.row by rw[ZI];rfl),⟨rfl,trivial⟩⟩⟩⟩,tI⟩⟩)
       ·refine G1 ?_;intro gg;refine⟨lI,lI,?_⟩;refine G1 ?_;intro gg;(exact⟨none,trivial,fun gr=>⟨⟨(k+1,a2,(r0::L)++[r],gg),hnx⟩,by show n-(k+1)<n-k;omega,tI,tI,⟨rfl,⟨rfl,⟨congrArg (fun x=>some (Ent.mk gg (.t 51) 7 x)) (show(r0::L).map Rr.row++[r.row]=((r0::L)++[r]).map Rr.row by rw[ZI];rfl),⟨rfl,trivial⟩⟩⟩⟩,tI⟩⟩)
    ·refine G0 ?_;refine⟨?_,?_⟩
     ·refine G0 ?_;refine⟨?_,?_⟩
      ·refine G0 ?_;(refine .inr (.inl ⟨_,_,false,0::([]++[]),?_,A8 e hs hp.ha,Ae,oI,dI,?_⟩);focus (exact wI));(refine goI ?_;repeat (intro gg;refine goI ?_));refine⟨lI,lI,?_⟩;refine G1 ?_;intro gg;(exact⟨none,trivial,fun gr=>⟨⟨(k+1,a2,(r0::L)++[r],gg),hnx⟩,by show n-(k+1)<n-k;omega,tI,tI,⟨rfl,⟨rfl,⟨congrArg (fun x=>some (Ent.mk gg (.t 51) 7 x)) (show(r0::L).map Rr.row++[r.row]=((r0::L)++[r]).map Rr.row by rw[ZI];rfl),⟨rfl,trivial⟩⟩⟩⟩,tI⟩⟩)
      ·refine G0 ?_;(refine .inr (.inl ⟨_,_,false,0::([]++[]),?_,A8 e hs hp.ha,Ae,oI,dI,?_⟩);focus (exact wI));refine G1 ?_;intro gg;refine⟨?_,?_⟩
       ·refine G1 ?_;intro gg;refine⟨lI,lI,?_⟩;refine G1 ?_;intro gg;(exact⟨none,trivial,fun gr=>⟨⟨(k+1,a2,(r0::L)++[r],gg),hnx⟩,by show n-(k+1)<n-k;omega,tI,tI,⟨rfl,⟨rfl,⟨congrArg (fun x=>some (Ent.mk gg (.t 51) 7 x)) (show(r0::L).map Rr.row++[r.row]=((r0::L)++[r]).map Rr.row by rw[ZI];rfl),⟨rfl,trivial⟩⟩⟩⟩,tI⟩⟩)
       ·refine G1 ?_;intro gg;refine⟨lI,lI,?_⟩;refine G1 ?_;intro gg;(exact⟨none,trivial,fun gr=>⟨⟨(k+1,a2,(r0::L)++[r],gg),hnx⟩,by show n-(k+1)<n-k;omega,tI,tI,⟨rfl,⟨rfl,⟨congrArg (fun x=>some (Ent.mk gg (.t 51) 7 x)) (show(r0::L).map Rr.row++[r.row]=((r0::L)++[r]).map Rr.row by rw[ZI];rfl),⟨rfl,trivial⟩⟩⟩⟩,tI⟩⟩)
     ·refine G0 ?_;(refine .inr (.inl ⟨_,_,false,0::([]++[]),?_,A8 e hs hp.ha,Ae,oI,dI,?_⟩);focus (exact wI));refine G1 ?_;intro gg;refine⟨?_,?_⟩
      ·refine G0 ?_;refine⟨?_,?_⟩
       ·refine G1 ?_;intro gg;refine⟨lI,lI,?_⟩;refine G1 ?_;intro gg;(exact⟨none,trivial,fun gr=>⟨⟨(k+1,a2,(r0::L)++[r],gg),hnx⟩,by show n-(k+1)<n-k;omega,tI,tI,⟨rfl,⟨rfl,⟨congrArg (fun x=>some (Ent.mk gg (.t 51) 7 x)) (show(r0::L).map Rr.row++[r.row]=((r0::L)++[r]).map Rr.row by rw[ZI];rfl),⟨rfl,trivial⟩⟩⟩⟩,tI⟩⟩)
       ·refine G1 ?_;intro gg;refine⟨lI,lI,?_⟩;refine G1 ?_;intro gg;(exact⟨none,trivial,fun gr=>⟨⟨(k+1,a2,(r0::L)++[r],gg),hnx⟩,by show n-(k+1)<n-k;omega,tI,tI,⟨rfl,⟨rfl,⟨congrArg (fun x=>some (Ent.mk gg (.t 51) 7 x)) (show(r0::L).map Rr.row++[r.row]=((r0::L)++[r]).map Rr.row by rw[ZI];rfl),⟨rfl,trivial⟩⟩⟩⟩,tI⟩⟩)
      ·refine G1 ?_;intro gg;refine⟨lI,lI,?_⟩;refine G1 ?_;intro gg;(exact⟨none,trivial,fun gr=>⟨⟨(k+1,a2,(r0::L)++[r],gg),hnx⟩,by show n-(k+1)<n-k;omega,tI,tI,⟨rfl,⟨rfl,⟨congrArg (fun x=>some (Ent.mk gg (.t 51) 7 x)) (show(r0::L).map Rr.row++[r.row]=((r0::L)++[r]).map Rr.row by rw[ZI];rfl),⟨rfl,trivial⟩⟩⟩⟩,tI⟩⟩)
 ·have he:=hp.end_ c11;rw[he,ZA]at h;simp only at h;rcases L with _|⟨r0,L⟩
  ·refine G0 ?_;(refine F9 ?_ ?_;focus (exact ZY (by omega)));refine G0 ?_;by_cases c12:a=s.size
   ·rw[if_pos c12]at h;cases h
   ·(exact .inr (.inr (.inl ⟨_,true,[],_,aM,Ca _ (ZG.2 (by omega)),rfl⟩)))
  ·refine G0 ?_;(refine F9 ?_ ?_;focus (exact ZY (by omega)));refine G0 ?_;by_cases c12:a=s.size
   ·rw[if_pos c12]at h;cases h
   ·(exact .inr (.inr (.inl ⟨_,true,[],_,aM,Ca _ (ZG.2 (by omega)),rfl⟩)))
section
variable {P:Program} {ops:Array Oper} {Q:Exit→Act→List Frame→World→Prop} {a:Act} {cs:List Frame} {w w':World} {i:Nat} {Bk:List Nat} {o:Oper} {v:Value}
end
theorem Ak1(T:TypeId)(w:World):(Instr.typeAssert Hg T 103 true).run Tryz.prog w=.ok (.tuple #[.agg #[],.bool true]) w:=by
 have hu:=Tryz.underlying103;simp[Instr.typeAssert,Hg,run_underlying hu]
theorem Apk(T:TypeId)(w:World):(Instr.typeAssert .nilIface T 103 true).run Tryz.prog w=.ok (.tuple #[.agg #[],.bool false]) w:=by
 have hu:=Tryz.underlying103;have h:(Tryz.prog.info? 103).map (·.zero)=some (some (.agg #[])):=by kernel_rfl
 obtain⟨i,hi,hz⟩:=Option.map_eq_some_iff.1 h;simp[Instr.typeAssert,run_underlying hu,zeroValue,typeInfo,hi,hz]
def Kp:Array Value:= #[.int .i64 0,.bool false,.bool false,.int .i64 0,.string ⟨#[]⟩,.int .i64 0,.slice none 0 0]
structure Aru(w:World)(p q:Nat)(w':World):Prop where
 m:Blk w' p 38 Kp
 e:Blk w' q 27 #[.int .i64 1]
 fr:Fr (fun k=>k=p∨k=q) w w'
theorem Fr.set_{F:Nat→Prop}{w w':World}(h:Fr F w w'){b:Nat}(hb:F b)(i:Nat)(v:Value):Fr F w (w'.setCell ⟨b,i,none⟩ v):=by
 have hs:=h.size;refine⟨h.os,h.tape,h.output,by simp[World.setCell];omega,fun k hk hF=>?_⟩;rw[←h.block k hk hF];have:k≠b:=fun e=>hF (e▸hb);exact Below.heap_setCell w' ⟨b,i,none⟩ v k this
theorem Fr.alloc_{F:Nat→Prop}{w w':World}(h:Fr F w w')(o:Obj):Fr F w (w'.alloc o):=by
 have hs:=h.size;refine⟨h.os,h.tape,h.output,by rw[show(w'.alloc o).heap.size=w'.heap.size+1 from by simp[World.alloc,-World.alloc_eq]];omega,fun k hk hF=>?_⟩;rw[←h.block k hk hF];exact Below.heap_alloc w' o k (by omega)
set_option maxRecDepth 100000 in
set_option maxHeartbeats 2000000 in
theorem Amb(p q:Nat)(c0 c1 c2 c3 c4 c5 c6 x:Value)(w:World)(hp:Blk w p 38 #[c0,c1,c2,c3,c4,c5,c6])(hq:Blk w q 27 #[x])(hpq:p≠q):
  CallsD Tryz.prog 50 #[.pointer (some ⟨p,0,none⟩),.pointer (some ⟨q,0,none⟩)] (.panicking [{v:=Hg,recovered:=false}]) w fun e u' w'=>e=.returned (.tuple #[])∧u'=.panicking [{v:=Hg,recovered:=true}]∧Aru w p q w':=by
 have hlp:=hp.lt;have hlq:=hq.lt;refine callsD_of_wpS Tryz.func50 rfl fun c₀ cs hu=>?_;apply wpS_seq;apply wpS_region;have hrec:recoverD (c₀::cs)=some (Hg,{c₀ with mode:=.panicking ({v:=Hg,recovered:=true} ::[])} ::cs):=by simp[recoverD,hu]
 simp[wpOpsS,go_sem,hrec,Tryz.ntmps50,Exit.thenS,Ak1];have e0:w.cell? ⟨p,0,none⟩=some c0:=hp.cell 0;have e1:w.cell? ⟨p,1,none⟩=some c1:=hp.cell 1;have e2:w.cell? ⟨p,2,none⟩=some c2:=hp.cell 2;have e3:w.cell? ⟨p,3,none⟩=some c3:=hp.cell 3;have e4:w.cell? ⟨p,4,none⟩=some c4:=hp.cell 4;have e5:w.cell? ⟨p,5,none⟩=some c5:=hp.cell 5;have e6:w.cell? ⟨p,6,none⟩=some c6:=hp.cell 6;have f0:=fun i=>hp.frozen i;have g0:w.cell? ⟨q,0,none⟩=some x:=hq.cell 0;have h0:=hq.frozen 0;refine wpS_of_wp ?_
 go_wp2
 have key:Aru w p q (((((((((w.setCell ⟨p,0,none⟩ (.int .i64 0)).setCell ⟨p,1,none⟩ (.bool false)).setCell ⟨p,2,none⟩ (.bool false)).setCell ⟨p,3,none⟩ (.int .i64 0)).setCell ⟨p,4,none⟩ (.string ⟨#[]⟩)).setCell ⟨p,5,none⟩ (.int .i64 0)).setCell ⟨p,6,none⟩ (.slice none 0 0)).setCell ⟨q,0,none⟩ (.int .i64 1)).alloc (Obj.cells #[] 103)):=by
  refine⟨?_,?_,?_⟩
  ·exact(((((((((hp.set_ 0 _).set_ 1 _).set_ 2 _).set_ 3 _).set_ 4 _).set_ 5 _).set_ 6 _).far hpq _).alloc _)
  ·exact(((((((((hq.far (Ne.symm hpq) _).far (Ne.symm hpq) _).far (Ne.symm hpq) _).far (Ne.symm hpq) _).far (Ne.symm hpq) _).far (Ne.symm hpq) _).far (Ne.symm hpq) _).set_ 0 _).alloc _)
  ·exact(((((((((Fr.refl _ w).set_ (.inl rfl) 0 _).set_ (.inl rfl) 1 _).set_ (.inl rfl) 2 _).set_ (.inl rfl) 3 _).set_ (.inl rfl) 4 _).set_ (.inl rfl) 5 _).set_ (.inl rfl) 6 _).set_ (.inr rfl) 0 _).alloc_ _
 simp[bodyPostS,results,Tryz.results50];exact key
set_option maxRecDepth 100000 in
set_option maxHeartbeats 2000000 in
theorem Aah(p q:Nat)(w:World):
  CallsD Tryz.prog 50 #[.pointer (some ⟨p,0,none⟩),.pointer (some ⟨q,0,none⟩)] .returning w fun e u' w'=>e=.returned (.tuple #[])∧u'=.returning∧w'=w.alloc (.cells #[] 103):=by
 refine callsD_of_wpS Tryz.func50 rfl fun c₀ cs hu=>?_;apply wpS_seq;apply wpS_region;have hrec:recoverD (c₀::cs)=none:=by simp[recoverD,hu]
 simp[wpOpsS,go_sem,hrec,Tryz.ntmps50,Exit.thenS,Apk];refine wpS_of_wp ?_
 go_wp2
 simp[bodyPostS,results,Tryz.results50,hu];cases c₀;simp_all
theorem Ay7{n:Int}(h0:0≤n)(h1:n≤15):IntKind.i64.wrap ((BitVec.ofInt IntKind.i64.bits n|||BitVec.ofInt IntKind.i64.bits 32768).toNat)=n+32768:=by
 have key:∀k:Fin 16,IntKind.i64.wrap ((BitVec.ofInt IntKind.i64.bits (k.val:Int)|||BitVec.ofInt IntKind.i64.bits 32768).toNat)=(k.val:Int)+32768:=by decide
 obtain⟨k,rfl⟩:=Int.eq_ofNat_of_zero_le h0;exact key ⟨k,by omega⟩
theorem Bco{n:Int}(h0:0≤n)(h1:n≤15):IntKind.i64.wrap ((BitVec.ofInt IntKind.i64.bits n|||BitVec.ofInt IntKind.i64.bits 512).toNat)=n+512:=by
 have key:∀k:Fin 16,IntKind.i64.wrap ((BitVec.ofInt IntKind.i64.bits (k.val:Int)|||BitVec.ofInt IntKind.i64.bits 512).toNat)=(k.val:Int)+512:=by decide
 obtain⟨k,rfl⟩:=Int.eq_ofNat_of_zero_le h0;exact key ⟨k,by omega⟩
theorem Azb{n:Int}(h0:0≤n)(h1:n≤15):IntKind.i64.wrap ((BitVec.ofInt IntKind.i64.bits (n+32768)|||BitVec.ofInt IntKind.i64.bits 512).toNat)=n+32768+512:=by
 have key:∀k:Fin 16,IntKind.i64.wrap ((BitVec.ofInt IntKind.i64.bits ((k.val:Int)+32768)|||BitVec.ofInt IntKind.i64.bits 512).toNat)=(k.val:Int)+32768+512:=by decide
 obtain⟨k,rfl⟩:=Int.eq_ofNat_of_zero_le h0;exact key ⟨k,by omega⟩
def C6(id fl n:Int)(qn:ByteArray)(qt:Int):List UInt8:=A3 [id,fl,1,n,0,0]++B5 qn++A3 [qt,1]
theorem Qp{id fl n qt:Int}{qn:ByteArray}(h:qn.size≤120):0<(C6 id fl n qn qt).length∧(C6 id fl n qn qt).length≤15100:=by
 have:=Fa h;unfold C6;rw[ZF,ZF,Ay,Ay];simp only[ZJ,ZN];omega
theorem Yk(m:Ms):C5 m=C6 m.id (Ef m) (m.rs.length:Int) m.qn m.qt++Bn m.rs:=rfl
set_option maxHeartbeats 2000000 in
theorem Agr(m:Ms)(hm:m.Good)(ha:m.an=false)(hc:m.ct=false):Fun Tryz.prog 77 [.c (.agg m.row)] [.c (.v (.string ⟨(C5 m).toArray⟩))]:=by
 obtain⟨id,an,ct,co,qn,qt,rs⟩:=m;obtain⟨h1,h2,h3,h4,h5,h6,h7⟩:=hm;simp only at h1 h2 h3 h4 h5 h6 h7 ha hc;subst ha hc;have eF:Ef ⟨id,false,false,co,qn,qt,rs⟩=co:=by simp[Ef]
 rw[Yk,eF];have hh:=Qp (id:=id) (fl:=co) (n:=(rs.length:Int)) (qt:=qt) h4;have hR:=Hk h7;refine Av J0 rfl ?_;(refine goI ?_;repeat (intro gg;refine goI ?_));rename_i gw;rw[ZE];(refine .inr (.inl ⟨_,_,true,[128],Y8 rfl (Gf rfl) Kk (by decide) (by decide) aM,Dl [] false [id,co,1,(rs.length:Int),0,0] (by simp only[XC,XD,or_false,forall_eq_or_imp,forall_eq];omega) (by simp) (by simp),(fun _=>Gg),oI,dI,?_⟩));refine G1 ?_;intro gg;(refine .inr (.inl ⟨_,_,false,[128],aM,I5 ([]++A3 [id,co,1,(rs.length:Int),0,0]) qn h3 h4 (by simp only[ZF,Ay,ZJ,ZN];omega),Ae,oI,dI,?_⟩));(refine goI ?_;repeat (intro gg;refine goI ?_));(refine .inr (.inl ⟨_,_,true,[128],aM,Dl ([]++A3 [id,co,1,(rs.length:Int),0,0]++B5 qn) false [qt,1] (by simp only[XC,XD,or_false,forall_eq_or_imp,forall_eq];omega) (by simp) (by have:=Fa h4;simp only[ZF,Ay,ZJ,ZN];omega),(fun _=>Gg),oI,dI,?_⟩));refine G1 ?_;intro gg;rw[ZE];(refine⟨[],none,{k:Nat//k≤rs.length},[3,40,41],fun⟨k,hk⟩=>[(42,.v (.int .i64 k))],[],fun⟨k,hk⟩=>[(128,⟨gw,.q (El wT (C6 id (co) (rs.length:Int) qn qt++Bn (rs.take k))),0,[]⟩)],fun⟨k,hk⟩=>rs.length-k,trivial,fun _=>⟨trivial,fun _=>⟨⟨0,by omega⟩,tI,An _ _,?_,Am _ _⟩⟩,fun⟨k,hk⟩=>?_⟩;focus (exact⟨congrArg (fun r=>some (Ent.mk gw (.q (El wT r)) 0 [])) (show C6 id (co) (rs.length:Int) qn qt=C6 id (co) (rs.length:Int) qn qt++Bn (rs.take 0)by simp[Bn]),trivial⟩));refine G0 ?_;(refine Aa (fun q1=>?_) (fun q1=>?_)<;>rw[q1])
 ·have hlt:k<rs.length:=by have:=ZV (show decide ((k:Int)<(rs.length:Int))=true from q1);omega
  have hl1:=Hk (l:=rs.take k) fun r hr=>h7 r (List.mem_of_mem_take hr);rw[ZM]at hl1;have e:C6 id (co) (rs.length:Int) qn qt++Bn (rs.take k)++Jv rs[k]=C6 id (co) (rs.length:Int) qn qt++Bn (rs.take (k+1)):=by rw[N7 hlt,ZS]
  refine G0 ?_;refine⟨k,_,rfl,Ao hlt,?_⟩;refine G1 ?_;intro gg;(refine .inr (.inl ⟨_,_,false,[128],aM,Oh (C6 id (co) (rs.length:Int) qn qt++Bn (rs.take k)) rs[k] (h7 _ (ZK hlt)) (by rw[ZF];omega),Ae,oI,dI,?_⟩));refine G1 ?_;intro gg;(exact⟨none,trivial,fun gr=>⟨⟨k+1,by omega⟩,by show rs.length-(k+1)<rs.length-k;omega,tI,tI,⟨congrArg (fun r=>some (Ent.mk gw (.q (El wT r)) 0 [])) e,trivial⟩,tI⟩⟩)
 ·have hge:¬k<rs.length:=by have:=ZW (show decide ((k:Int)<(rs.length:Int))=false from q1);omega
  obtain rfl:k=rs.length:=by omega
  have hne:C6 id (co) (rs.length:Int) qn qt++Bn (rs.take rs.length)≠[]:=fun q=>by
   have:=congrArg List.length q;rw[ZF,ZN]at this;omega
  rw[show Bn rs=Bn (rs.take rs.length)by rw[XF]];refine G0 ?_;(refine .inr (.inl ⟨_,_,false,[128],aM,Fv (T:=wT) (C6 id (co) (rs.length:Int) qn qt++Bn (rs.take rs.length)) hne,Ae,oI,dI,?_⟩));refine G1 ?_;intro gg;(exact⟨[],aI⟩)
set_option maxHeartbeats 2000000 in
theorem Ai9(m:Ms)(hm:m.Good)(ha:m.an=true)(hc:m.ct=false):Fun Tryz.prog 77 [.c (.agg m.row)] [.c (.v (.string ⟨(C5 m).toArray⟩))]:=by
 obtain⟨id,an,ct,co,qn,qt,rs⟩:=m;obtain⟨h1,h2,h3,h4,h5,h6,h7⟩:=hm;simp only at h1 h2 h3 h4 h5 h6 h7 ha hc;subst ha hc;have eF:Ef ⟨id,true,false,co,qn,qt,rs⟩=co+32768:=by simp[Ef]
 rw[Yk,eF];have hh:=Qp (id:=id) (fl:=co+32768) (n:=(rs.length:Int)) (qt:=qt) h4;have hR:=Hk h7;refine Av J0 rfl ?_;(refine goI ?_;repeat (intro gg;refine goI ?_))
 rename Nat=>gw
 refine⟨_,Ay7 h2.1 h2.2,?_⟩;refine G1 ?_;intro gg;rw[ZE];(refine .inr (.inl ⟨_,_,true,[128],Y8 rfl (Gf rfl) Kk (by decide) (by decide) aM,Dl [] false [id,co+32768,1,(rs.length:Int),0,0] (by simp only[XC,XD,or_false,forall_eq_or_imp,forall_eq];omega) (by simp) (by simp),(fun _=>Gg),oI,dI,?_⟩));refine G1 ?_;intro gg;(refine .inr (.inl ⟨_,_,false,[128],aM,I5 ([]++A3 [id,co+32768,1,(rs.length:Int),0,0]) qn h3 h4 (by simp only[ZF,Ay,ZJ,ZN];omega),Ae,oI,dI,?_⟩));(refine goI ?_;repeat (intro gg;refine goI ?_));(refine .inr (.inl ⟨_,_,true,[128],aM,Dl ([]++A3 [id,co+32768,1,(rs.length:Int),0,0]++B5 qn) false [qt,1] (by simp only[XC,XD,or_false,forall_eq_or_imp,forall_eq];omega) (by simp) (by have:=Fa h4;simp only[ZF,Ay,ZJ,ZN];omega),(fun _=>Gg),oI,dI,?_⟩));refine G1 ?_;intro gg;rw[ZE];(refine⟨[],none,{k:Nat//k≤rs.length},[3,40,41],fun⟨k,hk⟩=>[(42,.v (.int .i64 k))],[],fun⟨k,hk⟩=>[(128,⟨gw,.q (El wT (C6 id (co+32768) (rs.length:Int) qn qt++Bn (rs.take k))),0,[]⟩)],fun⟨k,hk⟩=>rs.length-k,trivial,fun _=>⟨trivial,fun _=>⟨⟨0,by omega⟩,tI,An _ _,?_,Am _ _⟩⟩,fun⟨k,hk⟩=>?_⟩;focus (exact⟨congrArg (fun r=>some (Ent.mk gw (.q (El wT r)) 0 [])) (show C6 id (co+32768) (rs.length:Int) qn qt=C6 id (co+32768) (rs.length:Int) qn qt++Bn (rs.take 0)by simp[Bn]),trivial⟩));refine G0 ?_;(refine Aa (fun q1=>?_) (fun q1=>?_)<;>rw[q1])
 ·have hlt:k<rs.length:=by have:=ZV (show decide ((k:Int)<(rs.length:Int))=true from q1);omega
  have hl1:=Hk (l:=rs.take k) fun r hr=>h7 r (List.mem_of_mem_take hr);rw[ZM]at hl1;have e:C6 id (co+32768) (rs.length:Int) qn qt++Bn (rs.take k)++Jv rs[k]=C6 id (co+32768) (rs.length:Int) qn qt++Bn (rs.take (k+1)):=by rw[N7 hlt,ZS]
  refine G0 ?_;refine⟨k,_,rfl,Ao hlt,?_⟩;refine G1 ?_;intro gg;(refine .inr (.inl ⟨_,_,false,[128],aM,Oh (C6 id (co+32768) (rs.length:Int) qn qt++Bn (rs.take k)) rs[k] (h7 _ (ZK hlt)) (by rw[ZF];omega),Ae,oI,dI,?_⟩));refine G1 ?_;intro gg;(exact⟨none,trivial,fun gr=>⟨⟨k+1,by omega⟩,by show rs.length-(k+1)<rs.length-k;omega,tI,tI,⟨congrArg (fun r=>some (Ent.mk gw (.q (El wT r)) 0 [])) e,trivial⟩,tI⟩⟩)
 ·have hge:¬k<rs.length:=by have:=ZW (show decide ((k:Int)<(rs.length:Int))=false from q1);omega
  obtain rfl:k=rs.length:=by omega
  have hne:C6 id (co+32768) (rs.length:Int) qn qt++Bn (rs.take rs.length)≠[]:=fun q=>by
   have:=congrArg List.length q;rw[ZF,ZN]at this;omega
  rw[show Bn rs=Bn (rs.take rs.length)by rw[XF]];refine G0 ?_;(refine .inr (.inl ⟨_,_,false,[128],aM,Fv (T:=wT) (C6 id (co+32768) (rs.length:Int) qn qt++Bn (rs.take rs.length)) hne,Ae,oI,dI,?_⟩));refine G1 ?_;intro gg;(exact⟨[],aI⟩)
set_option maxHeartbeats 2000000 in
theorem Aii(m:Ms)(hm:m.Good)(ha:m.an=false)(hc:m.ct=true):Fun Tryz.prog 77 [.c (.agg m.row)] [.c (.v (.string ⟨(C5 m).toArray⟩))]:=by
 obtain⟨id,an,ct,co,qn,qt,rs⟩:=m;obtain⟨h1,h2,h3,h4,h5,h6,h7⟩:=hm;simp only at h1 h2 h3 h4 h5 h6 h7 ha hc;subst ha hc;have eF:Ef ⟨id,false,true,co,qn,qt,rs⟩=co+512:=by simp[Ef]
 rw[Yk,eF];have hh:=Qp (id:=id) (fl:=co+512) (n:=(rs.length:Int)) (qt:=qt) h4;have hR:=Hk h7;refine Av J0 rfl ?_;(refine goI ?_;repeat (intro gg;refine goI ?_))
 rename Nat=>gw
 refine⟨_,Bco h2.1 h2.2,?_⟩;refine G1 ?_;intro gg;rw[ZE];(refine .inr (.inl ⟨_,_,true,[128],Y8 rfl (Gf rfl) Kk (by decide) (by decide) aM,Dl [] false [id,co+512,1,(rs.length:Int),0,0] (by simp only[XC,XD,or_false,forall_eq_or_imp,forall_eq];omega) (by simp) (by simp),(fun _=>Gg),oI,dI,?_⟩));refine G1 ?_;intro gg;(refine .inr (.inl ⟨_,_,false,[128],aM,I5 ([]++A3 [id,co+512,1,(rs.length:Int),0,0]) qn h3 h4 (by simp only[ZF,Ay,ZJ,ZN];omega),Ae,oI,dI,?_⟩));(refine goI ?_;repeat (intro gg;refine goI ?_));(refine .inr (.inl ⟨_,_,true,[128],aM,Dl ([]++A3 [id,co+512,1,(rs.length:Int),0,0]++B5 qn) false [qt,1] (by simp only[XC,XD,or_false,forall_eq_or_imp,forall_eq];omega) (by simp) (by have:=Fa h4;simp only[ZF,Ay,ZJ,ZN];omega),(fun _=>Gg),oI,dI,?_⟩));refine G1 ?_;intro gg;rw[ZE];(refine⟨[],none,{k:Nat//k≤rs.length},[3,40,41],fun⟨k,hk⟩=>[(42,.v (.int .i64 k))],[],fun⟨k,hk⟩=>[(128,⟨gw,.q (El wT (C6 id (co+512) (rs.length:Int) qn qt++Bn (rs.take k))),0,[]⟩)],fun⟨k,hk⟩=>rs.length-k,trivial,fun _=>⟨trivial,fun _=>⟨⟨0,by omega⟩,tI,An _ _,?_,Am _ _⟩⟩,fun⟨k,hk⟩=>?_⟩;focus (exact⟨congrArg (fun r=>some (Ent.mk gw (.q (El wT r)) 0 [])) (show C6 id (co+512) (rs.length:Int) qn qt=C6 id (co+512) (rs.length:Int) qn qt++Bn (rs.take 0)by simp[Bn]),trivial⟩));refine G0 ?_;(refine Aa (fun q1=>?_) (fun q1=>?_)<;>rw[q1])
 ·have hlt:k<rs.length:=by have:=ZV (show decide ((k:Int)<(rs.length:Int))=true from q1);omega
  have hl1:=Hk (l:=rs.take k) fun r hr=>h7 r (List.mem_of_mem_take hr);rw[ZM]at hl1;have e:C6 id (co+512) (rs.length:Int) qn qt++Bn (rs.take k)++Jv rs[k]=C6 id (co+512) (rs.length:Int) qn qt++Bn (rs.take (k+1)):=by rw[N7 hlt,ZS]
  refine G0 ?_;refine⟨k,_,rfl,Ao hlt,?_⟩;refine G1 ?_;intro gg;(refine .inr (.inl ⟨_,_,false,[128],aM,Oh (C6 id (co+512) (rs.length:Int) qn qt++Bn (rs.take k)) rs[k] (h7 _ (ZK hlt)) (by rw[ZF];omega),Ae,oI,dI,?_⟩));refine G1 ?_;intro gg;(exact⟨none,trivial,fun gr=>⟨⟨k+1,by omega⟩,by show rs.length-(k+1)<rs.length-k;omega,tI,tI,⟨congrArg (fun r=>some (Ent.mk gw (.q (El wT r)) 0 [])) e,trivial⟩,tI⟩⟩)
 ·have hge:¬k<rs.length:=by have:=ZW (show decide ((k:Int)<(rs.length:Int))=false from q1);omega
  obtain rfl:k=rs.length:=by omega
  have hne:C6 id (co+512) (rs.length:Int) qn qt++Bn (rs.take rs.length)≠[]:=fun q=>by
   have:=congrArg List.length q;rw[ZF,ZN]at this;omega
  rw[show Bn rs=Bn (rs.take rs.length)by rw[XF]];refine G0 ?_;(refine .inr (.inl ⟨_,_,false,[128],aM,Fv (T:=wT) (C6 id (co+512) (rs.length:Int) qn qt++Bn (rs.take rs.length)) hne,Ae,oI,dI,?_⟩));refine G1 ?_;intro gg;(exact⟨[],aI⟩)
set_option maxHeartbeats 2000000 in
theorem Aid(m:Ms)(hm:m.Good)(ha:m.an=true)(hc:m.ct=true):Fun Tryz.prog 77 [.c (.agg m.row)] [.c (.v (.string ⟨(C5 m).toArray⟩))]:=by
 obtain⟨id,an,ct,co,qn,qt,rs⟩:=m;obtain⟨h1,h2,h3,h4,h5,h6,h7⟩:=hm;simp only at h1 h2 h3 h4 h5 h6 h7 ha hc;subst ha hc;have eF:Ef ⟨id,true,true,co,qn,qt,rs⟩=co+32768+512:=by simp[Ef]
 rw[Yk,eF];have hh:=Qp (id:=id) (fl:=co+32768+512) (n:=(rs.length:Int)) (qt:=qt) h4;have hR:=Hk h7;refine Av J0 rfl ?_;(refine goI ?_;repeat (intro gg;refine goI ?_))
 rename Nat=>gw
 refine⟨_,Ay7 h2.1 h2.2,?_⟩;refine G0 ?_;refine⟨_,Azb h2.1 h2.2,?_⟩;refine G1 ?_;intro gg;rw[ZE];(refine .inr (.inl ⟨_,_,true,[128],Y8 rfl (Gf rfl) Kk (by decide) (by decide) aM,Dl [] false [id,co+32768+512,1,(rs.length:Int),0,0] (by simp only[XC,XD,or_false,forall_eq_or_imp,forall_eq];omega) (by simp) (by simp),(fun _=>Gg),oI,dI,?_⟩));refine G1 ?_;intro gg;(refine .inr (.inl ⟨_,_,false,[128],aM,I5 ([]++A3 [id,co+32768+512,1,(rs.length:Int),0,0]) qn h3 h4 (by simp only[ZF,Ay,ZJ,ZN];omega),Ae,oI,dI,?_⟩));(refine goI ?_;repeat (intro gg;refine goI ?_));(refine .inr (.inl ⟨_,_,true,[128],aM,Dl ([]++A3 [id,co+32768+512,1,(rs.length:Int),0,0]++B5 qn) false [qt,1] (by simp only[XC,XD,or_false,forall_eq_or_imp,forall_eq];omega) (by simp) (by have:=Fa h4;simp only[ZF,Ay,ZJ,ZN];omega),(fun _=>Gg),oI,dI,?_⟩));refine G1 ?_;intro gg;rw[ZE];(refine⟨[],none,{k:Nat//k≤rs.length},[3,40,41],fun⟨k,hk⟩=>[(42,.v (.int .i64 k))],[],fun⟨k,hk⟩=>[(128,⟨gw,.q (El wT (C6 id (co+32768+512) (rs.length:Int) qn qt++Bn (rs.take k))),0,[]⟩)],fun⟨k,hk⟩=>rs.length-k,trivial,fun _=>⟨trivial,fun _=>⟨⟨0,by omega⟩,tI,An _ _,?_,Am _ _⟩⟩,fun⟨k,hk⟩=>?_⟩;focus (exact⟨congrArg (fun r=>some (Ent.mk gw (.q (El wT r)) 0 [])) (show C6 id (co+32768+512) (rs.length:Int) qn qt=C6 id (co+32768+512) (rs.length:Int) qn qt++Bn (rs.take 0)by simp[Bn]),trivial⟩));refine G0 ?_;(refine Aa (fun q1=>?_) (fun q1=>?_)<;>rw[q1])
 ·have hlt:k<rs.length:=by have:=ZV (show decide ((k:Int)<(rs.length:Int))=true from q1);omega
  have hl1:=Hk (l:=rs.take k) fun r hr=>h7 r (List.mem_of_mem_take hr);rw[ZM]at hl1;have e:C6 id (co+32768+512) (rs.length:Int) qn qt++Bn (rs.take k)++Jv rs[k]=C6 id (co+32768+512) (rs.length:Int) qn qt++Bn (rs.take (k+1)):=by rw[N7 hlt,ZS]
  refine G0 ?_;refine⟨k,_,rfl,Ao hlt,?_⟩;refine G1 ?_;intro gg;(refine .inr (.inl ⟨_,_,false,[128],aM,Oh (C6 id (co+32768+512) (rs.length:Int) qn qt++Bn (rs.take k)) rs[k] (h7 _ (ZK hlt)) (by rw[ZF];omega),Ae,oI,dI,?_⟩));refine G1 ?_;intro gg;(exact⟨none,trivial,fun gr=>⟨⟨k+1,by omega⟩,by show rs.length-(k+1)<rs.length-k;omega,tI,tI,⟨congrArg (fun r=>some (Ent.mk gw (.q (El wT r)) 0 [])) e,trivial⟩,tI⟩⟩)
 ·have hge:¬k<rs.length:=by have:=ZW (show decide ((k:Int)<(rs.length:Int))=false from q1);omega
  obtain rfl:k=rs.length:=by omega
  have hne:C6 id (co+32768+512) (rs.length:Int) qn qt++Bn (rs.take rs.length)≠[]:=fun q=>by
   have:=congrArg List.length q;rw[ZF,ZN]at this;omega
  rw[show Bn rs=Bn (rs.take rs.length)by rw[XF]];refine G0 ?_;(refine .inr (.inl ⟨_,_,false,[128],aM,Fv (T:=wT) (C6 id (co+32768+512) (rs.length:Int) qn qt++Bn (rs.take rs.length)) hne,Ae,oI,dI,?_⟩));refine G1 ?_;intro gg;(exact⟨[],aI⟩)
theorem Adr(m:Ms)(hm:m.Good):Fun Tryz.prog 77 [.c (.agg m.row)] [.c (.v (.string ⟨(C5 m).toArray⟩))]:=by
 rcases Bool.eq_false_or_eq_true m.an with ha|ha<;>rcases Bool.eq_false_or_eq_true m.ct with hc|hc
 ·exact Aid m hm ha hc
 ·exact Ai9 m hm ha hc
 ·exact Aii m hm ha hc
 ·exact Agr m hm ha hc
namespace Pl
theorem Ug{n a b:Int}(h:(!wIn n a b)=false):a≤n∧n≤b:=by
 unfold wIn at h;cases h1:decide (a≤n)with
 |true=>rw[h1]at h;exact⟨ZV h1,by simpa using h⟩
 |false=>rw[h1]at h;cases h
theorem N8{nm:ByteArray}(h:A1 nm=0):nm.size≤120:=by
 unfold A1 at h;split at h
 ·cases h
 ·split at h
  ·cases h
  ·split at h
   ·cases h
   ·omega
theorem Aom{r:Rr}(h:Ee r=0):r.Good∧r.un=true:=by
 unfold Ee at h;split at h
 ·rename_i h0;exact absurd h h0
 ·rename_i h0;have h0:A1 r.nm=0:=by simpa using h0
  cases h1:(!Mu r.ty)with
  |true=>rw[h1]at h;cases h
  |false=>
   rw[h1]at h;cases h2:(!wIn r.ls 0 2147483647)with
   |true=>rw[h2]at h;cases h
   |false=>
    rw[h2]at h;cases h3:(!r.un)with
    |true=>rw[h3]at h;cases h
    |false=>
     rw[h3]at h;cases h4:(!wIn r.ad 0 4294967295)with
     |true=>rw[h4]at h;cases h
     |false=>
      rw[h4]at h;cases h5:(!wIn r.pt 0 65535)with
      |true=>rw[h5]at h;cases h
      |false=>
       rw[h5]at h;simp only[cond_false]at h;split at h
       ·cases h
       ·rename_i h6;exact⟨⟨h0,N8 h0,Abo h1,Ug h2,Ug h4,Ug h5,by omega,h,N8 h⟩,by simpa using h3⟩
theorem Xh{l:List Int}(h:D4 l=0):∀e∈l,e=0:=by
 induction l with
 |nil=>intro e he;cases he
 |cons a l ih=>
  have h:(if a≠0 then a else D4 l)=0:=h;split at h
  ·rename_i ha;exact absurd h ha
  ·rename_i ha;intro e he;rcases XC.1 he with rfl|he
   ·simpa using ha
   ·exact ih h e he
theorem Hw{m:Ms}(h:Bh m=0):m.Good∧∀r∈m.rs,r.un=true:=by
 unfold Bh at h;cases h1:(!wIn m.id 0 65535)with
 |true=>rw[h1]at h;cases h
 |false=>
  rw[h1]at h;cases h2:(!wIn m.co 0 15)with
  |true=>rw[h2]at h;cases h
  |false=>
   rw[h2]at h;simp only[cond_false]at h;split at h
   ·cases h
   ·rename_i h3;split at h
    ·rename_i h4;exact absurd h h4
    ·rename_i h4;have h4:A1 m.qn=0:=by simpa using h4
     cases h5:(!Mu m.qt)with
     |true=>rw[h5]at h;cases h
     |false=>
      rw[h5]at h;have h6:=Xh h;have h7:∀r∈m.rs,Ee r=0:=fun r hr=>h6 _ (List.mem_map_of_mem hr);exact⟨⟨Ug h1,Ug h2,h4,N8 h4,Abo h5,by omega,fun r hr=>(Aom (h7 r hr)).1⟩,fun r hr=>(Aom (h7 r hr)).2⟩
def wrE(m:Ms):Int:=if Bh m≠0 then Bh m else if 512<(C5 m).length then 2 else 0
def wrS(m:Ms):ByteArray:=if wrE m=0 then⟨(C5 m).toArray⟩else⟨#[]⟩
theorem Asp{m:Ms}(h:Bh m≠0):wrE m=Bh m∧wrS m=⟨#[]⟩:=by
 have e:wrE m=Bh m:=if_pos h;refine⟨e,?_⟩;unfold wrS;rw[e,if_neg h]
theorem Anh{m:Ms}(h:Bh m=0)(h2:512<(C5 m).length):wrE m=2∧wrS m=⟨#[]⟩:=by
 have e:wrE m=2:=by unfold wrE;rw[if_neg (by simpa using h),if_pos h2]
 refine⟨e,?_⟩;unfold wrS;rw[e];rfl
theorem Aiv{m:Ms}(h:Bh m=0)(h2:¬512<(C5 m).length):wrE m=0∧wrS m=⟨(C5 m).toArray⟩:=by
 have e:wrE m=0:=by unfold wrE;rw[if_neg (by simpa using h),if_neg h2]
 refine⟨e,?_⟩;unfold wrS;rw[e];rfl
end Pl
theorem Adv(m:Ms)(hm:m.Sized)(hl:m.rs.length≤9223372036854775807):Fun Tryz.prog 28 [.c (.agg m.row)] [.c (.v (.string (wrS m))),.c (.v (.int .i64 (wrE m)))]:=by
 have hC:=Ww m hm hl;by_cases he:Bh m=0
 ·have hW:=Adr m (Hw he).1;have hs:(⟨(C5 m).toArray⟩:ByteArray).size=(C5 m).length:=by show(C5 m).toArray.size=_;simp
  rw[he]at hC;refine Av Ue rfl ?_;refine G1 ?_;intro gg;refine .inl (cX hC ?_);refine G1 ?_;intro gg;refine .inl (cX hW ?_);refine G1 ?_;intro gg;refine Aa (fun k0=>?_) (fun k0=>?_)<;>rw[k0]
  ·have k1:=ZV k0;rw[hs]at k1;have h2:512<(C5 m).length:=by omega
   rw[(Anh he h2).1,(Anh he h2).2];refine G0 ?_;(exact⟨[],aI⟩)
  ·have k1:=ZW k0;rw[hs]at k1;have h2:¬512<(C5 m).length:=by omega
   rw[(Aiv he h2).1,(Aiv he h2).2];refine G0 ?_;(exact⟨[],aI⟩)
 ·refine Av Ue rfl ?_;refine G1 ?_;intro gg;refine .inl (cX hC ?_);refine G1 ?_;intro gg;rw[show(Bh m !=0)=true from ZZ.2 he];rw[(Asp he).1,(Asp he).2];refine G0 ?_;(exact⟨[],aI⟩)
namespace Pl
theorem Bal{a b:ByteArray}(h:a.data.toList=b.data.toList):a=b:=by
 obtain⟨a⟩:=a;obtain⟨b⟩:=b;congr 1;exact Array.ext' h
theorem Bb3{l:List UInt8}{c:UInt8}{m:Nat}(h:Lib.indexByte l c=(m:Int)):l[m]? =some c:=by
 induction l generalizing m with
 |nil=>simp[Lib.indexByte]at h
 |cons b l ih=>
  unfold Lib.indexByte at h;by_cases hb:(b==c)=true
  ·rw[if_pos hb]at h;have:b=c:=by simpa using hb
   obtain rfl:m=0:=by omega
   simp[this]
  ·rw[if_neg hb]at h;have hg:=Lib.indexByte_ge l c;split at h
   ·omega
   ·rename_i h1;have h1':¬Lib.indexByte l c= -1:=by simpa using h1
    obtain⟨k,hk⟩:∃k:Nat,Lib.indexByte l c=(k:Int):=⟨(Lib.indexByte l c).toNat,by omega⟩;obtain rfl:m=k+1:=by omega
    simpa using ih hk
theorem Al5(c:UInt8)(s:ByteArray){k:Nat}(h:k<cnb s c):(Bk c s k).data.toList=(Rm c s k).data.toList++[c]++(Bk c s (k+1)).data.toList:=by
 obtain⟨m,h1,h2,h3,h4⟩:=Ann c s h;have hm:=Bb3 (l:=(Bk c s k).data.toList) (c:=c) (m:=m) h1;have hlen:(Bk c s k).data.toList.length=(Bk c s k).size:=by simp
 rw[h3,h4,F5,F5,List.drop_zero];rw[List.take_of_length_le (i:=(Bk c s k).size) (by omega)];have hd:(Bk c s k).data.toList.drop m=c::(Bk c s k).data.toList.drop (m+1):=by
  rw[List.drop_eq_getElem_cons (by omega)];congr 1;rw[ZC (by omega)]at hm;exact Option.some.inj hm
 rw[ZS];show _=List.take m _++(c::List.drop (m+1) _);rw[←hd,List.take_append_drop]
theorem Aq3(s:ByteArray)(c:UInt8):∀(j k:Nat),k+j=cnb s c→Lib.join ((((List.range' k j).map (Rm c s))++[Bk c s (cnb s c)]).map (·.data.toList)) [c]=(Bk c s k).data.toList:=by
 intro j
 induction j with
 |zero=>
  intro k hk;have hk:k=cnb s c:=by omega
  rw[hk];simp[Lib.join]
 |succ j ih=>
  intro k hk;have h1:=ih (k+1) (by omega);rw[List.range'_succ,List.map_cons,List.cons_append,List.map_cons];rw[Al5 c s (k:=k) (by omega),←h1];obtain⟨x,xs,hx⟩:∃x xs,(((List.range' (k+1) j).map (Rm c s))++[Bk c s (cnb s c)]).map (·.data.toList)=x::xs:=by
   cases j<;>simp[List.range'_succ]
  rw[hx];simp[Lib.join]
theorem Ai7(s:ByteArray):Dk ⟨#[46]⟩ (Bp s)=s:=by
 apply Bal;unfold Bp;split
 ·rename_i h;have:=toList_inj (ZR.1 h);subst this;rfl
 ·have h:=Aq3 s 46 (cnb s 46) 0 (by omega);rw[←List.range_eq_range']at h;exact h
def At(s:ByteArray)(a:Nat)(l:List UInt8):Prop:=∃pre post,s.data.toList=pre++l++post∧pre.length=a
theorem At.app{s:ByteArray}{a:Nat}{l l':List UInt8}(h:At s a (l++l')):At s a l∧At s (a+l.length) l':=by
 obtain⟨pre,post,h1,h2⟩:=h;exact⟨⟨pre,l'++post,by rw[h1];simp,h2⟩,⟨pre++l,post,by rw[h1];simp,by simp[h2]⟩⟩
theorem At.le{s:ByteArray}{a:Nat}{l:List UInt8}(h:At s a l):a+l.length≤s.size:=by
 obtain⟨pre,post,h1,h2⟩:=h;have:=congrArg List.length h1;simp at this;omega
theorem At.byte{s:ByteArray}{a:Nat}{c:UInt8}(h:At s a [c]):Cr s a=some (c.toNat,a+1):=by
 obtain⟨pre,post,h1,h2⟩:=h;unfold Cr;have:s.data.toList[a]? =some c:=by rw[h1];subst h2;simp
 have hlt:a<s.size:=by
  have:=(ZB.1 this).1;simpa using this
 have e:s[a]? =some c:=by
  rw[getElem?_pos s a hlt];congr 1;have:=(ZB.1 this).2;rw[Array.getElem_toList]at this;exact this
 rw[e];rfl
theorem At.two{s:ByteArray}{a:Nat}{n:Int}(h:At s a (A3 [n]))(h0:0≤n)(h1:n≤65535):Cb s a=some (n.toNat,a+2):=by
 have e:A3 [n]=[UInt8.ofNat (n/256).toNat]++[UInt8.ofNat (n%256).toNat]:=rfl;rw[e]at h;have b1:=h.app.1.byte;have b2:=h.app.2.byte;unfold Cb;rw[b1,ZA];simp only[ZJ,ZN]at b2 ⊢;rw[b2,ZA];have e1:(UInt8.ofNat (n/256).toNat).toNat=(n/256).toNat:=by rw[UInt8.toNat_ofNat'];exact Nat.mod_eq_of_lt (by omega)
 have e2:(UInt8.ofNat (n%256).toNat).toNat=(n%256).toNat:=by rw[UInt8.toNat_ofNat'];exact Nat.mod_eq_of_lt (by omega)
 rw[e1,e2];congr 2;omega
theorem Er(n:Int)(ns:List Int):A3 (n::ns)=A3 [n]++A3 ns:=by simp[A3]
theorem At.four{s:ByteArray}{a:Nat}{n:Int}(h:At s a (A3 [n/65536,n%65536]))(h0:0≤n)(h1:n≤4294967295):I9 s a=some (n.toNat,a+4):=by
 rw[Er]at h;have b1:=h.app.1.two (by omega) (by omega);have b2:=h.app.2.two (by omega) (by omega);rw[Ay]at b2;unfold I9;rw[b1,ZA];simp only[ZJ,ZN]at b2 ⊢;rw[b2,ZA];congr 2;omega
theorem At.bytes{s:ByteArray}{a:Nat}{x:ByteArray}(h:At s a x.data.toList):Fx s a x.size=some (x,a+x.size):=by
 have hx:x.data.toList.length=x.size:=by simp
 have:=h.le;unfold Fx;rw[if_pos (by omega)];congr 2;apply Bal;rw[F5];obtain⟨pre,post,h1,h2⟩:=h;rw[h1,←hx,ZS];subst h2;rw[List.take_append,List.drop_append];simp
theorem Ap2{c:UInt8}(h:okB c.toNat=true):Ip c=c:=by
 unfold Ip;rw[if_neg];intro⟨h1,h2⟩;unfold okB at h;simp at h;omega
theorem Apl{x:ByteArray}(h:lab x.data.toList=true):C4 x=x:=by
 apply Bal;unfold C4;show x.data.toList.map Ip=x.data.toList;have h2:∀c∈x.data.toList,okB c.toNat=true:=by
  unfold lab at h;exact fun c hc=>List.all_eq_true.1 (Bool.and_eq_true_iff.1 h).1 c hc
 have:x.data.toList.map Ip=x.data.toList.map id:=List.map_congr_left fun c hc=>Ap2 (h2 c hc);rw[this,List.map_id]
theorem Ak3{x:ByteArray}(h:lab x.data.toList=true):1≤x.size∧x.size≤30:=by
 unfold lab at h;have:=ZV (Bool.and_eq_true_iff.1 h).2;have e:x.data.toList.length=x.size:=by simp
 omega
theorem At.nameR{s:ByteArray}:∀(ls l0:List ByteArray) (a f fr:Nat),At s a (En ls++[0])→(∀x∈ls,lab x.data.toList=true)→l0.length+ls.length≤8→ls.length<f→
  nameR s f a l0 none fr=some (l0++ls,a+(En ls).length+1):=by
 intro ls
 induction ls with
 |nil=>
  intro l0 a f fr h hl h8 hf;obtain⟨f,rfl⟩:∃f',f=f'+1:=⟨f-1,by simp at hf;omega⟩;have b:=At.byte (c:=0) h;rw[Pl.nameR,if_pos (by simpa using h8),b,ZA];simp only[List.append_nil];rw[if_pos (by decide)];rfl
 |cons x ls ih=>
  intro l0 a f fr h hl h8 hf;obtain⟨f,rfl⟩:∃f',f=f'+1:=⟨f-1,by omega⟩;have hx:=hl x (by simp);have hz:=Ak3 hx;have e:En (x::ls)++[0]=[UInt8.ofNat x.size]++(x.data.toList++(En ls++[0])):=by simp[En,Aas]
  rw[e]at h;have b1:=h.app.1.byte;have h2:=h.app.2;rw[show [UInt8.ofNat x.size].length=1 from rfl]at h2;have b2:=h2.app.1.bytes;have h3:=h2.app.2;have el:x.data.toList.length=x.size:=by simp
  rw[el]at h3;have ez:(UInt8.ofNat x.size).toNat=x.size:=by rw[UInt8.toNat_ofNat'];exact Nat.mod_eq_of_lt (by omega)
  rw[ez]at b1;simp only[ZJ]at h8 hf;rw[Pl.nameR,if_pos (by omega),b1,ZA];simp only;rw[if_neg (by omega),if_neg (by omega),b2,ZA];simp only;rw[Apl hx,if_pos hx,ih (l0++[x]) (a+1+x.size) f fr h3 (fun y hy=>hl y (by simp[hy])) (by simp;omega) (by omega)];have:(En (x::ls)).length=1+x.size+(En ls).length:=by simp[En,Aas];omega
  rw[this];simp only[ZS,List.cons_append,List.nil_append];congr 2;omega
theorem Zd{nm:ByteArray}(h:A1 nm=0):(∀x∈Bp nm,lab x.data.toList=true)∧(Bp nm).length≤8∧nm.size≤120:=by
 unfold A1 at h;split at h
 ·cases h
 ·rename_i h1;split at h
  ·cases h
  ·split at h
   ·cases h
   ·refine⟨fun x hx=>?_,by omega,by omega⟩;have h2:(Bp nm).any (fun x=> !lab x.data.toList)=false:=by simpa using h1
    have:=List.any_eq_false.1 h2 x hx;simpa using this
theorem At.name{s:ByteArray}{a:Nat}{nm:ByteArray}(h:At s a (B5 nm))(hn:A1 nm=0):Ih s a=some (nm,a+(B5 nm).length):=by
 obtain⟨h1,h2,h3⟩:=Zd hn;unfold Ih;rw[At.nameR (Bp nm) [] a (a+10) a h h1 (by simpa using h2) (by omega)];show some (Dk ⟨#[46]⟩ ([]++Bp nm),_)=_;rw[List.nil_append,Ai7];simp[B5];omega
theorem At.byteN{s:ByteArray}{a n:Nat}{l:List UInt8}(h:At s a (UInt8.ofNat n::l))(hn:n<256):Cr s a=some (n,a+1)∧At s (a+1) l:=by
 have h':At s a ([UInt8.ofNat n]++l):=h;refine⟨?_,h'.app.2⟩;rw[h'.app.1.byte,UInt8.toNat_ofNat',Nat.mod_eq_of_lt (by omega)]
theorem Anz{x:ByteArray}(h:em x=true):x=⟨#[]⟩:=toList_inj (ZR.1 h)
theorem Bdw{nm tx tg:ByteArray}{ls ad pt:Int}(h:Rr.un ⟨nm,1,ls,ad,tx,pt,tg⟩=true):tx=⟨#[]⟩∧pt=0∧tg=⟨#[]⟩:=by
 unfold Rr.un at h;simp at h;exact⟨Anz h.1,h.2.1,Anz h.2.2⟩
theorem Bbv{nm tx tg:ByteArray}{ls ad pt:Int}(h:Rr.un ⟨nm,16,ls,ad,tx,pt,tg⟩=true):ad=0∧pt=0∧tg=⟨#[]⟩:=by
 unfold Rr.un at h;simp at h;exact⟨h.1,h.2.1,Anz h.2.2⟩
theorem Bbd{nm tx tg:ByteArray}{ls ad pt:Int}(h:Rr.un ⟨nm,33,ls,ad,tx,pt,tg⟩=true):ad=0∧tx=⟨#[]⟩:=by
 unfold Rr.un at h;simp at h;exact⟨h.1,Anz h.2⟩
theorem At.body{s:ByteArray}{a:Nat}{r:Rr}(h:At s a (inB r))(hg:r.Good)(hu:r.un=true):Kx s r.ty.toNat a=some ((r.ad.toNat,r.tx,r.pt.toNat,r.tg),a+(inB r).length):=by
 obtain⟨nm,ty,ls,ad,tx,pt,tg⟩:=r;obtain⟨h1,h2,h3,h4,h5,h6,h7,h8,h9⟩:=hg;simp only at h1 h2 h3 h4 h5 h6 h7 h8 h9;rcases h3 with rfl|rfl|rfl
 ·obtain⟨rfl,rfl,rfl⟩:=Bdw hu;have e:inB ⟨nm,1,ls,ad,⟨#[]⟩,0,⟨#[]⟩⟩=A3 [ad/65536,ad%65536]:=rfl;rw[e]at h ⊢;have b:=h.four h5.1 h5.2;show Kx s 1 a=some ((ad.toNat,⟨#[]⟩,0,⟨#[]⟩),_);unfold Kx;rw[if_pos rfl,b,Ay];rfl
 ·obtain⟨rfl,rfl,rfl⟩:=Bbv hu;have e:inB ⟨nm,16,ls,0,tx,0,⟨#[]⟩⟩=UInt8.ofNat tx.size::tx.data.toList:=rfl;rw[e]at h ⊢;obtain⟨b1,g1⟩:=h.byteN (by omega);have b2:=g1.bytes;have hx:tx.data.toList.length=tx.size:=by simp
  show Kx s 16 a=some ((0,tx,0,⟨#[]⟩),_);unfold Kx;rw[if_neg (by decide),if_pos rfl,b1,ZA];simp only;rw[b2,ZA];simp only[ZJ,hx];congr 2;omega
 ·obtain⟨rfl,rfl⟩:=Bbd hu;have e:inB ⟨nm,33,ls,0,⟨#[]⟩,pt,tg⟩=A3 [0]++(A3 [0]++(A3 [pt]++B5 tg)):=by
   show A3 [0,0,pt]++B5 tg=_;simp[A3]
  rw[e]at h ⊢;have b1:=h.app.1.two (by omega) (by omega);have g1:=h.app.2;rw[Ay]at g1;have b2:=g1.app.1.two (by omega) (by omega);have g2:=g1.app.2;rw[Ay]at g2;have b3:=g2.app.1.two h6.1 h6.2;have g3:=g2.app.2;rw[Ay]at g3;have b4:=g3.name h8;simp only[ZJ,ZN]at b2 b3 b4;show Kx s 33 a=some ((0,⟨#[]⟩,pt.toNat,tg),_);unfold Kx;rw[if_neg (by decide),if_neg (by decide),if_pos rfl,b1,ZA];simp only;rw[if_pos (by decide),b2,ZA];simp only;rw[if_pos (by decide),b3,ZA];simp only;rw[b4,ZA];simp only[ZF,Ay,ZJ,ZN];congr 2;omega
theorem Avl(r:Rr):Jv r=B5 r.nm++(A3 [r.ty]++(A3 [1]++(A3 [r.ls/65536,r.ls%65536]++(A3 [((inB r).length:Int)]++inB r)))):=by
 unfold Jv;rw[Er r.ty,Er 1];simp only[ZS]
theorem At.rec_{s:ByteArray}{a:Nat}{r:Rr}(h:At s a (Jv r))(hg:r.Good)(hu:r.un=true):Un s a=some (r,a+(Jv r).length):=by
 have hin:=Td hg;have hle:=h.le;rw[Avl]at h hle ⊢;have b1:=h.app.1.name hg.nm;have g1:=h.app.2;have hty:0≤r.ty∧r.ty≤65535:=by rcases hg.ty with q|q|q<;>omega
 have b2:=g1.app.1.two hty.1 hty.2;have g2:=g1.app.2;rw[Ay]at g2;have b3:=g2.app.1.two (by omega) (by omega);have g3:=g2.app.2;rw[Ay]at g3;have b4:=g3.app.1.four hg.ls.1 (by have:=hg.ls.2;omega);have g4:=g3.app.2;rw[Ay]at g4;have b5:=g4.app.1.two (by omega) (by omega);have g5:=g4.app.2;rw[Ay]at g5;have b6:=g5.body hg hu;simp only[ZF,Ay,ZJ,ZN]at b2 b3 b4 b5 b6 hle ⊢;unfold Un;rw[b1,ZA];simp only;rw[b2,ZA];simp only;rw[b3,ZA];simp only;rw[if_pos (by decide)];have e4:a+(B5 r.nm).length+2*1+2=a+(B5 r.nm).length+2*(0+1)+2*(0+1):=by omega
 simp only[Nat.zero_add,Nat.mul_one]at *;rw[b4,ZA];simp only;rw[show a+(B5 r.nm).length+2+2+4=a+(B5 r.nm).length+2+2+2*(1+1)by omega,b5,ZA];simp only;rw[if_pos (by omega),b6,ZA];simp only;rw[if_pos (by omega)];obtain⟨nm,ty,ls,ad,tx,pt,tg⟩:=r;have q1:=hg.ls.1;have q2:=hg.ad.1;have q3:=hg.pt.1;simp only at q1 q2 q3 hty;simp only[ZD,Prod.mk.injEq,Rr.mk.injEq,true_and,and_true];omega
theorem At.recs{s:ByteArray}:∀(l:List Rr) (a:Nat),At s a (Bn l)→(∀r∈l,r.Good∧r.un=true)→Ig s l.length a=some (l,a+(Bn l).length)
 |[],a,_,_=>rfl
 |r::l,a,h,hg=>by
  have e:Bn (r::l)=Jv r++Bn l:=rfl;rw[e]at h ⊢;have b1:=h.app.1.rec_ (hg r (by simp)).1 (hg r (by simp)).2;have b2:=At.recs l _ h.app.2 fun x hx=>hg x (by simp[hx]);show Ig s (l.length+1) a=_;rw[Ig,b1,ZA];simp only;rw[b2,ZA];simp only[ZF];congr 2;omega
theorem Aw3(m:Ms)(h:0≤m.co∧m.co≤15):(Ef m/256).toNat=(if m.an then 128 else 0)+(if m.ct then 2 else 0)∧(Ef m%256).toNat=m.co.toNat:=by
 unfold Ef;cases m.an<;>cases m.ct<;>simp<;>omega
theorem Abm(m:Ms):C5 m=A3 [m.id]++(UInt8.ofNat (Ef m/256).toNat::UInt8.ofNat (Ef m%256).toNat::(A3 [1]++(A3 [(m.rs.length:Int)]++(A3 [0]++(A3 [0]++(B5 m.qn++(A3 [m.qt]++(A3 [1]++Bn m.rs)))))))):=by
 unfold C5;rw[Er m.id,Er (Ef m),Er 1,Er (m.rs.length:Int),Er 0,Er m.qt];rw[show A3 [Ef m]=[UInt8.ofNat (Ef m/256).toNat,UInt8.ofNat (Ef m%256).toNat]from rfl];simp only[ZS,List.cons_append,List.nil_append]
theorem Asg{m:Ms}(hm:m.Good)(hu:∀r∈m.rs,r.un=true):Ut ⟨(C5 m).toArray⟩=some m:=by
 have h:At ⟨(C5 m).toArray⟩ 0 (C5 m):=⟨[],[],by simp,rfl⟩;have hs:(⟨(C5 m).toArray⟩:ByteArray).size=(C5 m).length:=by show(C5 m).toArray.size=_;simp
 obtain⟨f1,f2⟩:=Aw3 m hm.co;generalize hS:(⟨(C5 m).toArray⟩:ByteArray)=s at *;have hlen:(C5 m).length=12+(B5 m.qn).length+4+(Bn m.rs).length:=by
  rw[Abm];simp only[ZF,ZJ,Ay,ZN];omega
 rw[hlen]at hs;rw[Abm]at h;have hty:0≤m.qt∧m.qt≤65535:=by rcases hm.qt with q|q|q<;>omega
 have hln:=hm.len;have hco:=hm.co;have b1:=h.app.1.two hm.id.1 hm.id.2;have g1:=h.app.2;rw[Ay]at g1;have hA:(Ef m/256).toNat<256:=by rw[f1];cases m.an<;>cases m.ct<;>decide
 obtain⟨b2,g2⟩:=g1.byteN hA;obtain⟨b3,g3⟩:=g2.byteN (by rw[f2];omega);have b4:=g3.app.1.two (by omega) (by omega);have g4:=g3.app.2;rw[Ay]at g4;have b5:=g4.app.1.two (by omega) (by omega);have g5:=g4.app.2;rw[Ay]at g5;have b6:=g5.app.1.two (by omega) (by omega);have g6:=g5.app.2;rw[Ay]at g6;have b7:=g6.app.1.two (by omega) (by omega);have g7:=g6.app.2;rw[Ay]at g7;have b8:=g7.app.1.name hm.qn;have g8:=g7.app.2;have b9:=g8.app.1.two hty.1 hty.2;have g9:=g8.app.2;rw[Ay]at g9;have b10:=g9.app.1.two (by omega) (by omega);have g10:=g9.app.2;rw[Ay]at g10;have b11:=At.recs m.rs _ g10 fun r hr=>⟨hm.rs r hr,hu r hr⟩;simp only[ZJ,ZN,Nat.zero_add,Nat.mul_one]at b1 b2 b3 b4 b5 b6 b7 b8 b9 b10 b11;unfold Ut;rw[b1,ZA];simp only[Nat.zero_add];rw[b2,ZA];simp only;rw[b3,ZA];simp only;rw[f1,f2,if_pos (by cases m.an<;>cases m.ct<;>simp[Aq5]<;>omega),b4,ZA];simp only;rw[if_pos (by decide),b5,ZA];simp only;rw[if_pos (by omega),b6,ZA];simp only;rw[if_pos (by decide),b7,ZA];simp only;rw[if_pos (by decide),b8,ZA];simp only;rw[b9,ZA];simp only;rw[b10,ZA];simp only;rw[if_pos (by decide),Int.toNat_natCast,b11,ZA];simp only;rw[if_pos (by omega)];obtain⟨id,an,ct,co,qn,qt,rs⟩:=m;have q1:=hm.id.1;simp only at q1 hco hty;simp only[ZD,Ms.mk.injEq,and_true,true_and];refine⟨by omega,?_,?_,by omega,by omega⟩
 ·cases an<;>cases ct<;>simp
 ·cases an<;>cases ct<;>simp
end Pl
namespace Pl
def Kr:Ms:=⟨0,false,false,0,⟨#[]⟩,0,[]⟩
def rdP(s:ByteArray):Ms×Int:=if 512<s.size then(Kr,2)else match Ut s with
 |none=>(Kr,1)
 |some m=>if Bh m=0 then(m,0)else(Kr,1)
end Pl
theorem Fr.out{L:Nat→Prop}{a b c:World}(h:Fr (fun _=>False) a b)(k:Fr L b c)(hl:∀i,L i→a.heap.size≤i):Fr (fun _=>False) a c:=
 ⟨k.os.trans h.os,k.tape.trans h.tape,k.output.trans h.output,XI h.size k.size,fun i hi _=>(k.block i (XH hi h.size) (fun hL=>by have:=hl i hL;omega)).trans (h.block i hi id)⟩
theorem Fr.blk{L:Nat→Prop}{a b:World}{g:Nat}{t:TypeId}{cs:Array Value}(h:Fr L a b)(hb:Blk a g t cs)(hl:¬L g):Blk b g t cs:=(h.block g hb.lt hl).trans hb
def msV(m:Ms)(y:Value):Value:=.agg #[.int .i64 m.id,.bool m.an,.bool m.ct,.int .i64 m.co,.string m.qn,.int .i64 m.qt,y]
theorem Amn{w:World}{R:Nat→Prop}{m:Ms}{y:Value}(h:RV w R noG (.sl false (m.rs.map Rr.row)) y):RV w R noG (.agg m.row) (msV m y):=by
 refine .agg m.row [.int .i64 m.id,.bool m.an,.bool m.ct,.int .i64 m.co,.string m.qn,.int .i64 m.qt,y] rfl fun i u x hu hx=>?_;unfold Ms.row at hu;rcases i with _|_|_|_|_|_|_|i
 all_goals first
  |(cases hu;cases hx;exact .v _)
  |(cases hu;cases hx;exact h)
  |(simp at hu)
theorem Bb6{w:World}{R:Nat→Prop}{m:Ms}{x:Value}(h:RV w R noG (.agg m.row) x):∃y,x=msV m y∧RV w R noG (.sl false (m.rs.map Rr.row)) y:=by
 cases h with
 |agg cs xs hl h=>
  obtain⟨x0,x1,x2,x3,x4,x5,x6,rfl⟩:∃x0 x1 x2 x3 x4 x5 x6,xs=[x0,x1,x2,x3,x4,x5,x6]:=by
   rcases xs with _|⟨x0,_|⟨x1,_|⟨x2,_|⟨x3,_|⟨x4,_|⟨x5,_|⟨x6,_|⟨x7,xs⟩⟩⟩⟩⟩⟩⟩⟩<;>simp[Ms.row]at hl;exact⟨_,_,_,_,_,_,_,rfl⟩
  have h0:=Bw (h 0 _ _ rfl rfl);have h1:=Bw (h 1 _ _ rfl rfl);have h2:=Bw (h 2 _ _ rfl rfl);have h3:=Bw (h 3 _ _ rfl rfl);have h4:=Bw (h 4 _ _ rfl rfl);have h5:=Bw (h 5 _ _ rfl rfl);subst h0 h1 h2 h3 h4 h5;exact⟨x6,rfl,h 6 _ _ rfl rfl⟩
theorem As6{w:World}{R:Nat→Prop}{G:Nat→Option Loc}{cl:Bool}{rows:List (List V)}{x:Value}(h:RV w R G (.sl cl rows) x):∃a k c,x=.slice a k c:=by
 generalize e:V.sl cl rows=u at h;cases h with
 |nil=>exact⟨_,_,_,rfl⟩
 |sl=>exact⟨_,_,_,rfl⟩
 |_=>cases e
theorem Ad1{w:World}{R:Nat→Prop}{u:V}{x:Value}(h:RV w R noG u x):Jd w R [.c u] [x]:=by
 refine⟨rfl,fun i p y h1 h2=>?_,fun i j T sz rows T' sz' rows' x y b hij h1=>?_,fun b h=>?_⟩
 ·rcases i with _|i
  ·cases h1;cases h2;exact h
  ·simp at h1
 ·rcases i with _|i<;>simp at h1
 ·obtain⟨i,T,sz,rows,x,h1,_⟩:=h;rcases i with _|i<;>simp at h1
theorem Afc{u:V}{x:Value}{b:Nat}(h:A5 [.c u] [x] b):False:=by
 obtain⟨i,T,sz,rows,x,h1,_⟩:=h;rcases i with _|i<;>simp at h1
theorem Ae9(w:World)(R:Nat→Prop):RV w R noG (.agg Kr.row) (.agg Kp):=Amn (m:=Kr) (y:=.slice none 0 0) (.nil false none 0 (by simp))
def Af1(R:Nat→Prop)(w:World)(m:Ms)(er:Int)(e:Ending)(w':World):Prop:=
 ∃(x:Value) (R':Nat→Prop),e=.returned (.tuple #[x,.int .i64 er])∧Fr (fun _=>False) w w'∧(∀b,R b→R' b)∧(∀b,R' b→R b∨(b<w'.heap.size∧w.heap.size≤b))∧RV w' R' noG (.agg m.row) x
theorem Ami{s:ByteArray}{W:World}{R:Nat→Prop}{n:Nat}{cs:List Par}(hb:Blk W n rdT #[.string s,.int .i64 0])(hn:¬R n):C2 W R [.mn rdT (rdC s 0) cs] [.pointer (some ⟨n,0,none⟩)] (fun k=>k=n):=by
 have hp:Jd W R (rdC s 0) [.string s,.int .i64 0]:=by
  refine⟨rfl,fun i p x h1 h2=>?_,fun i j T sz rows T' sz' rows' x y b hij h1=>?_,fun b h=>?_⟩
  ·rcases i with _|_|i
   ·cases h1;cases h2;exact .v _
   ·cases h1;cases h2;exact .v _
   ·simp[rdC,rdZ]at h1
  ·rcases i with _|_|i<;>simp[rdC,rdZ]at h1
  ·obtain⟨i,T,sz,rows,x,h1,_⟩:=h;rcases i with _|_|i<;>simp[rdC,rdZ]at h1
 have hnb:∀k,¬A5 (rdC s 0) [.string s,.int .i64 0] k:=fun k h=>by
  obtain⟨i,T,sz,rows,x,h1,_⟩:=h;rcases i with _|_|i<;>simp[rdC,rdZ]at h1
 refine⟨fun k=>k=n,fun _=>False,⟨n,[.string s,.int .i64 0],rfl,by simp[rdC,rdZ],⟨rfl,.inr ⟨n,1,_,rfl,ZU _,hb,by simp,by decide,rfl,rfl⟩⟩,hp,by simp[Value.oneCell'],hnb n,fun k=>⟨.inl,fun h=>h.elim id (fun h=>absurd h (hnb k))⟩⟩,fun _ h=>h,fun b h=>⟨id,by rw[h];exact hn⟩,fun b=>⟨.inl,fun h=>h.elim id False.elim⟩⟩
set_option maxRecDepth 100000 in
set_option maxHeartbeats 2000000 in
theorem Ar1(s:ByteArray)(w:World)(h:(512:Int)<(s.size:Int))(R:Nat→Prop)(hlt:∀b,R b→b<w.heap.size):Calls Tryz.prog 13 #[.string s] w (Af1 R w Kr 2):=by
 have hmf:∀(fn:Fn) (first cap:Array Value) (w:World),(Instr.makeFunc fn first cap).run Tryz.prog w=.ok (.func fn first cap) w:=fun _ _ _ _=>rfl
 go_enter_defers Tryz.func13,Tryz.ntmps13
 go_wp2
 have B0:=Blk.new w 38 Kp;have B1:=Blk.new (w.alloc (.cells Kp 38)) 27 #[.int .i64 2];have B2:=B0.alloc (.cells #[.int .i64 2] 27);simp[bodyPostD,Leaves,settle,results,Tryz.results13,go_sem];refine⟨.agg Kp,R,rfl,?_,fun b h=>h,fun b h=>.inl h,Ae9 _ _⟩;exact((Fr.refl _ w).alloc_ _).alloc_ _
set_option maxRecDepth 100000 in
set_option maxHeartbeats 2000000 in
theorem Arh(s:ByteArray)(w:World)(h:¬(512:Int)<(s.size:Int))(R:Nat→Prop)(hlt:∀b,R b→b<w.heap.size)(hd:Ha Tryz.prog 51 [.mn rdT (rdC s 0) (rdC s 0)] Hg):Calls Tryz.prog 13 #[.string s] w (Af1 R w Kr 1):=by
 have hmf:∀(fn:Fn) (first cap:Array Value) (w:World),(Instr.makeFunc fn first cap).run Tryz.prog w=.ok (.func fn first cap) w:=fun _ _ _ _=>rfl
 go_enter_defers Tryz.func13,Tryz.ntmps13
 go_wp2_with fail
 have B0:=Blk.new w 38 Kp;have B1:=Blk.new_ (w.alloc (.cells Kp 38)) 27 #[.int .i64 0] (g:=w.heap.size+1) (by simp[World.alloc,-World.alloc_eq]);have B0':=B0.alloc (.cells #[.int .i64 0] 27);have B2:=Blk.new_ ((w.alloc (.cells Kp 38)).alloc (.cells #[.int .i64 0] 27)) rdT #[.string s,.int .i64 0] (g:=w.heap.size+1+1) (by simp[World.alloc,-World.alloc_eq]);have B0'':=B0'.alloc (.cells #[.string s,.int .i64 0] rdT);have B1'':=B1.alloc (.cells #[.string s,.int .i64 0] rdT);refine(hd.2 _ (fun _=>False) [_] _ (fun _ h=>h.elim) (Ami B2 id)).mono ?_
 rintro e w1 ⟨rfl,hf⟩
 have C0:=hf.blk B0'' (by omega);have C1:=hf.blk B1'' (by omega);refine leaves_cons (f:=50) (args:= #[.pointer (some ⟨w.heap.size,0,none⟩),.pointer (some ⟨w.heap.size+1,0,none⟩)]) (by simp) (by simp[go_sem]) ?_;refine(Amb w.heap.size (w.heap.size+1) _ _ _ _ _ _ _ _ w1 C0 C1 (by omega)).mono ?_
 rintro e u' w2 ⟨rfl,rfl,hC⟩
 obtain⟨D0,D1,hf2⟩:=hC;have e0:w2.cell? ⟨w.heap.size,0,none⟩=some (.int .i64 0):=D0.cell 0;have e1:w2.cell? ⟨w.heap.size,1,none⟩=some (.bool false):=D0.cell 1;have e2:w2.cell? ⟨w.heap.size,2,none⟩=some (.bool false):=D0.cell 2;have e3:w2.cell? ⟨w.heap.size,3,none⟩=some (.int .i64 0):=D0.cell 3;have e4:w2.cell? ⟨w.heap.size,4,none⟩=some (.string ⟨#[]⟩):=D0.cell 4;have e5:w2.cell? ⟨w.heap.size,5,none⟩=some (.int .i64 0):=D0.cell 5;have e6:w2.cell? ⟨w.heap.size,6,none⟩=some (.slice none 0 0):=D0.cell 6;have g0:w2.cell? ⟨w.heap.size+1,0,none⟩=some (.int .i64 1):=D1.cell 0;simp[Leaves,settle,results,Tryz.results13,go_sem,e0,e1,e2,e3,e4,e5,e6,g0];refine⟨.agg Kp,R,rfl,?_,fun b h=>h,fun b h=>.inl h,Ae9 _ _⟩;have F0:Fr (fun _=>False) w _:=(((Fr.refl _ w).alloc_ (.cells Kp 38)).alloc_ (.cells #[.int .i64 0] 27)).alloc_ (.cells #[.string s,.int .i64 0] rdT);exact(F0.out hf (fun i hi=>by omega)).out hf2 (fun i hi=>by omega)
set_option maxRecDepth 100000 in
set_option maxHeartbeats 2000000 in
theorem Aw9(s:ByteArray)(m:Ms)(w:World)(h:¬(512:Int)<(s.size:Int))(R:Nat→Prop)(hlt:∀b,R b→b<w.heap.size)(hm:Hv Tryz.prog 51 [.mn rdT (rdC s 0) (rdC s s.size)] [.p (.c (.agg m.row))])(hc:Fun Tryz.prog 52 [.c (.agg m.row)] [.c (.v (.int .i64 (Bh m)))])(v:Ms)(er:Int)(hv:Bh m=0→v=m∧er=0)(hz:Bh m≠0→v=Kr∧er=1):Calls Tryz.prog 13 #[.string s] w (Af1 R w v er):=by
 have hv:=hid hv;have hz:=hid hz;have hmf:∀(fn:Fn) (first cap:Array Value) (w:World),(Instr.makeFunc fn first cap).run Tryz.prog w=.ok (.func fn first cap) w:=fun _ _ _ _=>rfl
 go_enter_defers Tryz.func13,Tryz.ntmps13
 go_wp2_with fail
 have B0:=Blk.new w 38 Kp;have B1:=Blk.new_ (w.alloc (.cells Kp 38)) 27 #[.int .i64 0] (g:=w.heap.size+1) (by simp[World.alloc,-World.alloc_eq]);have B0':=B0.alloc (.cells #[.int .i64 0] 27);have B2:=Blk.new_ ((w.alloc (.cells Kp 38)).alloc (.cells #[.int .i64 0] 27)) rdT #[.string s,.int .i64 0] (g:=w.heap.size+1+1) (by simp[World.alloc,-World.alloc_eq]);have B0'':=B0'.alloc (.cells #[.string s,.int .i64 0] rdT);have B1'':=B1.alloc (.cells #[.string s,.int .i64 0] rdT);have F0:Fr (fun _=>False) w _:=(((Fr.refl _ w).alloc_ (.cells Kp 38)).alloc_ (.cells #[.int .i64 0] 27)).alloc_ (.cells #[.string s,.int .i64 0] rdT);refine(hm.2 _ R [_] _ (fun b hb=>XH (hlt b hb) F0.size) (Ami B2 fun hR=>by have:=hlt _ hR;omega)).mono ?_
 rintro e w1 ⟨ys,R1,F1,rfl,hl,hf,hR1,hR2,hp,hF⟩
 have C0:=hf.blk B0'' (by omega);have C1:=hf.blk B1'' (by omega);obtain⟨x,rfl⟩:∃x,ys=[x]:=by
  rcases ys with _|⟨x,_|⟨x',ys⟩⟩<;>simp at hl;exact⟨x,rfl⟩
 obtain⟨y,rfl,hy⟩:∃y,x=msV m y∧RV w1 R1 noG (.sl false (m.rs.map Rr.row)) y:=by
  obtain⟨G1,G2,h1,_⟩:=hp;exact Bb6 h1.1
 obtain⟨a,k,c,rfl⟩:∃a k c,y=.slice a k c:=by
  exact As6 hy
 have hy:=hid hy;have hR1:=hid hR1;have hR2:=hid hR2;have hp:=hid hp;have hF:=hid hF;have HF:=hid hf;clear hf;have e0:w1.cell? ⟨w.heap.size,0,none⟩=some (.int .i64 0):=C0.cell 0;have e1:w1.cell? ⟨w.heap.size,1,none⟩=some (.bool false):=C0.cell 1;have e2:w1.cell? ⟨w.heap.size,2,none⟩=some (.bool false):=C0.cell 2;have e3:w1.cell? ⟨w.heap.size,3,none⟩=some (.int .i64 0):=C0.cell 3;have e4:w1.cell? ⟨w.heap.size,4,none⟩=some (.string ⟨#[]⟩):=C0.cell 4;have e5:w1.cell? ⟨w.heap.size,5,none⟩=some (.int .i64 0):=C0.cell 5;have e6:w1.cell? ⟨w.heap.size,6,none⟩=some (.slice none 0 0):=C0.cell 6;have f0:=fun i=>C0.frozen i;have g0:w1.cell? ⟨w.heap.size+1,0,none⟩=some (.int .i64 0):=C1.cell 0;have h0:=C1.frozen 0;simp only[Ge,msV]
 go_wp2_with fail
 have D0:Blk (((((((w1.setCell ⟨w.heap.size,0,none⟩ (.int .i64 m.id)).setCell ⟨w.heap.size,1,none⟩ (.bool m.an)).setCell ⟨w.heap.size,2,none⟩ (.bool m.ct)).setCell ⟨w.heap.size,3,none⟩ (.int .i64 m.co)).setCell ⟨w.heap.size,4,none⟩ (.string m.qn)).setCell ⟨w.heap.size,5,none⟩ (.int .i64 m.qt)).setCell ⟨w.heap.size,6,none⟩ (.slice a k c)) w.heap.size 38 #[.int .i64 m.id,.bool m.an,.bool m.ct,.int .i64 m.co,.string m.qn,.int .i64 m.qt,.slice a k c]:=
  ((((((C0.set_ 0 _).set_ 1 _).set_ 2 _).set_ 3 _).set_ 4 _).set_ 5 _).set_ 6 _
 have D1:=((((((C1.far (p:=⟨w.heap.size,0,none⟩) (by simp) (.int .i64 m.id)).far (p:=⟨w.heap.size,1,none⟩) (by simp) (.bool m.an)).far (p:=⟨w.heap.size,2,none⟩) (by simp) (.bool m.ct)).far (p:=⟨w.heap.size,3,none⟩) (by simp) (.int .i64 m.co)).far (p:=⟨w.heap.size,4,none⟩) (by simp) (.string m.qn)).far (p:=⟨w.heap.size,5,none⟩) (by simp) (.int .i64 m.qt)).far (p:=⟨w.heap.size,6,none⟩) (by simp) (.slice a k c);have F2:Fr (fun k=>k=w.heap.size) w1 _:=(((((((Fr.refl (fun k=>k=w.heap.size) w1).set_ rfl 0 (.int .i64 m.id)).set_ rfl 1 (.bool m.an)).set_ rfl 2 (.bool m.ct)).set_ rfl 3 (.int .i64 m.co)).set_ rfl 4 (.string m.qn)).set_ rfl 5 (.int .i64 m.qt)).set_ rfl 6 (.slice a k c);generalize hw2:(((((((w1.setCell ⟨w.heap.size,0,none⟩ (.int .i64 m.id)).setCell ⟨w.heap.size,1,none⟩ (.bool m.an)).setCell ⟨w.heap.size,2,none⟩ (.bool m.ct)).setCell ⟨w.heap.size,3,none⟩ (.int .i64 m.co)).setCell ⟨w.heap.size,4,none⟩ (.string m.qn)).setCell ⟨w.heap.size,5,none⟩ (.int .i64 m.qt)).setCell ⟨w.heap.size,6,none⟩ (.slice a k c))=w2 at D0 D1 F2 ⊢;clear e0 e1 e2 e3 e4 e5 e6 f0 g0 h0 hw2;have hn1:∀b,R1 b→b≠w.heap.size∧b≠w.heap.size+1:=fun b hb=>by
  rcases hR2.out b hb with g|⟨g1,g2⟩
  ·have:=hlt b g;omega
  ·rcases g2 with g2|g2
   ·omega
   ·have:=F0.size;simp[World.alloc,-World.alloc_eq]at g2;omega
 have hlt1:∀b,R1 b→b<w1.heap.size:=fun b hb=>by
  rcases hR2.out b hb with g|⟨g1,g2⟩
  ·have:=hlt b g;have:=F0.size;have:=HF.out.size;omega
  ·exact g1
 have hy2:=hy.out.mono (fun b hb=>⟨hb,F2.block b (hlt1 b hb) (hn1 b hb).1⟩) (Gle.refl _);refine(hc.2 _ R1 [_] (fun b hb=>XH (hlt1 b hb) F2.size) (Ad1 (Amn hy2))).mono ?_
 rintro e w3 ⟨ys,R3,rfl,hf3,hR3,hR4,hp3,hF3⟩
 obtain⟨x,rfl⟩:∃x,ys=[x]:=by
  have hl:=hp3.len;rcases ys with _|⟨x,_|⟨x',ys⟩⟩<;>simp at hl
  exact⟨x,rfl⟩
 have hx:x=.int .i64 (Bh m):=Bw (hp3.ok 0 _ _ rfl rfl);subst hx;have hf3':Fr (fun _=>False) w2 w3:=⟨hf3.os,hf3.tape,hf3.output,hf3.size,fun k hk _=>hf3.block k hk Afc⟩;have E0:=hf3'.blk D0 id;have E1:=hf3'.blk D1 id;have hy3:=hid (hy2.mono (fun b hb=>⟨hb,hf3'.block b (XH (hlt1 b hb) F2.size) id⟩) (Gle.refl _));have HF3:=hid hf3';have hp3:=hid hp3;have hn1:=hid hn1;have hlt1:=hid hlt1;clear hf3 hR3 hR4 hF3 hp3 hf3' hy2;simp only[Ge];have e0:w3.cell? ⟨w.heap.size,0,none⟩=some (.int .i64 m.id):=E0.cell 0;have e1:w3.cell? ⟨w.heap.size,1,none⟩=some (.bool m.an):=E0.cell 1;have e2:w3.cell? ⟨w.heap.size,2,none⟩=some (.bool m.ct):=E0.cell 2;have e3:w3.cell? ⟨w.heap.size,3,none⟩=some (.int .i64 m.co):=E0.cell 3;have e4:w3.cell? ⟨w.heap.size,4,none⟩=some (.string m.qn):=E0.cell 4;have e5:w3.cell? ⟨w.heap.size,5,none⟩=some (.int .i64 m.qt):=E0.cell 5;have e6:w3.cell? ⟨w.heap.size,6,none⟩=some (.slice a k c):=E0.cell 6;have f0:=fun i=>E0.frozen i;have g0:w3.cell? ⟨w.heap.size+1,0,none⟩=some (.int .i64 0):=E1.cell 0;have h0:=E1.frozen 0;by_cases hE:Bh m=0
 ·obtain⟨h1,h2⟩:=hv.out hE;have h1:=hid h1;have h2:=hid h2
  go_wp2_with fail
  refine leaves_cons (f:=50) (args:= #[.pointer (some ⟨w.heap.size,0,none⟩),.pointer (some ⟨w.heap.size+1,0,none⟩)]) (by simp) (by simp[go_sem]) ?_;refine(Aah w.heap.size (w.heap.size+1) _).mono ?_
  rintro e u' w4 ⟨rfl,rfl,hw4⟩
  have F4:Fr (fun k=>k=w.heap.size∨k=w.heap.size+1) w3 w4:=by rw[hw4];exact(((((((((Fr.refl (fun k=>k=w.heap.size∨k=w.heap.size+1) w3).set_ (.inl rfl) 0 (.int .i64 m.id)).set_ (.inl rfl) 1 (.bool m.an)).set_ (.inl rfl) 2 (.bool m.ct)).set_ (.inl rfl) 3 (.int .i64 m.co)).set_ (.inl rfl) 4 (.string m.qn)).set_ (.inl rfl) 5 (.int .i64 m.qt)).set_ (.inl rfl) 6 (.slice a k c)).set_ (.inr rfl) 0 (.int .i64 0)).alloc_ (.cells #[] 103)
  have G0:Blk w4 w.heap.size 38 #[.int .i64 m.id,.bool m.an,.bool m.ct,.int .i64 m.co,.string m.qn,.int .i64 m.qt,.slice a k c]:=by rw[hw4];exact((((((((E0.set_ 0 (.int .i64 m.id)).set_ 1 (.bool m.an)).set_ 2 (.bool m.ct)).set_ 3 (.int .i64 m.co)).set_ 4 (.string m.qn)).set_ 5 (.int .i64 m.qt)).set_ 6 (.slice a k c)).far (p:=⟨w.heap.size+1,0,none⟩) (by simp) (.int .i64 0)).alloc (.cells #[] 103)
  have G1:Blk w4 (w.heap.size+1) 27 #[.int .i64 0]:=by rw[hw4];exact((((((((E1.far (p:=⟨w.heap.size,0,none⟩) (by simp) (.int .i64 m.id)).far (p:=⟨w.heap.size,1,none⟩) (by simp) (.bool m.an)).far (p:=⟨w.heap.size,2,none⟩) (by simp) (.bool m.ct)).far (p:=⟨w.heap.size,3,none⟩) (by simp) (.int .i64 m.co)).far (p:=⟨w.heap.size,4,none⟩) (by simp) (.string m.qn)).far (p:=⟨w.heap.size,5,none⟩) (by simp) (.int .i64 m.qt)).far (p:=⟨w.heap.size,6,none⟩) (by simp) (.slice a k c)).set_ 0 (.int .i64 0)).alloc (.cells #[] 103)
  clear hw4 e0 e1 e2 e3 e4 e5 e6 f0 g0 h0;have e0:w4.cell? ⟨w.heap.size,0,none⟩=some (.int .i64 m.id):=G0.cell 0;have e1:w4.cell? ⟨w.heap.size,1,none⟩=some (.bool m.an):=G0.cell 1;have e2:w4.cell? ⟨w.heap.size,2,none⟩=some (.bool m.ct):=G0.cell 2;have e3:w4.cell? ⟨w.heap.size,3,none⟩=some (.int .i64 m.co):=G0.cell 3;have e4:w4.cell? ⟨w.heap.size,4,none⟩=some (.string m.qn):=G0.cell 4;have e5:w4.cell? ⟨w.heap.size,5,none⟩=some (.int .i64 m.qt):=G0.cell 5;have e6:w4.cell? ⟨w.heap.size,6,none⟩=some (.slice a k c):=G0.cell 6;have g0:w4.cell? ⟨w.heap.size+1,0,none⟩=some (.int .i64 0):=G1.cell 0;simp[Leaves,settle,results,Tryz.results13,go_sem,e0,e1,e2,e3,e4,e5,e6,g0];rw[h1.out,h2.out];refine⟨msV m (.slice a k c),R1,rfl,((((F0.out HF.out (fun i hi=>by omega)).out F2 (fun i hi=>by omega)).out HF3.out (fun i hi=>hi.elim))).out F4 (fun i hi=>by omega),hR1.out,fun b hb=>?_,Amn (hy3.out.mono (fun b hb=>⟨hb,F4.block b (XH (hlt1.out b hb) (XI F2.size HF3.out.size)) (by have:=hn1.out b hb;omega)⟩) (Gle.refl _))⟩;rcases hR2.out b hb with g|⟨g1,g2⟩
  ·exact .inl g
  ·refine .inr ⟨XH g1 (XI F2.size (XI HF3.out.size F4.size)),?_⟩;rcases g2 with g2|g2
   ·omega
   ·exact XI F0.size g2
 ·obtain⟨h1,h2⟩:=hz.out hE;have h1:=hid h1;have h2:=hid h2
  go_wp2_with fail
  refine leaves_cons (f:=50) (args:= #[.pointer (some ⟨w.heap.size,0,none⟩),.pointer (some ⟨w.heap.size+1,0,none⟩)]) (by simp) (by simp[go_sem]) ?_;refine(Aah w.heap.size (w.heap.size+1) _).mono ?_
  rintro e u' w4 ⟨rfl,rfl,hw4⟩
  have F4:Fr (fun k=>k=w.heap.size∨k=w.heap.size+1) w3 w4:=by rw[hw4];exact(((((((((Fr.refl (fun k=>k=w.heap.size∨k=w.heap.size+1) w3).set_ (.inl rfl) 0 (.int .i64 0)).set_ (.inl rfl) 1 (.bool false)).set_ (.inl rfl) 2 (.bool false)).set_ (.inl rfl) 3 (.int .i64 0)).set_ (.inl rfl) 4 (.string ⟨#[]⟩)).set_ (.inl rfl) 5 (.int .i64 0)).set_ (.inl rfl) 6 (.slice none 0 0)).set_ (.inr rfl) 0 (.int .i64 1)).alloc_ (.cells #[] 103)
  have G0:Blk w4 w.heap.size 38 #[.int .i64 0,.bool false,.bool false,.int .i64 0,.string ⟨#[]⟩,.int .i64 0,.slice none 0 0]:=by rw[hw4];exact((((((((E0.set_ 0 (.int .i64 0)).set_ 1 (.bool false)).set_ 2 (.bool false)).set_ 3 (.int .i64 0)).set_ 4 (.string ⟨#[]⟩)).set_ 5 (.int .i64 0)).set_ 6 (.slice none 0 0)).far (p:=⟨w.heap.size+1,0,none⟩) (by simp) (.int .i64 1)).alloc (.cells #[] 103)
  have G1:Blk w4 (w.heap.size+1) 27 #[.int .i64 1]:=by rw[hw4];exact((((((((E1.far (p:=⟨w.heap.size,0,none⟩) (by simp) (.int .i64 0)).far (p:=⟨w.heap.size,1,none⟩) (by simp) (.bool false)).far (p:=⟨w.heap.size,2,none⟩) (by simp) (.bool false)).far (p:=⟨w.heap.size,3,none⟩) (by simp) (.int .i64 0)).far (p:=⟨w.heap.size,4,none⟩) (by simp) (.string ⟨#[]⟩)).far (p:=⟨w.heap.size,5,none⟩) (by simp) (.int .i64 0)).far (p:=⟨w.heap.size,6,none⟩) (by simp) (.slice none 0 0)).set_ 0 (.int .i64 1)).alloc (.cells #[] 103)
  clear hw4 e0 e1 e2 e3 e4 e5 e6 f0 g0 h0;have e0:w4.cell? ⟨w.heap.size,0,none⟩=some (.int .i64 0):=G0.cell 0;have e1:w4.cell? ⟨w.heap.size,1,none⟩=some (.bool false):=G0.cell 1;have e2:w4.cell? ⟨w.heap.size,2,none⟩=some (.bool false):=G0.cell 2;have e3:w4.cell? ⟨w.heap.size,3,none⟩=some (.int .i64 0):=G0.cell 3;have e4:w4.cell? ⟨w.heap.size,4,none⟩=some (.string ⟨#[]⟩):=G0.cell 4;have e5:w4.cell? ⟨w.heap.size,5,none⟩=some (.int .i64 0):=G0.cell 5;have e6:w4.cell? ⟨w.heap.size,6,none⟩=some (.slice none 0 0):=G0.cell 6;have g0:w4.cell? ⟨w.heap.size+1,0,none⟩=some (.int .i64 1):=G1.cell 0;simp[Leaves,settle,results,Tryz.results13,go_sem,e0,e1,e2,e3,e4,e5,e6,g0];rw[h1.out,h2.out];refine⟨.agg Kp,R1,rfl,((((F0.out HF.out (fun i hi=>by omega)).out F2 (fun i hi=>by omega)).out HF3.out (fun i hi=>hi.elim))).out F4 (fun i hi=>by omega),hR1.out,fun b hb=>?_,Ae9 _ _⟩;rcases hR2.out b hb with g|⟨g1,g2⟩
  ·exact .inl g
  ·refine .inr ⟨XH g1 (XI F2.size (XI HF3.out.size F4.size)),?_⟩;rcases g2 with g2|g2
   ·omega
   ·exact XI F0.size g2
theorem Ahm{s:ByteArray}:∀{n a:Nat} {L:List Rr} {a':Nat},Ig s n a=some (L,a')→L.length=n∧∀r∈L,r.nm.size≤1000∧r.tx.size≤s.size∧r.tg.size≤1000
 |0,a,L,a',h=>by
  unfold Ig at h;cases h;exact⟨rfl,fun r hr=>by cases hr⟩
 |n+1,a,L,a',h=>by
  unfold Ig at h;rcases e:Un s a with _|⟨r,a1⟩
  ·rw[e]at h;cases h
  rw[e,ZA]at h;simp only at h;rcases e2:Ig s n a1 with _|⟨L1,a2⟩
  ·rw[e2]at h;cases h
  rw[e2,ZA]at h;cases h;obtain⟨h1,h2⟩:=Ahm e2;have hb:=Ys e;refine⟨by rw[ZJ,h1],fun x hx=>?_⟩;rcases XC.1 hx with rfl|hx
  ·exact⟨hb.2.1,hb.2.2.1,hb.2.2.2⟩
  ·exact h2 x hx
theorem Ave{s:ByteArray}{m:Ms}(hs:s.size≤1000000)(h:Ut s=some m):m.Sized∧m.rs.length≤20:=by
 unfold Ut at h;rcases e1:Cb s 0 with _|⟨x1,a1⟩
 ·rw[e1]at h;cases h
 rw[e1,ZA]at h;simp only at h;rcases e2:Cr s a1 with _|⟨x2,a2⟩
 ·rw[e2]at h;cases h
 rw[e2,ZA]at h;simp only at h;rcases e3:Cr s a2 with _|⟨x3,a3⟩
 ·rw[e3]at h;cases h
 rw[e3,ZA]at h;simp only at h;split at h;rotate_left
 ·cases h
 rcases e4:Cb s a3 with _|⟨x4,a4⟩
 ·rw[e4]at h;cases h
 rw[e4,ZA]at h;simp only at h;split at h;rotate_left
 ·cases h
 rcases e5:Cb s a4 with _|⟨x5,a5⟩
 ·rw[e5]at h;cases h
 rw[e5,ZA]at h;simp only at h;split at h;rotate_left
 ·cases h
 rename_i c5;rcases e6:Cb s a5 with _|⟨x6,a6⟩
 ·rw[e6]at h;cases h
 rw[e6,ZA]at h;simp only at h;split at h;rotate_left
 ·cases h
 rcases e7:Cb s a6 with _|⟨x7,a7⟩
 ·rw[e7]at h;cases h
 rw[e7,ZA]at h;simp only at h;split at h;rotate_left
 ·cases h
 rcases e8:Ih s a7 with _|⟨x8,a8⟩
 ·rw[e8]at h;cases h
 rw[e8,ZA]at h;simp only at h;rcases e9:Cb s a8 with _|⟨x9,a9⟩
 ·rw[e9]at h;cases h
 rw[e9,ZA]at h;simp only at h;rcases e10:Cb s a9 with _|⟨x10,a10⟩
 ·rw[e10]at h;cases h
 rw[e10,ZA]at h;simp only at h;split at h;rotate_left
 ·cases h
 rcases e11:Ig s x5 a10 with _|⟨x11,a11⟩
 ·rw[e11]at h;cases h
 rw[e11,ZA]at h;simp only at h;split at h;rotate_left
 ·cases h
 cases h;obtain⟨h1,h2⟩:=Ahm e11;have h8:=(Hz e8).2;refine⟨⟨by show x8.size≤_;omega,fun r hr=>?_⟩,by show x11.length≤20;omega⟩;obtain⟨g1,g2,g3⟩:=h2 r hr;exact⟨by omega,by omega,by omega⟩
theorem Y7{s:ByteArray}(h:512<s.size):rdP s=(Kr,2):=if_pos h
theorem Z1{s:ByteArray}(h:¬512<s.size)(e:Ut s=none):rdP s=(Kr,1):=by unfold rdP;rw[if_neg h,e]
theorem Tw{s:ByteArray}{m:Ms}(h:¬512<s.size)(e:Ut s=some m):rdP s=if Bh m=0 then(m,0)else(Kr,1):=by unfold rdP;rw[if_neg h,e]
theorem As2(s:ByteArray)(w:World)(R:Nat→Prop)(hlt:∀b,R b→b<w.heap.size):Calls Tryz.prog 13 #[.string s] w (Af1 R w (rdP s).1 (rdP s).2):=by
 by_cases h:512<s.size
 ·rw[Y7 h];exact Ar1 s w (by omega) R hlt
 ·rcases e:Ut s with _|m
  ·rw[Z1 h e];exact Arh s w (by omega) R hlt (Afo e (by omega))
  ·obtain⟨h1,h2⟩:=Ave (by omega) e;rw[Tw h e];refine Aw9 s m w (by omega) R hlt (Aen e (by omega)) (Ww m h1 (by omega)) _ _ (fun he=>?_) (fun he=>?_)
   ·rw[if_pos he];exact⟨rfl,rfl⟩
   ·rw[if_neg he];exact⟨rfl,rfl⟩
theorem Yz(s:ByteArray):Fun Tryz.prog 13 [.c (.v (.string s))] [.c (.agg (rdP s).1.row),.c (.v (.int .i64 (rdP s).2))]:=by
 refine⟨⟨_,Tryz.func13,by kernel_rfl,by kernel_rfl⟩,fun w R xs hlt hp=>?_⟩;obtain⟨x,rfl⟩:∃x,xs=[x]:=by
  have hl:=hp.len;rcases xs with _|⟨x,_|⟨x',xs⟩⟩<;>simp at hl
  exact⟨x,rfl⟩
 have hx:x=.string s:=Bw (hp.ok 0 _ _ rfl rfl);subst hx;refine(As2 s w R hlt).mono ?_
 rintro e w' ⟨x,R',rfl,hf,h1,h2,h3⟩
 have hnb:∀b,¬A5 [.c (.agg (rdP s).1.row),.c (.v (.int .i64 (rdP s).2))] [x,.int .i64 (rdP s).2] b:=fun b=>Mo (by intro p hp;rcases XC.1 hp with rfl|hp;exact⟨_,rfl⟩;rcases XC.1 hp with rfl|hp;exact⟨_,rfl⟩;cases hp);refine⟨[x,.int .i64 (rdP s).2],R',rfl,⟨hf.os,hf.tape,hf.output,hf.size,fun k hk _=>hf.block k hk id⟩,h1,fun b hb=>(h2 b hb).imp id (fun g=>⟨g.1,.inr g.2⟩),⟨rfl,fun i p y q1 q2=>?_,fun i j T sz rows T' sz' rows' x y b hij q1=>?_,fun b hb=>(hnb b hb).elim⟩,fun b hb=>(hnb b hb).elim⟩
 ·rcases i with _|_|i
  ·cases q1;cases q2;exact h3
  ·cases q1;cases q2;exact .v _
  ·simp at q1
 ·rcases i with _|_|i<;>simp at q1
namespace Pl
def m0:Ms:=⟨258,false,false,0,⟨#[97,46,98]⟩,1,[]⟩
theorem Arb:Bh m0=0:=by decide+kernel
theorem Am5:(C5 m0).length=21:=by decide+kernel
theorem Aia{m:Ms}(h:Bh m=0)(hl:¬512<(C5 m).length):rdP ⟨(C5 m).toArray⟩=(m,0):=by
 obtain⟨h1,h2⟩:=Hw h;rw[Tw (by simpa[ByteArray.size]using hl) (Asg h1 h2),if_pos h]
end Pl
theorem Fun.sub1{P:Program}{f:FuncId}{u u':V}{rs:List Par}(h:Fun P f [.c u] rs)(hs:∀(w:World) (R:Nat→Prop) (x:Value),RV w R noG u' x→RV w R noG u x):Fun P f [.c u'] rs:=by
 refine⟨h.1,fun w R xs hlt hp=>?_⟩;obtain⟨x,rfl⟩:∃x,xs=[x]:=by
  have hl:=hp.len;rcases xs with _|⟨x,_|⟨x',xs⟩⟩<;>simp at hl
  exact⟨x,rfl⟩
 have hq:∀b,A5 [.c u] [x] b↔A5 [.c u'] [x] b:=fun b=>⟨fun h=>(Afc h).elim,fun h=>(Afc h).elim⟩;refine(h.2 w R [x] hlt (Ad1 (hs w R x (hp.ok 0 _ _ rfl rfl)))).mono ?_
 rintro e w' ⟨ys,R',h1,h2,h3,h4,h5,h6⟩
 exact⟨ys,R',h1,⟨h2.os,h2.tape,h2.output,h2.size,fun k hk hn=>h2.block k hk fun q=>hn ((hq k).1 q)⟩,h3,fun b hb=>(h4 b hb).imp id fun g=>⟨g.1,g.2.imp (hq b).1 id⟩,h5,fun b hb=>(h6 b hb).imp (hq b).1 id⟩
def Vu(m:Ms):List V:=[.v (.int .i64 m.id),.v (.bool m.an),.v (.bool m.ct),.v (.int .i64 m.co),.v (.string m.qn),.v (.int .i64 m.qt),.v (.slice none 0 0)]
theorem Afk{w:World}{R:Nat→Prop}{m:Ms}{x:Value}(hm:m.rs=[])(h:RV w R noG (.agg (Vu m)) x):RV w R noG (.agg m.row) x:=by
 cases h with
 |agg cs xs hl h=>
  obtain⟨x0,x1,x2,x3,x4,x5,x6,rfl⟩:∃x0 x1 x2 x3 x4 x5 x6,xs=[x0,x1,x2,x3,x4,x5,x6]:=by
   rcases xs with _|⟨x0,_|⟨x1,_|⟨x2,_|⟨x3,_|⟨x4,_|⟨x5,_|⟨x6,_|⟨x7,xs⟩⟩⟩⟩⟩⟩⟩⟩<;>simp[Vu]at hl;exact⟨_,_,_,_,_,_,_,rfl⟩
  have h0:=Bw (h 0 _ _ rfl rfl);have h1:=Bw (h 1 _ _ rfl rfl);have h2:=Bw (h 2 _ _ rfl rfl);have h3:=Bw (h 3 _ _ rfl rfl);have h4:=Bw (h 4 _ _ rfl rfl);have h5:=Bw (h 5 _ _ rfl rfl);have h6:=Bw (h 6 _ _ rfl rfl);subst h0 h1 h2 h3 h4 h5 h6;exact Amn (by rw[hm];exact .nil false none 0 (by simp))
theorem Arn:Fun Tryz.prog 9 [] [.c (.v (.bool true))]:=by
 obtain⟨w1,w2⟩:=Aiv Arb (by rw[Am5];decide);have r1:=Aia Arb (by rw[Am5];decide);have hW:=(Adv m0 ⟨by decide,by simp[m0]⟩ (by decide)).sub1 (u':=.agg (Vu m0)) fun w R x h=>Afk rfl h;rw[w1,w2]at hW;obtain⟨t,ht⟩:∃t:ByteArray,t=⟨(C5 m0).toArray⟩:=⟨_,rfl⟩;have hs:t.size=21:=by rw[ht];simpa[ByteArray.size]using Am5
 rw[←ht]at hW r1;have hR:=Yz t;rw[r1]at hR;simp only at hR;refine Av N9 rfl ?_;refine G0 ?_;refine .inl (cX hW ?_);refine G1 ?_;intro gg;refine .inl (cX hR ?_);(refine goI ?_;repeat (intro gg;refine goI ?_));rw[hs];refine G0 ?_;rw[show(m0.qn.toList==(⟨#[97,46,98]⟩:ByteArray).toList)=true from beq_self_eq_true _];(exact⟨[],aI⟩)
namespace Pl
def bA(l:List UInt8):ByteArray:=⟨l.toArray⟩
theorem Ale(l r:List UInt8):bA l++bA r=bA (l++r):=by
 apply ByteArray.ext;rw[ByteArray.data_append];simp[bA]
theorem Anu(l:List UInt8):(bA l).size=l.length:=by simp[bA,ByteArray.size]
theorem Ant(s:ByteArray):bA s.data.toList=s:=by simp[bA]
end Pl
namespace Pl
end Pl
section
open Go.Joins Go.ChangeShapes Go.WideShapes Go.Deep
def Bd1(B:Nat):V→Prop
 |.v (.string x)=>x.size≤B
 |_=>True
def Bd(B:Nat):V→Prop
 |.v (.string x)=>x.size≤B
 |.sl _ rows=>rows.length≤B∧∀row∈rows,∀u∈row,Bd1 B u
 |_=>True
theorem Bd.one{B:Nat}{u:V}(h:Bd B u):Bd1 B u:=by
 unfold Bd at h;unfold Bd1;split at h<;>simp_all
structure Bek{H:Type}(bk:DataW H→Nat):Prop where
 str:∀l,l.length≤bk (.lit (.string l))
 agg:∀ds d,d∈ds→bk d≤bk (.agg ds)
 sl:∀es sp,es.length≤bk (.slice es sp)∧∀d∈es,bk d≤bk (.slice es sp)
section
variable {H:Type} {enc:TypeId×Value→H} {P:Program} {w:World} {base:Nat} {spare:Nat→Bool} {held:Bool} {bk:DataW H→Nat} {B:Nat}
end
end

structure Bbu(m:Ms):Prop where
 sz:m.Sized
 ln:m.rs.length≤1048576
namespace Pl
def Fg(m:Ms)(n:Nat):Ms:=⟨m.id,m.an,m.ct||decide (n<m.rs.length),m.co,m.qn,m.qt,m.rs.take n⟩
theorem Aq0{m:Ms}(h:m.Good)(n:Nat):(Fg m n).Good:=⟨h.id,h.co,h.qn,h.qnz,h.qt,by show(m.rs.take n).length≤20;have:=h.len;rw[ZM];omega,fun r hr=>h.rs r (List.mem_of_mem_take hr)⟩
theorem Asu(m:Ms):Fg m m.rs.length=m:=by
 obtain⟨id,an,ct,co,qn,qt,rs⟩:=m;unfold Fg;simp
def Z4(m:Ms)(z:Int):Nat→ByteArray×Int
 |0=>if((C5 (Fg m 0)).length:Int)≤z then(bA (C5 (Fg m 0)),0)else(⟨#[]⟩,2)
 |n+1=>if((C5 (Fg m (n+1))).length:Int)≤z then(bA (C5 (Fg m (n+1))),0)else Z4 m z n
theorem Abs{m:Ms}{z:Int}{n:Nat}(h:((C5 (Fg m n)).length:Int)≤z):Z4 m z n=(bA (C5 (Fg m n)),0):=by
 cases n with
 |zero=>exact if_pos h
 |succ n=>exact if_pos h
theorem Aoc{m:Ms}{z:Int}{n:Nat}(h:¬((C5 (Fg m (n+1))).length:Int)≤z):Z4 m z (n+1)=Z4 m z n:=if_neg h
theorem Atv{m:Ms}{z:Int}(h:¬((C5 (Fg m 0)).length:Int)≤z):Z4 m z 0=(⟨#[]⟩,2):=if_neg h
def S6(m:Ms)(z:Int):ByteArray×Int:=bif !wIn z 12 512 then(⟨#[]⟩,3)else if Bh m≠0 then(⟨#[]⟩,Bh m)else Z4 m z m.rs.length
end Pl
set_option maxHeartbeats 2000000 in
theorem Ax6(m:Ms)(z:Int)(hm:Bbu m):Fun Tryz.prog 123 [.c (.agg m.row),.c (.v (.int .i64 z))] [.c (.v (.string (S6 m z).1)),.c (.v (.int .i64 (S6 m z).2))]:=by
 have hl:m.rs.length≤9223372036854775807:=by have:=hm.ln;omega
 have hC:=Ww m hm.sz hl;have e0:S6 m z=bif !wIn z 12 512 then(⟨#[]⟩,3)else if Bh m≠0 then(⟨#[]⟩,Bh m)else Z4 m z m.rs.length:=rfl
 refine Av Al9 rfl ?_;refine G1 ?_;intro gg;revert gg;intro gz;refine .inl (cX (Iw z 12 512) ?_);refine G1 ?_;intro gg;refine Aa (fun k0=>?_) (fun k0=>?_)<;>rw[k0]<;>rw[k0]at e0
 ·refine G0 ?_;rw[e0];(exact⟨[],aI⟩)
 ·simp only[cond_false]at e0;refine G0 ?_;refine .inl (cX hC ?_);refine G1 ?_;intro gg;by_cases he:Bh m=0
  ·rw[if_neg (by simp[he])]at e0;rw[show(Bh m !=0)=false by simp[he]];have hg:=(Hw he).1;have hln:=hg.len;refine G0 ?_;(refine⟨[],none,{n:Nat//n≤m.rs.length∧Z4 m z n=Z4 m z m.rs.length},[1,2],fun⟨n,hn,hf⟩=>[],[],fun⟨n,hn,hf⟩=>[(32,⟨gz,.b 38,7,[(Fg m n).row]⟩)],fun⟨n,hn,hf⟩=>n,trivial,fun _=>⟨trivial,fun _=>⟨⟨m.rs.length,ZT _,rfl⟩,tI,An _ _,?_,Am _ _⟩⟩,fun⟨n,hn,hf⟩=>?_⟩;focus (exact⟨congrArg (fun r=>some (Ent.mk gz (.b 38) 7 [r])) (show m.row=(Fg m m.rs.length).row by rw[Asu]),trivial⟩));have hw:Fun Tryz.prog 77 [.c (.agg (Fg m n).row)] [.c (.v (.string (bA (C5 (Fg m n)))))]:=Adr _ (Aq0 hg n);refine G0 ?_;refine .inl (cX hw ?_);refine G1 ?_;intro gg;rw[Anu];by_cases h1:((C5 (Fg m n)).length:Int)≤z
   ·rw[show decide (((C5 (Fg m n)).length:Int)≤z)=true from ZX h1];rw[←hf,Abs h1]at e0;refine G0 ?_;rw[e0];(exact⟨[],aI⟩)
   ·rw[show decide (((C5 (Fg m n)).length:Int)≤z)=false from ZY h1];rcases n with _|n
    ·rw[←hf,Atv h1]at e0;refine G0 ?_;rw[e0];(exact⟨[],aI⟩)
    ·have hlen:((Fg m (n+1)).rs.map Rr.row).length=n+1:=by
      show((m.rs.take (n+1)).map Rr.row).length=n+1;rw[ZE,ZM];omega
     have hsb:(((Fg m (n+1)).rs.map Rr.row).length:Int)-1=(n:Int):=by rw[hlen];omega
     have hsl:((((Fg m (n+1)).rs.map Rr.row).drop 0).take (n-0))=(Fg m n).rs.map Rr.row:=by
      show(((m.rs.take (n+1)).map Rr.row).drop 0).take n=(m.rs.take n).map Rr.row;rw[List.drop_zero,←List.map_take,List.take_take,Nat.min_eq_left (by omega)]
     have hct:(m.ct||decide (n<m.rs.length))=true:=by rw[show decide (n<m.rs.length)=true from ZX (by omega),Bool.or_true]
     have hrow:([.v (.int .i64 m.id),.v (.bool m.an),.v (.bool true),.v (.int .i64 m.co),.v (.string m.qn),.v (.int .i64 m.qt),.sl false ((Fg m n).rs.map Rr.row)]:List V)=(Fg m n).row:=by
      unfold Ms.row Fg;rw[hct]
     refine G0 ?_;rw[show((((Fg m (n+1)).rs.map Rr.row).length:Int)==0)=false by rw[hlen];exact ZG.2 (by omega)];refine G0 ?_;refine⟨0,n,rfl,⟨.i64,congrArg (fun x=>V.v (.int .i64 x)) hsb⟩,ZU _,by rw[hlen];omega,.inr ⟨_,Ao (k:=0) (l:=(Fg m (n+1)).rs) (by show 0<(m.rs.take (n+1)).length;rw[ZM];omega),rfl⟩,?_⟩;rw[hsl];refine G0 ?_;(exact⟨none,trivial,fun gr=>⟨⟨n,by omega,(Aoc h1).symm.trans hf⟩,by show n<n+1;omega,tI,tI,⟨congrArg (fun r=>some (Ent.mk gz (.b 38) 7 [r])) hrow,trivial⟩,tI⟩⟩)
  ·rw[if_pos he]at e0;rw[show(Bh m !=0)=true from ZZ.2 he];refine G0 ?_;rw[e0];(exact⟨[],aI⟩)
namespace Pl
def atB(s:ByteArray)(a:Nat):Nat:=match s[a]? with|some c=>c.toNat|none=>0
theorem Zs{s:ByteArray}{a:Nat}{c:UInt8}(h:s[a]? =some c):atB s a=c.toNat:=by unfold atB;rw[h]
theorem Y3(s:ByteArray)(a:Nat):atB s a<256:=by
 unfold atB;split
 ·exact UInt8.toNat_lt _
 ·omega
def Bcu(s:ByteArray)(a:Nat):Nat→Nat
 |0=>0
 |k+1=>256*Bcu s a k+atB s (a+k)
def Pw(s:ByteArray)(k a:Nat):Nat:=if a+k≤s.size then Bcu s a k else 0
def Fi(s:ByteArray)(k a:Nat):Nat:=if a+k≤s.size then a+k else max a s.size
def Afw(s:ByteArray)(k a:Nat)(b:Bool):Bool:=b||decide (s.size<a+k)
theorem Ll{s:ByteArray}{k a m:Nat}(h1:a≤m)(h2:s.size≤m):Fi s k a≤m:=by
 unfold Fi;split<;>omega
end Pl
namespace Pl
abbrev Pa:ByteArray:=⟨#[46]⟩
theorem Y1(l:List ByteArray):Dk Pa l=bA (Lib.join (l.map (·.data.toList)) [46]):=rfl
theorem Aoo(x:ByteArray):Dk Pa [x]=x:=by
 rw[Y1];simp[Lib.join,List.intercalate,Ant]
theorem Apa(l:List (List UInt8))(x sep:List UInt8)(h:l≠[]):Lib.join (l++[x]) sep=Lib.join l sep++(sep++x):=by
 rcases l with _|⟨y,l⟩
 ·exact absurd rfl h
 ·rw[List.cons_append,Lib.join_cons,Lib.join_cons];unfold Lib.joinTail;simp
theorem Am0(l:List ByteArray)(x:ByteArray)(h:l≠[]):Dk Pa (l++[x])=Dk Pa l++Pa++x:=by
 rw[Y1,Y1,ZI,List.map_cons,List.map_nil,Apa _ _ _ (by simpa using h)]
 conv=>rhs;rhs;rw[←Ant x]
 rw[show Pa=bA [46]from rfl,Ale,Ale,ZS]
theorem Ze{α:Type}{l:List α}{k:Nat}(h:k<l.length):l.take (k+1)=l.take k++[l[k]]:=by rw[XT,ZC h];rfl
theorem Aj2{l:List ByteArray}(h:0<l.length):Dk Pa (l.take 0)++l[0]=Dk Pa (l.take (0+1)):=by
 rw[Ze h,List.take_zero,List.nil_append,Aoo,show Dk Pa []=bA []from rfl]
 conv=>lhs;rhs;rw[←Ant l[0]]
 rw[Ale,List.nil_append,Ant]
theorem Alx{l:List ByteArray}{k:Nat}(h:k+1<l.length):Dk Pa (l.take (k+1))++Pa++l[k+1]=Dk Pa (l.take (k+1+1)):=by
 rw[Ze h,Am0 _ _ (by intro e;have:=congrArg List.length e;rw[ZM]at this;simp only[ZN]at this;omega)]
theorem Aqg(l:List ByteArray)(h:∀x∈l,x.size≤1000)(k:Nat)(hk:k≤l.length):(Dk Pa (l.take k)).size≤1001*k:=by
 induction k with
 |zero=>exact ZT 0
 |succ k ih=>
  have h1:=ih (by omega);have h2:=h _ (ZK (show k<l.length by omega));rcases k with _|k
  ·rw[←Aj2 (by omega),XP];omega
  ·rw[←Alx (by omega),XP,XP];have:Pa.size=1:=rfl;omega
end Pl
namespace Pl
def Aqy(s:ByteArray)(a:Nat):Nat→List UInt8
 |0=>[]
 |i+1=>Aqy s a i++[Ip (UInt8.ofNat (atB s (a+i)))]
theorem Arj(s:ByteArray)(a n:Nat):(Aqy s a n).length=n:=by
 induction n with
 |zero=>rfl
 |succ n ih=>show(Aqy s a n++[_]).length=n+1;rw[ZF,ih];rfl
def Rh(s:ByteArray):Nat→Nat→List ByteArray→Option Nat→Nat→Option (List ByteArray×Nat)×Nat
 |0,_,_,_,_=>(none,0)
 |f+1,a,l,e,fr=>
  if a+1≤s.size then
   if atB s a=0 then(some (l,e.getD (a+1)),0)
   else if 192≤atB s a then
    if a+2≤s.size∧(atB s a-192)*256+atB s (a+1)<fr then Rh s f ((atB s a-192)*256+atB s (a+1)) l (some (e.getD (a+2))) ((atB s a-192)*256+atB s (a+1))
    else(none,(atB s a-192)*256+atB s (a+1))
   else if a+1+atB s a≤s.size∧lab (Aqy s (a+1) (atB s a))=true∧l.length+1≤8 then Rh s f (Fi s (atB s a) (a+1)) (l++[bA (Aqy s (a+1) (atB s a))]) e fr
   else(none,Fi s (atB s a) (a+1))
  else(none,max a s.size)
def Akh(s:ByteArray)(a:Nat)(b:Bool):Option (List ByteArray×Nat)×Nat:=bif b then(none,a)else Rh s (a+10) a [] none a
def Nw(s:ByteArray)(a:Nat)(b:Bool):ByteArray×Nat×Bool:=match Akh s a b with
 |(some p,_)=>(Dk Pa p.1,p.2,false)
 |(none,x)=>(⟨#[]⟩,x,true)
def eI:Option Nat→Int
 |none=> -1
 |some x=>(x:Int)
structure NqI(s:ByteArray)(Q:Option (List ByteArray×Nat)×Nat)(a:Nat)(b:Bool)(l:List ByteArray)(e:Option Nat)(fr:Nat):Prop where
 ha:a≤1000000
 hl:l.length≤9
 hz:∀x∈l,x.size≤1000
 he:e.getD 0≤1000000
 hf:fr≤1000000
 no:b=false→l.length≤8∧∃f,fr+10≤f+l.length∧Rh s f a l e fr=Q
 yes:b=true→Q=(none,a)
section
variable {s:ByteArray} {Q:Option (List ByteArray×Nat)×Nat} {a fr:Nat} {l:List ByteArray} {e:Option Nat}
theorem NqI.out(h:NqI s Q a false l e fr)(c:¬a+1≤s.size):Q=(none,max a s.size):=by
 obtain⟨h8,f,hf,hq⟩:=h.no rfl;obtain⟨f,rfl⟩:∃f',f=f'+1:=⟨f-1,by omega⟩;rw[←hq,Rh,if_neg c]
theorem NqI.zero(h:NqI s Q a false l e fr)(c:a+1≤s.size)(c0:atB s a=0):Q=(some (l,e.getD (a+1)),0):=by
 obtain⟨h8,f,hf,hq⟩:=h.no rfl;obtain⟨f,rfl⟩:∃f',f=f'+1:=⟨f-1,by omega⟩;rw[←hq,Rh,if_pos c,if_pos c0]
theorem Bbe(s:ByteArray)(a:Nat):(atB s a-192)*256+atB s (a+1)≤1000000:=by
 have:=Y3 s a;have:=Y3 s (a+1);omega
theorem Awp{e:Option Nat}{x:Nat}(h:e.getD 0≤1000000)(hx:x≤1000000):(some (e.getD x)).getD 0≤1000000:=by
 cases e with
 |none=>exact hx
 |some y=>exact h
theorem Ba7(h:∀x∈l,x.size≤1000){n:Nat}(hn:n<256)(b:Nat):∀x∈l++[bA (Aqy s b n)],x.size≤1000:=fun x hx=>by
 rcases XM.1 hx with hx|hx
 ·exact h x hx
 ·rw[XN]at hx;subst hx;rw[Anu,Arj];omega
theorem Aln{b:Bool}{p:List ByteArray×Nat}{x:Nat}(h:Akh s a b=(some p,x)):Nw s a b=(Dk Pa p.1,p.2,false):=by unfold Nw;rw[h]
theorem Ajx{b:Bool}{x:Nat}(h:Akh s a b=(none,x)):Nw s a b=(⟨#[]⟩,x,true):=by unfold Nw;rw[h]
end
end Pl
namespace Pl
def Bbg(s:ByteArray)(a:Nat)(b:Bool):Nat×Bool:=bif b then(a,true)else(Fi s 2 a,(Pw s 2 a:Int) !=1)
def Ax9(a e:Nat)(b:Bool):Bool:=bif b then true else((a:Int) !=(e:Int))
def Att(s:ByteArray)(nm:ByteArray)(t ls a e:Nat):Option (Rr×Nat×Bool):=
 if t=1 then some (⟨nm,t,ls,Pw s 4 a,⟨#[]⟩,0,⟨#[]⟩⟩,Fi s 4 a,Ax9 (Fi s 4 a) e (Afw s 4 a false))
 else if t=16 then
  if Afw s 1 a false=true∨s.size<Fi s 1 a+Pw s 1 a then none
  else some (⟨nm,t,ls,0,s.extract (Fi s 1 a) (Fi s 1 a+Pw s 1 a),0,⟨#[]⟩⟩,Fi s 1 a+Pw s 1 a,Ax9 (Fi s 1 a+Pw s 1 a) e false)
 else if t=33 then
  some (⟨nm,t,ls,0,⟨#[]⟩,Pw s 2 (Fi s 4 a),(Nw s (Fi s 2 (Fi s 4 a)) (Afw s 2 (Fi s 4 a) ((Pw s 4 a:Int) !=0))).1⟩,
   (Nw s (Fi s 2 (Fi s 4 a)) (Afw s 2 (Fi s 4 a) ((Pw s 4 a:Int) !=0))).2.1,
   Ax9 (Nw s (Fi s 2 (Fi s 4 a)) (Afw s 2 (Fi s 4 a) ((Pw s 4 a:Int) !=0))).2.1 e (Nw s (Fi s 2 (Fi s 4 a)) (Afw s 2 (Fi s 4 a) ((Pw s 4 a:Int) !=0))).2.2)
 else some (⟨nm,t,ls,0,⟨#[]⟩,0,⟨#[]⟩⟩,a,Ax9 a e false)
def Ay8(s:ByteArray)(nm:ByteArray)(a1:Nat)(b1:Bool):Option (Rr×Nat×Bool):=
 let o:=Bbg s (Fi s 2 a1) (Afw s 2 a1 b1)
 if Afw s 6 o.1 o.2=true∨s.size<Fi s 6 o.1+Pw s 2 (Fi s 4 o.1)then none
 else Att s nm (Pw s 2 a1) (Pw s 4 o.1) (Fi s 6 o.1) (Fi s 6 o.1+Pw s 2 (Fi s 4 o.1))
def As8(s:ByteArray)(a:Nat):Option (Rr×Nat×Bool):=Ay8 s (Nw s a false).1 (Nw s a false).2.1 (Nw s a false).2.2
def Amt(s:ByteArray):Nat→Nat→Bool→List Rr→Option (List Rr×Nat×Bool)
 |0,a,b,L=>some (L,a,b)
 |n+1,a,b,L=>bif b then some (L,a,true)else(As8 s a).bind fun r=>Amt s n r.2.1 r.2.2 (L++[r.1])
structure Hd where
 id:Nat
 fl:Nat
 co:Nat
 one:Nat
 n:Nat
 z:Nat
def Hd.ok(h:Hd):Prop:=(h.fl=0∨h.fl=2∨h.fl=128∨h.fl=130)∧h.co≤15∧h.one=1∧h.n≤20∧h.z=0
instance (h:Hd):Decidable h.ok:=by unfold Hd.ok;exact inferInstance
theorem Z8{s:ByteArray}(hs:s.size≤1000000):∀(f a:Nat) (l:List ByteArray) (e:Option Nat) (fr:Nat),a≤1000000→e.getD 0≤1000000→l.length≤8→(∀x∈l,x.size≤1000)→
  (Rh s f a l e fr).2≤1000000∧∀p,(Rh s f a l e fr).1=some p→p.2≤1000000∧p.1.length≤8∧∀x∈p.1,x.size≤1000
 |0,a,l,e,fr,ha,he,hl,hz=>⟨ZU _,fun p h=>by cases h⟩
 |f+1,a,l,e,fr,ha,he,hl,hz=>by
  have ht:=Bbe s a;have hb:=Y3 s a;unfold Rh;split
  ·split
   ·refine⟨ZU _,fun p h=>?_⟩;cases h;refine⟨?_,hl,hz⟩;cases e with
    |none=>show a+1≤_;omega
    |some y=>exact he
   ·split
    ·split
     ·exact Z8 hs f _ l _ _ ht (Awp he (by omega)) hl hz
     ·exact⟨ht,fun p h=>by cases h⟩
    ·split
     ·rename_i h3;exact Z8 hs f _ _ e fr (Ll (by omega) hs) he (by rw[ZF];exact h3.2.2) (Ba7 hz hb _)
     ·exact⟨Ll (by omega) hs,fun p h=>by cases h⟩
  ·exact⟨by show max a s.size≤_;omega,fun p h=>by cases h⟩
theorem Ajs{s:ByteArray}(hs:s.size≤1000000){a:Nat}(ha:a≤1000000)(b:Bool):(Nw s a b).2.1≤1000000∧(Nw s a b).1.size≤10000:=by
 cases b with
 |true=>exact⟨ha,show(⟨#[]⟩:ByteArray).size≤10000 from by decide⟩
 |false=>
  obtain⟨h1,h2⟩:=Z8 hs (a+10) a [] none a ha (by simp) (by simp) (by simp);rcases hq:Rh s (a+10) a [] none a with⟨_|p,x⟩
  ·rw[Ajx (b:=false) hq];rw[hq]at h1;exact⟨h1,show(⟨#[]⟩:ByteArray).size≤10000 from by decide⟩
  ·rw[Aln (b:=false) hq];rw[hq]at h2;obtain⟨g1,g2,g3⟩:=h2 p rfl;refine⟨g1,?_⟩;have:=Aqg p.1 g3 p.1.length (ZT _);rw[XF]at this;show(Dk Pa p.1).size≤_;omega
theorem Awu{s:ByteArray}(hs:s.size≤1000000){a:Nat}(ha:a≤1000000)(b:Bool):(Bbg s a b).1≤1000000:=by
 cases b with
 |true=>exact ha
 |false=>exact Ll ha hs
structure Rr.Sh(r:Rr):Prop where
 nm:r.nm.size≤1000000
 tx:r.tx.size≤1000000
 tg:r.tg.size≤1000000
theorem Ate{s:ByteArray}(hs:s.size≤1000000){nm:ByteArray}(hn:nm.size≤10000){t ls a e:Nat}(ha:a≤1000000){r:Rr}{a':Nat}{b':Bool}(h:Att s nm t ls a e=some (r,a',b')):r.Sh∧a'≤1000000:=by
 have h0:(⟨#[]⟩:ByteArray).size=0:=rfl;unfold Att at h;split at h
 ·cases h;exact⟨⟨by show nm.size≤_;omega,by show(⟨#[]⟩:ByteArray).size≤_;omega,by show(⟨#[]⟩:ByteArray).size≤_;omega⟩,Ll ha hs⟩
 ·split at h
  ·split at h
   ·cases h
   ·rename_i h3;cases h;refine⟨⟨by show nm.size≤_;omega,?_,by show(⟨#[]⟩:ByteArray).size≤_;omega⟩,?_⟩
    ·show(s.extract (Fi s 1 a) (Fi s 1 a+Pw s 1 a)).size≤_;rw[ByteArray.size_extract];omega
    ·simp only[not_or]at h3;omega
  ·split at h
   ·cases h;obtain⟨g1,g2⟩:=Ajs hs (Ll (Ll ha hs) hs:Fi s 2 (Fi s 4 a)≤1000000) (Afw s 2 (Fi s 4 a) ((Pw s 4 a:Int) !=0));exact⟨⟨by show nm.size≤_;omega,by show(⟨#[]⟩:ByteArray).size≤_;omega,XI g2 (by decide)⟩,g1⟩
   ·cases h;exact⟨⟨by show nm.size≤_;omega,by show(⟨#[]⟩:ByteArray).size≤_;omega,by show(⟨#[]⟩:ByteArray).size≤_;omega⟩,ha⟩
theorem Avy{s:ByteArray}(hs:s.size≤1000000){a:Nat}(ha:a≤1000000){r:Rr}{a':Nat}{b':Bool}(h:As8 s a=some (r,a',b')):r.Sh∧a'≤1000000:=by
 obtain⟨g1,g2⟩:=Ajs hs ha false;unfold As8 Ay8 at h;simp only at h;split at h
 ·cases h
 ·exact Ate hs g2 (Ll (Awu hs (Ll g1 hs) _) hs) h
structure RsI(s:ByteArray)(n:Nat)(R:Option (List Rr×Nat×Bool))(k a:Nat)(b:Bool)(L:List Rr):Prop where
 hr:Amt s (n-k) a b L=R
 hk:k≤n
 hl:L.length=k
 ha:a≤1000000
 hz:∀r∈L,r.Sh
section
variable {s:ByteArray} {n k a:Nat} {R:Option (List Rr×Nat×Bool)} {L:List Rr} {b:Bool}
theorem RsI.next(h:RsI s n R k a false L)(hs:s.size≤1000000)(hk:k<n){r:Rr}{a':Nat}{b':Bool}(e:As8 s a=some (r,a',b')):RsI s n R (k+1) a' b' (L++[r]):=by
 have hb:=Avy hs h.ha e;refine⟨?_,hk,by rw[ZF,h.hl];rfl,hb.2,fun x hx=>?_⟩
 ·have:=h.hr;rw[show n-k=(n-(k+1))+1 by omega,Amt,e]at this;exact this
 ·rcases XM.1 hx with hx|hx
  ·exact h.hz x hx
  ·rw[XN.1 hx];exact hb.1
theorem RsI.none(h:RsI s n R k a false L)(hk:k<n)(e:As8 s a=none):R=none:=by
 rw[←h.hr,show n-k=(n-(k+1))+1 by omega,Amt,e];rfl
end
end Pl
namespace Pl
section
variable {s:ByteArray} {a:Nat}
end
end Pl
namespace Pl
section
variable {s:ByteArray} {nm:ByteArray} {t ls a e:Nat}
end
end Pl
namespace Pl
end Pl
namespace Pl
def Pb(e:Int):Int:=if e=8 then 4 else 0
noncomputable def Ld(k:Kn)(m:Ms)(G:Qr→List Sv):Ms:=
 if(Be m.qn).2≠0 then⟨m.id,true,false,if Pb (Be m.qn).2=0 then 3 else Pb (Be m.qn).2,m.qn,m.qt,[]⟩
 else if(Ik k (Be m.qn).1 m.qt (G (Be m.qn).1)).2.2≠0 then⟨m.id,true,false,2,m.qn,m.qt,[]⟩
 else⟨m.id,true,false,(Ik k (Be m.qn).1 m.qt (G (Be m.qn).1)).2.1,m.qn,m.qt,(Ik k (Be m.qn).1 m.qt (G (Be m.qn).1)).1⟩
end Pl
theorem Anj{env:Nat→V}{H:Nat→Option Ent}{ts:List RT}{cs cs':List V}(hG:Ia env H ts [.agg cs])(hc:Cn H [] cs cs'):∃us gone,Ia env H ts us∧Az H gone true gone us [.c (.agg cs')]:=⟨_,[],hG,.bora hc (.nil _)⟩
theorem Asx(e:Int):Fun Tryz.prog 194 [.c (.v (.int .i64 e))] [.c (.v (.int .i64 (Pb e)))]:=by
 refine Av Ab8 rfl ?_;refine G1 ?_;intro gg;refine⟨[],none,rfl,A9 rfl,rfl,?_⟩;refine G0 ?_;by_cases h:e=8
 ·subst h;refine⟨some (0,V.v (.int .i64 4)),rfl,?_⟩;refine G0 ?_;(exact⟨[],aI⟩)
 ·refine⟨none,?_,?_⟩
  ·show Gb (.int .i64) (.int .i64 e) [(.int .i64 8,.v (.int .i64 4))] 0=some none;simp[Gb,Instr.sameNow,show(e==8)=false from ZG.2 h]
  refine G0 ?_;rw[show Pb e=0 from if_neg h];(exact⟨[],aI⟩)
set_option maxHeartbeats 1000000 in
theorem Aq8(k:Kn)(m:Ms)(G:Qr→List Sv)(hm:m.qn.size≤1000000000000)(hR:(Be m.qn).2=0→Fun Tryz.prog 78 [.c (.agg (Be m.qn).1.row),.c (.v (.int .i64 m.qt)),.c (.v (.string k.here)),.c (.sl false (k.l.map Sv.row)),.c (.sl false (k.ms.map Mb.row)),.c (.agg k.f.row),.c (.sl false (k.wh.map Wh.row))]
   [.o 51 7 ((Ik k (Be m.qn).1 m.qt (G (Be m.qn).1)).1.map Rr.row),.c (.v (.int .i64 (Ik k (Be m.qn).1 m.qt (G (Be m.qn).1)).2.1)),.c (.v (.int .i64 (Ik k (Be m.qn).1 m.qt (G (Be m.qn).1)).2.2))]):
  Fun Tryz.prog 122 [.c (.agg m.row),.c (.v (.string k.here)),.c (.sl false (k.l.map Sv.row)),.c (.sl false (k.ms.map Mb.row)),.c (.agg k.f.row),.c (.sl false (k.wh.map Wh.row))] [.c (.agg (Ld k m G).row)]:=by
 have hP:=Sl m.qn hm;refine Ali X2 rfl ?_;(refine goI ?_;repeat (intro gg;refine goI ?_));refine .inl (cX hP ?_);unfold Ld;generalize Be m.qn=P at *;(refine goI ?_;repeat (intro gg;refine goI ?_));by_cases c:P.2=0;rotate_left
 ·rw[if_pos c,show(P.2 !=0)=true from ZZ.2 c];refine G0 ?_;refine .inl (cX (Asx P.2) ?_);refine G1 ?_;intro gg;by_cases d:Pb P.2=0
  ·rw[if_pos d,d];refine G0 ?_;exact Anj (.cell1 rfl rfl rfl rfl rfl rfl .nil) cBI
  ·rw[if_neg d,show(Pb P.2==0)=false from ZG.2 d];refine G0 ?_;exact Anj (.cell1 rfl rfl rfl rfl rfl rfl .nil) cBI
 have hR0:=hR c;rw[if_neg (by simpa using c),c];generalize Ik k P.1 m.qt (G P.1)=X at *;refine G0 ?_;refine .inl (cX hR0 ?_);refine G1 ?_;intro gg;by_cases d:X.2.2=0;rotate_left
 ·rw[if_pos d,show(X.2.2 !=0)=true from ZZ.2 d];refine G0 ?_;exact Anj (.cell1 rfl rfl rfl rfl rfl rfl .nil) cBI
 rw[if_neg (by simpa using d),d];refine G0 ?_;exact Anj (.cell1 rfl rfl rfl rfl rfl rfl .nil) cBI
namespace Pl
noncomputable def Jj(k:Kn)(s:ByteArray)(G:Qr→List Sv):Ms:=
 if(rdP s).2=0∧(rdP s).1.rs.length=0 then Ld k (rdP s).1 G else⟨((atB s 0*256+atB s 1:Nat):Int),true,false,1,⟨#[]⟩,1,[]⟩
noncomputable def Jo(k:Kn)(s:ByteArray)(G:Qr→List Sv):ByteArray×Bool×Int:=
 if k.err≠0 then(⟨#[]⟩,false,k.err)
 else if s.size<12∨128≤atB s 2 then(⟨#[]⟩,false,0)
 else((S6 (Jj k s G) 512).1,(S6 (Jj k s G) 512).2==0,(S6 (Jj k s G) 512).2)
end Pl
theorem Qd{u:V}(u':V){ps:List Par}{xs:List Value}{b:Nat}(h:A5 (.c u::ps) xs b):A5 (.c u'::ps) xs b:=by
 obtain⟨i,T,sz,rows,x,h1,h2⟩:=h;rcases i with _|i
 ·cases h1
 ·exact⟨i+1,T,sz,rows,x,h1,h2⟩
theorem Fun.sub_hd{P:Program}{f:FuncId}{u u':V}{ps rs:List Par}(h:Fun P f (.c u::ps) rs)(hs:∀(w:World) (R:Nat→Prop) (x:Value),RV w R noG u' x→RV w R noG u x):Fun P f (.c u'::ps) rs:=by
 refine⟨h.1,fun w R xs hlt hp=>?_⟩;have hp':Jd w R (.c u::ps) xs:=by
  refine⟨hp.len,fun i p x h1 h2=>?_,fun i j T sz rows T' sz' rows' x y b hij h1 h2 h3 h4=>?_,fun b hb=>hp.free b (Qd u' hb)⟩
  ·rcases i with _|i
   ·cases h1;exact hs w R x (hp.ok 0 _ _ rfl h2)
   ·exact hp.ok (i+1) p x h1 h2
  ·rcases i with _|i
   ·cases h1
   ·rcases j with _|j
    ·cases h2
    ·exact hp.apart (i+1) (j+1) T sz rows T' sz' rows' x y b hij h1 h2 h3 h4
 refine(h.2 w R xs hlt hp').mono ?_
 rintro e w' ⟨ys,R',h1,h2,h3,h4,h5,h6⟩
 exact⟨ys,R',h1,⟨h2.os,h2.tape,h2.output,h2.size,fun k hk hn=>h2.block k hk fun q=>hn (Qd u' q)⟩,h3,fun b hb=>(h4 b hb).imp id fun g=>⟨g.1,g.2.imp (Qd u') id⟩,h5,fun b hb=>(h6 b hb).imp (Qd u') id⟩
set_option maxHeartbeats 2000000 in
theorem Ap8(k:Kn)(s:ByteArray)(G:Qr→List Sv)(hk:k.In)(hs:s.size≤9223372036854775807)(hRd:Fun Tryz.prog 13 [.c (.v (.string s))] [.c (.agg (rdP s).1.row),.c (.v (.int .i64 (rdP s).2))])(hr:Fun Tryz.prog 122 [.c (.agg (rdP s).1.row),.c (.v (.string k.here)),.c (.sl false (k.l.map Sv.row)),.c (.sl false (k.ms.map Mb.row)),.c (.agg k.f.row),.c (.sl false (k.wh.map Wh.row))] [.c (.agg (Ld k (rdP s).1 G).row)])(hFit:Fun Tryz.prog 123 [.c (.agg (Jj k s G).row),.c (.v (.int .i64 512))] [.c (.v (.string (S6 (Jj k s G) 512).1)),.c (.v (.int .i64 (S6 (Jj k s G) 512).2))]):
  Fun Tryz.prog 62 [.c (.v (.string s)),.c (.v (.string k.here)),.c (.sl false (k.l.map Sv.row)),.c (.sl false (k.ms.map Mb.row)),.c (.agg k.f.row),.c (.sl false (k.wh.map Wh.row))]
   [.c (.v (.string (Jo k s G).1)),.c (.v (.bool (Jo k s G).2.1)),.c (.v (.int .i64 (Jo k s G).2.2))]:=by
 have hA:Jo k s G=(if k.err≠0 then(⟨#[]⟩,false,k.err)
  else if s.size<12∨128≤atB s 2 then(⟨#[]⟩,false,0)
  else((S6 (Jj k s G) 512).1,(S6 (Jj k s G) 512).2==0,(S6 (Jj k s G) 512).2):ByteArray×Bool×Int):=rfl
 refine Av Yc rfl ?_;refine G1 ?_;intro gg;refine .inl (cX (Adz k hk) ?_);refine G1 ?_;intro gg;by_cases c1:k.err=0;rotate_left
 ·rw[if_pos c1]at hA;rw[hA,show(k.err !=0)=true from ZZ.2 c1];refine G0 ?_;(exact⟨[],aI⟩)
 rw[if_neg (by simpa using c1)]at hA;rw[c1];refine G0 ?_;by_cases c2:s.size<12
 ·rw[if_pos (.inl c2)]at hA;rw[hA,show decide ((s.size:Int)<12)=true from ZX (by omega)];refine G0 ?_;(exact⟨[],aI⟩)
 rw[show decide ((s.size:Int)<12)=false from ZY (by omega)];obtain⟨b0,hb0⟩:∃c,s[0]? =some c:=⟨s[0],by simp⟩;obtain⟨b1,hb1⟩:∃c,s[1]? =some c:=⟨s[1],by simp⟩;obtain⟨b2,hb2⟩:∃c,s[2]? =some c:=⟨s[2],by simp⟩;have q0:=Zs hb0;have q1:=Zs hb1;have q2:=Zs hb2;have l0:=b0.toNat_lt;have l1:=b1.toNat_lt;refine G0 ?_;refine⟨2,b2,rfl,hb2,?_⟩;refine G0 ?_;by_cases c3:128≤atB s 2
 ·rw[if_pos (.inr c3)]at hA;rw[hA,show decide ((128:Int)≤(b2.toNat:Int))=true from ZX (by omega)];refine G0 ?_;(exact⟨[],aI⟩)
 rw[if_neg (fun z=>z.elim c2 c3)]at hA;rw[show decide ((128:Int)≤(b2.toNat:Int))=false from ZY (by omega)];refine G0 ?_;refine .inl (cX hRd ?_);(refine goI ?_;repeat (intro gg;refine goI ?_));refine⟨0,b0,rfl,hb0,?_⟩;refine G0 ?_;refine⟨by decide,_,Ati l0,?_⟩;refine G0 ?_;refine⟨1,b1,rfl,hb1,?_⟩;refine G0 ?_;refine⟨_,or8 l0 l1,?_⟩;refine G1 ?_;intro gg;rw[←q0,←q1];have hM:Jj k s G=(if(rdP s).2=0∧(rdP s).1.rs.length=0 then Ld k (rdP s).1 G else⟨((atB s 0*256+atB s 1:Nat):Int),true,false,1,⟨#[]⟩,1,[]⟩:Ms):=rfl;generalize Jj k s G=M at *;generalize rdP s=P at *;by_cases c4:P.2=0;rotate_left
 ·rw[if_neg (fun z=>c4 z.1)]at hM;have hFn:=hFit.sub_hd (u':=.agg (Vu M)) fun w R x h=>Afk (by rw[hM]) h;subst hM;rw[hA,show(P.2==0)=false from ZG.2 c4];refine G0 ?_;refine .inl (cX hFn ?_);refine G1 ?_;intro gg;(exact⟨[],aI⟩)
 rw[c4];refine G0 ?_;rw[ZE];by_cases c5:P.1.rs.length=0;rotate_left
 ·rw[if_neg (fun z=>c5 z.2)]at hM;have hFn:=hFit.sub_hd (u':=.agg (Vu M)) fun w R x h=>Afk (by rw[hM]) h;subst hM;rw[hA,show((P.1.rs.length:Int)==0)=false from ZG.2 (by omega)];refine G0 ?_;refine .inl (cX hFn ?_);refine G1 ?_;intro gg;(exact⟨[],aI⟩)
 rw[if_pos ⟨c4,c5⟩]at hM;rw[hA,c5];refine G0 ?_;refine .inl (cX hr ?_);refine G1 ?_;intro gg;rw[←hM];refine G0 ?_;refine .inl (cX hFit ?_);refine G1 ?_;intro gg;(exact⟨[],aI⟩)
namespace Pl
def L6(n:ByteArray)(K:List Sv):List Sv:=K.filter fun s=>s.nd.toList==n.toList
def Acn(ns:List ByteArray)(s:Sv):List ByteArray:=bif ns.any (fun n=>n.toList==s.nd.toList)then ns else ns++[s.nd]
def nms(K:List Sv):List ByteArray:=K.foldl Acn []
theorem Tu(K:List Sv)(s:Sv):nms (K++[s])=Acn (nms K) s:=by simp[nms,List.foldl_append]
theorem tEq{a b:ByteArray}:(a.toList==b.toList)=true↔a=b:=⟨fun h=>toList_inj (ZR.1 h),fun h=>by rw[h];exact beq_self_eq_true _⟩
theorem As4{ns:List ByteArray}{m:ByteArray}:ns.any (fun n=>n.toList==m.toList)=true↔m∈ns:=by
 rw[List.any_eq_true];exact⟨fun⟨n,h1,h2⟩=>tEq.1 h2▸h1,fun h=>⟨m,h,tEq.2 rfl⟩⟩
theorem Afb{ns:List ByteArray}{s:Sv}(h:s.nd∈ns):Acn ns s=ns:=by unfold Acn;rw[As4.2 h];rfl
theorem Aam{ns:List ByteArray}{s:Sv}(h:s.nd∉ns):Acn ns s=ns++[s.nd]:=by
 unfold Acn;rw[XE.2 (fun e=>h (As4.1 e))];rfl
theorem Abg:∀(K:List Sv) (ns:List ByteArray),(∀n,n∈K.foldl Acn ns↔n∈ns∨∃s∈K,s.nd=n)∧(ns.Nodup→(K.foldl Acn ns).Nodup)∧(K.foldl Acn ns).length≤ns.length+K.length
 |[],ns=>⟨fun n=>by simp,id,by simp⟩
 |s::K,ns=>by
  obtain⟨h1,h2,h3⟩:=Abg K (Acn ns s);by_cases h:s.nd∈ns
  ·rw[List.foldl_cons];rw[Afb h]at *;refine⟨fun n=>(h1 n).trans ⟨fun q=>q.imp id fun⟨t,a,b⟩=>⟨t,ZL _ a,b⟩,fun q=>?_⟩,h2,by simp only[ZJ];omega⟩;rcases q with q|⟨t,a,b⟩
   ·exact .inl q
   ·rcases XC.1 a with e|e
    ·subst e;exact .inl (b▸h)
    ·exact .inr ⟨t,e,b⟩
  ·rw[List.foldl_cons];rw[Aam h]at *;refine⟨fun n=>(h1 n).trans ?_,fun hn=>h2 ?_,by simp only[ZJ,ZF,ZN]at *;omega⟩
   ·rw[XM,XN];constructor
    ·rintro ((q|q)|⟨t,a,b⟩)
     ·exact .inl q
     ·exact .inr ⟨s,XB ..,q.symm⟩
     ·exact .inr ⟨t,ZL _ a,b⟩
    ·rintro (q|⟨t,a,b⟩)
     ·exact .inl (.inl q)
     ·rcases XC.1 a with e|e
      ·subst e;exact .inl (.inr b.symm)
      ·exact .inr ⟨t,e,b⟩
   ·rw[List.nodup_append];refine⟨hn,by simp,fun a ha b hb e=>?_⟩;rw[XN]at hb;subst hb;subst e;exact h ha
theorem Ank{K:List Sv}{n:ByteArray}:n∈nms K↔∃s∈K,s.nd=n:=((Abg K []).1 n).trans (by simp)
theorem Awj(K:List Sv):(nms K).length≤K.length:=by have:=(Abg K []).2.2;simpa[nms]using this
theorem Aey{K:List Sv}{n:ByteArray}(h:n∈nms K):∃s l,L6 n K=s::l∧s.nd=n:=by
 obtain⟨s,h1,h2⟩:=Ank.1 h;have hm:s∈L6 n K:=List.mem_filter.2 ⟨h1,tEq.2 h2⟩;cases hl:L6 n K with
 |nil=>rw[hl]at hm;cases hm
 |cons t l=>
  have:t∈L6 n K:=by rw[hl];exact XB ..
  exact⟨t,l,rfl,tEq.1 (List.mem_filter.1 this).2⟩
theorem Avq{K:List Sv}{n:ByteArray}(h:n∉nms K):L6 n K=[]:=List.filter_eq_nil_iff.2 fun s hs e=>h (Ank.2 ⟨s,hs,tEq.1 e⟩)
theorem Qh(K:List Sv)(s:Sv)(n:ByteArray):L6 n (K++[s])=L6 n K++(bif s.nd.toList==n.toList then [s]else []):=by
 unfold L6;rw[List.filter_append,List.filter_cons];cases s.nd.toList==n.toList<;>rfl
theorem Rj(k:ByteArray)(v:V):∀(l:List (ByteArray×V)) (o i:Nat) (u:V),look k l o=some (i,u)→look k (l.set (i-o) (k,v)) o=some (i,v)
 |[],o,i,u,h=>by simp[look]at h
 |(a,w)::es,o,i,u,h=>by
  unfold look at h;split at h
  ·simp only[ZD,Prod.mk.injEq]at h;obtain⟨rfl,rfl⟩:=h;simp[look]
  ·rename_i hk;have h1:=(Qk h).1;rw[show i-o=(i-(o+1))+1 by omega,List.set_cons_succ];unfold look;rw[if_neg hk];exact Rj k v es (o+1) i u h
theorem Xr{k k':ByteArray}(hne:k'≠k)(v:V):∀(l:List (ByteArray×V)) (o i:Nat) (u:V),look k l o=some (i,u)→look k' (l.set (i-o) (k,v)) o=look k' l o
 |[],o,i,u,h=>by simp[look]at h
 |(a,w)::es,o,i,u,h=>by
  unfold look at h;split at h
  ·rename_i hk;simp only[ZD,Prod.mk.injEq]at h;obtain⟨rfl,rfl⟩:=h;subst hk;simp[look,hne]
  ·rename_i hk;have h1:=(Qk h).1;rw[show i-o=(i-(o+1))+1 by omega,List.set_cons_succ];unfold look;rw[Xr hne v es (o+1) i u h]
theorem Vq{k k':ByteArray}(v:V):∀(l:List (ByteArray×V)) (o:Nat),look k' (l++[(k,v)]) o=(match look k' l o with
  |some r=>some r
  |none=>if k'=k then some (o+l.length,v)else none)
 |[],o=>by simp[look]
 |(a,w)::es,o=>by
  rw[List.cons_append];unfold look;split
  ·rfl
  ·rw[Vq v es (o+1),ZJ,show o+1+es.length=o+(es.length+1)by omega]
theorem Rv(k:ByteArray)(v:V)(l:List (ByteArray×V)):∃j,look k (put l k v) 0=some (j,v):=by
 unfold put;cases h:look k l 0 with
 |none=>exact⟨0+l.length,by simp only[];rw[Vq,h];simp⟩
 |some p=>obtain⟨i,u⟩:=p;exact⟨i,by simpa using Rj k v l 0 i u h⟩
theorem Lp{k k':ByteArray}(hne:k'≠k)(v:V)(l:List (ByteArray×V)):look k' (put l k v) 0=look k' l 0:=by
 unfold put;cases h:look k l 0 with
 |none=>simp only[];rw[Vq];cases look k' l 0<;>simp[hne]
 |some p=>obtain⟨i,u⟩:=p;simpa using Xr hne v l 0 i u h
theorem Ayv{a b:Sv}(h:a.row=b.row):a.nd=b.nd:=by
 unfold Sv.row at h;injection h with h _
 injection h with h;injection h
structure Grp(T:TypeId)(K:List Sv)(E:List (ByteArray×V))(ss:List SE):Prop where
 has:∀n∈nms K,∃j s,look n E 0=some (j,.v s.val)∧s∈ss∧s.T=T∧s.sz=9∧s.rows=(L6 n K).map Sv.row
 no:∀n,n∉nms K→look n E 0=none
theorem Grp.nil(T:TypeId):Grp T [] [] []:=⟨fun n h=>by simp[nms]at h,fun n _=>rfl⟩
theorem Grp.new{T:TypeId}{K:List Sv}{E:List (ByteArray×V)}{ss:List SE}(h:Grp T K E ss)(s:Sv)(hn:s.nd∉nms K)(b cap:Nat):Grp T (K++[s]) (put E s.nd (.v (SE.val ⟨T,9,b,cap,[s.row]⟩))) (⟨T,9,b,cap,[s.row]⟩::ss):=by
 have e:nms (K++[s])=nms K++[s.nd]:=by rw[Tu,Aam hn]
 constructor
 ·intro n hm;rw[e]at hm;by_cases hc:n=s.nd
  ·subst hc;obtain⟨j,hj⟩:=Rv s.nd (.v (SE.val ⟨T,9,b,cap,[s.row]⟩)) E;refine⟨j,_,hj,XB ..,rfl,rfl,?_⟩;rw[Qh,Avq hn,tEq.2 rfl];rfl
  ·have hm':n∈nms K:=by
    rcases XM.1 hm with q|q
    ·exact q
    ·exact absurd (XN.1 q) hc
   obtain⟨j,t,h1,h2,h3,h4,h5⟩:=h.has n hm';refine⟨j,t,by rw[Lp hc];exact h1,ZL _ h2,h3,h4,?_⟩;rw[Qh,XE.2 (fun q=>hc (tEq.1 q).symm),cond_false,List.append_nil];exact h5
 ·intro n hm;rw[e]at hm;rw[Lp (fun q=>hm (XM.2 (.inr (by rw[q];exact List.mem_singleton_self _))))];exact h.no n fun q=>hm (XM.2 (.inl q))
theorem Grp.old{T:TypeId}{K:List Sv}{E:List (ByteArray×V)}{ss1 ss2:List SE}{t:SE}(h:Grp T K E (ss1++t::ss2))(s:Sv)(hn:s.nd∈nms K)(ht:t.rows=(L6 s.nd K).map Sv.row)(b cap:Nat):
  Grp T (K++[s]) (put E s.nd (.v (SE.val ⟨T,9,b,cap,t.rows++[s.row]⟩))) (⟨T,9,b,cap,t.rows++[s.row]⟩::(ss1++ss2)):=by
 have e:nms (K++[s])=nms K:=by rw[Tu,Afb hn]
 constructor
 ·intro n hm;rw[e]at hm;by_cases hc:n=s.nd
  ·subst hc;obtain⟨j,hj⟩:=Rv s.nd (.v (SE.val ⟨T,9,b,cap,t.rows++[s.row]⟩)) E;refine⟨j,_,hj,XB ..,rfl,rfl,?_⟩;rw[Qh,tEq.2 rfl,cond_true,ZI,←ht];rfl
  ·obtain⟨j,u,h1,h2,h3,h4,h5⟩:=h.has n hm;refine⟨j,u,by rw[Lp hc];exact h1,ZL _ ?_,h3,h4,?_⟩
   ·rcases XM.1 h2 with q|q
    ·exact XM.2 (.inl q)
    ·rcases XC.1 q with q|q
     ·exfalso;subst q;obtain⟨x,l,p1,p2⟩:=Aey hm;obtain⟨y,l',r1,r2⟩:=Aey hn;rw[h5,p1,r1,List.map_cons,List.map_cons]at ht;injection ht with ht _
      exact hc (by rw[←p2,←r2];exact Ayv ht)
     ·exact XM.2 (.inr q)
   ·rw[Qh,XE.2 (fun q=>hc (tEq.1 q).symm),cond_false,List.append_nil];exact h5
 ·intro n hm;rw[e]at hm;rw[Lp (fun q=>hm (by rw[q];exact hn))];exact h.no n hm
def fK(k:Kn)(q:Qr):List Sv:=keep (fun s=>T8 k.ms s.nd) (Dp k.l q.sv q.tg).2
noncomputable def Fo(k:Kn)(q:Qr):List Sv:=((N0 (cfN (Gm k.f k.wh)) (nms (fK k q))).flatMap fun n=>L6 n (fK k q)).take 20
theorem Ang{K:List Sv}{m:Nat}(hK:K.length≤m):∀ns:List ByteArray,(ns.flatMap fun n=>L6 n K).length≤ns.length*m
 |[]=>by simp
 |n::ns=>by
  have h1:(L6 n K).length≤m:=XI (List.length_filter_le _ _) hK;have h2:=Ang hK ns;rw[List.flatMap_cons,ZF,ZJ,Nat.add_mul];omega
end Pl
namespace Pl
def Mn(K:List Sv):Prop:=K.Pairwise fun a b=>slt b.nd a.nd=false
theorem Bbc{l:List Sv}(h:Bt Sv.lt l=true):Mn l:=by
 rw[Mn,List.pairwise_iff_getElem];intro i j hi hj hij;have:=P1 Sv.lt_trans h j i hj hij;rcases Sv.lt_iff.1 this with q|⟨q,_⟩
 ·exact Vb q
 ·rw[q];exact Ft _
theorem Mn.filter{K:List Sv}(h:Mn K)(p:Sv→Bool):Mn (K.filter p):=List.Pairwise.filter p h
theorem Mn.take{K:List Sv}(h:Mn K)(n:Nat):Mn (K.take n):=h.sublist (List.take_sublist _ _)
theorem Asr{α:Type}{cf:α→α→Int}{d:List α}{x:α}(h:x∈N0 cf d):x∈d:=(List.mergeSort_perm d _).mem_iff.1 h
theorem Ar8{α:Type}{cf:α→α→Int}{d:List α}:(N0 cf d).length=d.length:=(List.mergeSort_perm d _).length_eq
theorem An2{k:Kn}{q:Qr}{s:Sv}(h:s∈Fo k q):s∈k.l∧T8 k.ms s.nd=false∧Sv.sought q.sv q.tg s=true:=by
 unfold Fo at h;have h:=List.mem_of_mem_take h;obtain⟨n,_,h2⟩:=List.mem_flatMap.1 h;have h3:=(List.mem_filter.1 h2).1;obtain⟨h4,h5⟩:=List.mem_filter.1 h3;have h6:s∈k.l∧Sv.sought q.sv q.tg s=true:=by
  unfold Dp at h4
  repeat' split at h4
  all_goals first
   |(simp at h4;done)
   |exact List.mem_filter.1 h4
 exact⟨h6.1,by simpa using h5,h6.2⟩
theorem Ana(k:Kn)(q:Qr):(Fo k q).length≤20:=by unfold Fo;rw[ZM];omega
theorem As5{k:Kn}(h:k.err=0):lab k.here.data.toList=true∧D3 k.l=0∧E5 k.ms=0∧k.wh.length≤20∧k.f.err=0∧D4 (k.wh.map fun w=>w.pl.err)=0:=by
 unfold Kn.err at h;cases h0:lab k.here.data.toList with
 |false=>rw[h0]at h;exact absurd h (by decide:¬(1:Int)=0)
 |true=>
  rw[h0]at h;simp only[Bool.not_true,cond_false]at h;by_cases h1:D3 k.l≠0
  ·rw[if_pos h1]at h;exact absurd h h1
  rw[if_neg h1]at h;by_cases h2:E5 k.ms≠0
  ·rw[if_pos h2]at h;exact absurd h h2
  rw[if_neg h2]at h;by_cases h3:20<k.wh.length
  ·rw[if_pos h3]at h;exact absurd h (by decide)
  rw[if_neg h3]at h;by_cases h4:k.f.err≠0
  ·rw[if_pos h4]at h;exact absurd h h4
  rw[if_neg h4]at h;exact⟨rfl,by simpa using h1,by simpa using h2,by omega,by simpa using h4,h⟩
theorem Axi{l:List Sv}(h:D3 l=0):∀s∈l,s.err=0:=fun s hs=>by
 obtain⟨i,hi,e⟩:=List.getElem_of_mem hs;rw[←e];exact(Iz h).2.1 i hi
end Pl
namespace Pl
theorem Lz:A1 ⟨#[]⟩=0:=by decide+kernel
theorem Afn:em ⟨#[]⟩=true:=by simp[em]
theorem Ah2{s:ByteArray}(h:A1 s=0):(B5 s).length≤249:=by
 obtain⟨h1,h2,_⟩:=Zd h;have:=U4 (l:=Bp s) (m:=30) fun x hx=>(Ak3 (h1 x hx)).2;unfold B5;rw[ZF,List.length_singleton];omega
theorem Sz{m:Ms}(h:m.Good):(C5 (Fg m 0)).length≤512:=by
 have h1:=Ah2 h.qn;have h2:(Fg m 0).rs=[]:=by show m.rs.take 0=[];simp
 unfold C5;rw[h2];simp only[ZF,Ay,ZJ,ZN];show 2*6+(B5 m.qn).length+2*2+0≤512;omega
theorem Y2{m:Ms}(h:m.Good):∀n,∃j,j≤n∧(C5 (Fg m j)).length≤512∧Z4 m 512 n=(bA (C5 (Fg m j)),0)
 |0=>⟨0,ZT _,Sz h,Abs (by have:=Sz h;omega)⟩
 |n+1=>by
  by_cases q:((C5 (Fg m (n+1))).length:Int)≤512
  ·exact⟨n+1,ZT _,by omega,Abs q⟩
  ·obtain⟨j,h1,h2,h3⟩:=Y2 h n;exact⟨j,by omega,h2,(Aoc q).trans h3⟩
theorem Amf{m:Ms}(h:Bh m=0):∃j,j≤m.rs.length∧(C5 (Fg m j)).length≤512∧S6 m 512=(bA (C5 (Fg m j)),0):=by
 have e0:S6 m 512=if Bh m≠0 then(⟨#[]⟩,Bh m)else Z4 m 512 m.rs.length:=rfl
 obtain⟨j,h1,h2,h3⟩:=Y2 (Hw h).1 m.rs.length;exact⟨j,h1,h2,by rw[e0,if_neg (by simp[h]),h3]⟩
theorem Qt{r:Rr}(h1:A1 r.nm=0)(h2:Mu r.ty=true)(h3:wIn r.ls 0 2147483647=true)(h4:r.un=true)(h5:wIn r.ad 0 4294967295=true)(h6:wIn r.pt 0 65535=true)(h7:r.tx.size≤200)(h8:A1 r.tg=0):Ee r=0:=by
 unfold Ee;rw[if_neg (by simp[h1]),h2,h3,h4,h5,h6,if_neg (by omega),h8];rfl
theorem Baa {s : Sv} (h : s.err = 0) : lab s.nd.data.toList = true ∧ lab s.id.data.toList = true ∧ wIn s.ad 0 4294967295 = true ∧ wIn s.pt 0 65535 = true := by
  unfold Sv.err at h
  repeat' split at h
  all_goals first
    | (simp at h; done)
    | (simp only [Sb] at *
       refine ⟨by assumption, by assumption, ?_, ?_⟩ <;> unfold wIn <;> simp_all)
theorem Awt{here nm:ByteArray}{t:Int}{s:Sv}(hs:s.err=0)(hn:A1 nm=0)(ht:Mu t=true)(e:(Hu here t nm s).2=0):Ee (Hu here t nm s).1=0:=by
 obtain⟨b1,b2,b3,b4⟩:=Baa hs;have w0:∀b:Int,0≤b→wIn 0 0 b=true:=fun b hb=>by unfold wIn;simp[hb]
 have hz:(⟨#[]⟩:ByteArray).size≤200:=by decide
 by_cases t1:t=1
 ·subst t1;rw[show Hu here 1 nm s=(⟨nm,1,0,s.ad,⟨#[]⟩,0,⟨#[]⟩⟩,0)from if_pos rfl];exact Qt hn rfl (w0 _ (by decide)) (by simp[Rr.un,Afn]) b3 (w0 _ (by decide)) hz Lz
 by_cases t16:t=16
 ·subst t16;rw[show Hu here 16 nm s=(⟨nm,16,0,0,s.id,0,⟨#[]⟩⟩,0)from(if_neg (by decide)).trans (if_pos rfl)];exact Qt hn rfl (w0 _ (by decide)) (by simp[Rr.un,Afn]) (w0 _ (by decide)) (w0 _ (by decide)) (by have:=(Ak3 b2).2;show s.id.size≤200;omega) Lz
 by_cases t33:t=33
 ·subst t33;have e0:Hu here 33 nm s=if(Au ⟨⟨#[]⟩,⟨#[]⟩,s.nd,here⟩).2≠0 then(⟨nm,33,0,0,⟨#[]⟩,0,⟨#[]⟩⟩,(Au ⟨⟨#[]⟩,⟨#[]⟩,s.nd,here⟩).2)
   else(⟨nm,33,0,0,⟨#[]⟩,s.pt,(Au ⟨⟨#[]⟩,⟨#[]⟩,s.nd,here⟩).1⟩,0):=rfl
  rw[e0]at e ⊢;by_cases c:(Au ⟨⟨#[]⟩,⟨#[]⟩,s.nd,here⟩).2=0
  ·rw[if_neg (by simpa using c)];obtain⟨p1,p2⟩:∃p,Au ⟨⟨#[]⟩,⟨#[]⟩,s.nd,here⟩=(p,0):=⟨_,Prod.ext rfl c⟩;obtain⟨_,q2,q3⟩:=Hc p2;refine Qt hn rfl (w0 _ (by decide)) (by simp[Rr.un,Afn]) (w0 _ (by decide)) b4 hz ?_;show A1 (Au ⟨⟨#[]⟩,⟨#[]⟩,s.nd,here⟩).1=0;rw[p2,←q3];exact q2
  ·rw[if_pos c]at e;exact absurd e c
 ·exfalso;simp[Mu,t1,t16,t33]at ht
structure Af4(x:List Rr×Int×Int):Prop where
 co:x.2.1=0∨x.2.1=3
 len:x.1.length≤20
 rs:∀r∈x.1,Ee r=0
theorem Aup{k:Kn}{q:Qr}{t:Int}{nm:ByteArray}{F:List Sv}(hn:A1 nm=0)(ht:Mu t=true)(hF:F.length≤20)(hs:∀s∈F,s.err=0):Af4 (P2 k q t nm F):=by
 unfold P2;by_cases h1:D4 (F.map fun s=>(Hu k.here t nm s).2)=0
 ·rw[if_neg (by simpa using h1)];split
  ·exact⟨.inr rfl,ZU _,fun r hr=>by cases hr⟩
  ·refine⟨.inl rfl,by simpa using hF,fun r hr=>?_⟩;obtain⟨s,h2,rfl⟩:=XO.1 hr;exact Awt (hs s h2) hn ht (Xh h1 _ (List.mem_map_of_mem h2))
 ·rw[if_pos h1];exact⟨.inl rfl,ZU _,fun r hr=>by cases hr⟩
theorem Asd{k:Kn}{q:Qr}{t:Int}{nm:ByteArray}(hn:A1 nm=0)(hm:E5 k.ms=0):Af4 ((Mw k q t nm).1,(Mw k q t nm).2,0):=by
 unfold Mw;split
 ·exact⟨.inr rfl,ZU _,fun r hr=>by cases hr⟩
 ·split
  ·exact⟨.inl rfl,ZU _,fun r hr=>by cases hr⟩
  ·rename_i t1;have t1:t=1:=by simpa using t1
   split
   ·rename_i m hm1;refine⟨.inl rfl,by simp,fun r hr=>?_⟩;obtain⟨hi,e⟩:=ZB.1 hm1;have hb:m.err=0:=by rw[←e];exact(Jb hm).2.1 _ hi
    have ha:wIn m.ad 0 4294967295=true:=by
     unfold Mb.err at hb
     repeat' split at hb
     all_goals first
      |(simp at hb;done)
      |(rename_i h;rw[ZO,Sb,Sb]at h;unfold wIn;simp[h.2.1,h.2.2])
    rw[XN.1 hr,t1];have w0:∀b:Int,0≤b→wIn 0 0 b=true:=fun b hb=>by unfold wIn;simp[hb]
    exact Qt hn rfl (w0 _ (by decide)) (by simp[Rr.un,Afn]) ha (w0 _ (by decide)) (by show(⟨#[]⟩:ByteArray).size≤200;decide) Lz
   ·exact⟨.inl rfl,ZU _,fun r hr=>by cases hr⟩
theorem Av1(k:Kn)(q:Qr)(t:Int):Af4 (Ik k q t (Fo k q)):=by
 have bad:∀e:Int,Af4 ([],0,e):=fun e=>⟨.inl rfl,ZU _,fun r hr=>by cases hr⟩;unfold Ik;by_cases h1:Rl k q t=0
 ·rw[if_neg (by simpa using h1)];by_cases h2:(Au q).2=0
  ·rw[if_neg (by simpa using h2)];obtain⟨p1,p2⟩:∃p,Au q=(p,0):=⟨_,Prod.ext rfl h2⟩;obtain⟨_,q2,q3⟩:=Hc p2;have hn:A1 (Au q).1=0:=by rw[p2,←q3];exact q2
   have hk:Mu t=true∧k.err=0:=by
    unfold Rl at h1;split at h1
    ·rename_i h;exact absurd h1 h
    ·split at h1
     ·cases h1
     ·rename_i h;exact⟨by simpa using h,h1⟩
   have hi:=As5 hk.2;split
   ·exact⟨.inr rfl,ZU _,fun r hr=>by cases hr⟩
   ·split
    ·exact Asd hn hi.2.2.1
    ·exact Aup hn hk.1 (Ana k q) fun s hs=>Axi hi.2.1 s (An2 hs).1
  ·rw[if_pos h2];exact bad _
 ·rw[if_pos h1];exact bad _
theorem Zj{l:List Int}(h:∀e∈l,e=0):D4 l=0:=Qs fun j hj=>h _ (ZK hj)
theorem Nm{m:Ms}(h1:wIn m.id 0 65535=true)(h2:wIn m.co 0 15=true)(h3:m.rs.length≤20)(h4:A1 m.qn=0)(h5:Mu m.qt=true)(h6:∀r∈m.rs,Ee r=0):Bh m=0:=by
 unfold Bh;rw[h1,h2,if_neg (by omega),if_neg (by simp[h4]),h5,Zj]
 ·rfl
 ·intro e he;obtain⟨r,hr,rfl⟩:=XO.1 he;exact h6 r hr
theorem Akd{m:Ms}(h:Bh m=0):wIn m.id 0 65535=true∧A1 m.qn=0∧Mu m.qt=true:=by
 obtain⟨hg,_⟩:=Hw h;refine⟨?_,hg.qn,?_⟩
 ·unfold wIn;simp[hg.id.1,hg.id.2]
 ·rcases hg.qt with e|e|e<;>rw[e]<;>rfl
theorem Ap1{k:Kn}{m:Ms}(h:Bh m=0):Bh (Ld k m (Fo k))=0∧(Ld k m (Fo k)).id=m.id∧(Ld k m (Fo k)).an=true∧(Ld k m (Fo k)).qn=m.qn∧(Ld k m (Fo k)).qt=m.qt:=by
 obtain⟨h1,h2,h3⟩:=Akd h;have c:∀n:Int,0≤n→n≤15→wIn n 0 15=true:=fun n a b=>by unfold wIn;simp[a,b]
 unfold Ld;split
 ·have cA:0≤(if Pb (Be m.qn).2=0 then(3:Int)else Pb (Be m.qn).2)∧(if Pb (Be m.qn).2=0 then(3:Int)else Pb (Be m.qn).2)≤15:=by
   unfold Pb
   repeat' split
   all_goals omega
  exact⟨Nm h1 (c _ cA.1 cA.2) (ZU _) h2 h3 (fun r hr=>by cases hr),rfl,rfl,rfl,rfl⟩
 ·split
  ·exact⟨Nm h1 rfl (ZU _) h2 h3 (fun r hr=>by cases hr),rfl,rfl,rfl,rfl⟩
  ·have hR:=Av1 k (Be m.qn).1 m.qt;exact⟨Nm h1 (c _ (by show 0≤(Ik k (Be m.qn).1 m.qt (Fo k (Be m.qn).1)).2.1;rcases hR.co with e|e<;>rw[e]<;>decide) (by show(Ik k (Be m.qn).1 m.qt (Fo k (Be m.qn).1)).2.1≤15;rcases hR.co with e|e<;>rw[e]<;>decide)) hR.len h2 h3 hR.rs,rfl,rfl,rfl,rfl⟩
theorem Afq(s:ByteArray):(∃x,rdP s=(x,0)∧Bh x=0)∨(rdP s).2≠0:=by
 by_cases hl:512<s.size
 ·rw[Y7 hl];exact .inr (by decide)
 ·rcases e:Ut s with _|m
  ·rw[Z1 hl e];exact .inr (by decide)
  ·rw[Tw hl e];by_cases he:Bh m=0
   ·rw[if_pos he];exact .inl ⟨m,rfl,he⟩
   ·rw[if_neg he];exact .inr (by decide)
theorem Ajf(k:Kn)(s:ByteArray):Bh (Jj k s (Fo k))=0:=by
 unfold Jj;split
 ·rename_i h;rcases Afq s with⟨x,e,hx⟩|e
  ·rw[e];exact(Ap1 hx).1
  ·exact absurd h.1 e
 ·refine Nm ?_ rfl (ZU _) Lz rfl (fun r hr=>by cases hr);have h0:=Y3 s 0;have h1:=Y3 s 1;show wIn ((atB s 0*256+atB s 1:Nat):Int) 0 65535=true;unfold wIn;rw[show decide ((0:Int)≤((atB s 0*256+atB s 1:Nat):Int))=true from ZX (by omega),show decide (((atB s 0*256+atB s 1:Nat):Int)≤65535)=true from ZX (by omega)];rfl
theorem Alv(k:Kn)(s:ByteArray):∃j,j≤(Jj k s (Fo k)).rs.length∧(C5 (Fg (Jj k s (Fo k)) j)).length≤512∧S6 (Jj k s (Fo k)) 512=(bA (C5 (Fg (Jj k s (Fo k)) j)),0):=Amf (Ajf k s)
end Pl
namespace Pl
instance:OneRow Sv.row 9:=⟨fun _=>rfl,fun x u hu=>by simp[Sv.row]at hu;rcases hu with rfl|rfl|rfl|rfl|rfl|rfl|rfl|rfl|rfl<;>exact⟨_,rfl,rfl⟩⟩
end Pl
theorem Agl(cl:Bool)(l:List Sv)(f:FuncId)(caps:List V)(hcaps:∀u∈caps,Cl u)(p:Sv→Bool)(hl:l.length≤1000)(hf:∀x∈l,Fun Tryz.prog f (.c (.agg (Sv.row x))::caps.map .c) [.c (.v (.bool (p x)))]):
  Fun Tryz.prog 269 [.c (.sl cl (l.map Sv.row)),.c (.clo f caps)] [.c (.v (.int .i64 (at_ p l)))]:=by
 refine Av Em rfl ?_;refine G0 ?_;rw[ZE];(refine⟨[],none,{k:Nat//k≤l.length∧∀j,(h:j<l.length)→j<k→p l[j]=false},[0,1,7],fun⟨k,hk,h0⟩=>[(8,.v (.int .i64 k))],[],fun⟨k,hk,h0⟩=>[],fun⟨k,hk,h0⟩=>l.length-k,trivial,fun _=>⟨trivial,fun _=>⟨⟨0,by omega,fun j _ h=>by omega⟩,tI,An _ _,tI,Am _ _⟩⟩,fun⟨k,hk,h0⟩=>?_⟩);refine G0 ?_;(refine Aa (fun h=>?_) (fun h=>?_)<;>rw[h])
 ·have hlt:k<l.length:=(by have:=ZV h;omega);refine G0 ?_;refine⟨k,_,rfl,Ao hlt,?_⟩;refine G0 ?_;refine .inl (cX (hf _ (ZK hlt)) ?_);refine G1 ?_;intro gg;(refine Aa (fun h2=>?_) (fun h2=>?_)<;>rw[h2])
  ·refine G0 ?_;rw[N4 hlt h0 h2];(exact⟨[],aI⟩)
  ·refine G0 ?_;(exact⟨none,trivial,fun _=>⟨⟨k+1,by omega,up1 (p:=fun j h=>p l[j]=false) h0 (fun _=>h2)⟩,by show l.length-(k+1)<l.length-k;omega,tI,tI,tI,tI⟩⟩)
 ·have hge:¬k<l.length:=(by have:=ZW h;omega);refine G0 ?_;rw[Ti (p:=p) (l:=l) (fun i hi=>h0 i hi (by omega))];(exact⟨[],aI⟩)
theorem Acp(l:List Sv)(f:FuncId)(caps:List V)(hcaps:∀u∈caps,Cl u)(p:Sv→Bool)(hl:l.length≤1000)(hf:∀x∈l,Fun Tryz.prog f (.c (.agg (Sv.row x))::caps.map .c) [.c (.v (.bool (p x)))]):
  Fun Tryz.prog 250 [.o 77 9 (l.map Sv.row),.c (.clo f caps)] [.o 77 9 ((keep p l).map Sv.row)]:=by
 refine Av Eh rfl ?_;refine G0 ?_;refine .inl (cY (Agl false l f caps hcaps p hl hf) ?_);rcases Afl (p:=p) (l:=l)with⟨h1,h2⟩|⟨k,hk,h1,h2,h3⟩
 ·rw[h1,Pl.keep_all (p:=p) (l:=l) h2];refine G1 ?_;intro gg;(exact⟨[0],aI⟩)
 ·rw[h1];refine G1 ?_;intro gg;(refine⟨[],none,{q:List Sv×Nat×Nat//Jr p l q.1 q.2.1 q.2.2},[0,1,36,37,39,40,41],fun⟨⟨l',i,j⟩,hm⟩=>[(5,.v (.int .i64 i)),(6,.v (.int .i64 j))],[],fun⟨⟨l',i,j⟩,hm⟩=>[(0,⟨0,77,9,l'.map Sv.row⟩)],fun⟨⟨l',i,j⟩,hm⟩=>l.length-j,trivial,fun _=>⟨trivial,fun _=>⟨⟨(l,k,k+1),Jr.start hk h2 h3⟩,tI,An _ _,tI,Am _ _⟩⟩,fun⟨⟨l',i,j⟩,hm⟩=>?_⟩);refine G0 ?_;have hm:Jr p l l' i j:=hm;have hlen:l'.length=l.length:=hm.len;(refine Aa (fun h=>?_) (fun h=>?_)<;>rw[h])
  ·have hlt:j<l'.length:=by have:=ZV h;simpa using this
   refine G0 ?_;refine⟨j,_,rfl,Ao hlt,?_⟩;refine G1 ?_;intro gg;have hj:j<l.length:=by omega
   have hx:l'[j]=l[j]:=hm.behind j hj (ZT _);rw[hx];refine .inl (cX (hf _ (ZK hj)) ?_);refine G1 ?_;intro gg;(refine Aa (fun h4=>?_) (fun h4=>?_)<;>rw[h4])
   ·have h4':p l[j]=false:=Dr h4;have hi:i<l'.length:=by have:=hm.ij;omega
    refine G0 ?_;refine⟨i,_,rfl,Ao hi,?_⟩;refine G0 ?_;have e:(l'.map Sv.row).set i (Sv.row l[j])=(l'.set i l[j]).map Sv.row:=List.map_set.symm;exact⟨none,trivial,fun gr=>⟨⟨(l'.set i l[j],i+1,j+1),hm.stays hj h4'⟩,by show l.length-(j+1)<l.length-j;omega,tI,tI,⟨congrArg (fun r=>some (Ent.mk 0 77 9 r)) e,trivial⟩,tI⟩⟩
   ·have h4':p l[j]=true:=Ci h4;refine G0 ?_;(exact⟨none,trivial,fun _=>⟨⟨(l',i,j+1),hm.gone hj h4'⟩,by show l.length-(j+1)<l.length-j;omega,tI,tI,tI,tI⟩⟩)
  ·have hge:¬j<l'.length:=by have:=ZW h;simpa using this
   have hi:i≤l'.length:=by have:=hm.ij;have:=hm.jl;omega
   refine G0 ?_;refine⟨1,i,(l'.map Sv.row).length,rfl,⟨_,rfl⟩,rfl,by simpa using hi,ZT _,?_⟩;refine G0 ?_;refine⟨by simpa using hi,ZT _,?_⟩;refine G0 ?_;refine⟨0,0,i,rfl,rfl,⟨_,rfl⟩,ZU _,?_,rfl,rfl,fun g=>?_⟩
   ·show i≤((l'.map Sv.row).take i++List.replicate ((l'.map Sv.row).length-i) _++(l'.map Sv.row).drop (l'.map Sv.row).length).length;simp only[ZF,ZM,ZE,List.length_replicate];omega
   refine G0 ?_;refine⟨[0],Ag8 rfl rfl rfl rfl rfl B6 ?_⟩;show((l'.map Sv.row).take i++List.replicate ((l'.map Sv.row).length-i) _++(l'.map Sv.row).drop (l'.map Sv.row).length).take i=(keep p l).map Sv.row;rw[ZS,List.take_append_of_le_length (by simp;omega),List.take_take,Nat.min_self,←hm.fin (by omega),List.map_take]
end Go.Proofs.YtkbjgdcdjccnaaaGreatDoor
