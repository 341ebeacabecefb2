/- Texts of this claim, joined. -/
import Derived.Test.YtbnocibpoghfhaaGreatDoorXa
import Derived.Test.YtbnocibpoghfhaaGreatDoorXb
import Derived.Test.YtbnocibpoghfhaaGreatDoorXc
import Derived.Test.YtbnocibpoghfhaaGreatDoorXd
import Derived.Test.YtbnocibpoghfhaaGreatDoorXe
import Derived.Test.YtbnocibpoghfhaaGreatDoorXf
set_option linter.unusedSimpArgs false
set_option linter.unusedVariables false
namespace Go.Proofs.YtbnocibpoghfhaaGreatDoor
open Go Go.RowKit Pl
def Au1:List V:=Af6 0 false false 0 ⟨#[]⟩ 0 (.v (.slice none 0 0))
def moO(s:ByteArray)(gz gb gs:Nat)(id:Int)(an ct:Bool)(co:Int)(qn:ByteArray)(qt:Int)(a:Nat)(b:Bool)(L:List Rr)(g:Nat):List (Nat×Ent):=
 match L with
 |[]=>[(32,⟨gz,.b 52,7,[Au1]⟩),(80,⟨gb,.b 52,7,[Af6 id an ct co qn qt (.v (.slice none 0 0))]⟩),(336,⟨gs,.b scT,3,[[.v (.string s),.v (.int .i64 (a:Int)),.v (.bool b)]]⟩)]
 |r::L=>[(32,⟨gz,.b 52,7,[Au1]⟩),(80,⟨gb,.b 52,7,[Af6 id an ct co qn qt (.own 3840 g)]⟩),(3840,⟨g,.t 42,7,(r::L).map Rr.row⟩),(336,⟨gs,.b scT,3,[[.v (.string s),.v (.int .i64 (a:Int)),.v (.bool b)]]⟩)]
theorem Ahb{m:Ms}(h1:m.qn.size≤1000000000000)(h2:∀r∈m.rs,r.Sh):m.Sized:=⟨h1,fun r hr=>⟨XI (h2 r hr).nm (by decide),XI (h2 r hr).tx (by decide),XI (h2 r hr).tg (by decide)⟩⟩
set_option maxHeartbeats 4000000 in
theorem Ao2(s:ByteArray):Fun Tryz.prog 32 [.c (.v (.string s))] [.c (.agg (Cs s).1.row),.c (.v (.int .i64 (Cs s).2))]:=by
 refine Aty (rcD:=H8 [true,true,true,true,true,true,true,true,true,true,true,false] Hx) Nz (by kernel_rfl) rfl ?_;refine G1 ?_;intro gg;revert gg;intro gz;by_cases c0:512<s.size
 ·have e:Cs s=(A9,2):=if_pos c0;rw[e,show decide ((512:Int)<(s.size:Int))=true from ZX (by omega)];refine G0 ?_;exact C2 (.cell1 rfl rfl rfl rfl rfl rfl (.tmp1 rfl .nil)) cBI (As rfl)
 have hs:s.size≤1000000:=by omega
 rw[show decide ((512:Int)<(s.size:Int))=false from ZY (by omega)];refine G1 ?_;intro gg;revert gg;intro gs;(refine .inr (.inl ⟨_,_,false,336::([]++[]),?_,Aw s 0 2 false hs (by omega) (by omega) (by omega),Ab,oI,dI,?_⟩);focus (exact wI));obtain⟨id,hid⟩:∃x,x=B6 s 2 0:=⟨_,rfl⟩;have bid:=E6 s 0 (show 2≤4 by omega);rw[←hid]at bid ⊢;(refine goI ?_;repeat (intro gg;refine goI ?_));revert gg;intro gb;(refine .inr (.inl ⟨_,_,false,336::([]++[]),?_,Aw s (Aq s 2 0) 1 (B7 s 2 0 false) hs (Bj (by omega) hs) (by omega) (by omega),Ab,oI,dI,?_⟩);focus (exact wI));rw[show Aq s 1 (Aq s 2 0)=Aq s 3 0 from Kw s 2 1 0,show B7 s 1 (Aq s 2 0) (B7 s 2 0 false)=B7 s 3 0 false from K2 s 2 1 0 false];obtain⟨fl,hfl⟩:∃x,x=B6 s 1 (Aq s 2 0):=⟨_,rfl⟩;have bfl:=E6 s (Aq s 2 0) (show 1≤4 by omega);rw[←hfl]at bfl ⊢;refine G1 ?_;intro gg;refine⟨by omega,((fl%4:Nat):Int),by rw[Int.tmod_eq_emod_of_nonneg (by omega)];omega,?_⟩;refine G0 ?_;(refine .inr (.inl ⟨_,_,false,336::([]++[]),?_,Aw s (Aq s 3 0) 1 (B7 s 3 0 false) hs (Bj (by omega) hs) (by omega) (by omega),Ab,oI,dI,?_⟩);focus (exact wI));rw[show Aq s 1 (Aq s 3 0)=Aq s 4 0 from Kw s 3 1 0,show B7 s 1 (Aq s 3 0) (B7 s 3 0 false)=B7 s 4 0 false from K2 s 3 1 0 false];obtain⟨co,hco⟩:∃x,x=B6 s 1 (Aq s 3 0):=⟨_,rfl⟩;have bco:=E6 s (Aq s 3 0) (show 1≤4 by omega);rw[←hco]at bco ⊢;refine G1 ?_;intro gg;(refine .inr (.inl ⟨_,_,false,336::([]++[]),?_,Aw s (Aq s 4 0) 2 (B7 s 4 0 false) hs (Bj (by omega) hs) (by omega) (by omega),Ab,oI,dI,?_⟩);focus (exact wI));rw[show Aq s 2 (Aq s 4 0)=Aq s 6 0 from Kw s 4 2 0,show B7 s 2 (Aq s 4 0) (B7 s 4 0 false)=B7 s 6 0 false from K2 s 4 2 0 false];obtain⟨one,hone⟩:∃x,x=B6 s 2 (Aq s 4 0):=⟨_,rfl⟩;have bone:=E6 s (Aq s 4 0) (show 2≤4 by omega);rw[←hone]at bone ⊢;refine G1 ?_;intro gg;(refine .inr (.inl ⟨_,_,false,336::([]++[]),?_,Aw s (Aq s 6 0) 2 (B7 s 6 0 false) hs (Bj (by omega) hs) (by omega) (by omega),Ab,oI,dI,?_⟩);focus (exact wI));rw[show Aq s 2 (Aq s 6 0)=Aq s 8 0 from Kw s 6 2 0,show B7 s 2 (Aq s 6 0) (B7 s 6 0 false)=B7 s 8 0 false from K2 s 6 2 0 false];obtain⟨n,hn⟩:∃x,x=B6 s 2 (Aq s 6 0):=⟨_,rfl⟩;have bn:=E6 s (Aq s 6 0) (show 2≤4 by omega);rw[←hn]at bn ⊢;refine G1 ?_;intro gg;(refine .inr (.inl ⟨_,_,false,336::([]++[]),?_,Aw s (Aq s 8 0) 4 (B7 s 8 0 false) hs (Bj (by omega) hs) (by omega) (by omega),Ab,oI,dI,?_⟩);focus (exact wI));rw[show Aq s 4 (Aq s 8 0)=Aq s 12 0 from Kw s 8 4 0,show B7 s 4 (Aq s 8 0) (B7 s 8 0 false)=B7 s 12 0 false from K2 s 8 4 0 false];obtain⟨z,hz⟩:∃x,x=B6 s 4 (Aq s 8 0):=⟨_,rfl⟩;have bz:=E6 s (Aq s 8 0) (show 4≤4 by omega);rw[←hz]at bz ⊢;refine G1 ?_;intro gg;rw[show decide ((128:Int)≤(fl:Int))=decide (128≤fl)from decide_eq_decide.2 (by omega),show decide ((2:Int)≤((fl%4:Nat):Int))=decide (2≤fl%4)from decide_eq_decide.2 (by omega)];have hH:hdS s=⟨id,fl,co,one,n,z⟩:=by rw[hid,hfl,hco,hone,hn,hz];rfl
 clear hid hfl hco hone hn hz;obtain⟨an,han⟩:∃x,x=decide (128≤fl):=⟨_,rfl⟩;obtain⟨ct,hct⟩:∃x,x=decide (2≤fl%4):=⟨_,rfl⟩;rw[←han,←hct];refine⟨PLift (12≤s.size∧(hdS s).ok),[],fun _=>[(0,.v (.string s)),(2,.ptr 32 gz 0 0),(4,.ptr 336 gs 0 0),(5,.ptr 80 gb 0 0),(8,.v (.int .i64 (n:Int)))],[],fun _=>[(32,⟨gz,.b 52,7,[Au1]⟩),(80,⟨gb,.b 52,7,[Af6 (id:Int) an ct (co:Int) ⟨#[]⟩ 0 (.v (.slice none 0 0))]⟩),(336,⟨gs,.b scT,3,[[.v (.string s),.v (.int .i64 ((Aq s 12 0:Nat):Int)),.v (.bool (B7 s 12 0 false))]]⟩)],?_,fun hx=>?_⟩
 ·refine G0 ?_;by_cases c12:12≤s.size;rotate_left
  ·have e3:=(Hn (s:=s) (k:=12) (a:=0) (b:=false) (by omega)).2.2;rw[e3];have e:Cs s=(A9,1):=by unfold Cs;rw[if_neg c0,if_neg (fun q=>c12 q.1)]
   rw[e];refine G0 ?_;exact C2 (.cell1 rfl rfl rfl rfl rfl rfl (.tmp1 rfl .nil)) cBI (As rfl)
  obtain⟨_,e2,e3⟩:=Cf (s:=s) (k:=12) (a:=0) (b:=false) (by omega);rw[e3];refine G0 ?_;by_cases f0:fl=0
  ·rw[show((fl:Int) !=0)=false from by simp;omega];refine G0 ?_;by_cases k1:co≤15;rotate_left
   ·rw[show(decide ((15:Int)<(co:Int)))=true from ZX (by omega)];have e:Cs s=(A9,1):=by unfold Cs;rw[if_neg c0,if_neg (fun q=>by rw[hH]at q;exact k1 q.2.2.1)]
    rw[e];refine G0 ?_;exact C2 (.cell1 rfl rfl rfl rfl rfl rfl (.tmp1 rfl .nil)) cBI (As rfl)
   rw[show(decide ((15:Int)<(co:Int)))=false from ZY (by omega)];refine G0 ?_;by_cases k2:one=1;rotate_left
   ·rw[show((one:Int) !=1)=true from ZZ.2 (by omega)];have e:Cs s=(A9,1):=by unfold Cs;rw[if_neg c0,if_neg (fun q=>by rw[hH]at q;exact k2 q.2.2.2.1)]
    rw[e];refine G0 ?_;exact C2 (.cell1 rfl rfl rfl rfl rfl rfl (.tmp1 rfl .nil)) cBI (As rfl)
   rw[show((one:Int) !=1)=false from by simp;omega];refine G0 ?_;by_cases k3:n≤20;rotate_left
   ·rw[show(decide ((20:Int)<(n:Int)))=true from ZX (by omega)];have e:Cs s=(A9,1):=by unfold Cs;rw[if_neg c0,if_neg (fun q=>by rw[hH]at q;exact k3 q.2.2.2.2.1)]
    rw[e];refine G0 ?_;exact C2 (.cell1 rfl rfl rfl rfl rfl rfl (.tmp1 rfl .nil)) cBI (As rfl)
   rw[show(decide ((20:Int)<(n:Int)))=false from ZY (by omega)];refine G0 ?_;by_cases k4:z=0;rotate_left
   ·rw[show((z:Int) !=0)=true from ZZ.2 (by omega)];have e:Cs s=(A9,1):=by unfold Cs;rw[if_neg c0,if_neg (fun q=>by rw[hH]at q;exact k4 q.2.2.2.2.2)]
    rw[e];refine G0 ?_;exact C2 (.cell1 rfl rfl rfl rfl rfl rfl (.tmp1 rfl .nil)) cBI (As rfl)
   rw[show((z:Int) !=0)=false from by simp;omega];refine G0 ?_;exact⟨⟨c12,by rw[hH];exact⟨.inl f0,k1,k2,k3,k4⟩⟩,tI,tI,tI,tI⟩
  rw[show((fl:Int) !=0)=true from ZZ.2 (by omega)];refine G0 ?_;by_cases f2:fl=2
  ·rw[show((fl:Int) !=2)=false from by simp;omega];refine G0 ?_;by_cases k1:co≤15;rotate_left
   ·rw[show(decide ((15:Int)<(co:Int)))=true from ZX (by omega)];have e:Cs s=(A9,1):=by unfold Cs;rw[if_neg c0,if_neg (fun q=>by rw[hH]at q;exact k1 q.2.2.1)]
    rw[e];refine G0 ?_;exact C2 (.cell1 rfl rfl rfl rfl rfl rfl (.tmp1 rfl .nil)) cBI (As rfl)
   rw[show(decide ((15:Int)<(co:Int)))=false from ZY (by omega)];refine G0 ?_;by_cases k2:one=1;rotate_left
   ·rw[show((one:Int) !=1)=true from ZZ.2 (by omega)];have e:Cs s=(A9,1):=by unfold Cs;rw[if_neg c0,if_neg (fun q=>by rw[hH]at q;exact k2 q.2.2.2.1)]
    rw[e];refine G0 ?_;exact C2 (.cell1 rfl rfl rfl rfl rfl rfl (.tmp1 rfl .nil)) cBI (As rfl)
   rw[show((one:Int) !=1)=false from by simp;omega];refine G0 ?_;by_cases k3:n≤20;rotate_left
   ·rw[show(decide ((20:Int)<(n:Int)))=true from ZX (by omega)];have e:Cs s=(A9,1):=by unfold Cs;rw[if_neg c0,if_neg (fun q=>by rw[hH]at q;exact k3 q.2.2.2.2.1)]
    rw[e];refine G0 ?_;exact C2 (.cell1 rfl rfl rfl rfl rfl rfl (.tmp1 rfl .nil)) cBI (As rfl)
   rw[show(decide ((20:Int)<(n:Int)))=false from ZY (by omega)];refine G0 ?_;by_cases k4:z=0;rotate_left
   ·rw[show((z:Int) !=0)=true from ZZ.2 (by omega)];have e:Cs s=(A9,1):=by unfold Cs;rw[if_neg c0,if_neg (fun q=>by rw[hH]at q;exact k4 q.2.2.2.2.2)]
    rw[e];refine G0 ?_;exact C2 (.cell1 rfl rfl rfl rfl rfl rfl (.tmp1 rfl .nil)) cBI (As rfl)
   rw[show((z:Int) !=0)=false from by simp;omega];refine G0 ?_;exact⟨⟨c12,by rw[hH];exact⟨.inr (.inl f2),k1,k2,k3,k4⟩⟩,tI,tI,tI,tI⟩
  rw[show((fl:Int) !=2)=true from ZZ.2 (by omega)];refine G0 ?_;by_cases f128:fl=128
  ·rw[show((fl:Int) !=128)=false from by simp;omega];refine G0 ?_;by_cases k1:co≤15;rotate_left
   ·rw[show(decide ((15:Int)<(co:Int)))=true from ZX (by omega)];have e:Cs s=(A9,1):=by unfold Cs;rw[if_neg c0,if_neg (fun q=>by rw[hH]at q;exact k1 q.2.2.1)]
    rw[e];refine G0 ?_;exact C2 (.cell1 rfl rfl rfl rfl rfl rfl (.tmp1 rfl .nil)) cBI (As rfl)
   rw[show(decide ((15:Int)<(co:Int)))=false from ZY (by omega)];refine G0 ?_;by_cases k2:one=1;rotate_left
   ·rw[show((one:Int) !=1)=true from ZZ.2 (by omega)];have e:Cs s=(A9,1):=by unfold Cs;rw[if_neg c0,if_neg (fun q=>by rw[hH]at q;exact k2 q.2.2.2.1)]
    rw[e];refine G0 ?_;exact C2 (.cell1 rfl rfl rfl rfl rfl rfl (.tmp1 rfl .nil)) cBI (As rfl)
   rw[show((one:Int) !=1)=false from by simp;omega];refine G0 ?_;by_cases k3:n≤20;rotate_left
   ·rw[show(decide ((20:Int)<(n:Int)))=true from ZX (by omega)];have e:Cs s=(A9,1):=by unfold Cs;rw[if_neg c0,if_neg (fun q=>by rw[hH]at q;exact k3 q.2.2.2.2.1)]
    rw[e];refine G0 ?_;exact C2 (.cell1 rfl rfl rfl rfl rfl rfl (.tmp1 rfl .nil)) cBI (As rfl)
   rw[show(decide ((20:Int)<(n:Int)))=false from ZY (by omega)];refine G0 ?_;by_cases k4:z=0;rotate_left
   ·rw[show((z:Int) !=0)=true from ZZ.2 (by omega)];have e:Cs s=(A9,1):=by unfold Cs;rw[if_neg c0,if_neg (fun q=>by rw[hH]at q;exact k4 q.2.2.2.2.2)]
    rw[e];refine G0 ?_;exact C2 (.cell1 rfl rfl rfl rfl rfl rfl (.tmp1 rfl .nil)) cBI (As rfl)
   rw[show((z:Int) !=0)=false from by simp;omega];refine G0 ?_;exact⟨⟨c12,by rw[hH];exact⟨.inr (.inr (.inl f128)),k1,k2,k3,k4⟩⟩,tI,tI,tI,tI⟩
  rw[show((fl:Int) !=128)=true from ZZ.2 (by omega)];refine G0 ?_;by_cases f130:fl=130
  ·rw[show((fl:Int) !=130)=false from by simp;omega];refine G0 ?_;by_cases k1:co≤15;rotate_left
   ·rw[show(decide ((15:Int)<(co:Int)))=true from ZX (by omega)];have e:Cs s=(A9,1):=by unfold Cs;rw[if_neg c0,if_neg (fun q=>by rw[hH]at q;exact k1 q.2.2.1)]
    rw[e];refine G0 ?_;exact C2 (.cell1 rfl rfl rfl rfl rfl rfl (.tmp1 rfl .nil)) cBI (As rfl)
   rw[show(decide ((15:Int)<(co:Int)))=false from ZY (by omega)];refine G0 ?_;by_cases k2:one=1;rotate_left
   ·rw[show((one:Int) !=1)=true from ZZ.2 (by omega)];have e:Cs s=(A9,1):=by unfold Cs;rw[if_neg c0,if_neg (fun q=>by rw[hH]at q;exact k2 q.2.2.2.1)]
    rw[e];refine G0 ?_;exact C2 (.cell1 rfl rfl rfl rfl rfl rfl (.tmp1 rfl .nil)) cBI (As rfl)
   rw[show((one:Int) !=1)=false from by simp;omega];refine G0 ?_;by_cases k3:n≤20;rotate_left
   ·rw[show(decide ((20:Int)<(n:Int)))=true from ZX (by omega)];have e:Cs s=(A9,1):=by unfold Cs;rw[if_neg c0,if_neg (fun q=>by rw[hH]at q;exact k3 q.2.2.2.2.1)]
    rw[e];refine G0 ?_;exact C2 (.cell1 rfl rfl rfl rfl rfl rfl (.tmp1 rfl .nil)) cBI (As rfl)
   rw[show(decide ((20:Int)<(n:Int)))=false from ZY (by omega)];refine G0 ?_;by_cases k4:z=0;rotate_left
   ·rw[show((z:Int) !=0)=true from ZZ.2 (by omega)];have e:Cs s=(A9,1):=by unfold Cs;rw[if_neg c0,if_neg (fun q=>by rw[hH]at q;exact k4 q.2.2.2.2.2)]
    rw[e];refine G0 ?_;exact C2 (.cell1 rfl rfl rfl rfl rfl rfl (.tmp1 rfl .nil)) cBI (As rfl)
   rw[show((z:Int) !=0)=false from by simp;omega];refine G0 ?_;exact⟨⟨c12,by rw[hH];exact⟨.inr (.inr (.inr f130)),k1,k2,k3,k4⟩⟩,tI,tI,tI,tI⟩
  rw[show((fl:Int) !=130)=true from ZZ.2 (by omega)];have e:Cs s=(A9,1):=by unfold Cs;rw[if_neg c0,if_neg (fun q=>by rw[hH]at q;have:=q.2.1;simp only at this;omega)]
  rw[e];refine G0 ?_;exact C2 (.cell1 rfl rfl rfl rfl rfl rfl (.tmp1 rfl .nil)) cBI (As rfl)
 obtain⟨⟨c12,hok⟩⟩:=hx;simp only[Ou,O8,Iz,Iv];obtain⟨_,e2,e3⟩:=Cf (s:=s) (k:=12) (a:=0) (b:=false) (by omega);rw[e2,e3];have hnb:=Uf hs (show 12≤1000000 by omega) false;obtain⟨nm,a1,b1,hN⟩:∃nm a1 b1,Dp s 12 false=(nm,a1,b1):=⟨_,_,_,rfl⟩;have hSN:=Rv s 12 false hs (by omega);rw[hN]at hSN hnb;simp only at hSN hnb;obtain⟨ha1,hnz⟩:=hnb;refine G0 ?_;(refine .inr (.inl ⟨_,_,false,336::([]++[]),?_,hSN,Ab,oI,dI,?_⟩);focus (exact wI));refine G1 ?_;intro gg;(refine .inr (.inl ⟨_,_,false,336::([]++[]),?_,Aw s a1 2 b1 hs ha1 (by omega) (by omega),Ab,oI,dI,?_⟩);focus (exact wI));obtain⟨qt,hqt⟩:∃x,x=B6 s 2 a1:=⟨_,rfl⟩;have bqt:=E6 s a1 (show 2≤4 by omega);rw[←hqt]at bqt ⊢;obtain⟨a2,ha2⟩:∃x,x=Aq s 2 a1:=⟨_,rfl⟩;obtain⟨b2,hb2⟩:∃x,x=B7 s 2 a1 b1:=⟨_,rfl⟩;have la2:a2≤1000000:=by rw[ha2];exact Bj ha1 hs
 rw[←ha2,←hb2];have hM:Cs s=match Gy s n (M1 s a2 b2).1 (M1 s a2 b2).2 []with
   |none=>(A9,1)
   |some (L,a,b)=>
    if b=false∧a=s.size∧A4 ⟨id,an,ct,co,nm,qt,L⟩=0 then(⟨id,an,ct,co,nm,qt,L⟩,0)
    else(A9,1):=by
  unfold Cs;subst han hct hqt ha2 hb2;rw[if_neg c0,if_pos ⟨c12,hok⟩,hN,hH]
  all_goals rfl
 clear hN hSN hH hqt ha2 hb2 han hct;refine G1 ?_;intro gg;cases b2;rotate_left
 ·have e:Cs s=(A9,1):=by
   rw[hM,show Gy s n (M1 s a2 true).1 (M1 s a2 true).2 []=some ([],a2,true)from RsI.stop (k:=0) (R:=Gy s n a2 true []) (RsI.start la2)];exact if_neg fun q=>by cases q.1
  rw[e];refine G0 ?_;(refine⟨[],none,Unit,[],fun _=>[(0,.v (.string s)),(2,.ptr 32 gz 0 0),(4,.ptr 336 gs 0 0),(5,.ptr 80 gb 0 0),(8,.v (.int .i64 (n:Int))),(10,.v (.int .i64 (0:Int)))],[],fun _=>[(32,⟨gz,.b 52,7,[Au1]⟩),(80,⟨gb,.b 52,7,[Af6 (id:Int) an ct (co:Int) nm (qt:Int) (.v (.slice none 0 0))]⟩),(336,⟨gs,.b scT,3,[[.v (.string s),.v (.int .i64 (a2:Int)),.v (.bool true)]]⟩)],fun _=>0,trivial,fun _=>⟨trivial,fun _=>⟨(),tI,Af _ _,tI,Ae _ _⟩⟩,fun _=>?_⟩);simp only[Ou,O8,Iz,Iv];refine G0 ?_;by_cases c1:0<n
  ·rw[show decide ((0:Int)<(n:Int))=true from ZX (by omega)];refine G0 ?_;exact C2 (.cell1 rfl rfl rfl rfl rfl rfl (.tmp1 rfl .nil)) cBI (As rfl)
  ·rw[show decide ((0:Int)<(n:Int))=false from ZY (by omega)];refine G0 ?_;exact C2 (.cell1 rfl rfl rfl rfl rfl rfl (.tmp1 rfl .nil)) cBI (As rfl)
 refine G0 ?_;(refine .inr (.inl ⟨_,_,false,336::([]++[]),?_,Aw s a2 2 false hs la2 (by omega) (by omega),Ab,oI,dI,?_⟩);focus (exact wI));obtain⟨R,hR⟩:∃R,R=Gy s n (M1 s a2 false).1 (M1 s a2 false).2 []:=⟨_,rfl⟩;have hI0:RsI s n R 0 (M1 s a2 false).1 (M1 s a2 false).2 []:=by rw[hR];exact RsI.start (Amq hs la2 false)
 rw[←hR]at hM;clear hR;refine G1 ?_;intro gg;(refine⟨[],none,{p:Nat×Nat×Bool×List Rr×Nat//RsI s n R p.1 p.2.1 p.2.2.1 p.2.2.2.1},[],fun⟨⟨k,a,b,L,g⟩,hp⟩=>[(0,.v (.string s)),(2,.ptr 32 gz 0 0),(4,.ptr 336 gs 0 0),(5,.ptr 80 gb 0 0),(8,.v (.int .i64 (n:Int))),(10,.v (.int .i64 (k:Int)))],[],fun⟨⟨k,a,b,L,g⟩,hp⟩=>moO s gz gb gs (id:Int) an ct (co:Int) nm (qt:Int) a b L g,fun⟨⟨k,a,b,L,g⟩,hp⟩=>n-k,trivial,fun _=>⟨trivial,fun _=>⟨⟨(0,(M1 s a2 false).1,(M1 s a2 false).2,[],0),hI0⟩,tI,Af _ _,tI,Ae _ _⟩⟩,fun⟨⟨k,a,b,L,g⟩,hp⟩=>?_⟩);simp only at hp;simp only[Ou,O8,Iz,Iv];have hla:=hp.ha;by_cases c11:k<n;rotate_left
 ·have hq:=hp.end_ c11;cases b;rotate_left
  ·rcases L with _|⟨r0,L⟩
   ·refine G0 ?_;rw[show decide ((k:Int)<(n:Int))=false from ZY (by omega)];refine G0 ?_;have e:Cs s=(A9,1):=by
     rw[hM,hq];exact if_neg fun q=>by cases q.1
    rw[e];refine G0 ?_;exact C2 (.cell1 rfl rfl rfl rfl rfl rfl (.tmp1 rfl .nil)) cBI (As rfl)
   ·refine G0 ?_;rw[show decide ((k:Int)<(n:Int))=false from ZY (by omega)];refine G0 ?_;have e:Cs s=(A9,1):=by
     rw[hM,hq];exact if_neg fun q=>by cases q.1
    rw[e];refine G0 ?_;exact C2 (.cell1 rfl rfl rfl rfl rfl rfl (.tmp1 rfl .nil)) cBI (As rfl)
  ·rcases L with _|⟨r0,L⟩
   ·refine G0 ?_;rw[show decide ((k:Int)<(n:Int))=false from ZY (by omega)];refine G0 ?_;by_cases f1:a=s.size;rotate_left
    ·rw[show((a:Int) !=(s.size:Int))=true from ZZ.2 (by omega)];have e:Cs s=(A9,1):=by
      rw[hM,hq];exact if_neg fun q=>f1 q.2.1
     rw[e];refine G0 ?_;exact C2 (.cell1 rfl rfl rfl rfl rfl rfl (.tmp1 rfl .nil)) cBI (As rfl)
    rw[show((a:Int) !=(s.size:Int))=false from by simp;omega];refine G0 ?_;(refine .inl ⟨_,_,true,[],aI,Tt ⟨id,an,ct,co,nm,qt,[]⟩ (Ahb (show nm.size≤_ by omega) hp.hz) (by have:=hp.hl;have:=hp.hk;show([]:List Rr).length≤_;omega),(fun _=>fI),nI,?_⟩);refine G1 ?_;intro gg;by_cases f2:A4 ⟨id,an,ct,co,nm,qt,[]⟩=0;rotate_left
    ·rw[show(A4 ⟨id,an,ct,co,nm,qt,[]⟩ !=0)=true from ZZ.2 f2];have e:Cs s=(A9,1):=by
      rw[hM,hq];exact if_neg fun q=>f2 q.2.2
     rw[e];refine G0 ?_;exact C2 (.cell1 rfl rfl rfl rfl rfl rfl (.tmp1 rfl .nil)) cBI (As rfl)
    rw[f2];refine G0 ?_;have e:Cs s=(⟨id,an,ct,co,nm,qt,[]⟩,0):=by
     rw[hM,hq];exact if_pos ⟨rfl,f1,f2⟩
    rw[e];exact C2 (.cell1 rfl rfl rfl rfl rfl rfl (.tmp1 rfl .nil)) cBI (As rfl)
   ·refine G0 ?_;rw[show decide ((k:Int)<(n:Int))=false from ZY (by omega)];refine G0 ?_;by_cases f1:a=s.size;rotate_left
    ·rw[show((a:Int) !=(s.size:Int))=true from ZZ.2 (by omega)];have e:Cs s=(A9,1):=by
      rw[hM,hq];exact if_neg fun q=>f1 q.2.1
     rw[e];refine G0 ?_;exact C2 (.cell1 rfl rfl rfl rfl rfl rfl (.tmp1 rfl .nil)) cBI (As rfl)
    rw[show((a:Int) !=(s.size:Int))=false from by simp;omega];refine G0 ?_;(refine .inl ⟨_,_,true,[],aI,Tt ⟨id,an,ct,co,nm,qt,r0::L⟩ (Ahb (show nm.size≤_ by omega) hp.hz) (by have:=hp.hl;have:=hp.hk;show(r0::L:List Rr).length≤_;omega),(fun _=>fI),nI,?_⟩);refine G1 ?_;intro gg;by_cases f2:A4 ⟨id,an,ct,co,nm,qt,r0::L⟩=0;rotate_left
    ·rw[show(A4 ⟨id,an,ct,co,nm,qt,r0::L⟩ !=0)=true from ZZ.2 f2];have e:Cs s=(A9,1):=by
      rw[hM,hq];exact if_neg fun q=>f2 q.2.2
     rw[e];refine G0 ?_;exact C2 (.cell1 rfl rfl rfl rfl rfl rfl (.tmp1 rfl .nil)) cBI (As rfl)
    rw[f2];refine G0 ?_;have e:Cs s=(⟨id,an,ct,co,nm,qt,r0::L⟩,0):=by
     rw[hM,hq];exact if_pos ⟨rfl,f1,f2⟩
    rw[e];exact C2 (.cell1 rfl rfl rfl rfl rfl rfl (.tmp1 rfl .nil)) cBI (As rfl)
 cases b;rotate_left
 ·have hq:=hp.stop;rcases L with _|⟨r0,L⟩
  ·refine G0 ?_;rw[show decide ((k:Int)<(n:Int))=true from ZX (by omega)];refine G0 ?_;have e:Cs s=(A9,1):=by
    rw[hM,hq];exact if_neg fun q=>by cases q.1
   rw[e];refine G0 ?_;exact C2 (.cell1 rfl rfl rfl rfl rfl rfl (.tmp1 rfl .nil)) cBI (As rfl)
  ·refine G0 ?_;rw[show decide ((k:Int)<(n:Int))=true from ZX (by omega)];refine G0 ?_;have e:Cs s=(A9,1):=by
    rw[hM,hq];exact if_neg fun q=>by cases q.1
   rw[e];refine G0 ?_;exact C2 (.cell1 rfl rfl rfl rfl rfl rfl (.tmp1 rfl .nil)) cBI (As rfl)
 have hnb:=Uf hs hla false;obtain⟨nn,a1,b1,hN⟩:∃nm a1 b1,Dp s a false=(nm,a1,b1):=⟨_,_,_,rfl⟩;have hSM:=Rv s a false hs hla;have hrec:Oj s a=Xx s nn a1 b1:=by unfold Oj;rw[hN]
 rw[hN]at hSM hnb;simp only at hSM hnb;obtain⟨ha1,hnz2⟩:=hnb;obtain⟨t,ht⟩:∃x,x=B6 s 2 a1:=⟨_,rfl⟩;obtain⟨a2,ha2⟩:∃x,x=Aq s 2 a1:=⟨_,rfl⟩;obtain⟨b2,hb2⟩:∃x,x=B7 s 2 a1 b1:=⟨_,rfl⟩;have bt:=E6 s a1 (show 2≤4 by omega);rw[←ht]at bt;have la2:a2≤1000000:=by rw[ha2];exact Bj ha1 hs
 unfold Xx at hrec;simp only at hrec;rw[←ht,←ha2,←hb2]at hrec;rcases L with _|⟨r0,L⟩
 ·refine G0 ?_;rw[show decide ((k:Int)<(n:Int))=true from ZX (by omega)];refine G1 ?_;intro gg;(refine .inr (.inl ⟨_,_,false,336::([]++[]),?_,hSM,Ab,oI,dI,?_⟩);focus (exact wI));refine G1 ?_;intro gg;(refine .inr (.inl ⟨_,_,false,336::([]++[]),?_,Aw s a1 2 b1 hs ha1 (by omega) (by omega),Ab,oI,dI,?_⟩);focus (exact wI));rw[←ht,←ha2,←hb2];refine G1 ?_;intro gg;cases b2;rotate_left
  ·refine G0 ?_;(refine .inr (.inl ⟨_,_,false,336::([]++[]),?_,Aw s a2 4 true hs la2 (by omega) (by omega),Ab,oI,dI,?_⟩);focus (exact wI));refine G1 ?_;intro gg;(refine .inr (.inl ⟨_,_,false,336::([]++[]),?_,Aw s (Aq s 4 a2) 2 (B7 s 4 a2 true) hs (Bj la2 hs) (by omega) (by omega),Ab,oI,dI,?_⟩);focus (exact wI));have b9:=E6 s (Aq s 4 a2) (show 2≤4 by omega);have b8:Aq s 2 (Aq s 4 a2)≤1000000:=Bj (Bj la2 hs) hs;refine G1 ?_;intro gg;have e:Cs s=(A9,1):=by rw[hM,hp.none c11 (hrec.trans (if_pos (.inl rfl)))]
   rw[e];refine G0 ?_;exact C2 (.cell1 rfl rfl rfl rfl rfl rfl (.tmp1 rfl .nil)) cBI (As rfl)
  refine G0 ?_;(refine .inr (.inl ⟨_,_,false,336::([]++[]),?_,Aw s a2 2 false hs la2 (by omega) (by omega),Ab,oI,dI,?_⟩);focus (exact wI));refine G1 ?_;intro gg;obtain⟨a3,ha3⟩:∃x,x=Aq s 2 a2:=⟨_,rfl⟩;obtain⟨b3,hb3⟩:∃x,x=((B6 s 2 a2:Int) !=1):=⟨_,rfl⟩;have la3:a3≤1000000:=by rw[ha3];exact Bj la2 hs
  rw[show M1 s a2 false=(a3,b3)from by rw[ha3,hb3];rfl]at hrec;simp only at hrec;rw[←ha3,←hb3];clear ha3 hb3;refine G0 ?_;(refine .inr (.inl ⟨_,_,false,336::([]++[]),?_,Aw s a3 4 b3 hs la3 (by omega) (by omega),Ab,oI,dI,?_⟩);focus (exact wI));obtain⟨ls,hls⟩:∃x,x=B6 s 4 a3:=⟨_,rfl⟩;have bls:=E6 s a3 (show 4≤4 by omega);rw[←hls]at bls hrec ⊢;refine G1 ?_;intro gg;(refine .inr (.inl ⟨_,_,false,336::([]++[]),?_,Aw s (Aq s 4 a3) 2 (B7 s 4 a3 b3) hs (Bj la3 hs) (by omega) (by omega),Ab,oI,dI,?_⟩);focus (exact wI));rw[show Aq s 2 (Aq s 4 a3)=Aq s 6 a3 from Kw s 4 2 a3,show B7 s 2 (Aq s 4 a3) (B7 s 4 a3 b3)=B7 s 6 a3 b3 from K2 s 4 2 a3 b3];obtain⟨kk,hkk⟩:∃x,x=B6 s 2 (Aq s 4 a3):=⟨_,rfl⟩;have bkk:=E6 s (Aq s 4 a3) (show 2≤4 by omega);rw[←hkk]at bkk hrec ⊢;obtain⟨a5,ha5⟩:∃x,x=Aq s 6 a3:=⟨_,rfl⟩;obtain⟨b5,hb5⟩:∃x,x=B7 s 6 a3 b3:=⟨_,rfl⟩;have la5:a5≤1000000:=by rw[ha5];exact Bj la3 hs
  rw[←ha5,←hb5]at hrec ⊢;clear hls hkk ha5 hb5;refine G1 ?_;intro gg;rw[show(a5:Int)+(kk:Int)=((a5+kk:Nat):Int)from by omega];refine G0 ?_;cases b5;rotate_left
  ·refine G0 ?_;have e:Cs s=(A9,1):=by rw[hM,hp.none c11 (hrec.trans (if_pos (.inl rfl)))]
   rw[e];refine G0 ?_;exact C2 (.cell1 rfl rfl rfl rfl rfl rfl (.tmp1 rfl .nil)) cBI (As rfl)
  refine G0 ?_;by_cases g1:s.size<a5+kk
  ·rw[show decide ((s.size:Int)<((a5+kk:Nat):Int))=true from ZX (by omega)];have e:Cs s=(A9,1):=by rw[hM,hp.none c11 (hrec.trans (if_pos (.inr g1)))]
   rw[e];refine G0 ?_;exact C2 (.cell1 rfl rfl rfl rfl rfl rfl (.tmp1 rfl .nil)) cBI (As rfl)
  rw[show decide ((s.size:Int)<((a5+kk:Nat):Int))=false from ZY (by omega)];rw[if_neg (fun q=>q.elim (fun q=>by cases q) g1)]at hrec;obtain⟨en,hen⟩:∃x,x=a5+kk:=⟨_,rfl⟩;rw[←hen]at hrec ⊢;clear hen g1;refine G0 ?_;by_cases t1:t=1
  ·rw[show((t:Int)==1)=true from ZR.2 (by omega)];have hbd:Oj s a=some ((⟨nn,t,ls,B6 s 4 a5,⟨#[]⟩,0,⟨#[]⟩⟩:Rr),Aq s 4 a5,Uk (Aq s 4 a5) en (B7 s 4 a5 false)):=hrec.trans (if_pos t1);refine G0 ?_;(refine .inr (.inl ⟨_,_,false,336::([]++[]),?_,Aw s a5 4 false hs la5 (by omega) (by omega),Ab,oI,dI,?_⟩);focus (exact wI));obtain⟨b6,hb6⟩:∃x,x=B7 s 4 a5 false:=⟨_,rfl⟩;rw[←hb6]at hbd ⊢;clear hb6;refine G1 ?_;intro gg;cases b6;rotate_left
   ·refine G1 ?_;intro gg;refine⟨lI,lI,?_⟩;refine G1 ?_;intro gg;(exact⟨none,trivial,fun gr=>⟨⟨(k+1,Aq s 4 a5,true,([]:List Rr)++[(⟨nn,t,ls,B6 s 4 a5,⟨#[]⟩,0,⟨#[]⟩⟩:Rr)],gg),hp.next hs c11 (hbd)⟩,by show n-(k+1)<n-k;omega,tI,tI,⟨rfl,⟨rfl,⟨rfl,⟨rfl,trivial⟩⟩⟩⟩,tI⟩⟩)
   refine G1 ?_;intro gg;refine⟨lI,lI,?_⟩;refine G1 ?_;intro gg;(exact⟨none,trivial,fun gr=>⟨⟨(k+1,Aq s 4 a5,(Aq s 4 a5:Int) !=(en:Int),([]:List Rr)++[(⟨nn,t,ls,B6 s 4 a5,⟨#[]⟩,0,⟨#[]⟩⟩:Rr)],gg),hp.next hs c11 (hbd)⟩,by show n-(k+1)<n-k;omega,tI,tI,⟨rfl,⟨rfl,⟨rfl,⟨rfl,trivial⟩⟩⟩⟩,tI⟩⟩)
  by_cases t16:t=16
  ·rw[show((t:Int)==1)=false from ZG.2 (by omega)];have hb16:=hrec.trans ((if_neg t1).trans (if_pos t16));refine G0 ?_;rw[show((t:Int)==16)=true from ZR.2 (by omega)];refine G0 ?_;(refine .inr (.inl ⟨_,_,false,336::([]++[]),?_,Aw s a5 1 false hs la5 (by omega) (by omega),Ab,oI,dI,?_⟩);focus (exact wI));obtain⟨a6,ha6⟩:∃x,x=Aq s 1 a5:=⟨_,rfl⟩;obtain⟨b6,hb6⟩:∃x,x=B7 s 1 a5 false:=⟨_,rfl⟩;obtain⟨k6,hk6⟩:∃x,x=B6 s 1 a5:=⟨_,rfl⟩;have bk6:=E6 s a5 (show 1≤4 by omega);have la6:a6≤1000000:=by rw[ha6];exact Bj la5 hs
   rw[←hk6]at bk6;rw[←ha6,←hb6,←hk6]at hb16 ⊢;clear ha6 hb6 hk6;refine G1 ?_;intro gg;cases b6;rotate_left
   ·refine G0 ?_;have e:Cs s=(A9,1):=by rw[hM,hp.none c11 (hb16.trans (if_pos (.inl rfl)))]
    rw[e];refine G0 ?_;exact C2 (.cell1 rfl rfl rfl rfl rfl rfl (.tmp1 rfl .nil)) cBI (As rfl)
   refine G0 ?_;rw[show(a6:Int)+(k6:Int)=((a6+k6:Nat):Int)from by omega];by_cases g2:s.size<a6+k6
   ·rw[show decide ((s.size:Int)<((a6+k6:Nat):Int))=true from ZX (by omega)];have e:Cs s=(A9,1):=by rw[hM,hp.none c11 (hb16.trans (if_pos (.inr g2)))]
    rw[e];refine G0 ?_;exact C2 (.cell1 rfl rfl rfl rfl rfl rfl (.tmp1 rfl .nil)) cBI (As rfl)
   rw[show decide ((s.size:Int)<((a6+k6:Nat):Int))=false from ZY (by omega)];have hbd:Oj s a=some ((⟨nn,t,ls,0,s.extract a6 (a6+k6),0,⟨#[]⟩⟩:Rr),a6+k6,Uk (a6+k6) en false):=hb16.trans (if_neg (fun q=>q.elim (fun q=>by cases q) g2));refine G0 ?_;refine⟨a6,a6+k6,⟨_,rfl⟩,⟨.i64,congrArg (fun x=>V.v (.int .i64 x)) (show(a6:Int)+(k6:Int)=((a6+k6:Nat):Int)by omega)⟩,Nat.le_add_right _ _,by omega,?_⟩;refine G1 ?_;intro gg;rw[show(a6:Int)+(k6:Int)=((a6+k6:Nat):Int)from by omega];refine G0 ?_;refine⟨lI,lI,?_⟩;refine G1 ?_;intro gg;(exact⟨none,trivial,fun gr=>⟨⟨(k+1,a6+k6,((a6+k6:Nat):Int) !=(en:Int),([]:List Rr)++[(⟨nn,t,ls,0,s.extract a6 (a6+k6),0,⟨#[]⟩⟩:Rr)],gg),hp.next hs c11 (hbd)⟩,by show n-(k+1)<n-k;omega,tI,tI,⟨rfl,⟨rfl,⟨rfl,⟨rfl,trivial⟩⟩⟩⟩,tI⟩⟩)
  by_cases t33:t=33
  ·rw[show((t:Int)==1)=false from ZG.2 (by omega)];have hbd:=hrec.trans ((if_neg t1).trans ((if_neg t16).trans (if_pos t33)));refine G0 ?_;rw[show((t:Int)==16)=false from ZG.2 (by omega)];refine G0 ?_;rw[show((t:Int)==33)=true from ZR.2 (by omega)];refine G0 ?_;(refine .inr (.inl ⟨_,_,false,336::([]++[]),?_,Aw s a5 4 false hs la5 (by omega) (by omega),Ab,oI,dI,?_⟩);focus (exact wI));refine G1 ?_;intro gg;obtain⟨a6,ha6⟩:∃x,x=Aq s 4 a5:=⟨_,rfl⟩;obtain⟨b6,hb6⟩:∃x,x=((B6 s 4 a5:Int) !=0):=⟨_,rfl⟩;have la6:a6≤1000000:=by rw[ha6];exact Bj la5 hs
   rw[←ha6,←hb6]at hbd ⊢;clear ha6 hb6;refine G0 ?_;(refine .inr (.inl ⟨_,_,false,336::([]++[]),?_,Aw s a6 2 b6 hs la6 (by omega) (by omega),Ab,oI,dI,?_⟩);focus (exact wI));obtain⟨p6,hp6⟩:∃x,x=B6 s 2 a6:=⟨_,rfl⟩;obtain⟨a7,ha7⟩:∃x,x=Aq s 2 a6:=⟨_,rfl⟩;obtain⟨b7,hb7⟩:∃x,x=B7 s 2 a6 b6:=⟨_,rfl⟩;have la7:a7≤1000000:=by rw[ha7];exact Bj la6 hs
   rw[←hp6,←ha7,←hb7]at hbd ⊢;clear hp6 ha7 hb7;have hSG:=Rv s a7 b7 hs la7;obtain⟨tg,a8,b8,hG⟩:∃nm a1 b1,Dp s a7 b7=(nm,a1,b1):=⟨_,_,_,rfl⟩;rw[hG]at hSG hbd;simp only at hSG hbd;refine G1 ?_;intro gg;(refine .inr (.inl ⟨_,_,false,336::([]++[]),?_,hSG,Ab,oI,dI,?_⟩);focus (exact wI));refine G1 ?_;intro gg;cases b8;rotate_left
   ·refine G1 ?_;intro gg;refine⟨lI,lI,?_⟩;refine G1 ?_;intro gg;(exact⟨none,trivial,fun gr=>⟨⟨(k+1,a8,true,([]:List Rr)++[(⟨nn,t,ls,0,⟨#[]⟩,p6,tg⟩:Rr)],gg),hp.next hs c11 (hbd)⟩,by show n-(k+1)<n-k;omega,tI,tI,⟨rfl,⟨rfl,⟨rfl,⟨rfl,trivial⟩⟩⟩⟩,tI⟩⟩)
   refine G1 ?_;intro gg;refine⟨lI,lI,?_⟩;refine G1 ?_;intro gg;(exact⟨none,trivial,fun gr=>⟨⟨(k+1,a8,(a8:Int) !=(en:Int),([]:List Rr)++[(⟨nn,t,ls,0,⟨#[]⟩,p6,tg⟩:Rr)],gg),hp.next hs c11 (hbd)⟩,by show n-(k+1)<n-k;omega,tI,tI,⟨rfl,⟨rfl,⟨rfl,⟨rfl,trivial⟩⟩⟩⟩,tI⟩⟩)
  rw[show((t:Int)==1)=false from ZG.2 (by omega)];have hbd:Oj s a=some ((⟨nn,t,ls,0,⟨#[]⟩,0,⟨#[]⟩⟩:Rr),a5,Uk a5 en false):=hrec.trans ((if_neg t1).trans ((if_neg t16).trans (if_neg t33)));refine G0 ?_;rw[show((t:Int)==16)=false from ZG.2 (by omega)];refine G0 ?_;rw[show((t:Int)==33)=false from ZG.2 (by omega)];refine G1 ?_;intro gg;refine⟨lI,lI,?_⟩;refine G1 ?_;intro gg;(exact⟨none,trivial,fun gr=>⟨⟨(k+1,a5,(a5:Int) !=(en:Int),([]:List Rr)++[(⟨nn,t,ls,0,⟨#[]⟩,0,⟨#[]⟩⟩:Rr)],gg),hp.next hs c11 (hbd)⟩,by show n-(k+1)<n-k;omega,tI,tI,⟨rfl,⟨rfl,⟨rfl,⟨rfl,trivial⟩⟩⟩⟩,tI⟩⟩)
 ·have hll:L.length≤4294967295:=by
   have q1:=hp.hl;have q2:=hp.hk;rw[ZJ]at q1;omega
  refine G0 ?_;rw[show decide ((k:Int)<(n:Int))=true from ZX (by omega)];refine G1 ?_;intro gg;(refine .inr (.inl ⟨_,_,false,336::([]++[]),?_,hSM,Ab,oI,dI,?_⟩);focus (exact wI));refine G1 ?_;intro gg;(refine .inr (.inl ⟨_,_,false,336::([]++[]),?_,Aw s a1 2 b1 hs ha1 (by omega) (by omega),Ab,oI,dI,?_⟩);focus (exact wI));rw[←ht,←ha2,←hb2];refine G1 ?_;intro gg;cases b2;rotate_left
  ·refine G0 ?_;(refine .inr (.inl ⟨_,_,false,336::([]++[]),?_,Aw s a2 4 true hs la2 (by omega) (by omega),Ab,oI,dI,?_⟩);focus (exact wI));refine G1 ?_;intro gg;(refine .inr (.inl ⟨_,_,false,336::([]++[]),?_,Aw s (Aq s 4 a2) 2 (B7 s 4 a2 true) hs (Bj la2 hs) (by omega) (by omega),Ab,oI,dI,?_⟩);focus (exact wI));have b9:=E6 s (Aq s 4 a2) (show 2≤4 by omega);have b8:Aq s 2 (Aq s 4 a2)≤1000000:=Bj (Bj la2 hs) hs;refine G1 ?_;intro gg;have e:Cs s=(A9,1):=by rw[hM,hp.none c11 (hrec.trans (if_pos (.inl rfl)))]
   rw[e];refine G0 ?_;exact C2 (.cell1 rfl rfl rfl rfl rfl rfl (.tmp1 rfl .nil)) cBI (As rfl)
  refine G0 ?_;(refine .inr (.inl ⟨_,_,false,336::([]++[]),?_,Aw s a2 2 false hs la2 (by omega) (by omega),Ab,oI,dI,?_⟩);focus (exact wI));refine G1 ?_;intro gg;obtain⟨a3,ha3⟩:∃x,x=Aq s 2 a2:=⟨_,rfl⟩;obtain⟨b3,hb3⟩:∃x,x=((B6 s 2 a2:Int) !=1):=⟨_,rfl⟩;have la3:a3≤1000000:=by rw[ha3];exact Bj la2 hs
  rw[show M1 s a2 false=(a3,b3)from by rw[ha3,hb3];rfl]at hrec;simp only at hrec;rw[←ha3,←hb3];clear ha3 hb3;refine G0 ?_;(refine .inr (.inl ⟨_,_,false,336::([]++[]),?_,Aw s a3 4 b3 hs la3 (by omega) (by omega),Ab,oI,dI,?_⟩);focus (exact wI));obtain⟨ls,hls⟩:∃x,x=B6 s 4 a3:=⟨_,rfl⟩;have bls:=E6 s a3 (show 4≤4 by omega);rw[←hls]at bls hrec ⊢;refine G1 ?_;intro gg;(refine .inr (.inl ⟨_,_,false,336::([]++[]),?_,Aw s (Aq s 4 a3) 2 (B7 s 4 a3 b3) hs (Bj la3 hs) (by omega) (by omega),Ab,oI,dI,?_⟩);focus (exact wI));rw[show Aq s 2 (Aq s 4 a3)=Aq s 6 a3 from Kw s 4 2 a3,show B7 s 2 (Aq s 4 a3) (B7 s 4 a3 b3)=B7 s 6 a3 b3 from K2 s 4 2 a3 b3];obtain⟨kk,hkk⟩:∃x,x=B6 s 2 (Aq s 4 a3):=⟨_,rfl⟩;have bkk:=E6 s (Aq s 4 a3) (show 2≤4 by omega);rw[←hkk]at bkk hrec ⊢;obtain⟨a5,ha5⟩:∃x,x=Aq s 6 a3:=⟨_,rfl⟩;obtain⟨b5,hb5⟩:∃x,x=B7 s 6 a3 b3:=⟨_,rfl⟩;have la5:a5≤1000000:=by rw[ha5];exact Bj la3 hs
  rw[←ha5,←hb5]at hrec ⊢;clear hls hkk ha5 hb5;refine G1 ?_;intro gg;rw[show(a5:Int)+(kk:Int)=((a5+kk:Nat):Int)from by omega];refine G0 ?_;cases b5;rotate_left
  ·refine G0 ?_;have e:Cs s=(A9,1):=by rw[hM,hp.none c11 (hrec.trans (if_pos (.inl rfl)))]
   rw[e];refine G0 ?_;exact C2 (.cell1 rfl rfl rfl rfl rfl rfl (.tmp1 rfl .nil)) cBI (As rfl)
  refine G0 ?_;by_cases g1:s.size<a5+kk
  ·rw[show decide ((s.size:Int)<((a5+kk:Nat):Int))=true from ZX (by omega)];have e:Cs s=(A9,1):=by rw[hM,hp.none c11 (hrec.trans (if_pos (.inr g1)))]
   rw[e];refine G0 ?_;exact C2 (.cell1 rfl rfl rfl rfl rfl rfl (.tmp1 rfl .nil)) cBI (As rfl)
  rw[show decide ((s.size:Int)<((a5+kk:Nat):Int))=false from ZY (by omega)];rw[if_neg (fun q=>q.elim (fun q=>by cases q) g1)]at hrec;obtain⟨en,hen⟩:∃x,x=a5+kk:=⟨_,rfl⟩;rw[←hen]at hrec ⊢;clear hen g1;refine G0 ?_;by_cases t1:t=1
  ·rw[show((t:Int)==1)=true from ZR.2 (by omega)];have hbd:Oj s a=some ((⟨nn,t,ls,B6 s 4 a5,⟨#[]⟩,0,⟨#[]⟩⟩:Rr),Aq s 4 a5,Uk (Aq s 4 a5) en (B7 s 4 a5 false)):=hrec.trans (if_pos t1);refine G0 ?_;(refine .inr (.inl ⟨_,_,false,336::([]++[]),?_,Aw s a5 4 false hs la5 (by omega) (by omega),Ab,oI,dI,?_⟩);focus (exact wI));obtain⟨b6,hb6⟩:∃x,x=B7 s 4 a5 false:=⟨_,rfl⟩;rw[←hb6]at hbd ⊢;clear hb6;refine G1 ?_;intro gg;cases b6;rotate_left
   ·refine G1 ?_;intro gg;refine⟨lI,lI,?_⟩;refine G1 ?_;intro gg;(exact⟨none,trivial,fun gr=>⟨⟨(k+1,Aq s 4 a5,true,(r0::L)++[(⟨nn,t,ls,B6 s 4 a5,⟨#[]⟩,0,⟨#[]⟩⟩:Rr)],gg),hp.next hs c11 (hbd)⟩,by show n-(k+1)<n-k;omega,tI,tI,⟨rfl,⟨rfl,⟨congrArg (fun x=>some (Ent.mk gg (.t 42) 7 x)) (show(r0::L).map Rr.row++[Rr.row ((⟨nn,t,ls,B6 s 4 a5,⟨#[]⟩,0,⟨#[]⟩⟩:Rr))]=((r0::L)++[((⟨nn,t,ls,B6 s 4 a5,⟨#[]⟩,0,⟨#[]⟩⟩:Rr))]).map Rr.row by rw[ZI];rfl),⟨rfl,trivial⟩⟩⟩⟩,tI⟩⟩)
   refine G1 ?_;intro gg;refine⟨lI,lI,?_⟩;refine G1 ?_;intro gg;(exact⟨none,trivial,fun gr=>⟨⟨(k+1,Aq s 4 a5,(Aq s 4 a5:Int) !=(en:Int),(r0::L)++[(⟨nn,t,ls,B6 s 4 a5,⟨#[]⟩,0,⟨#[]⟩⟩:Rr)],gg),hp.next hs c11 (hbd)⟩,by show n-(k+1)<n-k;omega,tI,tI,⟨rfl,⟨rfl,⟨congrArg (fun x=>some (Ent.mk gg (.t 42) 7 x)) (show(r0::L).map Rr.row++[Rr.row ((⟨nn,t,ls,B6 s 4 a5,⟨#[]⟩,0,⟨#[]⟩⟩:Rr))]=((r0::L)++[((⟨nn,t,ls,B6 s 4 a5,⟨#[]⟩,0,⟨#[]⟩⟩:Rr))]).map Rr.row by rw[ZI];rfl),⟨rfl,trivial⟩⟩⟩⟩,tI⟩⟩)
  by_cases t16:t=16
  ·rw[show((t:Int)==1)=false from ZG.2 (by omega)];have hb16:=hrec.trans ((if_neg t1).trans (if_pos t16));refine G0 ?_;rw[show((t:Int)==16)=true from ZR.2 (by omega)];refine G0 ?_;(refine .inr (.inl ⟨_,_,false,336::([]++[]),?_,Aw s a5 1 false hs la5 (by omega) (by omega),Ab,oI,dI,?_⟩);focus (exact wI));obtain⟨a6,ha6⟩:∃x,x=Aq s 1 a5:=⟨_,rfl⟩;obtain⟨b6,hb6⟩:∃x,x=B7 s 1 a5 false:=⟨_,rfl⟩;obtain⟨k6,hk6⟩:∃x,x=B6 s 1 a5:=⟨_,rfl⟩;have bk6:=E6 s a5 (show 1≤4 by omega);have la6:a6≤1000000:=by rw[ha6];exact Bj la5 hs
   rw[←hk6]at bk6;rw[←ha6,←hb6,←hk6]at hb16 ⊢;clear ha6 hb6 hk6;refine G1 ?_;intro gg;cases b6;rotate_left
   ·refine G0 ?_;have e:Cs s=(A9,1):=by rw[hM,hp.none c11 (hb16.trans (if_pos (.inl rfl)))]
    rw[e];refine G0 ?_;exact C2 (.cell1 rfl rfl rfl rfl rfl rfl (.tmp1 rfl .nil)) cBI (As rfl)
   refine G0 ?_;rw[show(a6:Int)+(k6:Int)=((a6+k6:Nat):Int)from by omega];by_cases g2:s.size<a6+k6
   ·rw[show decide ((s.size:Int)<((a6+k6:Nat):Int))=true from ZX (by omega)];have e:Cs s=(A9,1):=by rw[hM,hp.none c11 (hb16.trans (if_pos (.inr g2)))]
    rw[e];refine G0 ?_;exact C2 (.cell1 rfl rfl rfl rfl rfl rfl (.tmp1 rfl .nil)) cBI (As rfl)
   rw[show decide ((s.size:Int)<((a6+k6:Nat):Int))=false from ZY (by omega)];have hbd:Oj s a=some ((⟨nn,t,ls,0,s.extract a6 (a6+k6),0,⟨#[]⟩⟩:Rr),a6+k6,Uk (a6+k6) en false):=hb16.trans (if_neg (fun q=>q.elim (fun q=>by cases q) g2));refine G0 ?_;refine⟨a6,a6+k6,⟨_,rfl⟩,⟨.i64,congrArg (fun x=>V.v (.int .i64 x)) (show(a6:Int)+(k6:Int)=((a6+k6:Nat):Int)by omega)⟩,Nat.le_add_right _ _,by omega,?_⟩;refine G1 ?_;intro gg;rw[show(a6:Int)+(k6:Int)=((a6+k6:Nat):Int)from by omega];refine G0 ?_;refine⟨lI,lI,?_⟩;refine G1 ?_;intro gg;(exact⟨none,trivial,fun gr=>⟨⟨(k+1,a6+k6,((a6+k6:Nat):Int) !=(en:Int),(r0::L)++[(⟨nn,t,ls,0,s.extract a6 (a6+k6),0,⟨#[]⟩⟩:Rr)],gg),hp.next hs c11 (hbd)⟩,by show n-(k+1)<n-k;omega,tI,tI,⟨rfl,⟨rfl,⟨congrArg (fun x=>some (Ent.mk gg (.t 42) 7 x)) (show(r0::L).map Rr.row++[Rr.row ((⟨nn,t,ls,0,s.extract a6 (a6+k6),0,⟨#[]⟩⟩:Rr))]=((r0::L)++[((⟨nn,t,ls,0,s.extract a6 (a6+k6),0,⟨#[]⟩⟩:Rr))]).map Rr.row by rw[ZI];rfl),⟨rfl,trivial⟩⟩⟩⟩,tI⟩⟩)
  by_cases t33:t=33
  ·rw[show((t:Int)==1)=false from ZG.2 (by omega)];have hbd:=hrec.trans ((if_neg t1).trans ((if_neg t16).trans (if_pos t33)));refine G0 ?_;rw[show((t:Int)==16)=false from ZG.2 (by omega)];refine G0 ?_;rw[show((t:Int)==33)=true from ZR.2 (by omega)];refine G0 ?_;(refine .inr (.inl ⟨_,_,false,336::([]++[]),?_,Aw s a5 4 false hs la5 (by omega) (by omega),Ab,oI,dI,?_⟩);focus (exact wI));refine G1 ?_;intro gg;obtain⟨a6,ha6⟩:∃x,x=Aq s 4 a5:=⟨_,rfl⟩;obtain⟨b6,hb6⟩:∃x,x=((B6 s 4 a5:Int) !=0):=⟨_,rfl⟩;have la6:a6≤1000000:=by rw[ha6];exact Bj la5 hs
   rw[←ha6,←hb6]at hbd ⊢;clear ha6 hb6;refine G0 ?_;(refine .inr (.inl ⟨_,_,false,336::([]++[]),?_,Aw s a6 2 b6 hs la6 (by omega) (by omega),Ab,oI,dI,?_⟩);focus (exact wI));obtain⟨p6,hp6⟩:∃x,x=B6 s 2 a6:=⟨_,rfl⟩;obtain⟨a7,ha7⟩:∃x,x=Aq s 2 a6:=⟨_,rfl⟩;obtain⟨b7,hb7⟩:∃x,x=B7 s 2 a6 b6:=⟨_,rfl⟩;have la7:a7≤1000000:=by rw[ha7];exact Bj la6 hs
   rw[←hp6,←ha7,←hb7]at hbd ⊢;clear hp6 ha7 hb7;have hSG:=Rv s a7 b7 hs la7;obtain⟨tg,a8,b8,hG⟩:∃nm a1 b1,Dp s a7 b7=(nm,a1,b1):=⟨_,_,_,rfl⟩;rw[hG]at hSG hbd;simp only at hSG hbd;refine G1 ?_;intro gg;(refine .inr (.inl ⟨_,_,false,336::([]++[]),?_,hSG,Ab,oI,dI,?_⟩);focus (exact wI));refine G1 ?_;intro gg;cases b8;rotate_left
   ·refine G1 ?_;intro gg;refine⟨lI,lI,?_⟩;refine G1 ?_;intro gg;(exact⟨none,trivial,fun gr=>⟨⟨(k+1,a8,true,(r0::L)++[(⟨nn,t,ls,0,⟨#[]⟩,p6,tg⟩:Rr)],gg),hp.next hs c11 (hbd)⟩,by show n-(k+1)<n-k;omega,tI,tI,⟨rfl,⟨rfl,⟨congrArg (fun x=>some (Ent.mk gg (.t 42) 7 x)) (show(r0::L).map Rr.row++[Rr.row ((⟨nn,t,ls,0,⟨#[]⟩,p6,tg⟩:Rr))]=((r0::L)++[((⟨nn,t,ls,0,⟨#[]⟩,p6,tg⟩:Rr))]).map Rr.row by rw[ZI];rfl),⟨rfl,trivial⟩⟩⟩⟩,tI⟩⟩)
   refine G1 ?_;intro gg;refine⟨lI,lI,?_⟩;refine G1 ?_;intro gg;(exact⟨none,trivial,fun gr=>⟨⟨(k+1,a8,(a8:Int) !=(en:Int),(r0::L)++[(⟨nn,t,ls,0,⟨#[]⟩,p6,tg⟩:Rr)],gg),hp.next hs c11 (hbd)⟩,by show n-(k+1)<n-k;omega,tI,tI,⟨rfl,⟨rfl,⟨congrArg (fun x=>some (Ent.mk gg (.t 42) 7 x)) (show(r0::L).map Rr.row++[Rr.row ((⟨nn,t,ls,0,⟨#[]⟩,p6,tg⟩:Rr))]=((r0::L)++[((⟨nn,t,ls,0,⟨#[]⟩,p6,tg⟩:Rr))]).map Rr.row by rw[ZI];rfl),⟨rfl,trivial⟩⟩⟩⟩,tI⟩⟩)
  rw[show((t:Int)==1)=false from ZG.2 (by omega)];have hbd:Oj s a=some ((⟨nn,t,ls,0,⟨#[]⟩,0,⟨#[]⟩⟩:Rr),a5,Uk a5 en false):=hrec.trans ((if_neg t1).trans ((if_neg t16).trans (if_neg t33)));refine G0 ?_;rw[show((t:Int)==16)=false from ZG.2 (by omega)];refine G0 ?_;rw[show((t:Int)==33)=false from ZG.2 (by omega)];refine G1 ?_;intro gg;refine⟨lI,lI,?_⟩;refine G1 ?_;intro gg;(exact⟨none,trivial,fun gr=>⟨⟨(k+1,a5,(a5:Int) !=(en:Int),(r0::L)++[(⟨nn,t,ls,0,⟨#[]⟩,0,⟨#[]⟩⟩:Rr)],gg),hp.next hs c11 (hbd)⟩,by show n-(k+1)<n-k;omega,tI,tI,⟨rfl,⟨rfl,⟨congrArg (fun x=>some (Ent.mk gg (.t 42) 7 x)) (show(r0::L).map Rr.row++[Rr.row ((⟨nn,t,ls,0,⟨#[]⟩,0,⟨#[]⟩⟩:Rr))]=((r0::L)++[((⟨nn,t,ls,0,⟨#[]⟩,0,⟨#[]⟩⟩:Rr))]).map Rr.row by rw[ZI];rfl),⟨rfl,trivial⟩⟩⟩⟩,tI⟩⟩)
theorem All{m:Ms}(h:A4 m=0):Aox m:=by
 obtain⟨hg,_⟩:=G9 h;refine⟨⟨by have:=hg.qnz;omega,fun r hr=>?_⟩,by have:=hg.len;omega⟩;have:=hg.rs r hr;exact⟨by have:=this.nmz;omega,by have:=this.tx;omega,by have:=this.tgz;omega⟩
theorem Adp{k:Kn}{s:ByteArray}{M:Ms}(h1:k.err=0)(h2:¬(s.size<12∨128≤atB s 2))(h:Dq k s (Bh k)=M):Eu k s (Bh k)=((Jn M 512).1,true,0)∧(Jn M 512).2=0∧Aox M:=by
 have hM:=Ug k s;rw[h]at hM;obtain⟨j,_,_,e⟩:=Y8 hM;refine⟨?_,by rw[e],All hM⟩;unfold Eu;rw[if_neg (by simp[h1]),if_neg h2,h,e];rfl
theorem Ah5{s:ByteArray}(h:(A8 s).2=0):(A8 s).1.ok:=by
 have hp:Ah (A8 s).1=(s,0):=Ajn (Prod.ext rfl h);have he:=(Ix hp).1;have hs:=(Qy he).1;exact⟨by have:=hs.sv;omega,by have:=hs.tg;omega,by have:=hs.nd;omega,by have:=hs.ce;omega⟩
theorem Apt{s:ByteArray}{i fl co n:Nat}{m:Ms}(h:Amh s i fl co n=some m):m.id=(i:Int):=by
 unfold Amh at h;obtain⟨a,_,h⟩:=XS.1 h;obtain⟨b,_,h⟩:=XS.1 h;obtain⟨d,_,h⟩:=XS.1 h;split at h
 ·obtain⟨l,_,h⟩:=XS.1 h;split at h
  ·simp only[ZD]at h;rw[←h]
  ·cases h
 ·cases h
theorem Asr{s:ByteArray}{x:Ms}(h:rdP s=(x,0)):x.id=((atB s 0*256+atB s 1:Nat):Int):=by
 by_cases hl:512<s.size
 ·rw[Qm hl]at h;simp at h
 ·rcases e:Od s with _|m
  ·rw[Fu hl e]at h;simp at h
  ·rw[N5 hl e]at h;by_cases he:A4 m=0
   ·rw[if_pos he]at h;simp only[Prod.mk.injEq,and_true]at h;subst h;by_cases h12:12≤s.size
    ·rw[Ad2 h12]at e;split at e
     ·rw[Apt e,Qv]
     ·cases e
    ·rw[Aa9 h12]at e;cases e
   ·rw[if_neg he]at h;simp at h
set_option maxHeartbeats 4000000 in
theorem Abn(k:Kn)(s:ByteArray)(hk:k.In)(hs:s.size≤9223372036854775807):
  Fun Tryz.prog 14 [.c (.v (.string s)),.c (.v (.string k.here)),.c (.sl false (k.l.map Sv.row)),.c (.sl false (k.ms.map Mb.row)),.c (.agg k.f.row),.c (.sl false (k.wh.map Wh.row))]
   [.c (.v (.string (Eu k s (Bh k)).1)),.c (.v (.bool (Eu k s (Bh k)).2.1)),.c (.v (.int .i64 (Eu k s (Bh k)).2.2))]:=by
 have hA:Eu k s (Bh k)=(if k.err≠0 then(⟨#[]⟩,false,k.err)
  else if s.size<12∨128≤atB s 2 then(⟨#[]⟩,false,0)
  else((Jn (Dq k s (Bh k)) 512).1,(Jn (Dq k s (Bh k)) 512).2==0,(Jn (Dq k s (Bh k)) 512).2):ByteArray×Bool×Int):=rfl
 have hMO:=Ao2 s;rw[Ax8]at hMO;refine Ar Ps rfl ?_;refine G1 ?_;intro gg;refine .inl (cX (Abm k hk) ?_);refine G1 ?_;intro gg;by_cases c1:k.err=0;rotate_left
 ·rw[if_pos c1]at hA;rw[hA,show(k.err !=0)=true from ZZ.2 c1];refine G0 ?_;(exact⟨[],aI⟩)
 rw[if_neg (by simpa using c1)]at hA;rw[c1];refine G0 ?_;by_cases c2:s.size<12
 ·rw[if_pos (.inl c2)]at hA;rw[hA,show decide ((s.size:Int)<12)=true from ZX (by omega)];refine G0 ?_;(exact⟨[],aI⟩)
 rw[show decide ((s.size:Int)<12)=false from ZY (by omega)];obtain⟨b0,hb0⟩:∃c,s[0]? =some c:=⟨s[0],by simp⟩;obtain⟨b1,hb1⟩:∃c,s[1]? =some c:=⟨s[1],by simp⟩;obtain⟨b2,hb2⟩:∃c,s[2]? =some c:=⟨s[2],by simp⟩;have q0:=Gu hb0;have q1:=Gu hb1;have q2:=Gu hb2;have l0:=b0.toNat_lt;have l1:=b1.toNat_lt;refine G0 ?_;refine⟨2,b2,rfl,hb2,?_⟩;refine G0 ?_;by_cases c3:128≤atB s 2
 ·rw[if_pos (.inr c3)]at hA;rw[hA,show decide ((128:Int)≤(b2.toNat:Int))=true from ZX (by omega)];refine G0 ?_;(exact⟨[],aI⟩)
 rw[show decide ((128:Int)≤(b2.toNat:Int))=false from ZY (by omega)];have hE:=fun M=>Adp (k:=k) (s:=s) (M:=M) c1 (fun z=>z.elim c2 c3);clear hA;refine G0 ?_;refine⟨0,b0,rfl,hb0,?_⟩;refine G0 ?_;refine⟨1,b1,rfl,hb1,?_⟩;refine G1 ?_;intro gg;have hid:256*((b0.toNat:Nat):Int)+((b1.toNat:Nat):Int)=((atB s 0*256+atB s 1:Nat):Int):=by omega
 rw[hid];rcases Sc s with⟨x,hx,he⟩|hne
 rotate_left
 ·refine .inl (cX hMO ?_);have hM:Dq k s (Bh k)=⟨((atB s 0*256+atB s 1:Nat):Int),true,false,1,⟨#[]⟩,1,[]⟩:=by unfold Dq;rw[if_neg (fun z=>hne z.1)]
  (refine goI ?_;repeat (intro gg;refine goI ?_));rw[show((rdP s).2==0)=false from ZG.2 hne];obtain⟨hE1,hE2,hE3⟩:=hE ⟨((atB s 0*256+atB s 1:Nat):Int),true,false,1,⟨#[]⟩,1,[]⟩ hM;have hFit:=Ki ⟨((atB s 0*256+atB s 1:Nat):Int),true,false,1,⟨#[]⟩,1,[]⟩ 512 hE3;refine G0 ?_;refine .inl (cY hFit ?_);refine G1 ?_;intro gg;rw[hE1];(exact⟨[],aI⟩)
 have hxid:=Asr hx;have hR0:Dq k s (Bh k)=(if x.rs.length=0 then Hj k x (Bh k)else⟨((atB s 0*256+atB s 1:Nat):Int),true,false,1,⟨#[]⟩,1,[]⟩:Ms):=by
  unfold Dq;rw[hx];simp
 rw[hx]at hMO;refine .inl (cX hMO ?_);(refine goI ?_;repeat (intro gg;refine goI ?_));rw[ZE];by_cases c5:x.rs.length=0;rotate_left
 ·rw[if_neg c5]at hR0;rw[show((x.rs.length:Int)==0)=false from ZG.2 (by omega)];obtain⟨hE1,hE2,hE3⟩:=hE ⟨((atB s 0*256+atB s 1:Nat):Int),true,false,1,⟨#[]⟩,1,[]⟩ hR0;have hFit:=Ki ⟨((atB s 0*256+atB s 1:Nat):Int),true,false,1,⟨#[]⟩,1,[]⟩ 512 hE3;refine G0 ?_;refine .inl (cY hFit ?_);refine G1 ?_;intro gg;rw[hE1];(exact⟨[],aI⟩)
 rw[if_pos c5]at hR0;rw[show((x.rs.length:Int)==0)=true from ZR.2 (by omega),←hxid];have hqn:=(G9 he).1.qnz;have hP:=Ak3 x.qn (by omega);have hRe:=fun hq=>Uy k (A8 x.qn).1 x.qt hk hq;have hY:Hj k x (Bh k)=(if(A8 x.qn).2≠0 then⟨x.id,true,false,if Ma (A8 x.qn).2=0 then 3 else Ma (A8 x.qn).2,x.qn,x.qt,[]⟩
  else if(C7 k (A8 x.qn).1 x.qt (Bh k (A8 x.qn).1)).2.2≠0 then⟨x.id,true,false,2,x.qn,x.qt,[]⟩
  else⟨x.id,true,false,(C7 k (A8 x.qn).1 x.qt (Bh k (A8 x.qn).1)).2.1,x.qn,x.qt,(C7 k (A8 x.qn).1 x.qt (Bh k (A8 x.qn).1)).1⟩:Ms):=rfl
 rw[hY]at hR0;clear hY;have hqk:(A8 x.qn).2=0→(A8 x.qn).1.ok:=fun h=>Ah5 h;generalize A8 x.qn=P at *;refine G0 ?_;refine .inl (cX hP ?_);(refine goI ?_;repeat (intro gg;refine goI ?_));by_cases p8:P.2=8
 ·rw[show(P.2==8)=true from ZR.2 p8];have hM:Dq k s (Bh k)=⟨x.id,true,false,4,x.qn,x.qt,[]⟩:=by rw[hR0,if_pos (by rw[p8];decide),p8];rfl
  obtain⟨hE1,hE2,hE3⟩:=hE ⟨x.id,true,false,4,x.qn,x.qt,[]⟩ hM;have hFit:=Ki ⟨x.id,true,false,4,x.qn,x.qt,[]⟩ 512 hE3;refine G0 ?_;refine .inl (cY hFit ?_);refine G1 ?_;intro gg;rw[hE1];(exact⟨[],aI⟩)
 rw[show(P.2==8)=false from ZG.2 p8];refine G0 ?_;by_cases p0:P.2=0;rotate_left
 ·rw[show(P.2 !=0)=true from ZZ.2 p0];have hM:Dq k s (Bh k)=⟨x.id,true,false,3,x.qn,x.qt,[]⟩:=by rw[hR0,if_pos p0,show Ma P.2=0 from if_neg p8];rfl
  obtain⟨hE1,hE2,hE3⟩:=hE ⟨x.id,true,false,3,x.qn,x.qt,[]⟩ hM;have hFit:=Ki ⟨x.id,true,false,3,x.qn,x.qt,[]⟩ 512 hE3;refine G0 ?_;refine .inl (cY hFit ?_);refine G1 ?_;intro gg;rw[hE1];(exact⟨[],aI⟩)
 rw[p0];rw[if_neg (by simpa using p0)]at hR0;have hRf:=hRe (hqk p0);clear hRe;generalize C7 k P.1 x.qt (Bh k P.1)=X at *;refine G0 ?_;refine .inl (cX hRf ?_);refine G1 ?_;intro gg;by_cases x0:X.2.2=0
 ·rw[if_neg (by simpa using x0)]at hR0;rw[x0];obtain⟨hE1,hE2,hE3⟩:=hE ⟨x.id,true,false,X.2.1,x.qn,x.qt,X.1⟩ hR0;have hFit:=Ki ⟨x.id,true,false,X.2.1,x.qn,x.qt,X.1⟩ 512 hE3;refine G0 ?_;refine .inl (cY hFit ?_);refine G1 ?_;intro gg;rw[hE1];(exact⟨[],aI⟩)
 ·rw[if_pos x0]at hR0;rw[show(X.2.2 !=0)=true from ZZ.2 x0];obtain⟨hE1,hE2,hE3⟩:=hE ⟨x.id,true,false,2,x.qn,x.qt,[]⟩ hR0;have hFit:=Ki ⟨x.id,true,false,2,x.qn,x.qt,[]⟩ 512 hE3;refine G0 ?_;refine .inl (cY hFit ?_);refine G1 ?_;intro gg;rw[hE1];(exact⟨[],aI⟩)
namespace Pl
end Pl
theorem Ax1{k:Kn}(hk:k.In)(q:Qr):∀s∈Bh k q,s.nd.size≤9223372036854775807:=fun s hs=>(hk.lo s (Aes hs).1).1
theorem Ag2{k:Kn}{q:Qr}{t:Int}(h:Jt k q t=0):k.err=0:=by
 unfold Jt at h;split at h
 ·rename_i h1;exact absurd h h1
 ·split at h
  ·exact absurd h (by decide)
  ·exact h
theorem Mj(k:Kn)(q:Qr)(t:Int)(hk:k.In)(hq:q.ok):
  Fun Tryz.prog 8 [.c (.agg q.row),.c (.v (.int .i64 t)),.c (.v (.string k.here)),.c (.sl false (k.l.map Sv.row)),.c (.sl false (k.ms.map Mb.row)),.c (.agg k.f.row),.c (.sl false (k.wh.map Wh.row))]
   [.o 42 7 ((C7 k q t (Bh k q)).1.map Rr.row),.c (.v (.int .i64 (C7 k q t (Bh k q)).2.1)),.c (.v (.int .i64 (C7 k q t (Bh k q)).2.2))]:=
 Ah4 k q t (Bh k q) hk hq (by have:=Amj k q;omega) (Ax1 hk q) fun h=>Ank k q t _ hk hq (Ag2 h)
theorem We(k:Kn)(s:ByteArray)(hk:k.In)(hs:s.size≤9223372036854775807):
  Fun Tryz.prog 13 [.c (.v (.string s)),.c (.v (.string k.here)),.c (.sl false (k.l.map Sv.row)),.c (.sl false (k.ms.map Mb.row)),.c (.agg k.f.row),.c (.sl false (k.wh.map Wh.row))]
   [.c (.v (.string (Eu k s (Bh k)).1)),.c (.v (.bool (Eu k s (Bh k)).2.1)),.c (.v (.int .i64 (Eu k s (Bh k)).2.2))]:=by
 refine Ano k s (Bh k) hk hs (Up s) (Ao3 k (rdP s).1 (Bh k) ?_ fun h=>Mj k _ _ hk (Ah5 h)) (Auv _ 512 (All (Ug k s)));rcases Sc s with⟨x,e,hx⟩|e
 ·rw[e];have:=(G9 hx).1.qnz;show x.qn.size≤_;omega
 ·by_cases hl:512<s.size
  ·rw[Qm hl];decide
  ·rcases e1:Od s with _|m
   ·rw[Fu hl e1];decide
   ·rw[N5 hl e1]at e ⊢;by_cases he:A4 m=0
    ·rw[if_pos he]at e;exact absurd rfl e
    ·rw[if_neg he];decide
namespace Pl
def sv0:Sv:=⟨⟨#[110]⟩,⟨#[105]⟩,⟨#[115]⟩,⟨#[]⟩,9,0,true,1,false⟩
def kn0:Kn:=⟨⟨#[99]⟩,[sv0],[],⟨0,0,0,0,0⟩,[]⟩
def qr0:Qr:=⟨⟨#[115]⟩,⟨#[]⟩,⟨#[]⟩,⟨#[]⟩⟩
def nm0:ByteArray:=⟨#[115,46,115,101,114,118,105,99,101,46,109,101,115,104]⟩
theorem Am0:qr0.err=0:=by
 simp only[Qr.err,Qr.c1,Qr.c2,Qr.c3,Qr.all,qr0,List.any_cons,List.any_nil,em,Z2,Gx,ByteArray.toList_eq,Br,Cm,Bc];decide
theorem Aqk:qr0.pr=nm0:=by
 apply Sd;simp only[Qr.pr,Qr.base,qr0,em,ByteArray.toList_eq];simp[Abl,Jl,dot,Bc,nm0]
theorem At0:A5 nm0=[⟨#[115]⟩,Br,Bc]:=by
 simp only[A5,ByteArray.toList_eq];rw[if_neg (by simp[nm0])];decide
theorem Aqj:Ao nm0=0:=by
 simp only[Ao,At0];decide
theorem Ao8:Ah qr0=(nm0,0):=by
 rw[Hy Am0 (by rw[Aqk];exact Aqj),Aqk]
theorem Av7:emp ⟨#[]⟩=true:=beq_self_eq_true _
theorem Atv:sv0.err=0:=by
 have hl1:lab (⟨#[110]⟩:ByteArray).data.toList=true:=by decide+kernel
 have hl2:lab (⟨#[105]⟩:ByteArray).data.toList=true:=by decide+kernel
 have hl3:lab (⟨#[115]⟩:ByteArray).data.toList=true:=by decide+kernel
 simp[Sv.err,sv0,hl1,hl2,hl3,Aa4,wi]
theorem Arw:Ei [sv0]=0:=by simp[Ei,ckL,Bm,Cz,Atv]
theorem Atn:kn0.err=0:=by
 have hl:lab (⟨#[99]⟩:ByteArray).data.toList=true:=by decide+kernel
 have hp:(⟨0,0,0,0,0⟩:Pc).err=0:=by decide+kernel
 have hm:F6 []=0:=by decide+kernel
 simp[Kn.err,kn0,hl,Arw,hm,hp,Cp]
theorem Ai8:(C8 kn0.l qr0.sv qr0.tg).2=[sv0]:=by
 have hs:Sv.sought ⟨#[115]⟩ ⟨#[]⟩ sv0=true:=by
  show(((⟨#[115]⟩:ByteArray).toList==(⟨#[115]⟩:ByteArray).toList)&&((emp ⟨#[]⟩||_)&&true))=true;rw[Av7,beq_self_eq_true];rfl
 show(C8 [sv0] ⟨#[115]⟩ ⟨#[]⟩).2=[sv0];rw[Vm Arw (by decide+kernel) Aa4];simp[Dc,hs]
theorem Aux:Bh kn0 qr0=[sv0]:=by
 have h1:fK kn0 qr0=[sv0]:=by unfold fK;rw[Ai8];rfl
 have h2:nms [sv0]=[sv0.nd]:=rfl;have h3:Fy sv0.nd [sv0]=[sv0]:=by unfold Fy;simp
 unfold Bh;rw[h1,h2,show Ii (cfN (Bx kn0.f kn0.wh)) [sv0.nd]=[sv0.nd]from List.mergeSort_singleton _,List.flatMap_cons,h3];rfl
theorem Apn:C7 kn0 qr0 1 (Bh kn0 qr0)=([⟨nm0,1,0,9,⟨#[]⟩,0,⟨#[]⟩⟩],0,0):=by
 have hE:Jt kn0 qr0 1=0:=by unfold Jt;rw[if_neg (by rw[Am0];decide),if_neg (by decide),Atn]
 have hc:em qr0.ce=true:=V0;have hn:em qr0.nd=true:=V0;have hf:(C8 kn0.l qr0.sv ⟨#[]⟩).2=[sv0]:=Ai8;unfold C7;rw[hE,if_neg (by decide),Ao8,if_neg (by decide),hc,if_neg (by decide),hn,if_neg (by decide),Aux];unfold Jx;rw[hf];rfl
theorem Avy:kn0.In:=⟨by decide,by decide,fun x hx=>by rw[XN.1 hx];exact⟨by decide,by decide,by decide,by decide⟩,by decide,fun x hx=>(by cases hx),by decide⟩
end Pl
theorem Lh:Fun Tryz.prog 10 [] [.c (.v (.bool true))]:=by
 have h:=Mj kn0 qr0 1 Avy ⟨by decide,by decide,by decide,by decide⟩;rw[Apn]at h;refine Ar Lu rfl ?_;refine G1 ?_;intro gg;refine .inl (cY h ?_);refine G1 ?_;intro gg;refine⟨0,_,rfl,rfl,?_⟩;refine G0 ?_;refine⟨0,_,rfl,rfl,?_⟩;refine G0 ?_;rw[show(nm0.toList==(⟨#[115,46,115,101,114,118,105,99,101,46,109,101,115,104]⟩:ByteArray).toList)=true from beq_self_eq_true _];refine G0 ?_;(exact⟨[],aI⟩)
theorem Abr(us:List V)(h:Qp [.s,.l [.s,.s,.s,.s,.i,.i,.b,.i,.b],.l [.s,.i,.i,.i,.b],.i,.i,.i,.i,.i,.l [.s,.i,.i,.i,.i,.i]] us):∃k:Kn,us=k.row∧k.In:=by
 obtain⟨u0,_,rfl,f0,h⟩:=Ap h;obtain⟨u1,_,rfl,f1,h⟩:=Ap h;obtain⟨u2,_,rfl,f2,h⟩:=Ap h;obtain⟨u3,_,rfl,f3,h⟩:=Ap h;obtain⟨u4,_,rfl,f4,h⟩:=Ap h;obtain⟨u5,_,rfl,f5,h⟩:=Ap h;obtain⟨u6,_,rfl,f6,h⟩:=Ap h;obtain⟨u7,_,rfl,f7,h⟩:=Ap h;obtain⟨u8,_,rfl,f8,h⟩:=Ap h;obtain rfl:=Ln h;obtain⟨s,rfl,hs⟩:=K3 f0;obtain⟨l,rfl,hl,ho⟩:=Vh Awq f1;obtain⟨m,rfl,hm,hmo⟩:=Vh Aww f2;obtain⟨a,rfl,_⟩:=Ge f3;obtain⟨b,rfl,_⟩:=Ge f4;obtain⟨c,rfl,_⟩:=Ge f5;obtain⟨d,rfl,_⟩:=Ge f6;obtain⟨e,rfl,_⟩:=Ge f7;obtain⟨w,rfl,hw,_⟩:=Vh Awz f8;exact⟨⟨s,l,m,⟨a,b,c,d,e⟩,w⟩,rfl,⟨hs,hl,ho,hm,hmo,hw⟩⟩
end Go.Proofs.YtbnocibpoghfhaaGreatDoor
