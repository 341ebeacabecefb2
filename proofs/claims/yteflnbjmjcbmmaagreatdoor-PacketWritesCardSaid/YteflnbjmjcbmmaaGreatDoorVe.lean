/- Texts of this claim, joined. -/
import Derived.Test.YteflnbjmjcbmmaaGreatDoorRows
import Derived.Stop.LaidErr
import Derived.Lib.LaidTab
import Derived.Lay
import Derived.Test.YteflnbjmjcbmmaaGreatDoorVa
import Derived.Test.YteflnbjmjcbmmaaGreatDoorVb
import Derived.Test.YteflnbjmjcbmmaaGreatDoorVc
import Derived.Test.YteflnbjmjcbmmaaGreatDoorVd
set_option linter.unusedSimpArgs false
set_option linter.unusedVariables false
namespace Go.Proofs.YteflnbjmjcbmmaaGreatDoor
open Go.RowKit Pl
namespace Pl
def Wh.same(g h:Wh):Bool:=(g.nd.toList==h.nd.toList)&&((g.pl.x==h.pl.x)&&((g.pl.y==h.pl.y)&&((g.pl.z==h.pl.z)&&((g.pl.h==h.pl.h)&&((g.pl.s==h.pl.s)&&true)))))
end Pl
theorem Y7[Glob](c:Bool)(l:List Wh)(hl:l.length≤9223372036854775807)(hw:∀x∈l,x.ok):Fun Tryz.prog 20 [.c (.sl c (l.map Wh.row))] [.c (.v (.int .i64 (I7 l)))]:=by
 refine A9 J1 rfl ?_;(refine goI ?_;repeat (intro gg;refine goI ?_));rw[ZE];(refine Ab (fun h1=>?_) (fun h1=>?_)<;>rw[h1])
 ·(refine goI ?_;repeat (intro gg;refine goI ?_));have e:I7 l=2:=Ge (by have:=ZV h1;omega);rw[e];(exact⟨[],aI⟩)
 ·have h1':¬20<l.length:=(by have:=ZW h1;omega);(refine goI ?_;repeat (intro gg;refine goI ?_));(refine⟨[],none,{k:Nat//k≤l.length∧∀j,(h:j<l.length)→j<k→Wh.err l[j]=0},[0],fun⟨k,hk,h0⟩=>[(3,.v (.int .i64 k))],[],fun⟨k,hk,h0⟩=>[],fun⟨k,hk,h0⟩=>l.length-k,trivial,fun _=>⟨trivial,fun _=>⟨⟨0,ZU _,fun j _ h=>absurd h (Nat.not_lt_zero _)⟩,tI,Aj _ _,tI,Ai _ _⟩⟩,fun⟨k,hk,h0⟩=>?_⟩);(refine goI ?_;repeat (intro gg;refine goI ?_));rw[ZE];(refine Ab (fun h2=>?_) (fun h2=>?_)<;>rw[h2])
  ·have hlt:k<l.length:=(by have:=ZV h2;omega);(refine goI ?_;repeat (intro gg;refine goI ?_));refine⟨k,_,rfl,Ap hlt,?_⟩;(refine goI ?_;repeat (intro gg;refine goI ?_));have hx:=hw _ (ZK hlt);refine .inl (cX (D6 (l[k]).nd hx) ?_);(refine goI ?_;repeat (intro gg;refine goI ?_));have HE:=Br (e:=Wh.err) hlt h0;(refine Ab (fun h3=>?_) (fun h3=>?_)<;>rw[h3])
   ·have h3':lab (l[k]).nd.data.toList=false:=Ey h3;(refine goI ?_;repeat (intro gg;refine goI ?_));have e1:Wh.err l[k]=1:=by unfold Wh.err;rw[h3'];rfl
    have e:I7 l=1:=by unfold I7;rw[Cx h1' (by rw[HE (by rw[e1];decide),e1];decide),HE (by rw[e1];decide),e1]
    rw[e];(exact⟨[],aI⟩)
   ·have h3':lab (l[k]).nd.data.toList=true:=Eo h3;have e1:Wh.err l[k]=(l[k]).pl.err:=by unfold Wh.err;rw[h3'];rfl
    (refine goI ?_;repeat (intro gg;refine goI ?_));refine⟨k,_,rfl,Ap hlt,?_⟩;(refine goI ?_;repeat (intro gg;refine goI ?_));refine .inl (cX (Y6 (l[k]).pl) ?_);(refine goI ?_;repeat (intro gg;refine goI ?_));(refine Ab (fun h4=>?_) (fun h4=>?_)<;>rw[h4])
    ·have h4':(l[k]).pl.err≠0:=by simpa using h4
     (refine goI ?_;repeat (intro gg;refine goI ?_));have e:I7 l=(l[k]).pl.err:=by unfold I7;rw[Cx h1' (by rw[HE (by rw[e1];exact h4'),e1];exact h4'),HE (by rw[e1];exact h4'),e1]
     rw[e];(exact⟨[],aI⟩)
    ·have h4':(l[k]).pl.err=0:=by simpa using h4
     (refine goI ?_;repeat (intro gg;refine goI ?_));(exact⟨none,trivial,fun _=>⟨⟨k+1,by omega,up1 (p:=fun j h=>Wh.err l[j]=0) h0 (fun _=>e1.trans h4')⟩,by show l.length-(k+1)<l.length-k;omega,tI,tI,tI,tI⟩⟩)
  ·have hge:¬k<l.length:=(by have:=ZW h2;omega);have h2':Am Wh.err l=0:=Bc fun i hi=>h0 i hi (by omega);(refine goI ?_;repeat (intro gg;refine goI ?_));(refine⟨[],none,{q:Nat//(q<l.length∨q=0)∧∀i,(h:i+1<l.length)→i<q→Wh.lt l[i] l[i+1]=true},[0],fun⟨q,hq,g0⟩=>[(5,.v (.int .i64 ((q:Int)+1)))],[],fun⟨q,hq,g0⟩=>[],fun⟨q,hq,g0⟩=>l.length-q,trivial,fun _=>⟨trivial,fun _=>⟨⟨0,by omega,fun j _ h=>by omega⟩,tI,Aj _ _,tI,Ai _ _⟩⟩,fun⟨q,hq,g0⟩=>?_⟩);(refine goI ?_;repeat (intro gg;refine goI ?_));rw[ZE];(refine Ab (fun h3=>?_) (fun h3=>?_)<;>rw[h3])
   ·have hlt3:q+1<l.length:=(by have:=ZV h3;omega);(refine goI ?_;repeat (intro gg;refine goI ?_));refine⟨q+1,_,by omega,Ap hlt3,?_⟩;(refine goI ?_;repeat (intro gg;refine goI ?_));refine⟨q,_,by omega,Ap (by omega),?_⟩;(refine goI ?_;repeat (intro gg;refine goI ?_));rw[Qw];(refine Ab (fun h4=>?_) (fun h4=>?_)<;>rw[h4])
    ·(refine goI ?_;repeat (intro gg;refine goI ?_));have e:I7 l=4:=Ma h1' h2' (Dn hlt3 (by simpa[Wh.lt]using h4));rw[e];(exact⟨[],aI⟩)
    ·(refine goI ?_;repeat (intro gg;refine goI ?_));(exact⟨none,trivial,fun _=>⟨⟨q+1,by omega,up2 (p:=fun i h=>Wh.lt l[i] l[i+1]=true) g0 (fun _=>by simpa[Wh.lt]using h4)⟩,by show l.length-(q+1)<l.length-q;omega,tI,tI,tI,tI⟩⟩)
   ·have hge3:¬q+1<l.length:=(by have:=ZW h3;omega);(refine goI ?_;repeat (intro gg;refine goI ?_));have e:I7 l=0:=Jh h1' h2' (Dv fun i hi=>g0 i hi (by omega));rw[e];(exact⟨[],aI⟩)
theorem O9[Glob](p:Pk)(h:p.ok):Fun Tryz.prog 7 [.c (.agg p.row)] [.c (.v (.int .i64 p.err))]:=by
 have l1:(p.sv.map Sv.row).length=p.sv.length:=ZE ..;have l2:(p.gs.map Gw.row).length=p.gs.length:=ZE ..;have l3:(p.wh.map Wh.row).length=p.wh.length:=ZE ..;have b1:=h.svl;have b2:=h.gsl;have b3:=h.whl;have b0:=h.msl;refine A9 I6 rfl ?_;(refine goI ?_;repeat (intro gg;refine goI ?_));refine .inl (cX (D6 p.fr h.fr) ?_);(refine goI ?_;repeat (intro gg;refine goI ?_));(refine Ab (fun h1=>?_) (fun h1=>?_)<;>rw[h1])
 ·rw[Pk.err_form (Ey h1)];(refine goI ?_;repeat (intro gg;refine goI ?_));(exact⟨[],aI⟩)
 ·have h1':=Eo h1;cases hwo:p.wo with
  |true=>
   rw[Pk.err_all h1' hwo];(refine goI ?_;repeat (intro gg;refine goI ?_));refine .inl (cX (Aa2 false p.ms h.msl h.ms) ?_);(refine goI ?_;repeat (intro gg;refine goI ?_));(refine Ab (fun e1=>?_) (fun e1=>?_)<;>rw[e1])
   ·have z1:Ib p.ms=0:=by simpa using e1
    (refine goI ?_;repeat (intro gg;refine goI ?_));(refine .inl ⟨_,_,false,[],aI,Xs false p.sv (by omega) h.sv,Ak,nI,?_⟩);(refine goI ?_;repeat (intro gg;refine goI ?_));(refine Ab (fun e2=>?_) (fun e2=>?_)<;>rw[e2])
    ·have z2:Im p.sv=0:=by simpa using e2
     (refine goI ?_;repeat (intro gg;refine goI ?_));(refine .inl ⟨_,_,false,[],aI,Yn false p.gs (by omega) h.gs,Ak,nI,?_⟩);(refine goI ?_;repeat (intro gg;refine goI ?_));(refine Ab (fun e3=>?_) (fun e3=>?_)<;>rw[e3])
     ·have z3:Ih p.gs=0:=by simpa using e3
      (refine goI ?_;repeat (intro gg;refine goI ?_));(refine .inl ⟨_,_,false,[],aI,Y7 false p.wh (by omega) h.wh,Ak,nI,?_⟩);(refine goI ?_;repeat (intro gg;refine goI ?_));rw[show Am (fun e=>e) p.cks=I7 p.wh from by by_cases q:I7 p.wh=0<;>simp[Pk.cks,Am,z1,z2,z3,q]];(exact⟨[],aI⟩)
     ·have y3:Ih p.gs≠0:=by simpa using e3
      (refine goI ?_;repeat (intro gg;refine goI ?_));rw[show Am (fun e=>e) p.cks=Ih p.gs from by simp[Pk.cks,Am,z1,z2,y3]];(exact⟨[],aI⟩)
    ·have y2:Im p.sv≠0:=by simpa using e2
     (refine goI ?_;repeat (intro gg;refine goI ?_));rw[e2];(refine goI ?_;repeat (intro gg;refine goI ?_));rw[show Am (fun e=>e) p.cks=Im p.sv from by simp[Pk.cks,Am,z1,y2]];(exact⟨[],aI⟩)
   ·have y1:Ib p.ms≠0:=by simpa using e1
    (refine goI ?_;repeat (intro gg;refine goI ?_));rw[e1];(refine goI ?_;repeat (intro gg;refine goI ?_));rw[e1];(refine goI ?_;repeat (intro gg;refine goI ?_));rw[show Am (fun e=>e) p.cks=Ib p.ms from by simp[Pk.cks,Am,y1]];(exact⟨[],aI⟩)
  |false=>
   (refine goI ?_;repeat (intro gg;refine goI ?_));(refine Ab (fun g1=>?_) (fun g1=>?_)<;>rw[g1])
   ·have g1':=ZV g1;rw[l1]at g1';rw[Pk.err_more h1' hwo (by omega)];(refine goI ?_;repeat (intro gg;refine goI ?_));(exact⟨[],aI⟩)
   ·have g1':=ZW g1;rw[l1]at g1';(refine goI ?_;repeat (intro gg;refine goI ?_));(refine Ab (fun g2=>?_) (fun g2=>?_)<;>rw[g2])
    ·have g2':=ZV g2;rw[l2]at g2';rw[Pk.err_more h1' hwo (by omega)];(refine goI ?_;repeat (intro gg;refine goI ?_));(exact⟨[],aI⟩)
    ·have g2':=ZW g2;rw[l2]at g2';(refine goI ?_;repeat (intro gg;refine goI ?_));(refine Ab (fun g3=>?_) (fun g3=>?_)<;>rw[g3])
     ·have g3':=ZV g3;rw[l3]at g3';rw[Pk.err_more h1' hwo (by omega)];(refine goI ?_;repeat (intro gg;refine goI ?_));(exact⟨[],aI⟩)
     ·have g3':=ZW g3;rw[l3]at g3';rw[Pk.err_few h1' hwo (by omega)];have hlm:(p.ms.map Mb.row).length=p.ms.length:=ZE ..;(refine goI ?_;repeat (intro gg;refine goI ?_));rw[hlm];(refine Ab (fun g4=>?_) (fun g4=>?_)<;>rw[g4])
      ·rw[Oe (by have:=ZV g4;omega)];(refine goI ?_;repeat (intro gg;refine goI ?_));(exact⟨[],aI⟩)
      ·have g4':¬5<p.ms.length:=by have:=ZW g4;omega
       (refine goI ?_;repeat (intro gg;refine goI ?_));(refine⟨[],none,{k:Nat//k≤p.ms.length∧∀j,(h:j<p.ms.length)→j<k→(p.ms[j]).err=0},[1],fun⟨k,hk,h0⟩=>[(4,.v (.int .i64 k))],[16],fun⟨k,hk,h0⟩=>[],fun⟨k,hk,h0⟩=>p.ms.length-k,trivial,fun _=>⟨trivial,fun _=>⟨⟨0,by omega,fun j _ h=>by omega⟩,tI,Aj _ _,tI,Ai _ _⟩⟩,fun⟨k,hk,h0⟩=>?_⟩);(refine goI ?_;repeat (intro gg;refine goI ?_));rw[hlm];(refine Ab (fun g5=>?_) (fun g5=>?_)<;>rw[g5])
       ·have hlt:k<p.ms.length:=by have:=ZV g5;omega
        (refine goI ?_;repeat (intro gg;refine goI ?_));refine⟨k,_,rfl,Ap hlt,?_⟩;(refine goI ?_;repeat (intro gg;refine goI ?_));refine .inl (cX (Yp (p.ms[k]) (h.ms _ (ZK hlt))) ?_);(refine goI ?_;repeat (intro gg;refine goI ?_));(refine Ab (fun g6=>?_) (fun g6=>?_)<;>rw[g6])
        ·have g6':(p.ms[k]).err≠0:=by simpa using g6
         have e1:=Br (e:=Mb.err) hlt h0 g6';rw[N0 g4' (by rw[e1];exact g6'),e1];(refine goI ?_;repeat (intro gg;refine goI ?_));(exact⟨[],aI⟩)
        ·have g6':(p.ms[k]).err=0:=by simpa using g6
         (refine goI ?_;repeat (intro gg;refine goI ?_));(exact⟨none,trivial,fun _=>⟨⟨k+1,by omega,up1 (p:=fun j h=>(p.ms[j]).err=0) h0 (fun _=>g6')⟩,by show p.ms.length-(k+1)<p.ms.length-k;omega,tI,tI,tI,tI⟩⟩)
       ·have hge:¬k<p.ms.length:=by have:=ZW g5;omega
        have hz:=Bc (e:=Mb.err) (l:=p.ms) (fun i hi=>h0 i hi (by omega));(refine goI ?_;repeat (intro gg;refine goI ?_));(refine⟨[],none,{k:Nat//k≤p.ms.length∧∀i,(h:i<p.ms.length)→i<k→∀j,(g:j<i)→(p.ms[j]).n≠(p.ms[i]).n},[1],fun⟨k,hk,h0⟩=>[(6,.v (.int .i64 k))],[16],fun⟨k,hk,h0⟩=>[],fun⟨k,hk,h0⟩=>p.ms.length-k,trivial,fun _=>⟨trivial,fun _=>⟨⟨0,by omega,fun j _ h=>by omega⟩,tI,Aj _ _,tI,Ai _ _⟩⟩,fun⟨k,hk,h0⟩=>?_⟩);(refine goI ?_;repeat (intro gg;refine goI ?_));rw[hlm];(refine Ab (fun g7=>?_) (fun g7=>?_)<;>rw[g7])
        ·have hlt:k<p.ms.length:=by have:=ZV g7;omega
         (refine goI ?_;repeat (intro gg;refine goI ?_));(refine⟨[],none,{q:Nat//q≤k∧∀j,(h:j<k)→j<q→(p.ms[j]).n≠(p.ms[k]).n},[1,6],fun⟨q,hq,h0'⟩=>[(7,.v (.int .i64 q))],[16],fun⟨q,hq,h0'⟩=>[],fun⟨q,hq,h0'⟩=>k-q,trivial,fun _=>⟨trivial,fun _=>⟨⟨0,by omega,fun j _ h=>by omega⟩,tI,Aj _ _,tI,Ai _ _⟩⟩,fun⟨q,hq,h0'⟩=>?_⟩);(refine goI ?_;repeat (intro gg;refine goI ?_));(refine Ab (fun g8=>?_) (fun g8=>?_)<;>rw[g8])
         ·have hqk:q<k:=by have:=ZV g8;omega
          have hql:q<p.ms.length:=by omega
          (refine goI ?_;repeat (intro gg;refine goI ?_));refine⟨q,_,rfl,Ap hql,?_⟩;(refine goI ?_;repeat (intro gg;refine goI ?_));refine⟨k,_,rfl,Ap hlt,?_⟩;(refine goI ?_;repeat (intro gg;refine goI ?_));(refine Ab (fun g9=>?_) (fun g9=>?_)<;>rw[g9])
          ·have g9':(p.ms[q]).n=(p.ms[k]).n:=toList_inj (ZR.1 g9);rw[Vf g4' hz (fun hn=>by
            have:=(List.pairwise_iff_getElem.1 hn) q k (by simpa using hql) (by simpa using hlt) hqk;simp only[XQ]at this;exact this g9')]
           (refine goI ?_;repeat (intro gg;refine goI ?_));(exact⟨[],aI⟩)
          ·have g9':(p.ms[q]).n≠(p.ms[k]).n:=fun e=>by rw[e,beq_self_eq_true]at g9;cases g9
           (refine goI ?_;repeat (intro gg;refine goI ?_));(exact⟨none,trivial,fun _=>⟨⟨q+1,by omega,up1 (p:=fun j h=>(p.ms[j]).n≠(p.ms[k]).n) h0' (fun _=>g9')⟩,by show k-(q+1)<k-q;omega,tI,tI,tI,tI⟩⟩)
         ·have hqk:¬q<k:=by have:=ZW g8;omega
          (refine goI ?_;repeat (intro gg;refine goI ?_));(exact⟨none,trivial,fun _=>⟨⟨k+1,by omega,up1 (p:=fun i h=>∀j,(g:j<i)→(p.ms[j]).n≠(p.ms[i]).n) h0 (fun _ j g=>h0' j g (by omega))⟩,by show p.ms.length-(k+1)<p.ms.length-k;omega,tI,tI,tI,tI⟩⟩)
        ·have hge:¬k<p.ms.length:=by have:=ZW g7;omega
         rw[Ub g4' hz (List.pairwise_iff_getElem.2 fun i j hi hj hij=>by
          simp only[XQ];exact h0 j (by simpa using hj) (by simp at hj;omega) i hij)]
         (refine goI ?_;repeat (intro gg;refine goI ?_));(exact⟨[],aI⟩)
open Go
theorem S0[Glob](s w:ByteArray)(e f:Int):Fun Tryz.prog 11 [.c (.v (.string s)),.c (.v (.int .i64 e)),.c (.v (.int .i64 f)),.c (.v (.string w))]
  [.c (.v (.bool (bif f !=0 then(bif e==f then s.toList==(⟨#[]⟩:ByteArray).toList else false)else(bif e==f then s.toList==w.toList else false))))]:=by
 refine A9 Mx rfl ?_;(refine goI ?_;repeat (intro gg;refine goI ?_));(refine Ab (fun h1=>?_) (fun h1=>?_)<;>rw[h1])
 ·(refine goI ?_;repeat (intro gg;refine goI ?_));(refine Ab (fun h2=>?_) (fun h2=>?_)<;>rw[h2])
  ·(refine goI ?_;repeat (intro gg;refine goI ?_));(exact⟨[],aI⟩)
  ·(refine goI ?_;repeat (intro gg;refine goI ?_));(exact⟨[],aI⟩)
 ·(refine goI ?_;repeat (intro gg;refine goI ?_));(refine Ab (fun h2=>?_) (fun h2=>?_)<;>rw[h2])
  ·(refine goI ?_;repeat (intro gg;refine goI ?_));(exact⟨[],aI⟩)
  ·(refine goI ?_;repeat (intro gg;refine goI ?_));(exact⟨[],aI⟩)
theorem Acx[Glob](s:ByteArray):Fun Tryz.prog 11 [.c (.v (.string s)),.c (.v (.int .i64 0)),.c (.v (.int .i64 0)),.c (.v (.string s))] [.c (.v (.bool true))]:=by
 have h:=S0 s s 0 0
 rwa[show(bif (0:Int) !=0 then(bif (0:Int)==0 then s.toList==(⟨#[]⟩:ByteArray).toList else false)else(bif (0:Int)==0 then s.toList==s.toList else false))=true from beq_self_eq_true _]at h
theorem Z7[Glob](w:ByteArray)(e:Int)(he:e≠0):Fun Tryz.prog 11 [.c (.v (.string ⟨#[]⟩)),.c (.v (.int .i64 e)),.c (.v (.int .i64 e)),.c (.v (.string w))] [.c (.v (.bool true))]:=by
 have h:=S0 ⟨#[]⟩ w e e
 rwa[show(e !=0)=true from ZZ.2 he,show(e==e)=true from beq_self_eq_true _,show(bif true then(bif true then(⟨#[]⟩:ByteArray).toList==(⟨#[]⟩:ByteArray).toList else false)else(bif true then(⟨#[]⟩:ByteArray).toList==w.toList else false))=true from beq_self_eq_true _]at h
namespace Pl
def pk1:Pk:=⟨⟨#[97]⟩,false,[],[],[],[]⟩
theorem Si:pk1.err=0:=by
 rw[Pk.err_few (p:=pk1) (by decide) rfl rfl];exact Ub (l:=[]) (by decide) rfl List.Pairwise.nil
theorem Aji[Glob][Tabs]:pk1.ok:=Pk.okB_ok (Pk.sm Si).okB
theorem Vk:bA (pkB pk1)=⟨#[49,59,97,48,59,48,59,48,59,48,59,48,59]⟩:=by
 have h0:A8 0=[48,59]:=by unfold A8 Go.Lib.itoa;simp[Go.Lib.decDigits_one]
 have h1:A8 1=[49,59]:=by unfold A8 Go.Lib.itoa;simp[Go.Lib.decDigits_one]
 have e:pkB pk1=[49,59,97,48,59,48,59,48,59,48,59,48,59]:=by
  simp[pkB,Tf,Fh,E5,pk1,h0,h1,ByteArray.size]
 rw[e];rfl
end Pl
theorem Gc[Glob][Tabs]:Fun Tryz.prog 9 [] [.c (.v (.bool true))]:=by
 have hW:=Gs pk1 Aji;rw[Si,show Ux pk1=bA (pkB pk1)from if_pos Si]at hW;have hR:=K9 (bA (pkB pk1)) (by rw[Vk];decide);rw[Vu Si]at hR;rw[Vk]at hW hR;refine A9 I1 rfl ?_;(refine goI ?_;repeat (intro gg;refine goI ?_));refine .inl (cY hW ?_);(refine goI ?_;repeat (intro gg;refine goI ?_));refine .inl (cX hR ?_);(refine goI ?_;repeat (intro gg;refine goI ?_));rw[beq_self_eq_true];(refine goI ?_;repeat (intro gg;refine goI ?_));rw[show(pk1.fr.toList==(⟨#[97]⟩:ByteArray).toList)=true from beq_self_eq_true _];(refine goI ?_;repeat (intro gg;refine goI ?_));(exact⟨[],aI⟩)
theorem Mp[Glob](n:Int)(h0:0≤n)(h1:n≤9223372036854775807):Fun Tryz.prog 24 [.c (.v (.int .i64 n))] [.c (.v (.string (bA (A8 n))))]:=by
 obtain⟨u,rfl⟩:=Int.eq_ofNat_of_zero_le h0;refine A9 Dw rfl ?_;(refine goI ?_;repeat (intro gg;refine goI ?_));(refine⟨[],none,{p:Nat×List UInt8//p.1≤u∧Lib.decDigits p.1++p.2=A8 (u:Int)},[],fun⟨⟨m,acc⟩,hm,hA⟩=>[(0,.v (.int .i64 (m:Int))),(4,.v (.string (bA acc)))],[],fun⟨⟨m,acc⟩,hm,hA⟩=>[],fun⟨⟨m,acc⟩,hm,hA⟩=>m,trivial,fun _=>⟨trivial,fun _=>⟨⟨(u,[59]),ZT _,by simp[A8,Lib.itoa]⟩,tI,Aj _ _,?_,Ai _ _⟩⟩,fun⟨⟨m,acc⟩,hm,hA⟩=>?_⟩;focus (exact trivial));(refine goI ?_;repeat (intro gg;refine goI ?_));refine⟨by decide,((m%10:Nat):Int),(Int.ofNat_tmod m 10).symm,?_⟩;(refine goI ?_;repeat (intro gg;refine goI ?_));refine⟨((48+m%10:Nat):Int),by show(48+((m%10:Nat):Int))%256=_;omega,?_⟩;(refine goI ?_;repeat (intro gg;refine goI ?_));refine⟨[((48+m%10:Nat):Int)],rfl,?_⟩;(refine goI ?_;repeat (intro gg;refine goI ?_));have hnl:=Av (n:=(u:Int)) ⟨by omega,by omega⟩;have hal:acc.length≤22:=by
  have h:=congrArg List.length hA;simp only[ZF]at h;omega
 obtain⟨d,hd⟩:∃d,d=UInt8.ofNat (48+m%10):=⟨_,rfl⟩;have e3:Vo [((48+m%10:Nat):Int)]++bA acc=bA (d::acc):=by
  rw[hd];have h:Vo [((48+m%10:Nat):Int)]=bA [UInt8.ofNat (48+m%10)]:=by unfold Vo;rw[List.map_cons,Int.toNat_natCast];rfl
  rw[h];apply ByteArray.ext;simp[bA]
 refine⟨by rw[Ax];show((1+acc.length:Nat):Int)≤_;omega,?_⟩;rw[e3];(refine goI ?_;repeat (intro gg;refine goI ?_));refine⟨by decide,((m/10:Nat):Int),by rw[show((m:Int)).tdiv 10=((m/10:Nat):Int)from(Int.ofNat_tdiv m 10).symm];exact Jf (by omega) (by omega),?_⟩;(refine goI ?_;repeat (intro gg;refine goI ?_));have hA':Lib.decDigits m++acc=A8 (u:Int):=hA;by_cases hz:m/10=0
 ·have hA2:d::acc=A8 (u:Int):=by
   rw[hd,←hA',Lib.decDigits_one (show m<10 by omega),show m%10=m by omega];rfl
  rw[hz,hA2];(refine goI ?_;repeat (intro gg;refine goI ?_));(exact⟨[],aI⟩)
 ·have hN:Lib.decDigits (m/10)++d::acc=A8 (u:Int):=by
   rw[hd,←hA']
   conv=>rhs;rw[Lib.decDigits,dif_neg (show¬m<10 by omega)]
   simp
  rw[show(((m/10:Nat):Int)==0)=false from beq_false_of_ne (by omega)];(refine goI ?_;repeat (intro gg;refine goI ?_));(exact⟨none,trivial,fun gr=>⟨⟨(m/10,d::acc),by show m/10≤u;have:m≤u:=hm;omega,hN⟩,by show m/10<m;omega,tI,tI,trivial,tI⟩⟩)
namespace Pl
theorem Yr(u:Nat)(h:1≤u):A8 (-(u:Int))=45::(Lib.decDigits u++[59]):=by
 unfold A8 Lib.itoa;rw[if_pos (by omega)];simp
theorem Ps(u:Nat):A8 (u:Int)=Lib.decDigits u++[59]:=by
 unfold A8 Lib.itoa;rw[if_neg (by omega)];simp
theorem Fv(a b:List UInt8):bA a++bA b=bA (a++b):=by
 apply ByteArray.ext;simp[bA]
end Pl
theorem Cv[Glob](n:Int)(h:isI n):Fun Tryz.prog 24 [.c (.v (.int .i64 n))] [.c (.v (.string (bA (A8 n))))]:=by
 obtain⟨h0,h1⟩:=h;by_cases hn:0≤n
 ·exact Mp n hn h1
 obtain⟨u,hu⟩:∃u:Nat,n= -(u:Int):=⟨n.natAbs,by omega⟩;subst hu;have hu1:1≤u:=by omega
 have e45:(⟨#[45]⟩:ByteArray)=bA [45]:=rfl;by_cases hs:u<10
 ·have hD:=Mp (u:Int) (by omega) (by omega);have hl:=Av (n:=(u:Int)) ⟨by omega,by omega⟩;have hR:(⟨#[45]⟩:ByteArray)++bA (A8 (u:Int))=bA (A8 (-(u:Int))):=by rw[e45,Fv,Yr u hu1,Ps];rfl
  refine A9 Dw rfl ?_;(refine goI ?_;repeat (intro gg;refine goI ?_));rw[ZX (show -(u:Int)<0 by omega)];(refine goI ?_;repeat (intro gg;refine goI ?_));rw[ZX (show(-10:Int)< -(u:Int)by omega)];(refine goI ?_;repeat (intro gg;refine goI ?_));rw[show(0:Int) - -(u:Int)=(u:Int)by omega];refine .inl (cX hD ?_);(refine goI ?_;repeat (intro gg;refine goI ?_));refine⟨by show((1+(bA (A8 (u:Int))).size:Nat):Int)≤_;rw[Ax];omega,?_⟩;rw[hR];(refine goI ?_;repeat (intro gg;refine goI ?_));(exact⟨[],aI⟩)
 ·have hD:=Mp ((u/10:Nat):Int) (by omega) (by omega);have hE:=Mp ((u%10:Nat):Int) (by omega) (by omega);have hl:=Av (n:=((u/10:Nat):Int)) ⟨by omega,by omega⟩;have hl2:=Av (n:=((u%10:Nat):Int)) ⟨by omega,by omega⟩;have hR:(⟨#[45]⟩:ByteArray)++(bA (A8 ((u/10:Nat):Int))).extract 0 (Lib.decDigits (u/10)).length++bA (A8 ((u%10:Nat):Int))=bA (A8 (-(u:Int))):=by
   rw[e45,Ek,Fv,Fv,Yr u hu1,Ps,Ps,List.drop_zero,List.take_left]
   conv=>rhs;rw[Lib.decDigits,dif_neg hs]
   rw[Lib.decDigits_one (show u%10<10 by omega)];congr 1;simp
  have hz:(A8 ((u/10:Nat):Int)).length=(Lib.decDigits (u/10)).length+1:=by rw[Ps];simp
  refine A9 Dw rfl ?_;(refine goI ?_;repeat (intro gg;refine goI ?_));rw[ZX (show -(u:Int)<0 by omega)];(refine goI ?_;repeat (intro gg;refine goI ?_));rw[ZY (show¬(-10:Int)< -(u:Int)by omega)];(refine goI ?_;repeat (intro gg;refine goI ?_));rw[ZX (show -(u:Int)<0 by omega)];(refine goI ?_;repeat (intro gg;refine goI ?_));refine⟨by decide,-((u/10:Nat):Int),by rw[Int.neg_tdiv,show((u:Int)).tdiv 10=((u/10:Nat):Int)from(Int.ofNat_tdiv u 10).symm];exact Jf (by omega) (by omega),?_⟩;(refine goI ?_;repeat (intro gg;refine goI ?_));rw[show(0:Int) - -((u/10:Nat):Int)=((u/10:Nat):Int)by omega];refine .inl (cX hD ?_);(refine goI ?_;repeat (intro gg;refine goI ?_));refine⟨((Lib.decDigits (u/10)).length:Int),by rw[Ax,hz,show(((Lib.decDigits (u/10)).length+1:Nat):Int)-1=((Lib.decDigits (u/10)).length:Int)by omega];exact Jf (by omega) (by omega),?_⟩;(refine goI ?_;repeat (intro gg;refine goI ?_));refine⟨0,(Lib.decDigits (u/10)).length,rfl,⟨_,rfl⟩,by omega,by rw[Ax,hz];omega,?_⟩;(refine goI ?_;repeat (intro gg;refine goI ?_));have hx:((bA (A8 ((u/10:Nat):Int))).extract 0 (Lib.decDigits (u/10)).length).size≤22:=by rw[ByteArray.size_extract,Ax];omega
  refine⟨by show((1+((bA (A8 ((u/10:Nat):Int))).extract 0 (Lib.decDigits (u/10)).length).size:Nat):Int)≤_;omega,?_⟩;(refine goI ?_;repeat (intro gg;refine goI ?_));refine⟨by decide,-((u%10:Nat):Int),by rw[Int.neg_tmod,show((u:Int)).tmod 10=((u%10:Nat):Int)from(Int.ofNat_tmod u 10).symm],?_⟩;(refine goI ?_;repeat (intro gg;refine goI ?_));rw[show(0:Int) - -((u%10:Nat):Int)=((u%10:Nat):Int)by omega];(refine⟨_,_,false,aI,hE,Ak,nI,?_⟩);(refine goI ?_;repeat (intro gg;refine goI ?_));refine⟨by rw[XP,Ax];show((1+((bA (A8 ((u/10:Nat):Int))).extract 0 (Lib.decDigits (u/10)).length).size+_:Nat):Int)≤_;omega,?_⟩;rw[hR];(refine goI ?_;repeat (intro gg;refine goI ?_));(exact⟨[],aI⟩)
theorem Ep[Glob](s:ByteArray)(hs:s.size≤1000000000000000):Fun Tryz.prog 22 [.c (.v (.string s))] [.c (.v (.string (bA (Fh s))))]:=by
 have hD:=Mp (s.size:Int) (by omega) (by omega);have hl:=Av (n:=(s.size:Int)) ⟨by omega,by omega⟩;have hR:bA (A8 (s.size:Int))++s=bA (Fh s):=by
  conv=>lhs;rw[←Q3 s,Ax]
  rw[Array.length_toList,Fv];rfl
 refine A9 Ko rfl ?_;(refine goI ?_;repeat (intro gg;refine goI ?_));refine .inl (cX hD ?_);(refine goI ?_;repeat (intro gg;refine goI ?_));refine⟨by rw[Ax];omega,?_⟩;rw[hR];(refine goI ?_;repeat (intro gg;refine goI ?_));(exact⟨[],aI⟩)
theorem Oy[Glob](b:Bool):Fun Tryz.prog 23 [.c (.v (.bool b))] [.c (.v (.string (bA (E5 b))))]:=by
 cases b
 ·rw[show bA (E5 false)=⟨#[48,59]⟩by simp[E5,A8,Lib.itoa,Lib.decDigits_one,bA]];refine A9 E6 rfl ?_;(refine goI ?_;repeat (intro gg;refine goI ?_));(exact⟨[],aI⟩)
 ·rw[show bA (E5 true)=⟨#[49,59]⟩by simp[E5,A8,Lib.itoa,Lib.decDigits_one,bA]];refine A9 E6 rfl ?_;(refine goI ?_;repeat (intro gg;refine goI ?_));(exact⟨[],aI⟩)
set_option maxHeartbeats 8000000 in
theorem Adh[Glob](p:Pk)(h:Pk.Sm p):Fun Tryz.prog 8 [.c (.agg p.row)] [.c (.v (.string (bA (pkB p))))]:=by
 obtain⟨fr,wo,ms,sv,gs,wh⟩:=p;obtain⟨h1,h2,h3,h4,h5,h6,h7,h8,h9⟩:=h;simp only at h1 h2 h3 h4 h5 h6 h7 h8 h9;show Fun _ _ [.c (.agg [.v (.string fr),.v (.bool wo),.sl false (ms.map Mb.row),.sl false (sv.map Sv.row),.sl false (gs.map Gw.row),.sl false (wh.map Wh.row)])] _;have k1:=Bk h1;have k2:=Ds wo;have hl0:=Av (n:=(ms.length:Int)) ⟨by omega,by omega⟩;obtain⟨A0,hA0⟩:∃A,A=Fh fr++E5 wo++A8 (ms.length:Int):=⟨_,rfl⟩;have l0:A0.length≤122:=by rw[hA0];simp only[ZF];omega
 have e0:bA (Fh fr)++bA (E5 wo)++bA (A8 (ms.length:Int))=bA (A0++(ms.take 0).flatMap mbB):=by rw[Fv,Fv,hA0];simp
 have hl1:=Av (n:=(sv.length:Int)) ⟨by omega,by omega⟩;obtain⟨A1,hA1⟩:∃A,A=A0++ms.flatMap mbB++A8 (sv.length:Int):=⟨_,rfl⟩;have b0:=Cn (f:=mbB) (m:=140) (n:=20) (l:=ms) (fun x hx=>Mb.lenB (h3 x hx)) h2 ms.length;have l1:A1.length≤2944:=by
  rw[XF]at b0;rw[hA1];simp only[ZF];omega
 have hl2:=Av (n:=(gs.length:Int)) ⟨by omega,by omega⟩;obtain⟨A2,hA2⟩:∃A,A=A1++sv.flatMap svB++A8 (gs.length:Int):=⟨_,rfl⟩;have b1:=Cn (f:=svB) (m:=318) (n:=40) (l:=sv) (fun x hx=>Sv.lenB (h5 x hx)) h4 sv.length;have l2:A2.length≤15686:=by
  rw[XF]at b1;rw[hA2];simp only[ZF];omega
 have hl3:=Av (n:=(wh.length:Int)) ⟨by omega,by omega⟩;obtain⟨A3,hA3⟩:∃A,A=A2++gs.flatMap gwB++A8 (wh.length:Int):=⟨_,rfl⟩;have b2:=Cn (f:=gwB) (m:=96) (n:=6) (l:=gs) (fun x hx=>Gw.lenB (h7 x hx)) h6 gs.length;have l3:A3.length≤16284:=by
  rw[XF]at b2;rw[hA3];simp only[ZF];omega
 have eP:bA (pkB ⟨fr,wo,ms,sv,gs,wh⟩)=bA (A3++wh.flatMap whB):=by
  rw[hA3,hA2,hA1,hA0];simp[pkB,Tf]
 rw[eP];refine A9 Iw rfl ?_;(refine goI ?_;repeat (intro gg;refine goI ?_));(refine⟨_,_,false,aI,Ep fr (by omega),Ak,nI,?_⟩);(refine goI ?_;repeat (intro gg;refine goI ?_));(refine⟨_,_,false,aI,Oy wo,Ak,nI,?_⟩);(refine goI ?_;repeat (intro gg;refine goI ?_));refine⟨by simp only[XP,Ax];omega,?_⟩;(refine goI ?_;repeat (intro gg;refine goI ?_));rw[ZE];(refine⟨_,_,false,aI,Cv (ms.length:Int) ⟨by omega,by omega⟩,Ak,nI,?_⟩);(refine goI ?_;repeat (intro gg;refine goI ?_));refine⟨by simp only[XP,Ax];omega,?_⟩;rw[e0];(refine goI ?_;repeat (intro gg;refine goI ?_));(refine⟨[],none,{k:Nat//k≤ms.length},[1],fun⟨k,hk⟩=>[(3,.v (.string (bA (A0++(ms.take k).flatMap mbB)))),(4,.v (.int .i64 k))],[16],fun⟨k,hk⟩=>[],fun⟨k,hk⟩=>ms.length-k,trivial,fun _=>⟨trivial,fun _=>⟨⟨0,by omega⟩,tI,Aj _ _,?_,Ai _ _⟩⟩,fun⟨k,hk⟩=>?_⟩;focus (exact trivial));(refine goI ?_;repeat (intro gg;refine goI ?_));rw[ZE];(refine Ab (fun q0=>?_) (fun q0=>?_)<;>rw[q0])
 ·have hlt:k<ms.length:=(by have:=ZV q0;omega);have hm:=h3 _ (ZK hlt);have n2:=Cn (f:=mbB) (m:=140) (n:=20) (l:=ms) (fun x hx=>Mb.lenB (h3 x hx)) h2 k;have z0:=hm.n;have c0:=Bk z0;have r1:isI ms[k].st:=⟨by have:=hm.st;omega,by have:=hm.st;omega⟩;have c1:=Av r1;have r2:isI ms[k].lf:=⟨by have:=hm.lf;omega,by have:=hm.lf;omega⟩;have c2:=Av r2;have r3:isI ms[k].ad:=⟨by have:=hm.ad;omega,by have:=hm.ad;omega⟩;have c3:=Av r3;have c4:=Ds ms[k].sv;have e1:bA (A0++(ms.take k).flatMap mbB)++(bA (Fh ms[k].n)++bA (A8 ms[k].st)++bA (A8 ms[k].lf)++bA (A8 ms[k].ad)++bA (E5 ms[k].sv))=bA (A0++(ms.take (k+1)).flatMap mbB):=by
   rw[Du hlt];simp only[Fv];simp[mbB]
  (refine goI ?_;repeat (intro gg;refine goI ?_));refine⟨k,_,rfl,Ap hlt,?_⟩;(refine goI ?_;repeat (intro gg;refine goI ?_));(refine⟨_,_,false,aI,Ep ms[k].n (by omega),Ak,nI,?_⟩);(refine goI ?_;repeat (intro gg;refine goI ?_));(refine⟨_,_,false,aI,Cv ms[k].st r1,Ak,nI,?_⟩);(refine goI ?_;repeat (intro gg;refine goI ?_));refine⟨by simp only[XP,Ax,ZF];omega,?_⟩;(refine goI ?_;repeat (intro gg;refine goI ?_));(refine⟨_,_,false,aI,Cv ms[k].lf r2,Ak,nI,?_⟩);(refine goI ?_;repeat (intro gg;refine goI ?_));refine⟨by simp only[XP,Ax,ZF];omega,?_⟩;(refine goI ?_;repeat (intro gg;refine goI ?_));(refine⟨_,_,false,aI,Cv ms[k].ad r3,Ak,nI,?_⟩);(refine goI ?_;repeat (intro gg;refine goI ?_));refine⟨by simp only[XP,Ax,ZF];omega,?_⟩;(refine goI ?_;repeat (intro gg;refine goI ?_));(refine⟨_,_,false,aI,Oy ms[k].sv,Ak,nI,?_⟩);(refine goI ?_;repeat (intro gg;refine goI ?_));refine⟨by simp only[XP,Ax,ZF];omega,?_⟩;(refine goI ?_;repeat (intro gg;refine goI ?_));refine⟨by simp only[XP,Ax,ZF];omega,?_⟩;rw[e1];(refine goI ?_;repeat (intro gg;refine goI ?_));(exact⟨none,trivial,fun gr=>⟨⟨k+1,by omega⟩,by show ms.length-(k+1)<ms.length-k;omega,tI,tI,trivial,tI⟩⟩)
 ·have hge:¬k<ms.length:=(by have:=ZW q0;omega);obtain rfl:k=ms.length:=by omega
  (refine goI ?_;repeat (intro gg;refine goI ?_));rw[ZE];(refine .inl ⟨_,_,false,[],aI,Cv (sv.length:Int) ⟨by omega,by omega⟩,Ak,nI,?_⟩);(refine goI ?_;repeat (intro gg;refine goI ?_));refine⟨by rw[XF];simp only[Ax];have:=hA1;rw[XF]at b0;simp only[ZF];omega,?_⟩;rw[show bA (A0++(ms.take ms.length).flatMap mbB)++bA (A8 (sv.length:Int))=bA (A1++(sv.take 0).flatMap svB)by rw[XF,Fv,hA1];simp];(refine goI ?_;repeat (intro gg;refine goI ?_));(refine⟨[],none,{k:Nat//k≤sv.length},[1],fun⟨k,hk⟩=>[(3,.v (.string (bA (A1++(sv.take k).flatMap svB)))),(6,.v (.int .i64 k))],[16],fun⟨k,hk⟩=>[],fun⟨k,hk⟩=>sv.length-k,trivial,fun _=>⟨trivial,fun _=>⟨⟨0,by omega⟩,tI,Aj _ _,?_,Ai _ _⟩⟩,fun⟨k,hk⟩=>?_⟩;focus (exact trivial));(refine goI ?_;repeat (intro gg;refine goI ?_));rw[ZE];(refine Ab (fun q1=>?_) (fun q1=>?_)<;>rw[q1])
  ·have hlt:k<sv.length:=(by have:=ZV q1;omega);have hm:=h5 _ (ZK hlt);have n2:=Cn (f:=svB) (m:=318) (n:=40) (l:=sv) (fun x hx=>Sv.lenB (h5 x hx)) h4 k;have z0:=hm.nd;have c0:=Bk z0;have z1:=hm.id;have c1:=Bk z1;have z2:=hm.nm;have c2:=Bk z2;have z3:=hm.tg;have c3:=Bk z3;have r4:isI sv[k].ad:=⟨by have:=hm.ad;omega,by have:=hm.ad;omega⟩;have c4:=Av r4;have r5:isI sv[k].pt:=⟨by have:=hm.pt;omega,by have:=hm.pt;omega⟩;have c5:=Av r5;have c6:=Ds sv[k].ps;have r7:isI sv[k].vs:=⟨by have:=hm.vs;omega,by have:=hm.vs;omega⟩;have c7:=Av r7;have c8:=Ds sv[k].gn;have e1:bA (A1++(sv.take k).flatMap svB)++(bA (Fh sv[k].nd)++bA (Fh sv[k].id)++bA (Fh sv[k].nm)++bA (Fh sv[k].tg)++bA (A8 sv[k].ad)++bA (A8 sv[k].pt)++bA (E5 sv[k].ps)++bA (A8 sv[k].vs)++bA (E5 sv[k].gn))=bA (A1++(sv.take (k+1)).flatMap svB):=by
    rw[Du hlt];simp only[Fv];simp[svB]
   (refine goI ?_;repeat (intro gg;refine goI ?_));refine⟨k,_,rfl,Ap hlt,?_⟩;(refine goI ?_;repeat (intro gg;refine goI ?_));(refine⟨_,_,false,aI,Ep sv[k].nd (by omega),Ak,nI,?_⟩);(refine goI ?_;repeat (intro gg;refine goI ?_));(refine⟨_,_,false,aI,Ep sv[k].id (by omega),Ak,nI,?_⟩);(refine goI ?_;repeat (intro gg;refine goI ?_));refine⟨by simp only[XP,Ax,ZF];omega,?_⟩;(refine goI ?_;repeat (intro gg;refine goI ?_));(refine⟨_,_,false,aI,Ep sv[k].nm (by omega),Ak,nI,?_⟩);(refine goI ?_;repeat (intro gg;refine goI ?_));refine⟨by simp only[XP,Ax,ZF];omega,?_⟩;(refine goI ?_;repeat (intro gg;refine goI ?_));(refine⟨_,_,false,aI,Ep sv[k].tg (by omega),Ak,nI,?_⟩);(refine goI ?_;repeat (intro gg;refine goI ?_));refine⟨by simp only[XP,Ax,ZF];omega,?_⟩;(refine goI ?_;repeat (intro gg;refine goI ?_));(refine⟨_,_,false,aI,Cv sv[k].ad r4,Ak,nI,?_⟩);(refine goI ?_;repeat (intro gg;refine goI ?_));refine⟨by simp only[XP,Ax,ZF];omega,?_⟩;(refine goI ?_;repeat (intro gg;refine goI ?_));(refine⟨_,_,false,aI,Cv sv[k].pt r5,Ak,nI,?_⟩);(refine goI ?_;repeat (intro gg;refine goI ?_));refine⟨by simp only[XP,Ax,ZF];omega,?_⟩;(refine goI ?_;repeat (intro gg;refine goI ?_));(refine⟨_,_,false,aI,Oy sv[k].ps,Ak,nI,?_⟩);(refine goI ?_;repeat (intro gg;refine goI ?_));refine⟨by simp only[XP,Ax,ZF];omega,?_⟩;(refine goI ?_;repeat (intro gg;refine goI ?_));(refine⟨_,_,false,aI,Cv sv[k].vs r7,Ak,nI,?_⟩);(refine goI ?_;repeat (intro gg;refine goI ?_));refine⟨by simp only[XP,Ax,ZF];omega,?_⟩;(refine goI ?_;repeat (intro gg;refine goI ?_));(refine⟨_,_,false,aI,Oy sv[k].gn,Ak,nI,?_⟩);(refine goI ?_;repeat (intro gg;refine goI ?_));refine⟨by simp only[XP,Ax,ZF];omega,?_⟩;(refine goI ?_;repeat (intro gg;refine goI ?_));refine⟨by simp only[XP,Ax,ZF];omega,?_⟩;rw[e1];(refine goI ?_;repeat (intro gg;refine goI ?_));(exact⟨none,trivial,fun gr=>⟨⟨k+1,by omega⟩,by show sv.length-(k+1)<sv.length-k;omega,tI,tI,trivial,tI⟩⟩)
  ·have hge:¬k<sv.length:=(by have:=ZW q1;omega);obtain rfl:k=sv.length:=by omega
   (refine goI ?_;repeat (intro gg;refine goI ?_));rw[ZE];(refine .inl ⟨_,_,false,[],aI,Cv (gs.length:Int) ⟨by omega,by omega⟩,Ak,nI,?_⟩);(refine goI ?_;repeat (intro gg;refine goI ?_));refine⟨by rw[XF];simp only[Ax];have:=hA2;rw[XF]at b1;simp only[ZF];omega,?_⟩;rw[show bA (A1++(sv.take sv.length).flatMap svB)++bA (A8 (gs.length:Int))=bA (A2++(gs.take 0).flatMap gwB)by rw[XF,Fv,hA2];simp];(refine goI ?_;repeat (intro gg;refine goI ?_));(refine⟨[],none,{k:Nat//k≤gs.length},[1],fun⟨k,hk⟩=>[(3,.v (.string (bA (A2++(gs.take k).flatMap gwB)))),(8,.v (.int .i64 k))],[16],fun⟨k,hk⟩=>[],fun⟨k,hk⟩=>gs.length-k,trivial,fun _=>⟨trivial,fun _=>⟨⟨0,by omega⟩,tI,Aj _ _,?_,Ai _ _⟩⟩,fun⟨k,hk⟩=>?_⟩;focus (exact trivial));(refine goI ?_;repeat (intro gg;refine goI ?_));rw[ZE];(refine Ab (fun q2=>?_) (fun q2=>?_)<;>rw[q2])
   ·have hlt:k<gs.length:=(by have:=ZV q2;omega);have hm:=h7 _ (ZK hlt);have n2:=Cn (f:=gwB) (m:=96) (n:=6) (l:=gs) (fun x hx=>Gw.lenB (h7 x hx)) h6 k;have z0:=hm.c;have c0:=Bk z0;have r1:isI gs[k].a:=⟨by have:=hm.a;omega,by have:=hm.a;omega⟩;have c1:=Av r1;have r2:isI gs[k].v:=⟨by have:=hm.v;omega,by have:=hm.v;omega⟩;have c2:=Av r2;have e1:bA (A2++(gs.take k).flatMap gwB)++(bA (Fh gs[k].c)++bA (A8 gs[k].a)++bA (A8 gs[k].v))=bA (A2++(gs.take (k+1)).flatMap gwB):=by
     rw[Du hlt];simp only[Fv];simp[gwB]
    (refine goI ?_;repeat (intro gg;refine goI ?_));refine⟨k,_,rfl,Ap hlt,?_⟩;(refine goI ?_;repeat (intro gg;refine goI ?_));(refine⟨_,_,false,aI,Ep gs[k].c (by omega),Ak,nI,?_⟩);(refine goI ?_;repeat (intro gg;refine goI ?_));refine⟨k,_,rfl,Ap hlt,?_⟩;(refine goI ?_;repeat (intro gg;refine goI ?_));(refine⟨_,_,false,aI,Cv gs[k].a r1,Ak,nI,?_⟩);(refine goI ?_;repeat (intro gg;refine goI ?_));refine⟨by simp only[XP,Ax,ZF];omega,?_⟩;(refine goI ?_;repeat (intro gg;refine goI ?_));refine⟨k,_,rfl,Ap hlt,?_⟩;(refine goI ?_;repeat (intro gg;refine goI ?_));(refine⟨_,_,false,aI,Cv gs[k].v r2,Ak,nI,?_⟩);(refine goI ?_;repeat (intro gg;refine goI ?_));refine⟨by simp only[XP,Ax,ZF];omega,?_⟩;(refine goI ?_;repeat (intro gg;refine goI ?_));refine⟨by simp only[XP,Ax,ZF];omega,?_⟩;rw[e1];(refine goI ?_;repeat (intro gg;refine goI ?_));(exact⟨none,trivial,fun gr=>⟨⟨k+1,by omega⟩,by show gs.length-(k+1)<gs.length-k;omega,tI,tI,trivial,tI⟩⟩)
   ·have hge:¬k<gs.length:=(by have:=ZW q2;omega);obtain rfl:k=gs.length:=by omega
    (refine goI ?_;repeat (intro gg;refine goI ?_));rw[ZE];(refine .inl ⟨_,_,false,[],aI,Cv (wh.length:Int) ⟨by omega,by omega⟩,Ak,nI,?_⟩);(refine goI ?_;repeat (intro gg;refine goI ?_));refine⟨by rw[XF];simp only[Ax];have:=hA3;rw[XF]at b2;simp only[ZF];omega,?_⟩;rw[show bA (A2++(gs.take gs.length).flatMap gwB)++bA (A8 (wh.length:Int))=bA (A3++(wh.take 0).flatMap whB)by rw[XF,Fv,hA3];simp];(refine goI ?_;repeat (intro gg;refine goI ?_));(refine⟨[],none,{k:Nat//k≤wh.length},[1],fun⟨k,hk⟩=>[(3,.v (.string (bA (A3++(wh.take k).flatMap whB)))),(9,.v (.int .i64 k))],[16],fun⟨k,hk⟩=>[],fun⟨k,hk⟩=>wh.length-k,trivial,fun _=>⟨trivial,fun _=>⟨⟨0,by omega⟩,tI,Aj _ _,?_,Ai _ _⟩⟩,fun⟨k,hk⟩=>?_⟩;focus (exact trivial));(refine goI ?_;repeat (intro gg;refine goI ?_));rw[ZE];(refine Ab (fun q3=>?_) (fun q3=>?_)<;>rw[q3])
    ·have hlt:k<wh.length:=(by have:=ZV q3;omega);have hm:=h9 _ (ZK hlt);have n2:=Cn (f:=whB) (m:=162) (n:=20) (l:=wh) (fun x hx=>Wh.lenB (h9 x hx)) h8 k;have z0:=hm.nd;have c0:=Bk z0;have r1:isI wh[k].pl.x:=⟨by have:=hm.x;omega,by have:=hm.x;omega⟩;have c1:=Av r1;have r2:isI wh[k].pl.y:=⟨by have:=hm.y;omega,by have:=hm.y;omega⟩;have c2:=Av r2;have r3:isI wh[k].pl.z:=⟨by have:=hm.z;omega,by have:=hm.z;omega⟩;have c3:=Av r3;have r4:isI wh[k].pl.h:=⟨by have:=hm.h;omega,by have:=hm.h;omega⟩;have c4:=Av r4;have r5:isI wh[k].pl.s:=⟨by have:=hm.s;omega,by have:=hm.s;omega⟩;have c5:=Av r5;have e1:bA (A3++(wh.take k).flatMap whB)++(bA (Fh wh[k].nd)++bA (A8 wh[k].pl.x)++bA (A8 wh[k].pl.y)++bA (A8 wh[k].pl.z)++bA (A8 wh[k].pl.h)++bA (A8 wh[k].pl.s))=bA (A3++(wh.take (k+1)).flatMap whB):=by
      rw[Du hlt];simp only[Fv];simp[whB]
     (refine goI ?_;repeat (intro gg;refine goI ?_));refine⟨k,_,rfl,Ap hlt,?_⟩;(refine goI ?_;repeat (intro gg;refine goI ?_));refine⟨k,_,rfl,Ap hlt,?_⟩;(refine goI ?_;repeat (intro gg;refine goI ?_));(refine⟨_,_,false,aI,Ep wh[k].nd (by omega),Ak,nI,?_⟩);(refine goI ?_;repeat (intro gg;refine goI ?_));(refine⟨_,_,false,aI,Cv wh[k].pl.x r1,Ak,nI,?_⟩);(refine goI ?_;repeat (intro gg;refine goI ?_));refine⟨by simp only[XP,Ax,ZF];omega,?_⟩;(refine goI ?_;repeat (intro gg;refine goI ?_));(refine⟨_,_,false,aI,Cv wh[k].pl.y r2,Ak,nI,?_⟩);(refine goI ?_;repeat (intro gg;refine goI ?_));refine⟨by simp only[XP,Ax,ZF];omega,?_⟩;(refine goI ?_;repeat (intro gg;refine goI ?_));(refine⟨_,_,false,aI,Cv wh[k].pl.z r3,Ak,nI,?_⟩);(refine goI ?_;repeat (intro gg;refine goI ?_));refine⟨by simp only[XP,Ax,ZF];omega,?_⟩;(refine goI ?_;repeat (intro gg;refine goI ?_));(refine⟨_,_,false,aI,Cv wh[k].pl.h r4,Ak,nI,?_⟩);(refine goI ?_;repeat (intro gg;refine goI ?_));refine⟨by simp only[XP,Ax,ZF];omega,?_⟩;(refine goI ?_;repeat (intro gg;refine goI ?_));(refine⟨_,_,false,aI,Cv wh[k].pl.s r5,Ak,nI,?_⟩);(refine goI ?_;repeat (intro gg;refine goI ?_));refine⟨by simp only[XP,Ax,ZF];omega,?_⟩;(refine goI ?_;repeat (intro gg;refine goI ?_));refine⟨by simp only[XP,Ax,ZF];omega,?_⟩;rw[e1];(refine goI ?_;repeat (intro gg;refine goI ?_));(exact⟨none,trivial,fun gr=>⟨⟨k+1,by omega⟩,by show wh.length-(k+1)<wh.length-k;omega,tI,tI,trivial,tI⟩⟩)
    ·have hge:¬k<wh.length:=(by have:=ZW q3;omega);obtain rfl:k=wh.length:=by omega
     (refine goI ?_;repeat (intro gg;refine goI ?_));rw[show List.take wh.length wh=wh from XF];(exact⟨[],aI⟩)
section
open Go.ChangeShapes Go.WideShapes Go.ChangeAt
theorem Acf{H:Type}{enc:TypeId×Value→H}{P:Program}{w:World}{base:Nat}{spare:Nat→Bool}{held:Bool}{t:TypeId}{fs:Array Field}{v:Value}{d:DataW H}{p:List MemPlace}{R:Nat→Prop}{G:Nat→Option Loc}{us:List V}(hs:P.underlying t=some (.struct fs))(h:DataW.Trod enc P w base spare held t v d p)(hv:RV w R G (.agg us) v){ts:List TypeId}{ds:List (DataW H)}{j:Nat}(hz:(DataW.weightsEach P ts ds).all (·≤reachBytes)=true)(ht:ts[j]? =some t)(hd:ds[j]? =some d){i:Nat}{f:Field}(hf:fs[i]? =some f){e:TypeId}(hu:P.underlying f.type=some (.slice e))(hc:P.cellsOf f.type=1){rows:List (List V)}(hr:us[f.offset]? =some (.sl false rows)):rows.length*P.bytesOf e≤140737488351232:=by
 obtain⟨fuel,hf0⟩:=h;obtain⟨xs,n,rfl,hx,hcl,hxl,hfs⟩:=DataW.trod_struct hs hf0;have hd':d=.agg (xs.map (·.1)):=congrArg Prod.fst hx;subst hd';have hi:i<xs.length:=by rw[hxl];exact(XL.1 hf).1
 have hxi:=hfs i f hf;cases hv with
 |agg us zs hl hh=>
  have ho:f.offset<zs.length:=by rw[←hl];exact(ZB.1 hr).1
  have hzz:zs[f.offset]? =some zs[f.offset]:=ZC ho;have hrz:=hh _ _ _ hr hzz;generalize zs[f.offset]=z at *;have hcell:z.cells.toList=[z]:=by
   generalize hu':V.sl false rows=u at hrz;cases hrz with
   |nil=>rfl
   |sl=>rfl
   |_=>cases hu'
  have hdt:((Value.agg zs.toArray).cells.toList.drop f.offset).take (P.cellsOf f.type)=[z]:=by
   show(zs.toArray.toList.drop f.offset).take (P.cellsOf f.type)=[z];rw[hc,List.drop_eq_getElem_cons (by simpa using ho)];have:zs.toArray.toList[f.offset]'(by simpa using ho)=z:=by
    have:=hzz;rw[ZC ho]at this;simpa using this
   rw[this];rfl
  rw[hdt,ZC hi]at hxi;have hz2:(DataW.weightsEach P (fs.toList.map (·.type)) (xs.map (·.1))).all (·≤reachBytes)=true:=by
   rw[List.all_eq_true];intro m hm;refine List.all_eq_true.1 hz m (DataW.weights_mem_each ht hd m ?_);simp only[DataW.weights,hs];exact hm
  have hT:DataW.Trod enc P w base spare held f.type z (xs[i]).1 (xs[i]).2:=⟨n,by rw[hcell];exact hxi⟩;refine Agy (j:=i) hu hT hrz hz2 ?_ ?_
  ·rw[XJ];have:fs.toList[i]? =some f:=by simpa using hf
   rw[this];rfl
  ·rw[XJ,ZC hi];rfl
theorem Ga{H:Type}{enc:TypeId×Value→H}{P:Program}{w:World}{base:Nat}{spare:Nat→Bool}{held:Bool}{t:TypeId}{fs:Array Field}{v:Value}{d:DataW H}{p:List MemPlace}{R:Nat→Prop}{G:Nat→Option Loc}{us:List V}(hs:P.underlying t=some (.struct fs))(h:DataW.Trod enc P w base spare held t v d p)(hv:RV w R G (.agg us) v){ts:List TypeId}{ds:List (DataW H)}{j:Nat}(hz:(DataW.weightsEach P ts ds).all (·≤reachBytes)=true)(ht:ts[j]? =some t)(hd:ds[j]? =some d){i:Nat}{f:Field}(hf:fs[i]? =some f){e:TypeId}(hu:P.underlying f.type=some (.slice e))(hc:P.cellsOf f.type=1)(hb:Nat.ble 1 (P.bytesOf e)=true){rows:List (List V)}(hr:us[f.offset]? =some (.sl false rows)):rows.length≤140737488351232:=
 XI (Nat.le_mul_of_pos_right _ (Nat.le_of_ble_eq_true hb)) (Acf hs h hv hz ht hd hf hu hc hr)
end
structure Pk.ok0(p:Pk):Prop where
 fr:p.fr.size≤9223372036854775807
 msl:p.ms.length≤9223372036854775807
 ms:∀x∈p.ms,x.ok
 sv:∀x∈p.sv,x.ok
 gs:∀x∈p.gs,x.ok
 wh:∀x∈p.wh,x.ok
theorem Ado(row:List V)(h:Pa [.s,.b,.l [.s,.i,.i,.i,.b],.l [.s,.s,.s,.s,.i,.i,.b,.i,.b],.l [.s,.i,.i],.l [.s,.i,.i,.i,.i,.i]] row):∃p:Pk,row=p.row∧Pk.ok0 p:=by
 obtain⟨u0,_,rfl,f0,h⟩:=A6 h;obtain⟨u1,_,rfl,f1,h⟩:=A6 h;obtain⟨u2,_,rfl,f2,h⟩:=A6 h;obtain⟨u3,_,rfl,f3,h⟩:=A6 h;obtain⟨u4,_,rfl,f4,h⟩:=A6 h;obtain⟨u5,_,rfl,f5,h⟩:=A6 h;obtain rfl:=M5 h;obtain⟨fr,rfl,hn⟩:=Qz f0;obtain⟨wo,rfl⟩:=Abu f1;obtain⟨ms,rfl,m1,m2⟩:=Pd Ajj f2;obtain⟨sv,rfl,s1,s2⟩:=Pd Aiy f3;obtain⟨gs,rfl,g1,g2⟩:=Pd Ai3 f4;obtain⟨wh,rfl,w1,w2⟩:=Pd Ajb f5;exact⟨⟨fr,wo,ms,sv,gs,wh⟩,rfl,⟨hn,m1,m2,s2,g2,w2⟩⟩
theorem Pk.ok0.ok{p:Pk}(h:Pk.ok0 p)(h3:(p.sv.map Sv.row).length≤140737488351232)(h4:(p.gs.map Gw.row).length≤140737488351232)(h5:(p.wh.map Wh.row).length≤140737488351232):p.ok:=by
 rw[ZE]at h3 h4 h5;exact⟨h.fr,h.msl,h.ms,by omega,h.sv,by omega,h.gs,by omega,h.wh⟩
theorem Yl: "*" ++ "errors.errorString" = "*errors.errorString" := rfl
theorem Ac3 (u : TypeId) (h : Tryz.prog.typeName? 3 u = some "*errors.errorString") : u = 159 :=
 typeName_ptr_named (P := Tryz.prog) (nm := "errors.errorString") (by rw [Yl]; kernel_rfl) (by kernel_rfl) (by decide) u (by rw [Yl]; exact h)
abbrev Ut(W:World):Glob:=⟨fun b=>if b=1∨b=2∨b=3 then W.heap[b]? else none⟩
theorem Us(W:World): @Bz (Ut W) W (fun _=>False):=by
 intro b o h;have h:(if b=1∨b=2∨b=3 then W.heap[b]? else none)=some o:=h;refine⟨?_,id⟩;split at h
 ·exact h
 ·cases h
theorem Zd{W w:World}{L:Nat→Prop}(hg: @Bz (Ut W) w L){n:String}{g:Nat}{cs:Array Value}(hn:Tryz.prog.globalNamed n=some g)(hb:g=1∨g=2∨g=3)(h:W.var? Tryz.prog n=some cs):w.var? Tryz.prog n=some cs:=by
 unfold World.var? at h ⊢;rw[hn]at h ⊢;simp only[ZA]at h ⊢;cases ho:W.heap[g]? with
 |none=>rw[ho]at h;cases h
 |some o=>
  rw[ho]at h;rw[(hg g o (show(if g=1∨g=2∨g=3 then W.heap[g]? else none)=some o by rw[if_pos hb];exact ho)).1];exact h
theorem Aa7 {W : World} (h : laidMet Tryz.prog [("math/bits.deBruijn32tab", Rows.laid_math_bits_deBruijn32tab), ("math/bits.deBruijn64tab", Rows.laid_math_bits_deBruijn64tab), ("internal/strconv.uint64pow10", Rows.laid_internal_strconv_uint64pow10), ("strconv.ErrRange", Rows.laid_strconv_ErrRange), ("strconv.ErrSyntax", Rows.laid_strconv_ErrSyntax)] W) : @Tabs (Ut W) := by
 have h3:=h.tail.tail;have e:(Rows.laid_internal_strconv_uint64pow10:DataW Unit)=Lib.tabData .u64 Lib.pow10Tab:=by kernel_rfl
 have h4:=h3.tail;have h5:=h4.tail;rw[e]at h3;have hp:=Lib.tabIs_of_head (g:=3) (t:=152) (e:=139) (n:=20) (by kernel_rfl) (by kernel_rfl) (by kernel_rfl) (by kernel_rfl) (by kernel_rfl) (by kernel_rfl) h3;obtain⟨a0,s0,v0,_⟩:=laid_sentinel h4 (g:=2) (ti:=114) (by kernel_rfl) (by kernel_rfl) Tryz.underlying114 Ac3 Tryz.underlying159 Tryz.underlying161 rfl rfl Tryz.underlying9 (by kernel_rfl) (by kernel_rfl);obtain⟨a1,s1,v1,_⟩:=laid_sentinel h5 (g:=1) (ti:=114) (by kernel_rfl) (by kernel_rfl) Tryz.underlying114 Ac3 Tryz.underlying159 Tryz.underlying161 rfl rfl Tryz.underlying9 (by kernel_rfl) (by kernel_rfl);refine @Tabs.mk (Ut W) (fun w L hg=>Zd hg (g:=3) (by kernel_rfl) (.inr (.inr rfl)) hp) (fun w L hg=>?_) (fun w L hg=>?_)
 ·exact⟨_,World.var?_cell (g:=1) (by kernel_rfl) (Zd hg (g:=1) (by kernel_rfl) (.inl rfl) v1) 0,.inr ⟨_,_,rfl⟩⟩
 ·exact⟨_,World.var?_cell (g:=2) (by kernel_rfl) (Zd hg (g:=2) (by kernel_rfl) (.inr (.inl rfl)) v0) 0,.inr ⟨_,_,rfl⟩⟩
end Go.Proofs.YteflnbjmjcbmmaaGreatDoor
