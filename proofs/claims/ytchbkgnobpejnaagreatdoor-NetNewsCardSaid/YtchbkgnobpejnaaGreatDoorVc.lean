/- Texts of this claim, joined. -/
import Derived.Test.YtchbkgnobpejnaaGreatDoorRows
import Derived.Lib.Walk
import Derived.Lib.SliceRun
import Derived.Lib.JoinLaws
import Derived.Lib.AppendZeros
import Derived.WalkSpells
import Derived.Test.YtchbkgnobpejnaaGreatDoorWAbsK
import Derived.Lib.Strings
import Derived.Lib.Slices
import Derived.Lib.Bytealg
import Derived.Test.YtchbkgnobpejnaaGreatDoorWAbsQ
import Derived.Shelf.Strings.BuilderK
import Derived.Maps.AppendAt
import Derived.Lib.AppendStr
import Derived.Shelf.LaysC
import Derived.Shelf.LaysM
import Derived.Test.YtchbkgnobpejnaaGreatDoorProg
import Derived.Lib.AppendIntMem
import Derived.Shelf.Strconv.Itoa3
import Derived.Shelf.Strconv.AtoiAll
import Derived.Lib.LaidTab
import Derived.Lib.AtoiAllCases
import Derived.Lib.IndexLaws
import Derived.Lib.ItoaLen
import Derived.Test.YtchbkgnobpejnaaGreatDoorVa
import Derived.Test.YtchbkgnobpejnaaGreatDoorVb
set_option linter.unusedSimpArgs false
set_option linter.unusedVariables false
namespace Go.Proofs.YtchbkgnobpejnaaGreatDoor
open Go.RowKit Pl
theorem M8[Glob](n a b:Int):Fun Tryz.prog 90 [.c (.v (.int .i64 n)),.c (.v (.int .i64 a)),.c (.v (.int .i64 b))] [.c (.v (.bool (wi n a b)))]:=by
 refine A9 Dc rfl ?_;(refine goI ?_;repeat (intro gg;refine goI ?_));(refine Ab (fun h=>?_) (fun h=>?_)<;>rw[h])
 ·(refine goI ?_;repeat (intro gg;refine goI ?_));rw[Ajo h];(exact⟨[],aI⟩)
 ·(refine goI ?_;repeat (intro gg;refine goI ?_));rw[Ah9 h];(exact⟨[],aI⟩)
theorem U4[Glob](n:Int):Fun Tryz.prog 89 [.c (.v (.int .i64 n))] [.c (.v (.bool (wi n (-10000000) 10000000)))]:=by
 refine A9 Eg rfl ?_;(refine goI ?_;repeat (intro gg;refine goI ?_));refine .inl (cX (M8 _ _ _) ?_);(refine goI ?_;repeat (intro gg;refine goI ?_));(exact⟨[],aI⟩)
theorem Aj2{x y z h s:Int}(h1:wi x (-10000000) 10000000=true)(h2:wi y (-10000000) 10000000=true)(h3:wi z (-10000000) 10000000=true)(h4:wi h 0 1000000=true)(h5:wi s 0 1000=true):Ad2 x y z h s=0:=by simp[Ad2,Aje,h1,h2,h3,h4,h5]
theorem J1{x y z h s:Int}(h1:wi x (-10000000) 10000000=false∨wi y (-10000000) 10000000=false∨wi z (-10000000) 10000000=false∨wi h 0 1000000=false∨wi s 0 1000=false):Ad2 x y z h s=3:=by
 rcases h1 with h|h|h|h|h<;>simp[Ad2,Aje,h]
theorem Wm[Glob](p:Pc):Fun Tryz.prog 49 [.c (.agg p.row)] [.c (.v (.int .i64 p.err))]:=by
 refine A9 Ns rfl ?_;(refine goI ?_;repeat (intro gg;refine goI ?_));refine .inl (cX (U4 _) ?_);(refine goI ?_;repeat (intro gg;refine goI ?_));(refine Ab (fun h1=>?_) (fun h1=>?_)<;>rw[h1])
 ·(refine goI ?_;repeat (intro gg;refine goI ?_));rw[show p.err=3 from J1 (.inl (Dk h1))];(exact⟨[],aI⟩)
 ·(refine goI ?_;repeat (intro gg;refine goI ?_));refine .inl (cX (U4 _) ?_);(refine goI ?_;repeat (intro gg;refine goI ?_));(refine Ab (fun h2=>?_) (fun h2=>?_)<;>rw[h2])
  ·(refine goI ?_;repeat (intro gg;refine goI ?_));rw[show p.err=3 from J1 (.inr (.inl (Dk h2)))];(exact⟨[],aI⟩)
  ·(refine goI ?_;repeat (intro gg;refine goI ?_));refine .inl (cX (U4 _) ?_);(refine goI ?_;repeat (intro gg;refine goI ?_));(refine Ab (fun h3=>?_) (fun h3=>?_)<;>rw[h3])
   ·(refine goI ?_;repeat (intro gg;refine goI ?_));rw[show p.err=3 from J1 (.inr (.inr (.inl (Dk h3))))];(exact⟨[],aI⟩)
   ·(refine goI ?_;repeat (intro gg;refine goI ?_));refine .inl (cX (M8 _ _ _) ?_);(refine goI ?_;repeat (intro gg;refine goI ?_));(refine Ab (fun h4=>?_) (fun h4=>?_)<;>rw[h4])
    ·(refine goI ?_;repeat (intro gg;refine goI ?_));rw[show p.err=3 from J1 (.inr (.inr (.inr (.inl (Dk h4)))))];(exact⟨[],aI⟩)
    ·(refine goI ?_;repeat (intro gg;refine goI ?_));refine .inl (cX (M8 _ _ _) ?_);(refine goI ?_;repeat (intro gg;refine goI ?_));(refine Ab (fun h5=>?_) (fun h5=>?_)<;>rw[h5])
     ·(refine goI ?_;repeat (intro gg;refine goI ?_));rw[show p.err=3 from J1 (.inr (.inr (.inr (.inr (Dk h5)))))];(exact⟨[],aI⟩)
     ·(refine goI ?_;repeat (intro gg;refine goI ?_));rw[show p.err=0 from Aj2 (Dl h1) (Dl h2) (Dl h3) (Dl h4) (Dl h5)];(exact⟨[],aI⟩)
theorem Si[Glob](p:Pc):Fun Tryz.prog 32 [.c (.agg p.row)] [.c (.v (.int .i64 p.err))]:=by
 refine A9 Kc rfl ?_;(refine goI ?_;repeat (intro gg;refine goI ?_));refine .inl (cX (Br _ _ _) ?_);(refine goI ?_;repeat (intro gg;refine goI ?_));(refine Ab (fun h1=>?_) (fun h1=>?_)<;>rw[h1])
 ·(refine goI ?_;repeat (intro gg;refine goI ?_));rw[show p.err=3 from J1 (.inl (Dk h1))];(exact⟨[],aI⟩)
 ·(refine goI ?_;repeat (intro gg;refine goI ?_));refine .inl (cX (Br _ _ _) ?_);(refine goI ?_;repeat (intro gg;refine goI ?_));(refine Ab (fun h2=>?_) (fun h2=>?_)<;>rw[h2])
  ·(refine goI ?_;repeat (intro gg;refine goI ?_));rw[show p.err=3 from J1 (.inr (.inl (Dk h2)))];(exact⟨[],aI⟩)
  ·(refine goI ?_;repeat (intro gg;refine goI ?_));refine .inl (cX (Br _ _ _) ?_);(refine goI ?_;repeat (intro gg;refine goI ?_));(refine Ab (fun h3=>?_) (fun h3=>?_)<;>rw[h3])
   ·(refine goI ?_;repeat (intro gg;refine goI ?_));rw[show p.err=3 from J1 (.inr (.inr (.inl (Dk h3))))];(exact⟨[],aI⟩)
   ·(refine goI ?_;repeat (intro gg;refine goI ?_));refine .inl (cX (Br _ _ _) ?_);(refine goI ?_;repeat (intro gg;refine goI ?_));(refine Ab (fun h4=>?_) (fun h4=>?_)<;>rw[h4])
    ·(refine goI ?_;repeat (intro gg;refine goI ?_));rw[show p.err=3 from J1 (.inr (.inr (.inr (.inl (Dk h4)))))];(exact⟨[],aI⟩)
    ·(refine goI ?_;repeat (intro gg;refine goI ?_));refine .inl (cX (Br _ _ _) ?_);(refine goI ?_;repeat (intro gg;refine goI ?_));(refine Ab (fun h5=>?_) (fun h5=>?_)<;>rw[h5])
     ·(refine goI ?_;repeat (intro gg;refine goI ?_));rw[show p.err=3 from J1 (.inr (.inr (.inr (.inr (Dk h5)))))];(exact⟨[],aI⟩)
     ·(refine goI ?_;repeat (intro gg;refine goI ?_));rw[show p.err=0 from Aj2 (Dl h1) (Dl h2) (Dl h3) (Dl h4) (Dl h5)];(exact⟨[],aI⟩)
theorem Uq[Glob](c:Bool)(l:List Wh)(hl:l.length≤9223372036854775807)(hw:∀x∈l,x.ok):Fun Tryz.prog 50 [.c (.sl c (l.map Wh.row))] [.c (.v (.int .i64 (Gr l)))]:=by
 refine A9 Kx rfl ?_;(refine goI ?_;repeat (intro gg;refine goI ?_));rw[ZE];(refine Ab (fun h1=>?_) (fun h1=>?_)<;>rw[h1])
 ·(refine goI ?_;repeat (intro gg;refine goI ?_));have e:Gr l=2:=Gt (by have:=ZV h1;omega);rw[e];(exact⟨[],aI⟩)
 ·have h1':¬20<l.length:=(by have:=ZW h1;omega);(refine goI ?_;repeat (intro gg;refine goI ?_));rw[ZE];(refine⟨[],none,{k:Nat//k≤l.length∧∀j,(h:j<l.length)→j<k→Wh.err l[j]=0},[0,10,11],fun⟨k,hk,h0⟩=>[(12,.v (.int .i64 k))],[],fun⟨k,hk,h0⟩=>[],fun⟨k,hk,h0⟩=>l.length-k,trivial,fun _=>⟨trivial,fun _=>⟨⟨0,ZU _,fun j _ h=>absurd h (Nat.not_lt_zero _)⟩,tI,Aj _ _,tI,Ak _ _⟩⟩,fun⟨k,hk,h0⟩=>?_⟩);(refine goI ?_;repeat (intro gg;refine goI ?_));(refine Ab (fun h2=>?_) (fun h2=>?_)<;>rw[h2])
  ·have hlt:k<l.length:=(by have:=ZV h2;omega);(refine goI ?_;repeat (intro gg;refine goI ?_));refine⟨k,_,rfl,Al hlt,?_⟩;(refine goI ?_;repeat (intro gg;refine goI ?_));have hx:=hw _ (ZK hlt);refine .inl (cX (C2 (l[k]).nd hx) ?_);(refine goI ?_;repeat (intro gg;refine goI ?_));have HE:=Bc (e:=Wh.err) hlt h0;(refine Ab (fun h3=>?_) (fun h3=>?_)<;>rw[h3])
   ·have h3':lab (l[k]).nd.data.toList=false:=Dk h3;(refine goI ?_;repeat (intro gg;refine goI ?_));have e1:Wh.err l[k]=1:=by unfold Wh.err;rw[h3'];rfl
    have e:Gr l=1:=by unfold Gr;rw[C3 h1' (by rw[HE (by rw[e1];decide),e1];decide),HE (by rw[e1];decide),e1]
    rw[e];(exact⟨[],aI⟩)
   ·have h3':lab (l[k]).nd.data.toList=true:=Dl h3;have e1:Wh.err l[k]=(l[k]).pl.err:=by unfold Wh.err;rw[h3'];rfl
    (refine goI ?_;repeat (intro gg;refine goI ?_));refine .inl (cX (Wm (l[k]).pl) ?_);(refine goI ?_;repeat (intro gg;refine goI ?_));(refine Ab (fun h4=>?_) (fun h4=>?_)<;>rw[h4])
    ·have h4':(l[k]).pl.err≠0:=by simpa using h4
     (refine goI ?_;repeat (intro gg;refine goI ?_));have e:Gr l=(l[k]).pl.err:=by unfold Gr;rw[C3 h1' (by rw[HE (by rw[e1];exact h4'),e1];exact h4'),HE (by rw[e1];exact h4'),e1]
     rw[e];(exact⟨[],aI⟩)
    ·have h4':(l[k]).pl.err=0:=by simpa using h4
     (refine goI ?_;repeat (intro gg;refine goI ?_));(exact⟨none,trivial,fun _=>⟨⟨k+1,by omega,up1 (p:=fun j h=>Wh.err l[j]=0) h0 (fun _=>e1.trans h4')⟩,by show l.length-(k+1)<l.length-k;omega,tI,tI,tI,tI⟩⟩)
  ·have hge:¬k<l.length:=(by have:=ZW h2;omega);have h2':Ad Wh.err l=0:=A8 fun i hi=>h0 i hi (by omega);(refine goI ?_;repeat (intro gg;refine goI ?_));(refine⟨[],none,{q:Nat//(q<l.length∨q=0)∧∀i,(h:i+1<l.length)→i<q→Wh.lt l[i] l[i+1]=true},[0],fun⟨q,hq,g0⟩=>[(6,.v (.int .i64 ((q:Int)+1)))],[],fun⟨q,hq,g0⟩=>[],fun⟨q,hq,g0⟩=>l.length-q,trivial,fun _=>⟨trivial,fun _=>⟨⟨0,by omega,fun j _ h=>by omega⟩,tI,Aj _ _,tI,Ak _ _⟩⟩,fun⟨q,hq,g0⟩=>?_⟩);(refine goI ?_;repeat (intro gg;refine goI ?_));rw[ZE];(refine Ab (fun h3=>?_) (fun h3=>?_)<;>rw[h3])
   ·have hlt3:q+1<l.length:=(by have:=ZV h3;omega);(refine goI ?_;repeat (intro gg;refine goI ?_));refine⟨q+1,_,by omega,Al hlt3,?_⟩;(refine goI ?_;repeat (intro gg;refine goI ?_));refine⟨q,_,by omega,Al (by omega),?_⟩;(refine goI ?_;repeat (intro gg;refine goI ?_));rw[Ro];(refine Ab (fun h4=>?_) (fun h4=>?_)<;>rw[h4])
    ·(refine goI ?_;repeat (intro gg;refine goI ?_));have e:Gr l=4:=Ng h1' h2' (Dp hlt3 (by simpa[Wh.lt]using h4));rw[e];(exact⟨[],aI⟩)
    ·(refine goI ?_;repeat (intro gg;refine goI ?_));(exact⟨none,trivial,fun _=>⟨⟨q+1,by omega,up2 (p:=fun i h=>Wh.lt l[i] l[i+1]=true) g0 (fun _=>by simpa[Wh.lt]using h4)⟩,by show l.length-(q+1)<l.length-q;omega,tI,tI,tI,tI⟩⟩)
   ·have hge3:¬q+1<l.length:=(by have:=ZW h3;omega);(refine goI ?_;repeat (intro gg;refine goI ?_));have e:Gr l=0:=Jw h1' h2' (D2 fun i hi=>g0 i hi (by omega));rw[e];(exact⟨[],aI⟩)
theorem Zj{α:Type}{p:α→Bool}{l:List α}{k:Nat}(h:k<l.length)(hp:p l[k]=false):l.all p=false:=by
 rw[List.all_eq_false];exact⟨l[k],ZK h,by rw[hp];simp⟩
def Afj(x:Int):List V:=[.v (.int .i64 x)]
instance:FlatRow Afj:=⟨fun x u hu=>by simp[Afj]at hu;subst hu;exact⟨_,rfl⟩⟩
theorem Ad0[Glob](n:Nd)(h:n.ok)(hm:Gc n.ms=0):Fun Tryz.prog 52 [.c (.agg n.row)] [.c (.v (.bool (n.rs.all (Rd n.ms))))]:=by
 have hi:=Qq hm;have hrl:=h.rsl;refine A9 I1 rfl ?_;(refine goI ?_;repeat (intro gg;refine goI ?_));rw[ZE];(refine⟨[],none,{k:Nat//k≤n.rs.length∧∀j,(h:j<n.rs.length)→j<k→Rd n.ms n.rs[j]=true},[1,8,9],fun⟨k,hk,h0⟩=>[(10,.v (.int .i64 k))],[16],fun⟨k,hk,h0⟩=>[],fun⟨k,hk,h0⟩=>n.rs.length-k,trivial,fun _=>⟨trivial,fun _=>⟨⟨0,ZU _,fun j _ h=>absurd h (Nat.not_lt_zero _)⟩,tI,Aj _ _,tI,Ak _ _⟩⟩,fun⟨k,hk,h0⟩=>?_⟩);(refine goI ?_;repeat (intro gg;refine goI ?_));(refine Ab (fun h1=>?_) (fun h1=>?_)<;>rw[h1])
 ·have hlt:k<n.rs.length:=(by have:=ZV h1;omega);(refine goI ?_;repeat (intro gg;refine goI ?_));refine⟨k,_,rfl,Al hlt,?_⟩;(refine goI ?_;repeat (intro gg;refine goI ?_));(refine .inl ⟨_,_,false,[],aI,Xp false n.ms (n.rs[k]).m.n (by omega) (Mb.smono hi.2.2 _).mono,Am,nI,?_⟩);(refine goI ?_;repeat (intro gg;refine goI ?_));(refine Ab (fun h3=>?_) (fun h3=>?_)<;>rw[h3])
  ·have h3':=Dk h3;(refine goI ?_;repeat (intro gg;refine goI ?_));rw[Zj hlt (Ae7 h3')];(exact⟨[],aI⟩)
  ·have h3':=Dl h3;have hl2:=L0 h3';have hro:=Aeb h3' (ZC hl2);(refine goI ?_;repeat (intro gg;refine goI ?_));refine⟨low (Mb.cf (n.rs[k]).m.n) n.ms,_,rfl,Al hl2,?_⟩;(refine goI ?_;repeat (intro gg;refine goI ?_));refine .inl (cX (Aj7 (n.rs[k]).m (n.ms[low (Mb.cf (n.rs[k]).m.n) n.ms])) ?_);(refine goI ?_;repeat (intro gg;refine goI ?_));(refine Ab (fun h4=>?_) (fun h4=>?_)<;>rw[h4])
   ·have h4':=ZV h4;(refine goI ?_;repeat (intro gg;refine goI ?_));rw[Zj hlt (by rw[hro];exact ZY (by omega))];(exact⟨[],aI⟩)
   ·have h4':=ZW h4;(refine goI ?_;repeat (intro gg;refine goI ?_));(exact⟨none,trivial,fun _=>⟨⟨k+1,by omega,up1 (p:=fun j h=>Rd n.ms n.rs[j]=true) h0 (fun _=>by rw[hro];exact ZX (by omega))⟩,by show n.rs.length-(k+1)<n.rs.length-k;omega,tI,tI,tI,tI⟩⟩)
 ·have hge:¬k<n.rs.length:=(by have:=ZW h1;omega);(refine goI ?_;repeat (intro gg;refine goI ?_));rw[show n.rs.all (Rd n.ms)=true from List.all_eq_true.2 fun r hr=>by obtain⟨j,hj,rfl⟩:=List.mem_iff_getElem.1 hr;exact h0 j hj (by omega)];(exact⟨[],aI⟩)
theorem Aaj[Glob](n:Nd)(h:n.ok):Fun Tryz.prog 20 [.c (.agg n.row)] [.c (.v (.int .i64 n.err))]:=by
 refine A9 Kd rfl ?_;(refine goI ?_;repeat (intro gg;refine goI ?_));refine .inl (cX (C2 n.nm h.nm) ?_);(refine goI ?_;repeat (intro gg;refine goI ?_));(refine Ab (fun h1=>?_) (fun h1=>?_)<;>rw[h1])
 ·(refine goI ?_;repeat (intro gg;refine goI ?_));rw[Nd.err_form (.inl (Dk h1))];(exact⟨[],aI⟩)
 ·have h1':=Dl h1;(refine goI ?_;repeat (intro gg;refine goI ?_));refine .inl (cX (C2 n.ce h.ce) ?_);(refine goI ?_;repeat (intro gg;refine goI ?_));(refine Ab (fun h2=>?_) (fun h2=>?_)<;>rw[h2])
  ·(refine goI ?_;repeat (intro gg;refine goI ?_));rw[Nd.err_form (.inr (Dk h2))];(exact⟨[],aI⟩)
  ·have h2':=Dl h2;(refine goI ?_;repeat (intro gg;refine goI ?_));(refine⟨_,_,false,aI,Vu n.ms h.msl h.ms,Am,nI,?_⟩);(refine goI ?_;repeat (intro gg;refine goI ?_));(refine⟨_,_,false,aI,Aa1 false n.rs h.rsl h.rs,Am,nI,?_⟩);(refine goI ?_;repeat (intro gg;refine goI ?_));(refine⟨_,_,false,aI,U2 n.sv h.svl h.sv,Am,nI,?_⟩);(refine goI ?_;repeat (intro gg;refine goI ?_));(refine⟨_,_,false,aI,Vo n.gs h.gsl h.gs,Am,nI,?_⟩);(refine goI ?_;repeat (intro gg;refine goI ?_));(refine⟨_,_,false,aI,Wm n.pl,Am,nI,?_⟩);(refine goI ?_;repeat (intro gg;refine goI ?_));(refine⟨_,_,false,aI,Uq false n.wh h.whl h.wh,Am,nI,?_⟩);(refine goI ?_;repeat (intro gg;refine goI ?_));(refine⟨[],none,{k:Nat//k≤6∧∀j,(h:j<n.cks.length)→j<k→n.cks[j]=0},[1,35,36],fun⟨k,hk,h0⟩=>[(37,.v (.int .i64 k))],[16,560],fun⟨k,hk,h0⟩=>[],fun⟨k,hk,h0⟩=>6-k,trivial,fun _=>⟨trivial,fun _=>⟨⟨0,ZU _,fun j _ h=>absurd h (Nat.not_lt_zero _)⟩,tI,Aj _ _,tI,Ak _ _⟩⟩,fun⟨k,hk,h0⟩=>?_⟩);(refine goI ?_;repeat (intro gg;refine goI ?_));have hk6:k≤6:=hk;(refine Ab (fun h3=>?_) (fun h3=>?_)<;>rw[h3])
   ·have hlt6:k<6:=by have h4:=ZV h3;have h5:(k:Int)<6:=h4;omega
    have hlt:k<n.cks.length:=hlt6;(refine goI ?_;repeat (intro gg;refine goI ?_));refine⟨k,_,rfl,Al (f:=Afj) (l:=n.cks) hlt,?_⟩;(refine goI ?_;repeat (intro gg;refine goI ?_));refine⟨_,Al (f:=Afj) (l:=n.cks) hlt,?_⟩;(refine goI ?_;repeat (intro gg;refine goI ?_));(refine Ab (fun h4=>?_) (fun h4=>?_)<;>rw[h4])
    ·have h4':n.cks[k]≠0:=by simpa using h4
     have e:Ad (fun e=>e) n.cks=n.cks[k]:=Bc (e:=fun e=>e) hlt h0 h4';(refine goI ?_;repeat (intro gg;refine goI ?_));rw[Nd.err_ck h1' h2' (by rw[e];exact h4'),e];(exact⟨[],aI⟩)
    ·have h4':n.cks[k]=0:=by simpa using h4
     (refine goI ?_;repeat (intro gg;refine goI ?_));(exact⟨none,trivial,fun _=>⟨⟨k+1,by omega,up1 (p:=fun j h=>n.cks[j]=0) h0 (fun _=>h4')⟩,by show 6-(k+1)<6-k;omega,tI,tI,tI,tI⟩⟩)
   ·have hge:¬k<6:=by have h4:=ZW h3;have h5:¬(k:Int)<6:=h4;omega
    have hz:Ad (fun e=>e) n.cks=0:=A8 (e:=fun e=>e) fun i hi=>h0 i hi (by have h6:i<6:=hi;omega);obtain⟨c1,c2,c3,c4,c5,c6⟩:=Ab2 hz;have hi:=Qq c1;(refine goI ?_;repeat (intro gg;refine goI ?_));(refine .inl ⟨_,_,false,[],aI,Xp false n.ms n.nm (by omega) (Mb.smono hi.2.2 _).mono,Am,nI,?_⟩);(refine goI ?_;repeat (intro gg;refine goI ?_));(refine Ab (fun h5=>?_) (fun h5=>?_)<;>rw[h5])
    ·have h5':=Dk h5;(refine goI ?_;repeat (intro gg;refine goI ?_));rw[Nd.err_none h1' h2' hz h5'];(exact⟨[],aI⟩)
    ·have h5':=Dl h5;have hl2:=L0 h5';have hm:n.ms[low (Mb.cf n.nm) n.ms]? =some n.ms[low (Mb.cf n.nm) n.ms]:=ZC hl2;rw[Nd.err_mine h1' h2' hz h5',Nd.mine_at hm];(refine goI ?_;repeat (intro gg;refine goI ?_));refine⟨low (Mb.cf n.nm) n.ms,_,rfl,Al hl2,?_⟩;(refine goI ?_;repeat (intro gg;refine goI ?_));(refine Ab (fun h6=>?_) (fun h6=>?_)<;>rw[h6])
     ·have h6':(n.ms[low (Mb.cf n.nm) n.ms]).st=2:=by simpa using h6
      rw[if_pos (.inl h6')];(refine goI ?_;repeat (intro gg;refine goI ?_));(exact⟨[],aI⟩)
     ·have h6':(n.ms[low (Mb.cf n.nm) n.ms]).st≠2:=by simpa using h6
      (refine goI ?_;repeat (intro gg;refine goI ?_));refine⟨low (Mb.cf n.nm) n.ms,_,rfl,Al hl2,?_⟩;(refine goI ?_;repeat (intro gg;refine goI ?_));(refine Ab (fun h7=>?_) (fun h7=>?_)<;>rw[h7])
      ·have h7':(n.ms[low (Mb.cf n.nm) n.ms]).st=3:=by simpa using h7
       rw[if_pos (.inr h7')];(refine goI ?_;repeat (intro gg;refine goI ?_));(exact⟨[],aI⟩)
      ·have h7':(n.ms[low (Mb.cf n.nm) n.ms]).st≠3:=by simpa using h7
       rw[if_neg (fun q=>q.elim h6' h7')];(refine goI ?_;repeat (intro gg;refine goI ?_));refine .inl (cX (Ad0 n h c1) ?_);(refine goI ?_;repeat (intro gg;refine goI ?_));(refine Ab (fun h8=>?_) (fun h8=>?_)<;>rw[h8])
       ·rw[if_neg (by rw[Dk h8];simp)];(refine goI ?_;repeat (intro gg;refine goI ?_));(exact⟨[],aI⟩)
       ·rw[if_pos (Dl h8)];(refine goI ?_;repeat (intro gg;refine goI ?_));(exact⟨[],aI⟩)
theorem Pj[Glob](c:Bool)(l:List Mb)(hl:l.length≤1000):Fun Tryz.prog 107 [.c (.sl c (l.map Mb.row))] [.o 47 5 (l.map Mb.row)]:=
 Ab0 Mb.enc Mb.enc_len Mb.enc_one c l hl
theorem Zq[Glob](l:List Mb)(x:Mb)(i:Nat)(hi:i≤l.length)(hl:l.length≤1000):Fun Tryz.prog 201 [.o 47 5 (l.map Mb.row),.c (.v (.int .i64 i)),.o 47 5 [x.row]] [.o 47 5 ((l.take i++[x]++l.drop i).map Mb.row)]:=
 Yk Mb.enc Mb.enc_len Mb.enc_one l x i hi hl
namespace Pl
def Sv.at_(s:Sv)(v:Int):Sv:=⟨s.nd,s.id,s.nm,s.tg,s.ad,s.pt,s.ps,v,s.gn⟩
end Pl
theorem Um[Glob](c:Bool)(l:List Sv)(hl:l.length≤1000):Fun Tryz.prog 109 [.c (.sl c (l.map Sv.row))] [.o 50 9 (l.map Sv.row)]:=
 Ab6 Sv.enc Sv.enc_len Sv.enc_one c l hl
theorem Ag7 [Glob] (c d : Bool) (a b : List Sv) (ha : a.length ≤ 9223372036854775807) : Fun Tryz.prog 23 [.c (.sl c (a.map Sv.row)), .c (.sl d (b.map Sv.row))] [.c (.v (.bool (L9 Sv.same a b)))] := by
  refine A9 Ik rfl ?_
  (refine goI ?_; repeat (intro gg; refine goI ?_))
  rw [ZE, ZE]
  (refine Ab (fun h => ?_) (fun h => ?_) <;> rw [h])
  · (refine goI ?_; repeat (intro gg; refine goI ?_))
    rw [M7 (fun e => by rw [e] at h; simp at h)]
    (exact ⟨[], aI⟩)
  · have hab : a.length = b.length := by have h' : ((a.length : Int) != (b.length : Int)) = false := h
                                         simp at h'; omega
    (refine goI ?_; repeat (intro gg; refine goI ?_))
    (refine ⟨[], none, {k : Nat // k ≤ a.length ∧ ∀ j, (h : j < a.length) → j < k → Sv.same a[j] (b[j]'(by omega)) = true}, [0, 1], fun ⟨k, hk, h0⟩ => [(5, .v (.int .i64 k))], [], fun ⟨k, hk, h0⟩ => [], fun ⟨k, hk, h0⟩ => a.length - k, trivial, fun _ => ⟨trivial, fun _ => ⟨⟨0, by omega, fun j _ h => by omega⟩, tI, Aj _ _, tI, Ak _ _⟩⟩, fun ⟨k, hk, h0⟩ => ?_⟩)
    (refine goI ?_; repeat (intro gg; refine goI ?_))
    rw [ZE]
    (refine Ab (fun h2 => ?_) (fun h2 => ?_) <;> rw [h2])
    · have hlt : k < a.length := (by have := ZV h2; omega)
      have hlt' : k < b.length := by omega
      (refine goI ?_; repeat (intro gg; refine goI ?_))
      refine ⟨k, _, rfl, Al hlt, ?_⟩
      (refine goI ?_; repeat (intro gg; refine goI ?_))
      refine ⟨k, _, rfl, Al hlt', ?_⟩
      (refine goI ?_; repeat (intro gg; refine goI ?_))
      (refine Ab (fun h3 => ?_) (fun h3 => ?_) <;> rw [h3])
      · (refine goI ?_; repeat (intro gg; refine goI ?_))
        rw [Nn hlt hlt' (Dk (b := Sv.same a[k] b[k]) h3)]
        (exact ⟨[], aI⟩)
      · (refine goI ?_; repeat (intro gg; refine goI ?_))
        (exact ⟨none, trivial, fun _ => ⟨⟨k + 1, by omega, up1 (p := fun j h => Sv.same a[j] (b[j]'(by omega)) = true) h0 (fun _ => Dl (b := Sv.same a[k] b[k]) h3)⟩, by show a.length - (k + 1) < a.length - k; omega, tI, tI, tI, tI⟩⟩)
    · have hge : ¬ k < a.length := (by have := ZW h2; omega)
      (refine goI ?_; repeat (intro gg; refine goI ?_))
      rw [Ht hab (fun i hi _ => h0 i hi (by omega))]
      (exact ⟨[], aI⟩)
theorem U5[Glob](c:Bool)(l:List Gw)(hl:l.length≤1000):Fun Tryz.prog 110 [.c (.sl c (l.map Gw.row))] [.o 53 3 (l.map Gw.row)]:=
 Aat Gw.enc Gw.enc_len Gw.enc_one c l hl
theorem Ag8 [Glob] (c d : Bool) (a b : List Gw) (ha : a.length ≤ 9223372036854775807) : Fun Tryz.prog 24 [.c (.sl c (a.map Gw.row)), .c (.sl d (b.map Gw.row))] [.c (.v (.bool (L9 Gw.same a b)))] := by
  refine A9 It rfl ?_
  (refine goI ?_; repeat (intro gg; refine goI ?_))
  rw [ZE, ZE]
  (refine Ab (fun h => ?_) (fun h => ?_) <;> rw [h])
  · (refine goI ?_; repeat (intro gg; refine goI ?_))
    rw [M7 (fun e => by rw [e] at h; simp at h)]
    (exact ⟨[], aI⟩)
  · have hab : a.length = b.length := by have h' : ((a.length : Int) != (b.length : Int)) = false := h
                                         simp at h'; omega
    (refine goI ?_; repeat (intro gg; refine goI ?_))
    (refine ⟨[], none, {k : Nat // k ≤ a.length ∧ ∀ j, (h : j < a.length) → j < k → Gw.same a[j] (b[j]'(by omega)) = true}, [0, 1], fun ⟨k, hk, h0⟩ => [(5, .v (.int .i64 k))], [], fun ⟨k, hk, h0⟩ => [], fun ⟨k, hk, h0⟩ => a.length - k, trivial, fun _ => ⟨trivial, fun _ => ⟨⟨0, by omega, fun j _ h => by omega⟩, tI, Aj _ _, tI, Ak _ _⟩⟩, fun ⟨k, hk, h0⟩ => ?_⟩)
    (refine goI ?_; repeat (intro gg; refine goI ?_))
    rw [ZE]
    (refine Ab (fun h2 => ?_) (fun h2 => ?_) <;> rw [h2])
    · have hlt : k < a.length := (by have := ZV h2; omega)
      have hlt' : k < b.length := by omega
      (refine goI ?_; repeat (intro gg; refine goI ?_))
      refine ⟨k, _, rfl, Al hlt, ?_⟩
      (refine goI ?_; repeat (intro gg; refine goI ?_))
      refine ⟨k, _, rfl, Al hlt', ?_⟩
      (refine goI ?_; repeat (intro gg; refine goI ?_))
      (refine Ab (fun h3 => ?_) (fun h3 => ?_) <;> rw [h3])
      · (refine goI ?_; repeat (intro gg; refine goI ?_))
        rw [Nn hlt hlt' (Dk (b := Gw.same a[k] b[k]) h3)]
        (exact ⟨[], aI⟩)
      · (refine goI ?_; repeat (intro gg; refine goI ?_))
        (exact ⟨none, trivial, fun _ => ⟨⟨k + 1, by omega, up1 (p := fun j h => Gw.same a[j] (b[j]'(by omega)) = true) h0 (fun _ => Dl (b := Gw.same a[k] b[k]) h3)⟩, by show a.length - (k + 1) < a.length - k; omega, tI, tI, tI, tI⟩⟩)
    · have hge : ¬ k < a.length := (by have := ZW h2; omega)
      (refine goI ?_; repeat (intro gg; refine goI ?_))
      rw [Ht hab (fun i hi _ => h0 i hi (by omega))]
      (exact ⟨[], aI⟩)
theorem Aot:(Tryz.prog.info? 88).map (fun i=>(i.zero,i.size,i.bytes))=some (some (.agg #[.string ⟨#[]⟩,.int .i64 0,.int .i64 0,.int .i64 0,.int .i64 0,.int .i64 0]),6,56):=by kernel_rfl
def Aql(base n:Nat)(xs:List Value)(w:World)(e:Ending)(w':World):Prop:=
 ∃A' c',e=.returned (.slice A' n c')∧w'.ownsRow base 88 6 (.slice A' n c') n xs∧Below base w w'∧w.drawn≤w'.drawn
set_option maxRecDepth 100000 in
theorem Afn(A:Option Addr)(n c:Nat)(xs:List Value)(w:World)(hA:A=none→n=0)(hn:n≤1000)(hxl:xs.length=n*6)(hx:∀ad,A=some ad→∀j u,xs[j]? =some u→w.cell? (ad.add j)=some u)(h1:∀v∈xs,v.oneCell'=true):
  Calls Tryz.prog 111 #[.slice A n c] w (Aql w.heap.size n xs w):=by
 obtain⟨i0,hi0,hz0,hzs,hzb⟩:=info_parts Aot;cases A with
 |none=>
  obtain rfl:=hA rfl;obtain rfl:xs=[]:=XR (by simpa using hxl);clear hx hxl hi0 hz0 hzs hzb h1;have hnl:=fun(w:World)=>Lib.run_eql_slice_nil (P:=Tryz.prog) w 42 88 none 0 c 0 0 Tryz.underlying42
  go_enter Tryz.func111,Tryz.ntmps111
  go_wp2
  go_ret
  exact⟨none,0,rfl,World.ownsRow_nil _ _ _ _,Below.refl _ _,ZT _⟩
 |some ad=>
  have HX:=hid (hx ad rfl);have HXL:=hid hxl;have HZ0:=hid hz0;have HZS:=hid hzs;have HZB:=hid hzb;have HI0:=hid hi0;clear hx hxl hA hi0 hz0 hzs hzb;have hnl:=fun(w:World)=>Lib.run_eql_slice_nil (P:=Tryz.prog) w 42 88 (some ad) n c 0 0 Tryz.underlying42
  go_enter Tryz.func111,Tryz.ntmps111
  have hown0:(w.alloc (.cells #[] 88)).ownsRow w.heap.size 88 6 (.slice (some ⟨w.heap.size,0,none⟩) 0 0) 0 []:=
   ⟨by simp,.inr ⟨w.heap.size,0, #[],rfl,ZT _,heap_alloc_new w _,by omega,by simp[maxLen],by simp,by simp⟩⟩
  have HO:=hid hown0;have HX1:=hid (fun j u (hj:xs[j]? =some u)=>(World.cell?_alloc_lt w (.cells #[] 88) (ad.add j) (Ts (HX.out j u hj))).trans (HX.out j u hj));clear hown0
  go_wp2_with (at_builtin;refine Gs _ rfl _ _ 42 rfl w.heap.size 88 i0 _ 6 56 Tryz.underlying42 HI0.out HZ0.out HZS.out HZB.out rfl (by decide) _ _ _ rfl HO.out ad n c xs rfl HXL.out HX1.out h1 (by simp only[maxLen];omega) (by omega) (by simp) ?_;intro v1 w1 hown1 hg1 hd1 hat1)
  go_ret
  rw[Nat.zero_add,List.nil_append]at hown1;obtain⟨A',c',rfl⟩:=K9 hown1;exact⟨A',c',rfl,hown1,((Below.refl _ _).alloc (ZT _) _).grown hg1 (by simp) (Dz HO.out),hd1⟩
theorem Abi[Glob]{α:Type}(enc:α→List Value)(he:∀x,(enc x).length=6)(h1:∀x,∀v∈enc x,v.oneCell'=true)(cl:Bool)(l:List α)(hl:l.length≤1000):
  Fun Tryz.prog 111 [.c (.sl cl (l.map fun x=>(enc x).map .v))] [.o 88 6 (l.map fun x=>(enc x).map .v)]:=by
 refine⟨C7 Tryz.func111 (by kernel_rfl) (by kernel_rfl),fun w R xs hlt hp _=>?_⟩;obtain⟨v,rfl,hv⟩:=Py hp;obtain⟨A,c,rfl,hA,hx⟩:=P3 he hv;have hone:∀v∈l.flatMap enc,v.oneCell'=true:=fun v hv=>by
  obtain⟨g,_,hg⟩:=List.mem_flatMap.1 hv;exact h1 g v hg
 refine(Afn A l.length c (l.flatMap enc) w hA hl (I5 he l) hx hone).mono ?_
 rintro e w' ⟨A',c',rfl,hown,hb,hd⟩
 exact I4 he h1 (by decide) hlt hown (Cf hb) (fun k hk=>.inr (Dz hown k hk)) (fun k hk=>by have:=Dz hown k hk;intro h;have:=hlt k h;omega)
theorem Ahw{w:World}{R R':Nat→Prop}{T:TypeId}{sz:Nat}{rows:List (List V)}{x:Value}(h:Nk w R (.o T sz rows) x)(hR:∀b,R b→R' b)(hb:∀b,x.ownBlock=some b→R' b):RV w R' noG (.sl false rows) x:=by
 obtain⟨hsz,xs,g5,g6⟩:=h;have g5':w.ownsRow 0 T (Ent.mk 0 (.t T) sz rows).sz (Loc.mk 0 sz x false none).val (Ent.mk 0 (.t T) sz rows).rows.length xs:=g5;rcases Es g5' with⟨hv,h0⟩|⟨b,cap,hv,hbk⟩
 ·have hv:x=.slice none 0 0:=hv;rw[hv];have:rows=[]:=h0;subst this;exact .nil _ _ _ (by simp)
 ·have hv:x=.slice (some ⟨b,0,none⟩) rows.length cap:=hv;have hbk:x.ownBlock=some b:=hbk;rw[hv];have hcapn:rows.length≤cap:=by
   rcases g5.2 with⟨q,_⟩|⟨g',cap',cur,q,_,_,hnc,_⟩
   ·rw[hv]at q;cases q
   ·rw[hv]at q;injection q with _ _ q;omega
  refine .sl _ rows b 0 cap sz (fun i j=>(xs[i*sz+j]?).getD undef) (hb b hbk) hcapn (by simp) g6.1 ?_ ?_
  ·intro i j row u h1 h2;obtain⟨y,q1,_,q2⟩:=g6.2 i j row u h1 h2;show w.cell? ⟨b,0+i*sz+j,none⟩=some ((xs[i*sz+j]?).getD undef);rw[q1,Nat.zero_add];exact Dy g5' hbk q1
  ·intro i j row u h1 h2;obtain⟨y,q1,_,q2⟩:=g6.2 i j row u h1 h2;show RV w R' noG u ((xs[i*sz+j]?).getD undef);rw[q1];exact q2.mono (fun b hb=>⟨hR b hb,rfl⟩) (Gle.refl _)
def frz:Par→Par
 |.c u=>.c u
 |.o _ _ rows=>.c (.sl false rows)
theorem Fun.frz[Glob]{P:Program}{f:FuncId}{ps rs:List Par}(h:Fun P f ps rs):Fun P f ps (rs.map frz):=by
 refine⟨h.1,fun w R xs hlt hp hg=>(h.2 w R xs hlt hp hg).mono ?_⟩
 rintro e w' ⟨ys,R',he,hfr,h1,h2,h3,h4⟩
 have no:∀(i:Nat) (T:TypeId) (sz:Nat) (rows:List (List V)),(rs.map Go.Proofs.YtchbkgnobpejnaaGreatDoor.frz)[i]?≠some (.o T sz rows):=fun i T sz rows q=>by
  rw[XJ]at q;cases hr:rs[i]? with
  |none=>rw[hr]at q;cases q
  |some r=>
   rw[hr]at q;cases r<;>cases q
 refine⟨ys,fun b=>R' b∨A4 rs ys b,he,hfr,fun b hb=>.inl (h1 b hb),?_,⟨by rw[ZE];exact h3.len,?_,?_,?_⟩,?_⟩
 ·rintro b (hb|hb)
  ·exact h2 b hb
  ·refine .inr ⟨?_,h4 b hb⟩;obtain⟨i,T,sz,rows,x,q1,q2,q3⟩:=hb;obtain⟨_,xs',g,_⟩:=h3.ok i _ x q1 q2;exact Gn g q3
 ·intro i p x hp1 hx;rw[XJ]at hp1;cases hr:rs[i]? with
  |none=>rw[hr]at hp1;cases hp1
  |some r=>
   rw[hr]at hp1;have ho:=h3.ok i r x hr hx;cases r with
   |c u=>
    injection hp1 with hp1;subst hp1;exact RV.mono ho (fun b hb=>⟨.inl hb,rfl⟩) (Gle.refl _)
   |o T sz rows=>
    injection hp1 with hp1;subst hp1;exact Ahw ho (fun b hb=>.inl hb) (fun b hb=>.inr ⟨i,T,sz,rows,x,hr,hx,hb⟩)
 ·intro i j T sz rows T' sz' rows' x y b hij h1;exact absurd h1 (no i T sz rows)
 ·rintro b ⟨i,T,sz,rows,x,q1,_⟩
  exact absurd q1 (no i T sz rows)
 ·rintro b ⟨i,T,sz,rows,x,q1,_⟩
  exact absurd q1 (no i T sz rows)
theorem Sh[Glob](c:Bool)(l:List Wh)(hl:l.length≤1000):Fun Tryz.prog 111 [.c (.sl c (l.map Wh.row))] [.o 88 6 (l.map Wh.row)]:=
 Abi Wh.enc Wh.enc_len Wh.enc_one c l hl
theorem Ajp{l:List Wh}(h:Gr l=0):l.length≤20:=by
 unfold Gr ckL at h;split at h
 ·cases h
 ·omega
theorem Aeq{env:Nat→V}{H:Nat→Option Ent}{ts:List RT}{cs cs':List V}{v:V}(hG:Hg env H ts [.agg cs,v])(hc:Cv H [] cs cs')(hv:Cl v):∃us gone,Hg env H ts us∧Au H gone true gone us [.c (.agg cs'),.c v]:=⟨_,[],hG,.bora hc (.same hv (.nil _))⟩
namespace Pl
structure Pk where
 fr:ByteArray
 wo:Bool
 ms:List Mb
 sv:List Sv
 gs:List Gw
 wh:List Wh
def Pk.row(p:Pk):List V:=[.v (.string p.fr),.v (.bool p.wo),.sl false (p.ms.map Mb.row),.sl false (p.sv.map Sv.row),.sl false (p.gs.map Gw.row),.sl false (p.wh.map Wh.row)]
structure Pk.ok(p:Pk):Prop where
 fr:p.fr.size≤9223372036854775807
 msl:p.ms.length≤9223372036854775807
 ms:∀x∈p.ms,x.ok
 svl:p.sv.length≤1000000000000000
 sv:∀x∈p.sv,x.ok
 gsl:p.gs.length≤1000000000000000
 gs:∀x∈p.gs,x.ok
 whl:p.wh.length≤1000000000000000
 wh:∀x∈p.wh,x.ok
def pk0:Pk:=⟨⟨#[]⟩,false,[],[],[],[]⟩
end Pl
open Go
theorem Aan [Glob] {P : Program} {f : FuncId} {fn : Func} {code : Code} {rc : Ae} {ps rs : List Par} {rts : List RT} (hf : P.funcs[f]? = some fn) (hb : fn.body = some code) (hname : (fn.name == "runtime.NumGoroutine") = false) (hres : Ao P fn.ntmps code = some (Cm rc))
  (hlen:ps.length≤fn.ntmps) (hts:Ie P fn.results.toList=some rts) (h:wpv P rc (Aer rts rs) (Oy ps)):Fun P f ps rs:=by
 refine⟨⟨fn,hf,hname,by rw[hb];rfl⟩,fun w R xs hlt hp hg=>?_⟩;refine calls_of_wp hf hb ?_;obtain⟨G0,hrel⟩:=Rf (n:=fn.ntmps) hlt hp hlen hg;refine wp_mono (B9 (c:=⟨w,R,A4 ps xs,fn.ntmps,noD,G0,hg⟩) rfl rc hres h hrel) fun e a' w' he=>?_;have fin:∀st,Amv rts rs st→Rel ⟨w,R,A4 ps xs,fn.ntmps,noD,G0,hg⟩ st a' w'→a'.defers=[]∧∃v,(results fn a'.tmps).run P w'=.ok v w'∧∃(ys:List Value) (R':Nat→Prop),Ending.returned v=.returned (Da ys)∧Fr (A4 ps xs) w w'∧(∀b,R b→R' b)∧
   (∀b,R' b→R b∨(b<w'.heap.size∧(A4 ps xs b∨w.heap.size≤b)))∧Ls w' R' rs ys∧(∀b,A4 rs ys b→A4 ps xs b∨w.heap.size≤b):=fun st ⟨us,gone,hG,hA⟩ ⟨R2,G,hR⟩=>by
  obtain⟨zs,z1,z2,z3⟩:=Fa hR _ hts hG;refine⟨hR.defers,_,Eb z1,zs,RB R2 G st.H gone true,rfl,hR.fr,fun b hb=>.inl (hR.old b hb),?_,?_⟩
  ·rintro b (hb|⟨_,id,e,l,_,q1,q2,q3,q4⟩)
   ·rcases hR.src b hb with q|q
    ·exact .inl q
    ·exact .inr ⟨hR.lt b hb,q⟩
   ·exact .inr ⟨hR.hr.lt q1 q2 q3 q4,(hR.hr.mine id e l b q1 q2 q3 q4).2⟩
  ·obtain⟨h1,h2⟩:=Fc hR (bor0:=true) (xs:=zs) hA (fun e=>e) z2.symm (fun i u x h3 h4=>z3 i u x h3 h4) (fun id hid=>hid);refine⟨h1,fun b hb=>?_⟩;obtain⟨id,_,e,l,q1,q2,q3,q4⟩:=h2 b hb;exact(hR.hr.mine id e l b q1 q2 q3 q4).2
 cases e with
 |normal=>obtain⟨st,h1,h2⟩:=he;exact fin st h1 h2
 |ret=>obtain⟨st,h1,h2⟩:=he;exact fin st h1 h2
 |exit id=>obtain⟨st,h1,h2⟩:=he;exact h1.elim
 |goto l=>exact he.elim
 |panic ch=>obtain⟨v,_,h2,_⟩:=he;exact h2.elim
 |outgrown=>exact he.elim
theorem Aj5[Glob]{P:Program}{f:FuncId}{np:Nat}{rc rcD:Ae}{ts:List RT}{ps rs:List Par}(hc:Bo P f np=some (rc,ts))(hs:Cm rcD=rc)(hn:ps.length=np)(h:wpv P rcD (Aer ts rs) (Oy ps)):Fun P f ps rs:=by
 unfold Bo at hc;split at hc
 ·cases hc
 ·rename_i fn hf;split at hc
  ·cases hc
  ·rename_i code hb;split at hc
   ·cases hc
   ·rename_i hk;simp only[Bool.or_eq_true,not_or,Bool.not_eq_true',Bool.not_eq_true,decide_eq_false_iff_not,Classical.not_not]at hk;split at hc
    ·rename_i rc' ts' h1 h2;simp only[ZD,Prod.mk.injEq]at hc;obtain⟨rfl,rfl⟩:=hc;refine Aan hf hb ?_ (h1.trans (by rw[hs])) ?_ h2 h
     ·exact hk.1
     ·rw[hn];simpa using hk.2
    ·cases hc
theorem Akn[Glob]{P:Program}{f:FuncId}{np:Nat}{rc rcD:Ae}{ts:List RT}{ps rs:List Par}(hc:Bo P f np=some (rc,ts))(hs:Cm rcD=rc)(hn:ps.length=np)(h:wpx P noD rcD (Aiy ts rs) (Ft ps) (H4 ps)):Fun P f ps rs:=by
 refine Aj5 hc hs hn (Bv rcD (fun e env H h=>?_) h);cases e with
 |normal=>exact h
 |exit j=>exact h
 |ret=>exact h
set_option maxRecDepth 100000
theorem bT{b:Bool}{p q:Prop}(k:p)(h:b=true:=by first|rfl|(subst_vars;rfl)|(subst_vars;simp only[ByteArray.toList_eq]<;>rfl)):bIf b p q:=Aah h k
theorem bF{b:Bool}{p q:Prop}(k:q)(h:b=false:=by first|rfl|(subst_vars;rfl)|(subst_vars;simp only[ByteArray.toList_eq]<;>rfl)):bIf b p q:=Re h k
theorem o4{A B C D:Prop}(h:D):A∨B∨C∨D:=.inr (.inr (.inr h))
theorem Nz[Glob]{P:Program}{f:FuncId}{np:Nat}{rc:Ae}{ts:List RT}{ps rs:List Par}(m:Nat)(hc:Bo P f np=some (rc,ts))(hn:ps.length=np)(h:wpx P noD (Dw m rc) (Aiy ts rs) (Ft ps) (H4 ps)):Fun P f ps rs:=by
 obtain⟨fn,code,h1,h2,h3,h4,h5,h6⟩:=O9 hc;exact Akn hc ((Db m rc).trans (Cz code h4)) hn h
theorem Aoi{T:TypeId}{sz:Nat}{rows:List (List V)}{ps:List Par}(h:Abn rows=true)(h2:flB ps=true):Dh (.o T sz rows::ps):=by
 intro r hr;rcases XC.1 hr with rfl|hr
 ·exact fun row hr u hu=>Yq h row hr u hu
 ·exact Yw h2 r hr
theorem fJ{rs:List Par}(h:Dh rs:=by first|exact Yw rfl|exact Aoi rfl rfl):Dh rs:=h
theorem aJ{H:Nat→Option Ent}{all gone:List Nat}{bor:Bool}{us:List V}{ps:List Par}(h:Au H all bor gone us ps:=by(repeat' (first|exact Au.nil _|exact Lg (by assumption)|refine Au.same (by first|exact Ez rfl|exact C9|exact E6|exact Xu (Ek rfl)|exact cl_one|exact cl_ll1|exact cl_ll2|exact cl_clo (by assumption)|exact N7 (by repeat' (first|exact Ko|refine Hv (by first|exact Ez rfl|exact C9|exact E6|exact Xu (Ek rfl)|assumption) ?_))) ?_|refine Au.nilsl _ ?_|refine Au.nilown _ _ (by decide) ?_|refine Au.borp rfl rfl rfl (Ke rfl) (by decide) ?_|refine Au.borc (by(repeat' (first|exact cap_n|refine cap_p rfl rfl rfl (by first|exact Ke rfl|exact cl_r1 rfl|exact cl_r1b) ?_ ?_|refine cap_m rfl (by decide) ?_|refine cap_c (by first|exact Ez rfl|exact C9|exact E6|exact cl_one|exact cl_ll1|exact cl_ll2|exact cl_clo (by assumption)|exact N7 (by repeat' (first|exact Ko|refine Hv (by first|exact Ez rfl|exact C9|exact E6|assumption) ?_))) ?_|decide))) ?_|refine Au.bora (by(repeat' (first|exact Cv.nil|refine Cv.same (by first|exact Ez rfl|exact C9|exact E6|exact Xu (Ek rfl)|assumption) ?_|refine Cv.nilsl _ ?_|refine Pf rfl rfl (by first|exact Ek rfl|exact Ci|exact cl_setB rfl|exact cl_setG (cl_setB rfl) rfl|exact Gm Ci (Ek rfl)|exact Ll|exact cl_rl2) (by decide) ?_))) ?_|refine Au.bor rfl rfl (Pm (by first|exact Ek rfl|exact Ci|exact cl_setB rfl|exact cl_setG (cl_setB rfl) rfl|exact Gm Ci (Ek rfl)|exact Ll|exact cl_rl2)) (by decide) ?_|refine Adq rfl (by first|exact Ek rfl|exact Ci|exact cl_setB rfl|exact cl_setG (cl_setB rfl) rfl|exact Gm Ci (Ek rfl)|exact Ll|exact cl_rl2) (by decide) (by decide) ?_))):Au H all bor gone us ps:=h
abbrev xA(a:ByteArray):List V:=[.v (.string a),.v (.int .i64 1),.v (.int .i64 1),.v (.int .i64 1),.v (.bool false)]
abbrev xB(b:ByteArray):List V:=[.v (.string b),.v (.int .i64 1),.v (.int .i64 1),.v (.int .i64 2),.v (.bool true)]
abbrev xR(a:ByteArray):List V:=[.v (.string a),.v (.int .i64 1),.v (.int .i64 1),.v (.int .i64 1),.v (.bool false),.v (.int .i64 0)]
abbrev xZ:Par:=.c (.v (.int .i64 0))
abbrev yA(a c:ByteArray):List V:=[.v (.string a),.v (.string c),.sl false [(xA a)],.sl false [],.sl false [],.sl false [],.v (.int .i64 0),.v (.int .i64 0),.v (.int .i64 0),.v (.int .i64 0),.v (.int .i64 1000),.sl false []]
abbrev yB(b c:ByteArray):List V:=[.v (.string b),.v (.string c),.sl false [(xB b)],.sl false [],.sl false [],.sl false [],.v (.int .i64 0),.v (.int .i64 0),.v (.int .i64 0),.v (.int .i64 0),.v (.int .i64 1000),.sl false []]
abbrev yC(a b c:ByteArray):List V:=[.v (.string b),.v (.string c),.sl false [(xA a),(xB b)],.sl false [(xR a)],.sl false [],.sl false [],.v (.int .i64 0),.v (.int .i64 0),.v (.int .i64 0),.v (.int .i64 0),.v (.int .i64 1000),.sl false []]
section
variable {a b c:ByteArray} (ha:(⟨#[97]⟩:ByteArray)=a) (hb:(⟨#[98]⟩:ByteArray)=b) (hc:(⟨#[99]⟩:ByteArray)=c)
include ha hb hc
omit ha hb hc in
theorem kA[Glob]:Fun Tryz.prog 107 [.c (.sl false [(xA a)])] [.o 47 5 [(xA a)]]:=Pj false [⟨a,1,1,1,false⟩] (Nat.le_of_ble_eq_true rfl)
omit ha hb hc in
theorem kB[Glob]:Fun Tryz.prog 107 [.c (.sl false [(xB b)])] [.o 47 5 [(xB b)]]:=Pj false [⟨b,1,1,2,true⟩] (Nat.le_of_ble_eq_true rfl)
omit ha hb hc in
theorem cr0[Glob]:Fun Tryz.prog 108 [.c (.sl false [])] [.o 79 6 []]:=Sn false [] (Nat.le_of_ble_eq_true rfl)
omit ha hb hc in
theorem cs0[Glob]:Fun Tryz.prog 109 [.c (.sl false [])] [.o 50 9 []]:=Um false [] (Nat.le_of_ble_eq_true rfl)
omit ha hb hc in
theorem cg0[Glob]:Fun Tryz.prog 110 [.c (.sl false [])] [.o 53 3 []]:=U5 false [] (Nat.le_of_ble_eq_true rfl)
omit ha hb hc in
theorem cw0[Glob]:Fun Tryz.prog 111 [.c (.sl false [])] [.o 88 6 []]:=Sh false [] (Nat.le_of_ble_eq_true rfl)
omit ha hb hc in
theorem Arl[Glob]:Fun Tryz.prog 201 [.o 47 5 [(xB b)],xZ,.o 47 5 [(xA a)]] [.o 47 5 [(xA a),(xB b)]]:=Zq [⟨b,1,1,2,true⟩] ⟨a,1,1,1,false⟩ 0 (ZU _) (Nat.le_of_ble_eq_true rfl)
omit hb hc in
theorem Aoa[Glob]:Fun Tryz.prog 44 [.c (.v (.string a))] [.c (.v (.bool true))]:=(by have h:=C2 a (by subst_vars;decide);rw[show Pl.lab a.data.toList=true by subst_vars;rfl]at h;exact h)
omit ha hc in
theorem Aqs[Glob]:Fun Tryz.prog 44 [.c (.v (.string b))] [.c (.v (.bool true))]:=(by have h:=C2 b (by subst_vars;decide);rw[show Pl.lab b.data.toList=true by subst_vars;rfl]at h;exact h)
omit ha hb in
theorem Ar0[Glob]:Fun Tryz.prog 44 [.c (.v (.string c))] [.c (.v (.bool true))]:=(by have h:=C2 c (by subst_vars;decide);rw[show Pl.lab c.data.toList=true by subst_vars;rfl]at h;exact h)
omit hb hc in
theorem An7[Glob]:Fun Tryz.prog 130 [.c (.agg (xA a))] [xZ]:=by
 refine Eo 9 J0 rfl ?_;(refine goI ?_;repeat (intro gg;refine goI ?_));refine .inl ⟨_,_,false,[],aJ,Aoa ha,Am,nI,?_⟩;(refine goI ?_;repeat (intro gg;refine goI ?_));refine o4 (Ap 2000 9 Cn rfl ?_);(refine goI ?_;repeat (intro gg;refine goI ?_));refine o4 (Ap 3000 9 Cn rfl ?_);(refine goI ?_;repeat (intro gg;refine goI ?_));refine o4 (Ap 4000 9 Cn rfl ?_);(refine goI ?_;repeat (intro gg;refine goI ?_));(exact⟨[],aJ⟩)
omit ha hc in
theorem Aqc[Glob]:Fun Tryz.prog 130 [.c (.agg (xB b))] [xZ]:=by
 refine Eo 9 J0 rfl ?_;(refine goI ?_;repeat (intro gg;refine goI ?_));refine .inl ⟨_,_,false,[],aJ,Aqs hb,Am,nI,?_⟩;(refine goI ?_;repeat (intro gg;refine goI ?_));refine o4 (Ap 2000 9 Cn rfl ?_);(refine goI ?_;repeat (intro gg;refine goI ?_));refine o4 (Ap 3000 9 Cn rfl ?_);(refine goI ?_;repeat (intro gg;refine goI ?_));refine o4 (Ap 4000 9 Cn rfl ?_);(refine goI ?_;repeat (intro gg;refine goI ?_));(exact⟨[],aJ⟩)
omit hb hc in
theorem Aqq[Glob]:Fun Tryz.prog 45 [.c (.sl false [(xA a)])] [xZ]:=by
 refine Eo 9 Hc rfl ?_;(refine goI ?_;repeat (intro gg;refine goI ?_));refine o4 (Ap 1000 9 Et rfl ?_);(refine goI ?_;repeat (intro gg;refine goI ?_));refine⟨0,_,by kernel_rfl,rfl,?_⟩;(refine goI ?_;repeat (intro gg;refine goI ?_));refine o4 (Ap 3000 9 Fx rfl ?_);(refine goI ?_;repeat (intro gg;refine goI ?_));refine⟨0,_,by kernel_rfl,rfl,?_⟩;(refine goI ?_;repeat (intro gg;refine goI ?_));refine .inl ⟨_,_,false,[],aJ,An7 ha,Am,nI,?_⟩;(refine goI ?_;repeat (intro gg;refine goI ?_));(exact⟨[],aJ⟩)
omit ha hc in
theorem Arg[Glob]:Fun Tryz.prog 45 [.c (.sl false [(xB b)])] [xZ]:=by
 refine Eo 9 Hc rfl ?_;(refine goI ?_;repeat (intro gg;refine goI ?_));refine o4 (Ap 1000 9 Et rfl ?_);(refine goI ?_;repeat (intro gg;refine goI ?_));refine⟨0,_,by kernel_rfl,rfl,?_⟩;(refine goI ?_;repeat (intro gg;refine goI ?_));refine o4 (Ap 3000 9 Fx rfl ?_);(refine goI ?_;repeat (intro gg;refine goI ?_));refine⟨0,_,by kernel_rfl,rfl,?_⟩;(refine goI ?_;repeat (intro gg;refine goI ?_));refine .inl ⟨_,_,false,[],aJ,Aqc hb,Am,nI,?_⟩;(refine goI ?_;repeat (intro gg;refine goI ?_));(exact⟨[],aJ⟩)
omit ha hb hc in
theorem Ami[Glob]:Fun Tryz.prog 46 [.c (.sl false [])] [xZ]:=by
 refine Eo 9 Nl rfl ?_;(refine goI ?_;repeat (intro gg;refine goI ?_));refine o4 (Ap 1000 9 Cc rfl ?_);(refine goI ?_;repeat (intro gg;refine goI ?_));refine o4 (Ap 2000 9 Bd rfl ?_);(refine goI ?_;repeat (intro gg;refine goI ?_));(exact⟨[],aJ⟩)
omit ha hb hc in
theorem Ao1[Glob]:Fun Tryz.prog 47 [.c (.sl false [])] [xZ]:=by
 refine Eo 9 K2 rfl ?_;(refine goI ?_;repeat (intro gg;refine goI ?_));refine o4 (Ap 1000 9 Ga rfl ?_);(refine goI ?_;repeat (intro gg;refine goI ?_));refine⟨0,_,by kernel_rfl,rfl,?_⟩;(refine goI ?_;repeat (intro gg;refine goI ?_));(exact⟨[],aJ⟩)
omit ha hb hc in
theorem Amz[Glob]:Fun Tryz.prog 48 [.c (.sl false [])] [xZ]:=by
 refine Eo 9 L8 rfl ?_;(refine goI ?_;repeat (intro gg;refine goI ?_));refine o4 (Ap 1000 9 G9 rfl ?_);(refine goI ?_;repeat (intro gg;refine goI ?_));refine⟨0,_,by kernel_rfl,rfl,?_⟩;(refine goI ?_;repeat (intro gg;refine goI ?_));(exact⟨[],aJ⟩)
omit ha hb hc in
theorem An1[Glob]:Fun Tryz.prog 50 [.c (.sl false [])] [xZ]:=by
 refine Eo 9 Kx rfl ?_;(refine goI ?_;repeat (intro gg;refine goI ?_));(exact⟨[],aJ⟩)
omit ha hb hc in
theorem Aqg[Glob]:Fun Tryz.prog 49 [.c (.agg [.v (.int .i64 0),.v (.int .i64 0),.v (.int .i64 0),.v (.int .i64 0),.v (.int .i64 1000)])] [xZ]:=by
 refine Eo 9 Ns rfl ?_;(refine goI ?_;repeat (intro gg;refine goI ?_));refine o4 (Ap 1000 9 Eg rfl ?_);(refine goI ?_;repeat (intro gg;refine goI ?_));refine o4 (Ap 2000 9 Dc rfl ?_);(refine goI ?_;repeat (intro gg;refine goI ?_));refine o4 (Ap 3000 9 Eg rfl ?_);(refine goI ?_;repeat (intro gg;refine goI ?_));refine o4 (Ap 4000 9 Dc rfl ?_);(refine goI ?_;repeat (intro gg;refine goI ?_));refine o4 (Ap 5000 9 Eg rfl ?_);(refine goI ?_;repeat (intro gg;refine goI ?_));refine o4 (Ap 6000 9 Dc rfl ?_);(refine goI ?_;repeat (intro gg;refine goI ?_));refine o4 (Ap 7000 9 Dc rfl ?_);(refine goI ?_;repeat (intro gg;refine goI ?_));refine o4 (Ap 8000 9 Dc rfl ?_);(refine goI ?_;repeat (intro gg;refine goI ?_));(exact⟨[],aJ⟩)
omit ha hb hc in
theorem Ar4[Glob]:Fun Tryz.prog 116 [.c (.sl false []),.c (.sl false [])] [.o 50 9 [],xZ]:=by
 refine Eo 9 S7 rfl ?_;(refine goI ?_;repeat (intro gg;refine goI ?_));refine o4 (Ap 1000 9 Ga rfl ?_);(refine goI ?_;repeat (intro gg;refine goI ?_));refine⟨0,_,by kernel_rfl,rfl,?_⟩;(refine goI ?_;repeat (intro gg;refine goI ?_));refine⟨1,_,by kernel_rfl,rfl,?_⟩;(refine goI ?_;repeat (intro gg;refine goI ?_));refine .inl ⟨_,_,false,[],aJ,cs0,Am,nI,?_⟩;(refine goI ?_;repeat (intro gg;refine goI ?_));(exact⟨[320],aJ⟩)
omit ha hb hc in
theorem Aqt[Glob]:Fun Tryz.prog 117 [.c (.sl false []),.c (.sl false [])] [.o 53 3 [],xZ]:=by
 refine Eo 9 T6 rfl ?_;(refine goI ?_;repeat (intro gg;refine goI ?_));refine o4 (Ap 1000 9 G9 rfl ?_);(refine goI ?_;repeat (intro gg;refine goI ?_));refine⟨0,_,by kernel_rfl,rfl,?_⟩;(refine goI ?_;repeat (intro gg;refine goI ?_));refine⟨1,_,by kernel_rfl,rfl,?_⟩;(refine goI ?_;repeat (intro gg;refine goI ?_));refine .inl ⟨_,_,false,[],aJ,cg0,Am,nI,?_⟩;(refine goI ?_;repeat (intro gg;refine goI ?_));(exact⟨[320],aJ⟩)
omit hb in
theorem ckA[Glob]:Fun Tryz.prog 20 [.c (.agg (yA a c))] [xZ]:=by
 refine Eo 9 Kd rfl ?_;(refine goI ?_;repeat (intro gg;refine goI ?_));refine .inl ⟨_,_,false,[],aJ,Aoa ha,Am,nI,?_⟩;(refine goI ?_;repeat (intro gg;refine goI ?_));refine .inl ⟨_,_,false,[],aJ,Ar0 hc,Am,nI,?_⟩;(refine goI ?_;repeat (intro gg;refine goI ?_));refine⟨_,_,false,aJ,Aqq ha,Am,nI,?_⟩;(refine goI ?_;repeat (intro gg;refine goI ?_));refine⟨_,_,false,aJ,Ami,Am,nI,?_⟩;(refine goI ?_;repeat (intro gg;refine goI ?_));refine⟨_,_,false,aJ,Ao1,Am,nI,?_⟩;(refine goI ?_;repeat (intro gg;refine goI ?_));refine⟨_,_,false,aJ,Amz,Am,nI,?_⟩;(refine goI ?_;repeat (intro gg;refine goI ?_));refine⟨_,_,false,aJ,Aqg,Am,nI,?_⟩;(refine goI ?_;repeat (intro gg;refine goI ?_));refine⟨_,_,false,aJ,An1,Am,nI,?_⟩;(refine goI ?_;repeat (intro gg;refine goI ?_));refine⟨0,_,by kernel_rfl,rfl,?_⟩;(refine goI ?_;repeat (intro gg;refine goI ?_));refine⟨1,_,by kernel_rfl,rfl,?_⟩;(refine goI ?_;repeat (intro gg;refine goI ?_));refine⟨2,_,by kernel_rfl,rfl,?_⟩;(refine goI ?_;repeat (intro gg;refine goI ?_));refine⟨3,_,by kernel_rfl,rfl,?_⟩;(refine goI ?_;repeat (intro gg;refine goI ?_));refine⟨4,_,by kernel_rfl,rfl,?_⟩;(refine goI ?_;repeat (intro gg;refine goI ?_));refine⟨5,_,by kernel_rfl,rfl,?_⟩;(refine goI ?_;repeat (intro gg;refine goI ?_));refine o4 (Ap 15000 9 Ea rfl ?_);(refine goI ?_;repeat (intro gg;refine goI ?_));refine o4 (Ap 16000 9 As rfl ?_);(refine goI ?_;repeat (intro gg;refine goI ?_));refine⟨1,by kernel_rfl,?_⟩;(refine goI ?_;repeat (intro gg;refine goI ?_));refine⟨0,_,by kernel_rfl,rfl,?_⟩;(refine goI ?_;repeat (intro gg;refine goI ?_));refine o4 (Ap 19000 9 Bk rfl ?_);(refine goI ?_;repeat (intro gg;refine goI ?_));refine o4 (Ap 20000 9 Bb rfl ?_);(refine goI ?_;repeat (intro gg;refine goI ?_));refine o4 (Ap 21000 9 Ar rfl ?_);(refine goI ?_;repeat (intro gg;refine goI ?_));refine o4 (Ap 22000 9 Ar rfl ?_);(refine goI ?_;repeat (intro gg;refine goI ?_));refine bF ?_;(refine goI ?_;repeat (intro gg;refine goI ?_));refine bF ?_;(refine goI ?_;repeat (intro gg;refine goI ?_));refine bF ?_;(refine goI ?_;repeat (intro gg;refine goI ?_));refine bF ?_;(refine goI ?_;repeat (intro gg;refine goI ?_));refine⟨0,_,by kernel_rfl,rfl,?_⟩;(refine goI ?_;repeat (intro gg;refine goI ?_));refine o4 (Ap 28000 9 Bk rfl ?_);(refine goI ?_;repeat (intro gg;refine goI ?_));refine o4 (Ap 29000 9 Bb rfl ?_);(refine goI ?_;repeat (intro gg;refine goI ?_));refine o4 (Ap 30000 9 Ar rfl ?_);(refine goI ?_;repeat (intro gg;refine goI ?_));refine o4 (Ap 31000 9 Ar rfl ?_);(refine goI ?_;repeat (intro gg;refine goI ?_));refine bF ?_;(refine goI ?_;repeat (intro gg;refine goI ?_));refine bF ?_;(refine goI ?_;repeat (intro gg;refine goI ?_));refine bF ?_;(refine goI ?_;repeat (intro gg;refine goI ?_));refine bF ?_;(refine goI ?_;repeat (intro gg;refine goI ?_));refine⟨0,_,by kernel_rfl,rfl,?_⟩;(refine goI ?_;repeat (intro gg;refine goI ?_));refine⟨0,_,by kernel_rfl,rfl,?_⟩;(refine goI ?_;repeat (intro gg;refine goI ?_));refine o4 (Ap 38000 9 I1 rfl ?_);(refine goI ?_;repeat (intro gg;refine goI ?_));(exact⟨[],aJ⟩)
omit ha in
theorem ckB[Glob]:Fun Tryz.prog 20 [.c (.agg (yB b c))] [xZ]:=by
 refine Eo 9 Kd rfl ?_;(refine goI ?_;repeat (intro gg;refine goI ?_));refine .inl ⟨_,_,false,[],aJ,Aqs hb,Am,nI,?_⟩;(refine goI ?_;repeat (intro gg;refine goI ?_));refine .inl ⟨_,_,false,[],aJ,Ar0 hc,Am,nI,?_⟩;(refine goI ?_;repeat (intro gg;refine goI ?_));refine⟨_,_,false,aJ,Arg hb,Am,nI,?_⟩;(refine goI ?_;repeat (intro gg;refine goI ?_));refine⟨_,_,false,aJ,Ami,Am,nI,?_⟩;(refine goI ?_;repeat (intro gg;refine goI ?_));refine⟨_,_,false,aJ,Ao1,Am,nI,?_⟩;(refine goI ?_;repeat (intro gg;refine goI ?_));refine⟨_,_,false,aJ,Amz,Am,nI,?_⟩;(refine goI ?_;repeat (intro gg;refine goI ?_));refine⟨_,_,false,aJ,Aqg,Am,nI,?_⟩;(refine goI ?_;repeat (intro gg;refine goI ?_));refine⟨_,_,false,aJ,An1,Am,nI,?_⟩;(refine goI ?_;repeat (intro gg;refine goI ?_));refine⟨0,_,by kernel_rfl,rfl,?_⟩;(refine goI ?_;repeat (intro gg;refine goI ?_));refine⟨1,_,by kernel_rfl,rfl,?_⟩;(refine goI ?_;repeat (intro gg;refine goI ?_));refine⟨2,_,by kernel_rfl,rfl,?_⟩;(refine goI ?_;repeat (intro gg;refine goI ?_));refine⟨3,_,by kernel_rfl,rfl,?_⟩;(refine goI ?_;repeat (intro gg;refine goI ?_));refine⟨4,_,by kernel_rfl,rfl,?_⟩;(refine goI ?_;repeat (intro gg;refine goI ?_));refine⟨5,_,by kernel_rfl,rfl,?_⟩;(refine goI ?_;repeat (intro gg;refine goI ?_));refine o4 (Ap 15000 9 Ea rfl ?_);(refine goI ?_;repeat (intro gg;refine goI ?_));refine o4 (Ap 16000 9 As rfl ?_);(refine goI ?_;repeat (intro gg;refine goI ?_));refine⟨1,by kernel_rfl,?_⟩;(refine goI ?_;repeat (intro gg;refine goI ?_));refine⟨0,_,by kernel_rfl,rfl,?_⟩;(refine goI ?_;repeat (intro gg;refine goI ?_));refine o4 (Ap 19000 9 Bk rfl ?_);(refine goI ?_;repeat (intro gg;refine goI ?_));refine o4 (Ap 20000 9 Bb rfl ?_);(refine goI ?_;repeat (intro gg;refine goI ?_));refine o4 (Ap 21000 9 Ar rfl ?_);(refine goI ?_;repeat (intro gg;refine goI ?_));refine o4 (Ap 22000 9 Ar rfl ?_);(refine goI ?_;repeat (intro gg;refine goI ?_));refine bF ?_;(refine goI ?_;repeat (intro gg;refine goI ?_));refine bF ?_;(refine goI ?_;repeat (intro gg;refine goI ?_));refine bF ?_;(refine goI ?_;repeat (intro gg;refine goI ?_));refine bF ?_;(refine goI ?_;repeat (intro gg;refine goI ?_));refine⟨0,_,by kernel_rfl,rfl,?_⟩;(refine goI ?_;repeat (intro gg;refine goI ?_));refine o4 (Ap 28000 9 Bk rfl ?_);(refine goI ?_;repeat (intro gg;refine goI ?_));refine o4 (Ap 29000 9 Bb rfl ?_);(refine goI ?_;repeat (intro gg;refine goI ?_));refine o4 (Ap 30000 9 Ar rfl ?_);(refine goI ?_;repeat (intro gg;refine goI ?_));refine o4 (Ap 31000 9 Ar rfl ?_);(refine goI ?_;repeat (intro gg;refine goI ?_));refine bF ?_;(refine goI ?_;repeat (intro gg;refine goI ?_));refine bF ?_;(refine goI ?_;repeat (intro gg;refine goI ?_));refine bF ?_;(refine goI ?_;repeat (intro gg;refine goI ?_));refine bF ?_;(refine goI ?_;repeat (intro gg;refine goI ?_));refine⟨0,_,by kernel_rfl,rfl,?_⟩;(refine goI ?_;repeat (intro gg;refine goI ?_));refine⟨0,_,by kernel_rfl,rfl,?_⟩;(refine goI ?_;repeat (intro gg;refine goI ?_));refine o4 (Ap 38000 9 I1 rfl ?_);(refine goI ?_;repeat (intro gg;refine goI ?_));(exact⟨[],aJ⟩)
omit hb in
theorem Aro[Glob]:Fun Tryz.prog 18 [.c (.v (.string a)),.c (.v (.string c)),.c (.v (.int .i64 1)),.c (.v (.bool false))] [.c (.agg (yA a c)),xZ]:=by
 refine Nz 9 S2 rfl ?_;(refine goI ?_;repeat (intro gg;refine goI ?_));refine .inl ⟨_,_,true,[],aJ,ckA ha hc,(fun _=>fJ),nI,?_⟩;(refine goI ?_;repeat (intro gg;refine goI ?_));(exact⟨_,[],.cell1 rfl rfl rfl rfl rfl rfl (.tmp1 rfl .nil),aJ⟩)
omit ha in
theorem Arc[Glob]:Fun Tryz.prog 18 [.c (.v (.string b)),.c (.v (.string c)),.c (.v (.int .i64 2)),.c (.v (.bool true))] [.c (.agg (yB b c)),xZ]:=by
 refine Nz 9 S2 rfl ?_;(refine goI ?_;repeat (intro gg;refine goI ?_));refine .inl ⟨_,_,true,[],aJ,ckB hb hc,(fun _=>fJ),nI,?_⟩;(refine goI ?_;repeat (intro gg;refine goI ?_));(exact⟨_,[],.cell1 rfl rfl rfl rfl rfl rfl (.tmp1 rfl .nil),aJ⟩)
omit hb in
theorem Arb[Glob]:Fun Tryz.prog 122 [.c (.agg (yA a c))] [.c (.agg [.v (.string a),.v (.bool true),.sl false [(xA a)],.sl false [],.sl false [],.sl false []]),xZ]:=by
 refine Nz 9 W0 rfl ?_;(refine goI ?_;repeat (intro gg;refine goI ?_));refine o4 (Ap 1000 9 Qy rfl ?_);(refine goI ?_;repeat (intro gg;refine goI ?_));refine .inl ⟨_,_,false,[],aJ,ckA ha hc,Am,nI,?_⟩;(refine goI ?_;repeat (intro gg;refine goI ?_));refine⟨_,_,false,aJ,kA,Am,nI,?_⟩;(refine goI ?_;repeat (intro gg;refine goI ?_));refine⟨_,_,false,aJ,cr0,Am,nI,?_⟩;(refine goI ?_;repeat (intro gg;refine goI ?_));refine⟨_,_,false,aJ,cs0,Am,nI,?_⟩;(refine goI ?_;repeat (intro gg;refine goI ?_));refine⟨_,_,false,aJ,cg0,Am,nI,?_⟩;(refine goI ?_;repeat (intro gg;refine goI ?_));refine⟨_,_,false,aJ,cw0,Am,nI,?_⟩;(refine goI ?_;repeat (intro gg;refine goI ?_));(exact⟨_,[],.cell1 rfl rfl rfl rfl rfl rfl (.tmp1 rfl .nil),aJ⟩)
omit hc in
theorem Aox[Glob]:Fun Tryz.prog 142 [.c (.sl false [(xB b)]),.c (.agg (xA a))] [.o 47 5 [(xA a),(xB b)],.c (.v (.bool true)),xZ]:=by
 refine Eo 9 Ue rfl ?_;(refine goI ?_;repeat (intro gg;refine goI ?_));refine o4 (Ap 1000 9 Et rfl ?_);(refine goI ?_;repeat (intro gg;refine goI ?_));refine⟨0,_,by kernel_rfl,rfl,?_⟩;(refine goI ?_;repeat (intro gg;refine goI ?_));refine o4 (Ap 3000 9 Fx rfl ?_);(refine goI ?_;repeat (intro gg;refine goI ?_));refine⟨0,_,by kernel_rfl,rfl,?_⟩;(refine goI ?_;repeat (intro gg;refine goI ?_));refine .inl ⟨_,_,false,[],aJ,Aqc hb,Am,nI,?_⟩;(refine goI ?_;repeat (intro gg;refine goI ?_));refine .inl ⟨_,_,false,[],aJ,An7 ha,Am,nI,?_⟩;(refine goI ?_;repeat (intro gg;refine goI ?_));refine⟨_,_,false,aJ,kB,Am,nI,?_⟩;(refine goI ?_;repeat (intro gg;refine goI ?_));refine o4 (Ap 8000 9 W7 rfl ?_);(refine goI ?_;repeat (intro gg;refine goI ?_));refine o4 (Ap 9000 9 Ea rfl ?_);(refine goI ?_;repeat (intro gg;refine goI ?_));refine o4 (Ap 10000 9 As rfl ?_);(refine goI ?_;repeat (intro gg;refine goI ?_));refine⟨1,by kernel_rfl,?_⟩;(refine goI ?_;repeat (intro gg;refine goI ?_));refine⟨0,_,by kernel_rfl,rfl,?_⟩;(refine goI ?_;repeat (intro gg;refine goI ?_));refine o4 (Ap 13000 9 Bk rfl ?_);(refine goI ?_;repeat (intro gg;refine goI ?_));refine o4 (Ap 14000 9 Bb rfl ?_);(refine goI ?_;repeat (intro gg;refine goI ?_));refine o4 (Ap 15000 9 Ar rfl ?_);(refine goI ?_;repeat (intro gg;refine goI ?_));refine o4 (Ap 16000 9 Ar rfl ?_);(refine goI ?_;repeat (intro gg;refine goI ?_));refine bF ?_;(refine goI ?_;repeat (intro gg;refine goI ?_));refine bF ?_;(refine goI ?_;repeat (intro gg;refine goI ?_));refine bF ?_;(refine goI ?_;repeat (intro gg;refine goI ?_));refine bT ?_;(refine goI ?_;repeat (intro gg;refine goI ?_));refine⟨0,_,by kernel_rfl,rfl,?_⟩;(refine goI ?_;repeat (intro gg;refine goI ?_));refine o4 (Ap 22000 9 Bk rfl ?_);(refine goI ?_;repeat (intro gg;refine goI ?_));refine o4 (Ap 23000 9 Bb rfl ?_);(refine goI ?_;repeat (intro gg;refine goI ?_));refine o4 (Ap 24000 9 Ar rfl ?_);(refine goI ?_;repeat (intro gg;refine goI ?_));refine o4 (Ap 25000 9 Ar rfl ?_);(refine goI ?_;repeat (intro gg;refine goI ?_));refine bF ?_;(refine goI ?_;repeat (intro gg;refine goI ?_));refine bF ?_;(refine goI ?_;repeat (intro gg;refine goI ?_));refine bF ?_;(refine goI ?_;repeat (intro gg;refine goI ?_));refine bT ?_;(refine goI ?_;repeat (intro gg;refine goI ?_));refine .inl ⟨_,_,true,[336,128336],aJ,Arl,(fun _=>fJ),nI,?_⟩;(refine goI ?_;repeat (intro gg;refine goI ?_));(exact⟨[128352],aJ⟩)
omit hb hc in
theorem Api[Glob]:Fun Tryz.prog 172 [.c (.sl false []),.c (.agg (xA a))] [.o 79 6 [(xR a)],xZ]:=by
 refine Eo 9 Ys rfl ?_;(refine goI ?_;repeat (intro gg;refine goI ?_));refine .inl ⟨_,_,false,[],aJ,Ami,Am,nI,?_⟩;(refine goI ?_;repeat (intro gg;refine goI ?_));refine o4 (Ap 2000 9 Oz rfl ?_);(refine goI ?_;repeat (intro gg;refine goI ?_));refine .inl ⟨_,_,false,[],aJ,An7 ha,Am,nI,?_⟩;(refine goI ?_;repeat (intro gg;refine goI ?_));refine .inl ⟨_,_,false,[],aJ,cr0,Am,nI,?_⟩;(refine goI ?_;repeat (intro gg;refine goI ?_));refine o4 (Ap 5000 9 Bd rfl ?_);(refine goI ?_;repeat (intro gg;refine goI ?_));refine⟨lI,lI,?_⟩;(refine goI ?_;repeat (intro gg;refine goI ?_));(exact⟨[288],aJ⟩)
theorem Ap2[Glob]:Fun Tryz.prog 65 [.c (.agg (yB b c)),.c (.agg [.v (.string a),.v (.bool true),.sl false [(xA a)],.sl false [],.sl false [],.sl false []])] [.c (.agg (yC a b c)),xZ]:=by
 refine Nz 9 Yf rfl ?_;(refine goI ?_;repeat (intro gg;refine goI ?_));refine o4 (Ap 1000 9 Qy rfl ?_);(refine goI ?_;repeat (intro gg;refine goI ?_));refine .inl ⟨_,_,false,[],aJ,ckB hb hc,Am,nI,?_⟩;(refine goI ?_;repeat (intro gg;refine goI ?_));refine⟨_,_,false,aJ,kB,Am,nI,?_⟩;(refine goI ?_;repeat (intro gg;refine goI ?_));refine⟨_,_,false,aJ,cr0,Am,nI,?_⟩;(refine goI ?_;repeat (intro gg;refine goI ?_));refine⟨_,_,false,aJ,cs0,Am,nI,?_⟩;(refine goI ?_;repeat (intro gg;refine goI ?_));refine⟨_,_,false,aJ,cg0,Am,nI,?_⟩;(refine goI ?_;repeat (intro gg;refine goI ?_));refine⟨_,_,false,aJ,cw0,Am,nI,?_⟩;(refine goI ?_;repeat (intro gg;refine goI ?_));refine o4 (Ap 8000 9 Mc rfl ?_);(refine goI ?_;repeat (intro gg;refine goI ?_));refine .inl ⟨_,_,false,[],aJ,Aoa ha,Am,nI,?_⟩;(refine goI ?_;repeat (intro gg;refine goI ?_));refine⟨_,_,false,aJ,Aqq ha,Am,nI,?_⟩;(refine goI ?_;repeat (intro gg;refine goI ?_));refine⟨_,_,false,aJ,Ao1,Am,nI,?_⟩;(refine goI ?_;repeat (intro gg;refine goI ?_));refine⟨_,_,false,aJ,Amz,Am,nI,?_⟩;(refine goI ?_;repeat (intro gg;refine goI ?_));refine⟨_,_,false,aJ,An1,Am,nI,?_⟩;(refine goI ?_;repeat (intro gg;refine goI ?_));refine⟨0,_,by kernel_rfl,rfl,?_⟩;(refine goI ?_;repeat (intro gg;refine goI ?_));refine⟨1,_,by kernel_rfl,rfl,?_⟩;(refine goI ?_;repeat (intro gg;refine goI ?_));refine⟨2,_,by kernel_rfl,rfl,?_⟩;(refine goI ?_;repeat (intro gg;refine goI ?_));refine⟨3,_,by kernel_rfl,rfl,?_⟩;(refine goI ?_;repeat (intro gg;refine goI ?_));refine⟨0,_,by kernel_rfl,rfl,?_⟩;(refine goI ?_;repeat (intro gg;refine goI ?_));refine o4 (Ap 19000 9 Mk rfl ?_);(refine goI ?_;repeat (intro gg;refine goI ?_));refine .inl ⟨_,_,true,[],aJ,Aox ha hb,(fun _=>fJ),nI,?_⟩;(refine goI ?_;repeat (intro gg;refine goI ?_));refine o4 (Ap 21000 9 O8 rfl ?_);(refine goI ?_;repeat (intro gg;refine goI ?_));refine o4 (Ap 22000 9 Ea rfl ?_);(refine goI ?_;repeat (intro gg;refine goI ?_));refine o4 (Ap 23000 9 As rfl ?_);(refine goI ?_;repeat (intro gg;refine goI ?_));refine⟨2,by kernel_rfl,?_⟩;(refine goI ?_;repeat (intro gg;refine goI ?_));refine⟨1,_,by kernel_rfl,rfl,?_⟩;(refine goI ?_;repeat (intro gg;refine goI ?_));refine o4 (Ap 26000 9 Bk rfl ?_);(refine goI ?_;repeat (intro gg;refine goI ?_));refine o4 (Ap 27000 9 Bb rfl ?_);(refine goI ?_;repeat (intro gg;refine goI ?_));refine o4 (Ap 28000 9 Ar rfl ?_);(refine goI ?_;repeat (intro gg;refine goI ?_));refine o4 (Ap 29000 9 Ar rfl ?_);(refine goI ?_;repeat (intro gg;refine goI ?_));refine bF ?_;(refine goI ?_;repeat (intro gg;refine goI ?_));refine bF ?_;(refine goI ?_;repeat (intro gg;refine goI ?_));refine bF ?_;(refine goI ?_;repeat (intro gg;refine goI ?_));refine bT ?_;(refine goI ?_;repeat (intro gg;refine goI ?_));refine⟨0,_,by kernel_rfl,rfl,?_⟩;(refine goI ?_;repeat (intro gg;refine goI ?_));refine o4 (Ap 35000 9 Bk rfl ?_);(refine goI ?_;repeat (intro gg;refine goI ?_));refine o4 (Ap 36000 9 Bb rfl ?_);(refine goI ?_;repeat (intro gg;refine goI ?_));refine o4 (Ap 37000 9 Ar rfl ?_);(refine goI ?_;repeat (intro gg;refine goI ?_));refine o4 (Ap 38000 9 Ar rfl ?_);(refine goI ?_;repeat (intro gg;refine goI ?_));refine bF ?_;(refine goI ?_;repeat (intro gg;refine goI ?_));refine bF ?_;(refine goI ?_;repeat (intro gg;refine goI ?_));refine bF ?_;(refine goI ?_;repeat (intro gg;refine goI ?_));refine bF ?_;(refine goI ?_;repeat (intro gg;refine goI ?_));refine⟨0,_,by kernel_rfl,rfl,?_⟩;(refine goI ?_;repeat (intro gg;refine goI ?_));refine o4 (Ap 44000 9 Bk rfl ?_);(refine goI ?_;repeat (intro gg;refine goI ?_));refine o4 (Ap 45000 9 Bb rfl ?_);(refine goI ?_;repeat (intro gg;refine goI ?_));refine o4 (Ap 46000 9 Ar rfl ?_);(refine goI ?_;repeat (intro gg;refine goI ?_));refine o4 (Ap 47000 9 Ar rfl ?_);(refine goI ?_;repeat (intro gg;refine goI ?_));refine bF ?_;(refine goI ?_;repeat (intro gg;refine goI ?_));refine bF ?_;(refine goI ?_;repeat (intro gg;refine goI ?_));refine bF ?_;(refine goI ?_;repeat (intro gg;refine goI ?_));refine bF ?_;(refine goI ?_;repeat (intro gg;refine goI ?_));refine⟨0,_,by kernel_rfl,rfl,?_⟩;(refine goI ?_;repeat (intro gg;refine goI ?_));refine .inl ⟨_,_,true,[],aJ,Api ha,(fun _=>fJ),nI,?_⟩;(refine goI ?_;repeat (intro gg;refine goI ?_));refine bT ?_;(refine goI ?_;repeat (intro gg;refine goI ?_));refine⟨_,_,true,aJ,Ar4,(fun _=>fJ),nI,?_⟩;(refine goI ?_;repeat (intro gg;refine goI ?_));refine⟨_,_,true,aJ,Aqt,(fun _=>fJ),nI,?_⟩;(refine goI ?_;repeat (intro gg;refine goI ?_));(exact⟨_,[],.cell1 rfl rfl rfl rfl rfl rfl (.tmp1 rfl .nil),aJ⟩)
end
set_option maxHeartbeats 1000000 in
set_option maxRecDepth 100000 in
theorem Wt(s:ByteArray)(c:Int)(w:World):
  Calls Tryz.prog 231 #[.string s,.int .u8 c] w fun e w'=>e=.returned (.int .i64 (Lib.indexByte s.data.toList c.toNat.toUInt8))∧w'=w:=by
 go_enter Tryz.func231,Tryz.ntmps231
 go_wp2
 rw[run_callFunc_extern Tryz.func260 (by kernel_rfl) (by kernel_rfl) (by kernel_rfl) (e:=Extern.BytealgIndexByte.indexByte) (by kernel_rfl),Lib.run_indexByteString];simp only[Result.andThen];rw[Oper.upon_value]
 go_wp2
 go_ret
 exact⟨rfl,rfl⟩
set_option maxHeartbeats 2000000 in
set_option maxRecDepth 100000 in
theorem W5(s:ByteArray)(c:UInt8)(w:World):
  Calls Tryz.prog 194 #[.string s,.string ⟨#[c]⟩] w fun e w'=>e=.returned (.int .i64 (Lib.indexByte s.data.toList c))∧w'=w:=by
 go_enter Tryz.func194,Tryz.ntmps194
 go_wp2_with (go_at_call 231;refine(Wt _ _ _).mono ?_;rintro e w' ⟨rfl,rfl⟩)
 ·have h:([c]==s.toList)=true:=by assumption
  go_ret
  refine⟨?_,rfl⟩;have e:s.data.toList=[c]:=by rw[←Lib.toList_data];exact(ZR.1 h).symm
  rw[e];simp[Lib.indexByte]
 ·go_ret
  exact⟨rfl,rfl⟩
namespace Pl
def ixb(r:ByteArray)(c:UInt8):Int:=Lib.indexByte r.data.toList c
end Pl

def Aio(T:TypeId)(b:Nat)(v:Value)(bs:List Value)(w:World):Prop:=
 (∃p,(p=.pointer none∨p=.pointer (some ⟨b,0,none⟩))∧w.heap[b]? =some (.cells #[p,v] T (0,0)))∧w.ownsRow 0 5 1 v bs.length bs∧v.ownBlock≠some b
theorem heap_set{b:Nat}{w:World}{cs:Array Value}{T:TypeId}{fr:Nat×Nat}(hb:w.heap[b]? =some (.cells cs T fr))(i:Nat)(x:Value):(w.setCell ⟨b,i,none⟩ x).heap[b]? =some (.cells (cs.setIfInBounds i x) T fr):=by
 have hlt:b<w.heap.size:=(XL.1 hb).1;simp[World.setCell,Array.getElem?_modify,hb]
theorem V5{b k:Nat}{w:World}(hk:k≠b)(i:Nat)(x:Value):(w.setCell ⟨b,i,none⟩ x).heap[k]? =w.heap[k]? :=by
 have:b≠k:=fun e=>hk e.symm;simp[World.setCell,Array.getElem?_modify,this]
theorem Ai5(b i:Nat)(x:Value)(w:World):w.grownBy (w.setCell ⟨b,i,none⟩ x) (some b):=⟨rfl,rfl,rfl,by simp,fun k hk hn=>V5 (fun e=>hn (by rw[e])) i x⟩
theorem Acp{b:Nat}{w:World}{L:Nat→Prop}(hL:L b)(i:Nat)(x:Value):Fr L w (w.setCell ⟨b,i,none⟩ x):=
 ⟨rfl,rfl,rfl,by simp,fun k hk hn=>V5 (fun e=>hn (by rw[e];exact hL)) i x⟩
set_option maxHeartbeats 1000000 in
set_option maxRecDepth 100000 in
theorem Wv(T:TypeId)(hT:liesAt Tryz.prog Tryz.prog.depth T (2/Tryz.prog.cellsOf T) 0 250 1=true)(b:Nat)(v:Value)(bs:List Value)(w:World)(h:Aio T b v bs w):
  Calls Tryz.prog 273 #[.pointer (some ⟨b,0,none⟩)] w fun e w'=>e=.returned (.tuple #[])∧w'.heap[b]? =some (.cells #[.pointer (some ⟨b,0,none⟩),v] T (0,0))∧w'.ownsRow 0 5 1 v bs.length bs∧Fr (fun k=>k=b) w w':=by
 obtain⟨⟨p,hp,hbk⟩,hown,hne⟩:=h;obtain⟨j,hj,hjs⟩:=Option.map_eq_some_iff.1 (show(Tryz.prog.info? 250).map (·.size)=some 2 by kernel_rfl);have h0:w.cell? ⟨b,0,none⟩=some p:=by rw[Lib.cell_of_heap hbk];rfl
 have hsh:w.shape? b=some (T,2):=by simp[World.shape?,hbk]
 have hfz:w.frozen? ⟨b,0,none⟩=false:=Lib.frozen_of_heap hbk 0;rcases hp with rfl|rfl
 ·go_enter Tryz.func273,Tryz.ntmps273
  go_wp2
  rw[Lib.run_to_unsafe w ⟨b,0,none⟩ Tryz.underlying248 Tryz.underlying306 hj (by rw[hjs];decide) hsh (Nat.zero_lt_succ 1)];simp only[Result.andThen];rw[Oper.upon_value]
  go_wp2
  rw[run_callFunc_extern Tryz.func278 (by kernel_rfl) (by kernel_rfl) (by kernel_rfl) (e:=Extern.AbiNoEscape.same) (by kernel_rfl)];rw[Lib.run_noEscape];simp only[Result.andThen];rw[Oper.upon_value]
  go_wp2
  rw[Lib.run_from_unsafe w ⟨b,0,none⟩ Tryz.underlying306 Tryz.underlying248 hj hsh hT];simp only[Result.andThen];rw[Oper.upon_value]
  go_wp2
  go_end0
  refine⟨rfl,?_,?_,Acp (L:=fun k=>k=b) rfl _ _⟩
  ·rw[heap_set hbk];rfl
  ·exact hown.kept (Ai5 _ _ _ _) (.inr hne)
 ·go_enter Tryz.func273,Tryz.ntmps273
  go_wp2
  rw[Lib.run_neq_ptr_same w _ Tryz.underlying248 hj]
  go_wp2
  go_end0
  exact⟨rfl,hbk,hown,Fr.refl _ _⟩
theorem Alg:(Tryz.prog.info? 5).map (fun i=>(i.zero,i.size,i.bytes))=some (some (.int .u8 0),1,1):=by kernel_rfl
theorem C8{L L':Nat→Prop}{w w':World}(h:Fr L w w')(hL:∀k,L k→L' k):Fr L' w w':=
 ⟨h.os,h.tape,h.output,h.size,fun k hk hn=>h.block k hk fun q=>hn (hL k q)⟩
theorem Ajk{L:Nat→Prop}{w w':World}{row:Option Nat}(hg:w.grownBy w' row)(hr:∀k,row=some k→L k):Fr L w w':=
 ⟨hg.os,hg.tape,hg.output,hg.size,fun k hk hn=>hg.block k hk fun e=>hn (hr k e.symm)⟩
def Aet(T:TypeId)(b:Nat)(v:Value)(bs:List Value)(w w':World):Prop:=
 ∃v',Aio T b v' bs w'∧Fr (fun k=>k=b∨v.ownBlock=some k) w w'∧∀k,v'.ownBlock=some k→v.ownBlock=some k∨w.heap.size≤k
theorem Aa4{P:Program}{w:World}{t u ty e:TypeId}{i:TypeInfo}(ht:P.underlying t=some (.slice e))(hu:P.underlying u=some .string)(hi:P.info? e=some i)(hz:i.zero=some (.int .u8 0))(hsize:i.size=1)(hby:i.bytes=1){v:Value}{n:Nat}{xs:List Value}(hown:w.ownsRow 0 e 1 v n xs)(s:ByteArray)(h63:n+s.size≤maxLen)(hbytes:n+s.size≤140737488355328){v':Value}{w':World}(hr:(Builtin.append_ #[t,u] ty #[v,.string s]).run P w=.ok v' w'):(v'.ownBlock=v.ownBlock∨v'.ownBlock=some w.heap.size):=by
 have hsmall:n+s.size≤9223372036854775807:=by simp only[maxLen]at h63;omega
 have hxl:xs.length=n:=by simpa using hown.1
 rcases hown.2 with⟨rfl,rfl⟩|⟨g,cap,cur,rfl,hbg,hg,hnc,hcm,hcs,htake⟩
 ·by_cases hm:s.size=0
  ·have h:(Builtin.append_ #[t,u] ty #[.slice none 0 0,.string s]).run P w=.ok (.slice none 0 0) w:=by
    have hf:=Lib.run_firstCells_string (P:=P) w 1 s;rw[hm]at hf;simp[Builtin.append_,run_underlying ht,run_underlying hu,sizeOf,typeInfo,hi,hsize,Builtin.lenOf,hm,hf]
   rw[h]at hr;injection hr with h1 h2
   subst h1 h2;exact .inl rfl
  ·have h:=run_append_nil_string (P:=P) w t u ty e i (.int .u8 0) ht hu hi hz s (by omega) (by omega) (by rw[hby];omega);rw[h]at hr;injection hr with h1 h2
   subst h1 h2;exact .inr rfl
 ·by_cases hroom:n+s.size≤cap
  ·have hcs':cur.size=cap:=by simpa using hcs
   have h:=Lib.run_append_room_string (P:=P) w t u ty e i ht hu hi hsize g n cap cur hg s hroom (by omega);rw[h]at hr;injection hr with h1 h2
   subst h1 h2;exact .inl rfl
  ·have holds:∀j u,xs[j]? =some u→w.cell? ((⟨g,0,none⟩:Addr).add j)=some u:=hown.cells (g:=g) rfl;have h:=Lib.run_append_grow_string (P:=P) w t u ty e i (.int .u8 0) ht hu hi hz ⟨g,0,none⟩ n cap xs (by rw[hsize];simpa using hxl) holds s (by omega) (by omega) (by rw[hby];exact growslice_fits (by omega) (by omega));rw[h]at hr;injection hr with h1 h2
   subst h1 h2;exact .inr rfl
theorem Wj{P:Program}{w:World}{ops:Array Oper}{rest:List Oper}{o:Oper}{a:Act}{Q:Exit→Act→World→Prop}(hgd:o.guard=none)(sl x:Operand)(t u:TypeId)(ho:o.op=.call {callee:=.builtin .append,args:= #[sl,x],argTypes:= #[t,u]})(e:TypeId)(i:TypeInfo)(ht:P.underlying t=some (.slice e))(hu:P.underlying u=some .string)(hi:P.info? e=some i)(hz:i.zero=some (.int .u8 0))(hsize:i.size=1)(hby:i.bytes=1)(v:Value)(n:Nat)(xs:List Value)(hs:a.eval sl=v)(hown:w.ownsRow 0 e 1 v n xs)(s:ByteArray)(hx:a.eval x=.string s)(h63:n+s.size≤maxLen)(hbytes:n+s.size≤140737488355328)(h:∀v' w',w'.ownsRow 0 e 1 v' (n+s.size) (xs++Lib.strCells s)→w.grownBy w' v.ownBlock→(v'.ownBlock=v.ownBlock∨v'.ownBlock=some w.heap.size)→wpList P ops Q rest (a.put o.dst v') w'):wpList P ops Q (o::rest) a w:=by
 refine wpList_plain hgd fun K hK=>?_;obtain⟨v',w',hr,h2,h3,_⟩:=Lib.run_append_own_string (P:=P) w 0 t u o.type e i ht hu hi hz hsize hby v n xs hown s h63 hbytes (ZU _);have hb:=Aa4 ht hu hi hz hsize hby hown s h63 hbytes hr;unfold Oper.wp execOp;simp only[ho,resolve,invoke,builtin,Sem.run_bind,Sem.run_pure,Result.andThen_ok,List.map_toArray,List.map_cons,List.map_nil,hs,hx,hr];exact hK _ _ (h v' w' h2 h3 hb)
theorem Amq{w:World}{e T:TypeId}{v:Value}{n:Nat}{xs:List Value}{b:Nat}{cs:Array Value}{fr:Nat×Nat}(hown:w.ownsRow 0 e 1 v n xs)(hb:w.heap[b]? =some (.cells cs T fr))(hTe:T≠e):v.ownBlock≠some b:=fun q=>by
 rcases hown.2 with⟨rfl,_⟩|⟨g,cap,cur,rfl,_,hg,_⟩
 ·cases q
 ·have:g=b:=by simpa[Value.ownBlock]using q
  subst this;rw[hb]at hg;injection hg with hg
  injection hg with _ hg _;exact hTe hg
theorem Akb{T:TypeId}(hTe:T≠5){b:Nat}{v v':Value}{bs bs':List Value}{w w1 w2:World}(hbk:w1.heap[b]? =some (.cells #[.pointer (some ⟨b,0,none⟩),v] T (0,0)))(hown':w2.ownsRow 0 5 1 v' bs'.length bs')(hb2:w2.heap[b]? =some (.cells #[.pointer (some ⟨b,0,none⟩),v] T (0,0)))(hfr:Fr (fun k=>k=b) w w1)(hfr2:Fr (fun k=>k=b∨v.ownBlock=some k) w1 w2)(hbl:∀k,v'.ownBlock=some k→v.ownBlock=some k∨w.heap.size≤k):
  Aet T b v bs' w (w2.setCell ⟨b,1,none⟩ v'):=by
 have hne:=Amq hown' hb2 hTe;refine⟨v',⟨⟨_,.inr rfl,by rw[heap_set hb2];rfl⟩,hown'.kept (Ai5 _ _ _ _) (.inr hne),hne⟩,?_,hbl⟩;exact(C8 hfr fun k q=>.inl q).trans (hfr2.trans (Acp (.inl rfl) _ _))
set_option maxHeartbeats 2000000 in
set_option maxRecDepth 100000 in
theorem S6(T:TypeId)(hT:liesAt Tryz.prog Tryz.prog.depth T (2/Tryz.prog.cellsOf T) 0 250 1=true)(hTe:T≠5)(b:Nat)(v:Value)(bs:List Value)(s:ByteArray)(w:World)(h:Aio T b v bs w)(hlen:bs.length+s.size≤140737488355328):
  Calls Tryz.prog 259 #[.pointer (some ⟨b,0,none⟩),.string s] w fun e w'=>e=.returned (.tuple #[.int .i64 s.size,.nilIface])∧Aet T b v (bs++Lib.strCells s) w w':=by
 obtain⟨i0,hi,hz0,hz1,hz2⟩:=info_parts Alg;have hne:=h.2.2
 go_enter Tryz.func259,Tryz.ntmps259
 go_wp2_with (go_at_call 273;refine(Wv T hT b v bs _ h).mono ?_)
 rintro e w1 ⟨rfl,hbk,hown,hfr⟩
 have c0:w1.cell? ⟨b,0,none⟩=some (.pointer (some ⟨b,0,none⟩)):=by rw[Lib.cell_of_heap hbk];rfl
 have c1:w1.cell? ⟨b,1,none⟩=some v:=by rw[Lib.cell_of_heap hbk];rfl
 go_wp2_with (at_builtin;refine Wj rfl _ _ 122 9 rfl 5 i0 Tryz.underlying122 Tryz.underlying9 hi hz0 hz1 hz2 _ _ _ rfl hown s rfl ?c3 ?c4 ?_)
 case c3=>unfold maxLen;omega
 case c4=>omega
 intro v' w2 hown' hgrow hblk;have hlt:b<w1.heap.size:=(XL.1 hbk).1;have hb2:w2.heap[b]? =some (.cells #[.pointer (some ⟨b,0,none⟩),v] T (0,0)):=by
  rw[hgrow.block b hlt (fun e=>hne e.symm)];exact hbk
 have d0:w2.cell? ⟨b,0,none⟩=some (.pointer (some ⟨b,0,none⟩)):=by rw[Lib.cell_of_heap hb2];rfl
 have d1:w2.cell? ⟨b,1,none⟩=some v:=by rw[Lib.cell_of_heap hb2];rfl
 have f1:w2.frozen? ⟨b,1,none⟩=false:=Lib.frozen_of_heap hb2 1;obtain⟨ao,n',cap,hv'⟩:∃ao n' cap,v'=.slice ao n' cap:=by
  rcases hown'.2 with⟨q,_⟩|⟨g,cap,cur,q,_⟩
  ·exact⟨_,_,_,q⟩
  ·exact⟨_,_,_,q⟩
 have fin:=Akb (bs:=bs) (bs':=bs++Lib.strCells s) hTe hbk (by simpa[Lib.strCells_length]using hown') hb2 hfr (Ajk hgrow fun k q=>.inr q) (fun k hk=>by
  rcases hblk with q|q
  ·exact .inl (by rw[←q];exact hk)
  ·rw[q]at hk;injection hk with hk;right;have:=hfr.size;omega)
 subst hv'
 go_wp2
 go_ret2
 exact⟨rfl,fin⟩
set_option maxHeartbeats 1000000 in
set_option maxRecDepth 100000 in
theorem Abq(T:TypeId)(b:Nat)(v:Value)(l:List UInt8)(w:World)(h:Aio T b v (Lib.byteCells l) w)(h0:l≠[]):
  Calls Tryz.prog 229 #[.pointer (some ⟨b,0,none⟩)] w fun e w'=>e=.returned (.string ⟨l.toArray⟩)∧Fr (fun k=>k=b∨v.ownBlock=some k) w w':=by
 obtain⟨⟨p,_,hbk⟩,hown,hne⟩:=h;have hl0:l.length≠0:=by simpa using h0
 rw[Lib.byteCells_length]at hown;obtain⟨g,cap,cur,rfl,_,hg,hnc,hcm,hcs,htake⟩:=hown.2.resolve_left (fun q=>hl0 q.2);have c1:w.drew.cell? ⟨b,1,none⟩=some (.slice (some ⟨g,0,none⟩) l.length cap):=by
  have:w.drew.heap[b]? =some (.cells #[p,.slice (some ⟨g,0,none⟩) l.length cap] T (0,0)):=hbk;rw[Lib.cell_of_heap this];rfl
 have hSD:(Builtin.unsafeSliceData_ #[122] 290 #[.slice (some ⟨g,0,none⟩) l.length cap]).run Tryz.prog w.drew=.ok (.pointer (some ⟨g,0,none⟩)) w.drew:=
  Lib.run_unsafeSliceData_row _ _ _ _ _ _ (by omega)
 have hUS:(Builtin.unsafeString_ #[290,3] 9 #[.pointer (some ⟨g,0,none⟩),.int .i64 l.length]).run Tryz.prog w.drew=.ok (.string ⟨l.toArray⟩) (w.drew.freeze ⟨g,0,none⟩ l.length):=by
  refine Lib.run_unsafeString_row w.drew 290 3 9 5 Tryz.underlying290 (by kernel_rfl) g cur.size (by have hg':w.drew.heap[g]? =some (.cells cur 5 (0,0)):=hg;simp[World.shape?,hg']) l h0 (by omega) (by unfold maxLen at hcm;omega) ?_;intro j x hx;exact hown.cells (g:=g) rfl j (.int .u8 x.toNat) (by simp[Lib.byteCells,hx])
 have hfr:Fr (fun k=>k=b∨(Value.slice (some ⟨g,0,none⟩) l.length cap).ownBlock=some k) w (w.drew.freeze ⟨g,0,none⟩ l.length):=by
  unfold World.freeze;rw[if_neg hl0];refine⟨rfl,rfl,rfl,by simp,fun k hk hn=>?_⟩;have:g≠k:=fun e=>hn (.inr (by rw[e];rfl));simp[Array.getElem?_modify,this];rfl
 have mixed:Tryz.prog.follows .mixedOrders=true:=by kernel_rfl
 go_enter Tryz.func229,Tryz.ntmps229
 go_wp2
 go_region_o
 all_goals (go_wp2;go_ret;exact⟨rfl,hfr⟩)
def Dm(T:TypeId)(l:List UInt8):Opq where
 inv:=fun w R x F=>∃b v,x=.pointer (some ⟨b,0,none⟩)∧Aio T b v (Lib.byteCells l) w∧∀k,F k↔(k=b∨v.ownBlock=some k)
 mono:=fun {w w' R R' x F} h hR hF=>by
  obtain⟨b,v,h1,⟨⟨p,hp,hb⟩,h3,h4⟩,h5⟩:=h
  refine⟨b,v,h1,⟨⟨p,hp,(hF b ((h5 b).2 (.inl rfl))).trans hb⟩,?_,h4⟩,h5⟩
  refine⟨h3.1,?_⟩
  rcases h3.2 with q|⟨g,cap,cur,q,q2,q3,q4⟩
  ·exact .inl q
  ·exact .inr ⟨g,cap,cur,q,q2,(hF g ((h5 g).2 (.inr (by rw[q];rfl)))).trans q3,q4⟩
 lt:=fun {w R x F b} h hb=>by
  obtain⟨b',v,h1,⟨⟨p,hp,hbk⟩,h3,h4⟩,h5⟩:=h
  rcases(h5 b).1 hb with rfl|q
  ·exact(XL.1 hbk).1
  ·exact(h3.lt b q).2
def Aqh:Opq where
 inv:=fun w R x F=>∀k,F k→k<w.heap.size
 mono:=fun {w w' R R' x F} h hR hF k hk=>by
  have h1:=h k hk
  have h2:=hF k hk
  rw[Array.getElem?_eq_getElem h1]at h2
  exact(XL.1 h2).1
 lt:=fun {w R x F b} h hb=>h b hb
section
variable {P:Program} {w w':World} {R:Nat→Prop}
theorem Qf:∀{vs:List Value} {ys:List Value} {F:Nat→Prop},Cd w R (vs.map fun z=>.p (.c (.v z))) ys F→ys=vs∧∀b,¬F b
 |[],[],F,h=>⟨rfl,h⟩
 |[],_::_,F,h=>h.elim
 |v::vs,[],F,h=>h.elim
 |v::vs,y::ys,F,h=>by
  obtain⟨F1,F2,⟨h1,h1'⟩,h2,h3,h4⟩:=h;obtain⟨rfl,k2⟩:=Qf h2;have e:y=v:=B8 h1;subst e;refine⟨rfl,fun b hb=>?_⟩;rcases(h4 b).1 hb with q|q
  ·exact Em (fun p hp=>by simp at hp;exact⟨_,hp⟩) ((h1' b).1 q)
  ·exact k2 b q
theorem Abj{I':Opq}{x:Value}{F':Nat→Prop}(hx:V4 w R I' x F')(hd:∀b,F' b→¬R b):∀(zs:List Value),Cd w R ((zs.map fun z=>.p (.c (.v z)))++[.po I']) (zs++[x]) F'
 |[]=>⟨F',fun _=>False,hx,fun b h=>h,fun b hb=>⟨fun q=>q,hd b hb⟩,fun b=>by simp⟩
 |z::zs=>by
  refine⟨fun _=>False,F',⟨.v z,fun b=>⟨fun q=>q.elim,fun q=>Em (fun p hp=>by simp at hp;exact⟨_,hp⟩) q⟩⟩,Abj hx hd zs,fun b hb=>hb.elim,fun b=>by simp⟩
theorem Ajh(zs:List Value):Bw (zs.map fun z=>.p (.c (.v z)))=[]:=by
 induction zs with
 |nil=>rfl
 |cons z zs ih=>exact ih
theorem Xn:∀(zs xs:List Value),Df (zs.map fun z=>.p (.c (.v z))) xs=[]
 |[],[]=>rfl
 |[],_::_=>rfl
 |z::zs,[]=>rfl
 |z::zs,x::xs=>Xn zs xs
theorem Ael[Glob]{f:FuncId}{I I':Opq}{vs zs:List Value}(hc:Dd P f)(h:∀(w:World) (R:Nat→Prop) (x:Value) (F:Nat→Prop),V4 w R I x F→Calls P f (x::vs).toArray w fun e w'=>e=.returned (Da zs)∧∃F',Fr F w w'∧V4 w' R I' x F'∧∀b,F' b→F b∨w.heap.size≤b):
  Hd P f (.mo I I'::vs.map fun z=>.p (.c (.v z))) (zs.map fun z=>.p (.c (.v z))):=by
 refine⟨hc,fun w R xs F hlt hp _=>?_⟩
 match xs,hp with
 |x::ys,hp=>
  obtain⟨F1,F2,h1,h2,h3,h4⟩:=hp;obtain⟨rfl,h5⟩:=Qf h2;have hF:∀b,F b↔F1 b:=fun b=>by rw[h4 b];exact⟨fun q=>q.resolve_right (h5 b),.inl⟩
  refine(h w R x F1 h1).mono ?_
  rintro e w' ⟨rfl,F',q1,q2,q3⟩
  refine⟨zs,R,F',rfl,by simp,C8 q1 fun k hk=>(hF k).2 hk,fun b hb=>hb,fun b hb=>.inl hb,?_,fun b hb=>(q3 b hb).imp (hF b).2 id⟩;have hd:∀b,F' b→¬R b:=fun b hb hr=>by
   rcases q3 b hb with q|q
   ·exact(h3 b q).2 hr
   ·have:=hlt b hr;omega
  have:=Abj q2 hd zs;show Cd w' R ((zs.map fun z=>.p (.c (.v z)))++Bw (.mo I I'::ys.map fun z=>.p (.c (.v z)))) (zs++Df (.mo I I'::ys.map fun z=>.p (.c (.v z))) (x::ys)) F';simp only[Bw,Df,Ajh,Xn];exact this
end
theorem Agi(s:ByteArray):Lib.strCells s=Lib.byteCells s.data.toList:=by simp[Lib.strCells,Lib.byteCells]
theorem Ag9(a b:List UInt8):Lib.byteCells (a++b)=Lib.byteCells a++Lib.byteCells b:=by simp[Lib.byteCells]
theorem Ec{I:Opq}{T:TypeId}{l:List UInt8}{u:V}:∀p∈([]:List Be)++Bw [.mo I (Dm T l),.p (.c u)],Xw p:=by
 intro p hp;simp only[Bw,List.nil_append,XC,XD,or_false]at hp;subst hp;exact fun _ _ _ _ _ h=>h
structure Ap7(T:TypeId):Prop where
 lies:liesAt Tryz.prog Tryz.prog.depth T (2/Tryz.prog.cellsOf T) 0 250 1=true
 ne:T≠5
theorem Aad[Glob]{T:TypeId}(hT:Ap7 T)(l:List UInt8)(s:ByteArray)(hl:l.length+s.size≤140737488355328):Hd Tryz.prog 259 [.mo (Dm T l) (Dm T (l++s.data.toList)),.p (.c (.v (.string s)))] [.p (.c (.v (.int .i64 s.size))),.p (.c (.v .nilIface))]:=by
 refine Ael (vs:=[.string s]) (zs:=[.int .i64 s.size,.nilIface]) (C7 Tryz.func259 (by kernel_rfl) (by kernel_rfl)) ?_
 rintro w R x F ⟨hx,b,v,rfl,hB,hF⟩
 refine(S6 T hT.lies hT.ne b v _ s w hB (by rw[Lib.byteCells_length];omega)).mono ?_
 rintro e w' ⟨rfl,v',q1,q2,q3⟩
 rw[Agi,←Ag9]at q1;refine⟨rfl,fun k=>k=b∨v'.ownBlock=some k,C8 q2 fun k hk=>(hF k).2 hk,⟨⟨b,rfl⟩,b,v',rfl,q1,fun k=>Iff.rfl⟩,fun k hk=>?_⟩;rcases hk with rfl|hk
 ·exact .inl ((hF _).2 (.inl rfl))
 ·exact(q3 k hk).imp (fun q=>(hF k).2 (.inr q)) id
theorem Aau[Glob]{T:TypeId}(l:List UInt8)(h0:l≠[]):Hd Tryz.prog 229 [.mo (Dm T l) Aqh] [.p (.c (.v (.string ⟨l.toArray⟩)))]:=by
 refine Ael (vs:=[]) (zs:=[.string ⟨l.toArray⟩]) (C7 Tryz.func229 (by kernel_rfl) (by kernel_rfl)) ?_
 rintro w R x F ⟨hx,b,v,rfl,hB,hF⟩
 have hlt:∀k,F k→k<w.heap.size:=fun k hk=>(Dm T l).lt (R:=R) ⟨b,v,rfl,hB,hF⟩ hk;refine(Abq T b v l w hB h0).mono ?_
 rintro e w' ⟨rfl,q⟩
 exact⟨rfl,F,C8 q fun k hk=>(hF k).2 hk,⟨hx,fun k hk=>XH (hlt k hk) q.size⟩,fun k hk=>.inl hk⟩
section
open Go.Shelf
def Tryz.laysM171_ren:Go.Shelf.Ren:=⟨fun|171=>141|243=>170|246=>200|283=>238|284=>239|285=>240|286=>241|129=>217|317=>264|318=>265|319=>266|320=>267|337=>274|338=>275|n=>n,fun|3=>3|9=>9|2=>2|4=>4|171=>272|0=>0|53=>246|37=>122|5=>5|173=>274|212=>297|51=>244|20=>20|213=>298|46=>173|232=>308|233=>309|n=>n,fun|17=>3|18=>4|19=>5|n=>n⟩
theorem Tryz.laysM171:Go.Proofs.LaysM.n171 Tryz.prog Tryz.laysM171_ren:={
 mixed:=by kernel_rfl
 f129:=Tryz.func217.trans (congrArg some (by kernel_rfl))
 f171:=Tryz.func141.trans (congrArg some (by kernel_rfl))
 f243:=Tryz.func170.trans (congrArg some (by kernel_rfl))
 f246:=Tryz.func200.trans (congrArg some (by kernel_rfl))
 f283:=Tryz.func238.trans (congrArg some (by kernel_rfl))
 f284:=Tryz.func239.trans (congrArg some (by kernel_rfl))
 f285:=Tryz.func240.trans (congrArg some (by kernel_rfl))
 f286:=Tryz.func241.trans (congrArg some (by kernel_rfl))
 f317:=Tryz.func264.trans (congrArg some (by kernel_rfl))
 f318:=Tryz.func265.trans (congrArg some (by kernel_rfl))
 f319:=Tryz.func266.trans (congrArg some (by kernel_rfl))
 f320:=Tryz.func267.trans (congrArg some (by kernel_rfl))
 f337:=Tryz.func274.trans (congrArg some (by kernel_rfl))
 f338:=Tryz.func275.trans (congrArg some (by kernel_rfl))
 t0:=Tryz.underlying0
 a0:=Tryz.isAgg0
 z0:=Tryz.sizeOf0
 v0:=Tryz.zeroValue0
 t2:=Tryz.underlying2
 a2:=Tryz.isAgg2
 z2:=Tryz.sizeOf2
 v2:=Tryz.zeroValue2
 t3:=Tryz.underlying3
 a3:=Tryz.isAgg3
 z3:=Tryz.sizeOf3
 v3:=Tryz.zeroValue3
 t4:=Tryz.underlying4
 a4:=Tryz.isAgg4
 z4:=Tryz.sizeOf4
 v4:=Tryz.zeroValue4
 t5:=Tryz.underlying5
 a5:=Tryz.isAgg5
 z5:=Tryz.sizeOf5
 v5:=Tryz.zeroValue5
 t9:=Tryz.underlying9
 a9:=Tryz.isAgg9
 z9:=Tryz.sizeOf9
 v9:=Tryz.zeroValue9
 t20:=Tryz.underlying20
 a20:=Tryz.isAgg20
 z20:=Tryz.sizeOf20
 v20:=Tryz.zeroValue20
 t37:=Tryz.underlying122
 a37:=Tryz.isAgg122
 z37:=Tryz.sizeOf122
 v37:=Tryz.zeroValue122
 t46:=Tryz.underlying173
 a46:=Tryz.isAgg173
 z46:=Tryz.sizeOf173
 v46:=Tryz.zeroValue173
 t51:=Tryz.underlying244
 a51:=Tryz.isAgg244
 z51:=Tryz.sizeOf244
 v51:=Tryz.zeroValue244
 t53:=Tryz.underlying246
 a53:=Tryz.isAgg246
 z53:=Tryz.sizeOf246
 v53:=Tryz.zeroValue246
 t171:=Tryz.underlying272
 a171:=Tryz.isAgg272
 z171:=Tryz.sizeOf272
 v171:=Tryz.zeroValue272
 t173:=Tryz.underlying274
 a173:=Tryz.isAgg274
 z173:=Tryz.sizeOf274
 v173:=Tryz.zeroValue274
 t212:=Tryz.underlying297
 a212:=Tryz.isAgg297
 z212:=Tryz.sizeOf297
 v212:=Tryz.zeroValue297
 t213:=Tryz.underlying298
 a213:=Tryz.isAgg298
 z213:=Tryz.sizeOf298
 t232:=Tryz.underlying308
 a232:=Tryz.isAgg308
 z232:=Tryz.sizeOf308
 v232:=Tryz.zeroValue308
 t233:=Tryz.underlying309
 a233:=Tryz.isAgg309
 z233:=Tryz.sizeOf309
 v233:=Tryz.zeroValue309
 g17:=by kernel_rfl
 g18:=by kernel_rfl
 g19:=by kernel_rfl
 i0:=by kernel_rfl
 i2:=by kernel_rfl
 i3:=by kernel_rfl
 i4:=by kernel_rfl
 i5:=by kernel_rfl
 i9:=by kernel_rfl
 i20:=by kernel_rfl
 i37:=by kernel_rfl
 i46:=by kernel_rfl
 i51:=by kernel_rfl
 i53:=by kernel_rfl
 i171:=by kernel_rfl
 i173:=by kernel_rfl
 i212:=by kernel_rfl
 i232:=by kernel_rfl
 i233:=by kernel_rfl
 m17:=by kernel_rfl
 m18:=by kernel_rfl
 m19:=by kernel_rfl}
def Tryz.laysC172_ren:Go.Shelf.Ren:=⟨fun|172=>140|244=>168|245=>169|247=>195|279=>196|280=>197|281=>198|282=>199|287=>235|316=>236|171=>141|205=>237|321=>262|322=>263|243=>170|246=>200|283=>238|284=>239|285=>240|286=>241|129=>217|317=>264|318=>265|319=>266|320=>267|337=>274|338=>275|n=>n,fun|9=>9|3=>3|75=>180|76=>181|4=>4|5=>5|167=>225|37=>122|0=>0|85=>226|2=>2|168=>228|53=>246|175=>266|46=>173|210=>270|127=>290|145=>296|143=>294|21=>21|171=>272|173=>274|212=>297|51=>244|20=>20|213=>298|232=>308|233=>309|80=>84|n=>n,fun|15=>1|16=>2|17=>3|18=>4|19=>5|n=>n⟩
theorem Tryz.laysC172:Go.Proofs.LaysC.n172 Tryz.prog Tryz.laysC172_ren:={
 mixed:=by kernel_rfl
 f129:=Tryz.func217.trans (congrArg some (by kernel_rfl))
 f171:=Tryz.func141.trans (congrArg some (by kernel_rfl))
 f172:=Tryz.func140.trans (congrArg some (by kernel_rfl))
 f205:=Tryz.func237.trans (congrArg some (by kernel_rfl))
 f243:=Tryz.func170.trans (congrArg some (by kernel_rfl))
 f244:=Tryz.func168.trans (congrArg some (by kernel_rfl))
 f245:=Tryz.func169.trans (congrArg some (by kernel_rfl))
 f246:=Tryz.func200.trans (congrArg some (by kernel_rfl))
 f247:=Tryz.func195.trans (congrArg some (by kernel_rfl))
 f279:=Tryz.func196.trans (congrArg some (by kernel_rfl))
 f280:=Tryz.func197.trans (congrArg some (by kernel_rfl))
 f281:=Tryz.func198.trans (congrArg some (by kernel_rfl))
 f282:=Tryz.func199.trans (congrArg some (by kernel_rfl))
 f283:=Tryz.func238.trans (congrArg some (by kernel_rfl))
 f284:=Tryz.func239.trans (congrArg some (by kernel_rfl))
 f285:=Tryz.func240.trans (congrArg some (by kernel_rfl))
 f286:=Tryz.func241.trans (congrArg some (by kernel_rfl))
 f287:=Tryz.func235.trans (congrArg some (by kernel_rfl))
 f316:=Tryz.func236.trans (congrArg some (by kernel_rfl))
 f317:=Tryz.func264.trans (congrArg some (by kernel_rfl))
 f318:=Tryz.func265.trans (congrArg some (by kernel_rfl))
 f319:=Tryz.func266.trans (congrArg some (by kernel_rfl))
 f320:=Tryz.func267.trans (congrArg some (by kernel_rfl))
 f321:=Tryz.func262.trans (congrArg some (by kernel_rfl))
 f322:=Tryz.func263.trans (congrArg some (by kernel_rfl))
 f337:=Tryz.func274.trans (congrArg some (by kernel_rfl))
 f338:=Tryz.func275.trans (congrArg some (by kernel_rfl))
 t0:=Tryz.underlying0
 a0:=Tryz.isAgg0
 z0:=Tryz.sizeOf0
 v0:=Tryz.zeroValue0
 t2:=Tryz.underlying2
 a2:=Tryz.isAgg2
 z2:=Tryz.sizeOf2
 v2:=Tryz.zeroValue2
 t3:=Tryz.underlying3
 a3:=Tryz.isAgg3
 z3:=Tryz.sizeOf3
 v3:=Tryz.zeroValue3
 t4:=Tryz.underlying4
 a4:=Tryz.isAgg4
 z4:=Tryz.sizeOf4
 v4:=Tryz.zeroValue4
 t5:=Tryz.underlying5
 a5:=Tryz.isAgg5
 z5:=Tryz.sizeOf5
 v5:=Tryz.zeroValue5
 t9:=Tryz.underlying9
 a9:=Tryz.isAgg9
 z9:=Tryz.sizeOf9
 v9:=Tryz.zeroValue9
 t20:=Tryz.underlying20
 a20:=Tryz.isAgg20
 z20:=Tryz.sizeOf20
 v20:=Tryz.zeroValue20
 t21:=Tryz.underlying21
 a21:=Tryz.isAgg21
 z21:=Tryz.sizeOf21
 v21:=Tryz.zeroValue21
 t37:=Tryz.underlying122
 a37:=Tryz.isAgg122
 z37:=Tryz.sizeOf122
 v37:=Tryz.zeroValue122
 t46:=Tryz.underlying173
 a46:=Tryz.isAgg173
 z46:=Tryz.sizeOf173
 v46:=Tryz.zeroValue173
 t51:=Tryz.underlying244
 a51:=Tryz.isAgg244
 z51:=Tryz.sizeOf244
 v51:=Tryz.zeroValue244
 t53:=Tryz.underlying246
 a53:=Tryz.isAgg246
 z53:=Tryz.sizeOf246
 v53:=Tryz.zeroValue246
 t75:=Tryz.underlying180
 a75:=Tryz.isAgg180
 z75:=Tryz.sizeOf180
 v75:=Tryz.zeroValue180
 t76:=Tryz.underlying181
 a76:=Tryz.isAgg181
 z76:=Tryz.sizeOf181
 v76:=Tryz.zeroValue181
 t85:=Tryz.underlying226
 a85:=Tryz.isAgg226
 z85:=Tryz.sizeOf226
 v85:=Tryz.zeroValue226
 t127:=Tryz.underlying290
 a127:=Tryz.isAgg290
 z127:=Tryz.sizeOf290
 v127:=Tryz.zeroValue290
 t143:=Tryz.underlying294
 a143:=Tryz.isAgg294
 z143:=Tryz.sizeOf294
 v143:=Tryz.zeroValue294
 t145:=Tryz.underlying296
 a145:=Tryz.isAgg296
 z145:=Tryz.sizeOf296
 v145:=Tryz.zeroValue296
 t167:=Tryz.underlying225
 a167:=Tryz.isAgg225
 z167:=Tryz.sizeOf225
 v167:=Tryz.zeroValue225
 t168:=Tryz.underlying228
 a168:=Tryz.isAgg228
 z168:=Tryz.sizeOf228
 v168:=Tryz.zeroValue228
 t171:=Tryz.underlying272
 a171:=Tryz.isAgg272
 z171:=Tryz.sizeOf272
 v171:=Tryz.zeroValue272
 t173:=Tryz.underlying274
 a173:=Tryz.isAgg274
 z173:=Tryz.sizeOf274
 v173:=Tryz.zeroValue274
 t175:=Tryz.underlying266
 a175:=Tryz.isAgg266
 z175:=Tryz.sizeOf266
 v175:=Tryz.zeroValue266
 t210:=Tryz.underlying270
 a210:=Tryz.isAgg270
 z210:=Tryz.sizeOf270
 v210:=Tryz.zeroValue270
 t212:=Tryz.underlying297
 a212:=Tryz.isAgg297
 z212:=Tryz.sizeOf297
 v212:=Tryz.zeroValue297
 t213:=Tryz.underlying298
 a213:=Tryz.isAgg298
 z213:=Tryz.sizeOf298
 t232:=Tryz.underlying308
 a232:=Tryz.isAgg308
 z232:=Tryz.sizeOf308
 v232:=Tryz.zeroValue308
 t233:=Tryz.underlying309
 a233:=Tryz.isAgg309
 z233:=Tryz.sizeOf309
 v233:=Tryz.zeroValue309
 g15:=by kernel_rfl
 g16:=by kernel_rfl
 g17:=by kernel_rfl
 g18:=by kernel_rfl
 g19:=by kernel_rfl
 t80:=Tryz.underlying84
 a80:=Tryz.isAgg84
 z80:=Tryz.sizeOf84
 v80:=Tryz.zeroValue84
 i0:=by kernel_rfl
 i2:=by kernel_rfl
 i3:=by kernel_rfl
 i4:=by kernel_rfl
 i5:=by kernel_rfl
 i9:=by kernel_rfl
 i20:=by kernel_rfl
 i21:=by kernel_rfl
 i37:=by kernel_rfl
 i46:=by kernel_rfl
 i51:=by kernel_rfl
 i53:=by kernel_rfl
 i75:=by kernel_rfl
 i76:=by kernel_rfl
 i80:=by kernel_rfl
 i85:=by kernel_rfl
 i127:=by kernel_rfl
 i143:=by kernel_rfl
 i145:=by kernel_rfl
 i167:=by kernel_rfl
 i168:=by kernel_rfl
 i171:=by kernel_rfl
 i173:=by kernel_rfl
 i175:=by kernel_rfl
 i210:=by kernel_rfl
 i212:=by kernel_rfl
 i232:=by kernel_rfl
 i233:=by kernel_rfl
 m15:=by kernel_rfl
 m16:=by kernel_rfl
 m17:=by kernel_rfl
 m18:=by kernel_rfl
 m19:=by kernel_rfl
 c0:=by kernel_rfl
 c2:=by kernel_rfl
 c3:=by kernel_rfl
 c4:=by kernel_rfl
 c5:=by kernel_rfl
 c9:=by kernel_rfl
 c20:=by kernel_rfl
 c21:=by kernel_rfl
 c37:=by kernel_rfl
 c46:=by kernel_rfl
 c51:=by kernel_rfl
 c53:=by kernel_rfl
 c75:=by kernel_rfl
 c76:=by kernel_rfl
 c80:=by kernel_rfl
 c85:=by kernel_rfl
 c127:=by kernel_rfl
 c143:=by kernel_rfl
 c145:=by kernel_rfl
 c167:=by kernel_rfl
 c168:=by kernel_rfl
 c171:=by kernel_rfl
 c173:=by kernel_rfl
 c175:=by kernel_rfl
 c210:=by kernel_rfl
 c212:=by kernel_rfl
 c213:=by kernel_rfl
 c232:=by kernel_rfl
 c233:=by kernel_rfl}
end
class Tabs [Glob]:Prop where
 pow : ∀ (w : World) (L : Nat → Prop), B6 w L → Lib.TabIs Tryz.prog w "internal/strconv.uint64pow10" .u64 Lib.pow10Tab
 syn:∀(w:World) (L:Nat→Prop),B6 w L→∃ev,w.cell? ⟨Tryz.laysC172_ren.g 15,0,none⟩=some ev∧(ev=.nilIface∨∃te pe,ev=.iface te pe)
 ran:∀(w:World) (L:Nat→Prop),B6 w L→∃ev,w.cell? ⟨Tryz.laysC172_ren.g 16,0,none⟩=some ev∧(ev=.nilIface∨∃te pe,ev=.iface te pe)
theorem Hr[Glob]{P:Program}{f:FuncId}{xs ys:List Value}(hF:Fun P f (xs.map fun x=>.c (.v x)) (ys.map fun x=>.c (.v x)))(w:World){L:Nat→Prop}(hg:B6 w L):Calls P f xs.toArray w fun e w'=>e=.returned (Da ys)∧Fr (fun _=>False) w w':=by
 have hn:∀b,¬A4 (xs.map fun x=>.c (.v x)) xs b:=fun b=>Em (fun p hp=>by simp at hp;obtain⟨x,_,rfl⟩:=hp;exact⟨_,rfl⟩);refine(hF.2 w (fun _=>False) xs (fun _ h=>h.elim) ⟨by simp,fun i p x h1 h2=>?_,fun i j T sz rows T' sz' rows' x y b _ h1=>?_,fun b hb=>absurd hb (hn b)⟩ (fun b o q=>⟨(hg b o q).1,hn b⟩)).mono ?_
 ·rw[XJ,h2]at h1;cases h1;exact .v _
 ·rw[XJ]at h1;cases h:xs[i]? <;>rw[h]at h1<;>cases h1
 ·rintro e w' ⟨zs,R',rfl,hf,_,_,hp,_⟩
  obtain rfl:=Ahy hp;exact⟨rfl,C8 hf fun k hk=>hn k hk⟩
theorem T8[Glob][Tabs](n:Int)(h0: -9223372036854775808≤n)(h1:n≤9223372036854775807):Fun Tryz.prog 141 [.c (.v (.int .i64 n))] [.c (.v (.string ⟨(Lib.itoa n).toArray⟩))]:=
 Xq (xs:=[.int .i64 n]) (C7 Tryz.func141 (by kernel_rfl) (by kernel_rfl)) fun w L hg=>by
  exact(Any.strconv_Itoa Tryz.laysM171 n h0 h1 w (Tabs.pow w L hg)).mono fun e w' ⟨h,k,os,hw⟩=>⟨h,hw▸Lib.below_grow _ _ (ZT _) k os⟩
namespace Pl
def Mm(s:ByteArray)(c:UInt8):Option (ByteArray×ByteArray):=if ixb s c<0 then none else some (s.extract 0 (ixb s c).toNat,s.extract ((ixb s c).toNat+1) s.size)
def Ad5(s:ByteArray):Option Int:=match Lib.atoiAll s.data.toList with
 |.ok n=>if Lib.itoa n=s.data.toList then some n else none
 |_=>none
def Cp(s:ByteArray):Option (Int×ByteArray):=(Mm s 59).bind fun p=>(Ad5 p.1).map fun n=>(n,p.2)
end Pl
section
open Go.Lib
namespace Pl
def isD(c:UInt8):Prop:=48≤c.toNat∧c.toNat≤57
theorem Tu{k:Nat}(h:k<10):(UInt8.ofNat (48+k)).toNat=48+k:=by rw[UInt8.toNat_ofNat'];omega
theorem Tp(u:Nat):∀c∈decDigits u,isD c:=by
 induction u using Nat.strongRecOn with
 |_ u ih=>
  intro c hc;rw[decDigits]at hc;split at hc
  ·simp only[XN]at hc;subst hc;have:=Tu (k:=u) (by omega);unfold isD;omega
  ·rcases XM.1 hc with h|h
   ·exact ih _ (by omega) c h
   ·simp only[XN]at h;subst h;have:=Tu (k:=u%10) (by omega);unfold isD;omega
theorem Ajn(u:Nat):decDigits u≠[]:=fun h=>by
 have h1:=decDigits_length u;have h2:=nDigits_pos u;rw[h]at h1;simp at h1;omega
def W3(acc:Nat)(l:List UInt8):Nat:=l.foldl (fun a c=>a*10+(c.toNat-48)) acc
theorem Ajj(acc:Nat)(l r:List UInt8):W3 acc (l++r)=W3 (W3 acc l) r:=by simp[W3]
theorem Abd(u:Nat):W3 0 (decDigits u)=u:=by
 induction u using Nat.strongRecOn with
 |_ u ih=>
  rw[decDigits];split
  ·have:=Tu (k:=u) (by omega);show 0*10+((UInt8.ofNat (48+u)).toNat-48)=u;omega
  ·rw[Ajj,ih _ (by omega)];have:=Tu (k:=u%10) (by omega);show u/10*10+((UInt8.ofNat (48+u%10)).toNat-48)=u;omega
theorem Ado:∀(l:List UInt8) (acc:Nat),acc≤W3 acc l
 |[],acc=>ZT _
 |c::l,acc=>by
  have:=Ado l (acc*10+(c.toNat-48));show acc≤W3 (acc*10+(c.toNat-48)) l;omega
theorem X3:∀(l:List UInt8) (acc:Nat),(∀c∈l,isD c)→W3 acc l<18446744073709551616→parseUint10 acc l=.ok (W3 acc l)
 |[],acc,_,_=>rfl
 |c::l,acc,h,hv=>by
  have h1:48≤c.toNat∧c.toNat≤57:=h c (XB ..);have hv':W3 (acc*10+(c.toNat-48)) l<18446744073709551616:=hv;have h2:=Ado l (acc*10+(c.toNat-48));rw[parseUint10,if_pos h1,if_neg (by omega),if_neg (by omega)];exact X3 l _ (fun x hx=>h x (ZL _ hx)) hv'
theorem Ady{u:Nat}(h:u<18446744073709551616):parseMag (decDigits u)=.ok u:=by
 unfold parseMag;rw[if_neg (Ajn u),X3 _ _ (Tp u) (by rw[Abd];exact h),Abd]
theorem Afr{n:Int}(h0: -9223372036854775808≤n)(h1:n≤9223372036854775807):atoiAll (itoa n)=.ok n:=by
 unfold itoa;split
 ·rw[atoiAll_minus,Ady (by omega)];show(if 9223372036854775808<n.natAbs then NumEnd.range else NumEnd.ok (-(n.natAbs:Int)))=_;rw[if_neg (by omega)];congr 1;omega
 ·cases hd:decDigits n.toNat with
  |nil=>exact absurd hd (Ajn _)
  |cons c r=>
   have hc:48≤c.toNat∧c.toNat≤57:=Tp n.toNat c (by rw[hd];exact XB ..);rw[atoiAll_plain c r (by omega) (by omega),←hd,Ady (by omega)];show(if 9223372036854775808≤n.toNat then NumEnd.range else NumEnd.ok (n.toNat:Int))=_;rw[if_neg (by omega)];congr 1;omega
theorem Al7(n:Int):∀c∈itoa n,c≠59:=fun c hc e=>by
 subst e;unfold itoa at hc;split at hc
 ·rcases XC.1 hc with h|h
  ·cases h
  ·have:=Tp _ _ h;unfold isD at this;revert this;decide
 ·have:=Tp _ _ hc;unfold isD at this;revert this;decide
theorem Ais{l r:List UInt8}(h:∀c∈l,c≠59):indexByte (l++59::r) 59=l.length:=by
 induction l with
 |nil=>simp[indexByte]
 |cons a l ih=>
  have h1:=ih fun c hc=>h c (ZL _ hc);have h2:=h a (XB ..);show(if a==59 then(0:Int)else if indexByte (l++59::r) 59== -1 then -1 else indexByte (l++59::r) 59+1)=_;rw[if_neg (by simpa using h2),h1,if_neg (by simp)];simp
def bA(l:List UInt8):ByteArray:=⟨l.toArray⟩
theorem Qj(l:List UInt8):(bA l).data.toList=l:=by simp[bA]
theorem Hj(l:List UInt8):(bA l).size=l.length:=by simp[bA,ByteArray.size]
theorem Ame{s:ByteArray}{l:List UInt8}(h:s.data.toList=l):s=bA l:=by subst h;simp[bA]
theorem Ajm(s:ByteArray):bA s.data.toList=s:=(Ame rfl).symm
theorem Nm(l:List UInt8)(a b:Nat):(bA l).extract a b=bA ((l.take b).drop a):=by
 apply Ame;rw[ByteArray.data_extract,Array.toList_extract];simp only[bA];rw[List.extract_eq_take_drop,List.drop_take]
def Ey(n:Int):List UInt8:=itoa n++[59]
def isI(n:Int):Prop:= -9223372036854775808≤n∧n≤9223372036854775807
theorem Ku{n:Int}(h:isI n)(r:List UInt8):Cp (bA (Ey n++r))=some (n,bA r):=by
 have e:Ey n++r=itoa n++59::r:=by simp[Ey]
 have hi:ixb (bA (itoa n++59::r)) 59=(itoa n).length:=by unfold ixb;rw[Qj];exact Ais (Al7 n)
 unfold Cp Mm;rw[e,hi,if_neg (by omega),Int.toNat_natCast,Nm,Nm,Hj];have e1:((itoa n++59::r).take (itoa n).length).drop 0=itoa n:=by simp
 have e2:((itoa n++59::r).take (itoa n++59::r).length).drop ((itoa n).length+1)=r:=by rw[XF];simp
 rw[e1,e2];simp only[ZA,Ad5,Qj,Afr h.1 h.2,if_true,Option.map_some]
theorem Hy{s:ByteArray}{p:Int×ByteArray}(h:Cp s=some p):isI p.1∧s.data.toList=Ey p.1++p.2.data.toList:=by
 unfold Cp at h;cases hc:Mm s 59 with
 |none=>rw[hc]at h;cases h
 |some q=>
  rw[hc]at h;simp only[ZA]at h;cases hv:Ad5 q.1 with
  |none=>rw[hv]at h;cases h
  |some n=>
   rw[hv]at h;simp only[Option.map_some,ZD]at h;subst h;unfold Ad5 at hv;split at hv
   ·rename_i m hm;split at hv
    ·rename_i he;injection hv with hv
     subst hv;obtain⟨b0,b1⟩:=atoiAll_bounds hm;refine⟨⟨b0,b1⟩,?_⟩;unfold Mm at hc;split at hc
     ·cases hc
     ·rename_i hn;injection hc with hc
      obtain⟨k,hk⟩:=Int.eq_ofNat_of_zero_le (show 0≤ixb s 59 by omega);have hk1:=indexByte_some (show indexByte s.data.toList 59=(k:Int)from hk);have hs:s=bA s.data.toList:=(Ajm s).symm;rw[hk,Int.toNat_natCast]at hc;generalize s.data.toList=l at *;subst hs;rw[Nm,Nm,Hj]at hc;subst hc;simp only[Qj]at he ⊢;unfold Ey;rw[he];obtain⟨hlt,hat⟩:=ZB.1 hk1.1;rw[XF,List.drop_zero]
      conv=>lhs;rw[←List.take_append_drop k l,List.drop_eq_getElem_cons hlt,hat]
      simp
    ·cases hv
   ·cases hv
end Pl
end
section
open Go.Lib
namespace Pl
def Nx(s:ByteArray):List UInt8:=Ey s.size++s.data.toList
def Lu(b:Bool):List UInt8:=Ey (if b then 1 else 0)
def G7(s:ByteArray):Option (ByteArray×ByteArray):=(Cp s).bind fun p=>if p.1<0∨(p.2.size:Int)<p.1 then none else some (p.2.extract 0 p.1.toNat,p.2.extract p.1.toNat p.2.size)
def Nv(s:ByteArray):Option (Bool×ByteArray):=(Cp s).bind fun p=>if p.1<0∨1<p.1 then none else some (decide (p.1=1),p.2)
def Fk{α:Type}(one:ByteArray→Option (α×ByteArray)):Nat→ByteArray→Option (List α×ByteArray)
 |0,s=>some ([],s)
 |k+1,s=>(one s).bind fun p=>(Fk one k p.2).bind fun q=>some (p.1::q.1,q.2)
def Lk(most:Int)(s:ByteArray):Option (Nat×ByteArray):=(Cp s).bind fun p=>if p.1<0∨most<p.1 then none else some (p.1.toNat,p.2)
def Fj{α:Type}(most:Int)(one:ByteArray→Option (α×ByteArray))(s:ByteArray):Option (List α×ByteArray):=(Lk most s).bind fun p=>Fk one p.1 p.2
def Zd{α:Type}(enc:α→List UInt8)(l:List α):List UInt8:=Ey l.length++l.flatMap enc
structure Fm{α:Type}(ok:α→Prop)(enc:α→List UInt8)(dec:ByteArray→Option (α×ByteArray)):Prop where
 back:∀x r,ok x→dec (bA (enc x++r))=some (x,bA r)
 some:∀s p,dec s=some p→ok p.1∧s.data.toList=enc p.1++p.2.data.toList
theorem Gb:Fm isI Ey Cp:=⟨fun x r h=>Ku h r,fun s p h=>Hy h⟩
theorem Le:Fm (fun s:ByteArray=>s.size≤9223372036854775807) Nx G7:=by
 refine⟨fun x r h=>?_,fun s p h=>?_⟩
 ·unfold G7 Nx;rw[ZS,Ku (n:=(x.size:Int)) ⟨by omega,by omega⟩];simp only[ZA];have hl:x.data.toList.length=x.size:=by simp
  rw[if_neg (by rw[Hj,ZF,hl];omega),Int.toNat_natCast,Nm,Nm,Hj,XF,List.drop_zero,←hl,List.take_left,List.drop_left,Ajm]
 ·unfold G7 at h;cases hn:Cp s with
  |none=>rw[hn]at h;cases h
  |some q=>
   rw[hn]at h;simp only[ZA]at h;split at h
   ·cases h
   ·rename_i hc;injection h with h
    subst h;obtain⟨⟨b0,b1⟩,hq⟩:=Hy hn;obtain⟨n,r⟩:=q;simp only at hc b0 b1 hq ⊢;obtain⟨k,rfl⟩:=Int.eq_ofNat_of_zero_le (show 0≤n by omega);have hr:r=bA r.data.toList:=(Ajm r).symm;generalize r.data.toList=l at *;subst hr;rw[Hj]at hc;have e1:(bA l).extract 0 k=bA (l.take k):=by rw[Nm,List.drop_zero]
    have e2:(bA l).extract k (bA l).size=bA (l.drop k):=by rw[Nm,Hj,XF]
    rw[Int.toNat_natCast,e1,e2];have hk:(bA (l.take k)).size=k:=by rw[Hj,ZM];omega
    refine⟨by rw[hk];omega,?_⟩;unfold Nx;rw[hk,Qj,Qj,hq,ZS,List.take_append_drop]
theorem Ua:Fm (fun _:Bool=>True) Lu Nv:=by
 refine⟨fun x r h=>?_,fun s p h=>⟨trivial,?_⟩⟩
 ·unfold Nv Lu;cases x
  ·have h:=Ku (n:=0) (by unfold isI;omega) r;show(Cp (bA (Ey 0++r))).bind _=_;rw[h];rfl
  ·have h:=Ku (n:=1) (by unfold isI;omega) r;show(Cp (bA (Ey 1++r))).bind _=_;rw[h];rfl
 ·unfold Nv at h;cases hn:Cp s with
  |none=>rw[hn]at h;cases h
  |some q=>
   rw[hn]at h;simp only[ZA]at h;split at h
   ·cases h
   ·rename_i hc;injection h with h
    subst h;obtain⟨_,hq⟩:=Hy hn;rw[hq];unfold Lu;by_cases h1:q.1=1
    ·simp[h1]
    ·have:q.1=0:=by omega
     simp[this]
def Su{α β:Type}(f:ByteArray→Option (α×ByteArray))(g:ByteArray→Option (β×ByteArray))(s:ByteArray):Option ((α×β)×ByteArray):=(f s).bind fun p=>(g p.2).bind fun q=>some ((p.1,q.1),q.2)
theorem Ca{α β:Type}{ok:α→Prop}{ok':β→Prop}{enc:α→List UInt8}{enc':β→List UInt8}{dec:ByteArray→Option (α×ByteArray)}{dec':ByteArray→Option (β×ByteArray)}(h:Fm ok enc dec)(h':Fm ok' enc' dec'):
  Fm (fun p:α×β=>ok p.1∧ok' p.2) (fun p=>enc p.1++enc' p.2) (Su dec dec'):=by
 refine⟨fun x r hx=>?_,fun s p hp=>?_⟩
 ·unfold Su;rw[ZS,h.back _ _ hx.1];simp only[ZA];rw[h'.back _ _ hx.2];rfl
 ·unfold Su at hp;cases h1:dec s with
  |none=>rw[h1]at hp;cases hp
  |some q=>
   rw[h1]at hp;simp only[ZA]at hp;cases h2:dec' q.2 with
   |none=>rw[h2]at hp;cases hp
   |some u=>
    rw[h2]at hp;simp only[ZA,ZD]at hp;subst hp;obtain⟨a1,a2⟩:=h.some _ _ h1;obtain⟨b1,b2⟩:=h'.some _ _ h2;exact⟨⟨a1,b1⟩,by rw[a2,b2,ZS]⟩
theorem Uw{α β:Type}{ok:α→Prop}{ok':β→Prop}{enc:α→List UInt8}{enc':β→List UInt8}{dec:ByteArray→Option (α×ByteArray)}{dec':ByteArray→Option (β×ByteArray)}(h:Fm ok enc dec)(to:α→β)(of:β→α)(e1:∀x,to (of x)=x)(e2:∀x,of (to x)=x)(ho:∀x,ok' x↔ok (of x))(he:∀x,enc' x=enc (of x))(hd:∀s,dec' s=(dec s).map fun p=>(to p.1,p.2)):Fm ok' enc' dec':=by
 refine⟨fun x r hx=>?_,fun s p hp=>?_⟩
 ·rw[hd,he,h.back _ _ ((ho x).1 hx)];simp[e1]
 ·rw[hd]at hp;cases h1:dec s with
  |none=>rw[h1]at hp;cases hp
  |some q=>
   rw[h1]at hp;simp only[Option.map_some,ZD]at hp;subst hp;obtain⟨a1,a2⟩:=h.some _ _ h1;exact⟨(ho _).2 (by rw[e2];exact a1),by rw[he,e2];exact a2⟩
theorem Ac7{α:Type}{ok:α→Prop}{enc:α→List UInt8}{dec:ByteArray→Option (α×ByteArray)}(h:Fm ok enc dec):∀(k:Nat),Fm (fun l:List α=>l.length=k∧∀x∈l,ok x) (fun l=>l.flatMap enc) (Fk dec k)
 |0=>⟨fun x r hx=>by
   obtain rfl:x=[]:=List.length_eq_zero_iff.1 hx.1;rfl,fun s p hp=>by
   simp only[Fk,ZD]at hp;subst hp;exact⟨⟨rfl,fun x hx=>by cases hx⟩,rfl⟩⟩
 |k+1=>by
  have ih:=Ac7 h k;refine⟨fun x r hx=>?_,fun s p hp=>?_⟩
  ·match x,hx with
   |a::l,hx=>
    show(dec (bA ((enc a++l.flatMap enc)++r))).bind _=_;rw[ZS,h.back _ _ (hx.2 a (XB ..))];simp only[ZA];rw[ih.back l r ⟨by simpa using hx.1,fun y hy=>hx.2 y (ZL _ hy)⟩];rfl
  ·have hp:(dec s).bind (fun p=>(Fk dec k p.2).bind fun q=>some (p.1::q.1,q.2))=some p:=hp;cases h1:dec s with
   |none=>rw[h1]at hp;cases hp
   |some q=>
    rw[h1]at hp;simp only[ZA]at hp;cases h2:Fk dec k q.2 with
    |none=>rw[h2]at hp;cases hp
    |some u=>
     rw[h2]at hp;simp only[ZA,ZD]at hp;subst hp;obtain⟨a1,a2⟩:=h.some _ _ h1;obtain⟨b1,b2⟩:=ih.some _ _ h2;refine⟨⟨by simp[b1.1],fun y hy=>?_⟩,?_⟩
     ·rcases XC.1 hy with rfl|hy
      ·exact a1
      ·exact b1.2 y hy
     ·show s.data.toList=(enc q.1++u.1.flatMap enc)++u.2.data.toList;rw[a2,b2,ZS]
theorem Zb{α:Type}{ok:α→Prop}{enc:α→List UInt8}{dec:ByteArray→Option (α×ByteArray)}(h:Fm ok enc dec)(most:Int)(hm:most≤1000000):Fm (fun l:List α=>(l.length:Int)≤most∧∀x∈l,ok x) (Zd enc) (Fj most dec):=by
 refine⟨fun l r hx=>?_,fun s p hp=>?_⟩
 ·unfold Fj Lk Zd;rw[ZS,Ku ⟨by omega,by omega⟩];simp only[ZA];rw[if_neg (by omega),Int.toNat_natCast];exact(Ac7 h l.length).back l r ⟨rfl,hx.2⟩
 ·unfold Fj Lk at hp;cases h1:Cp s with
  |none=>rw[h1]at hp;cases hp
  |some q=>
   rw[h1]at hp;simp only[ZA]at hp;obtain⟨hb,hq⟩:=Hy h1;split at hp
   ·cases hp
   ·rename_i hc;obtain⟨c1,c2⟩:=(Ac7 h q.1.toNat).some _ _ hp;have e:((q.1.toNat:Nat):Int)=q.1:=Int.toNat_of_nonneg (by omega);refine⟨⟨by omega,c1.2⟩,?_⟩;unfold Zd;rw[hq,c2,c1.1,e,ZS]
end Pl
end
section
open Go.Lib
namespace Pl
def mbB(m:Mb):List UInt8:=Nx m.n++Ey m.st++Ey m.lf++Ey m.ad++Lu m.sv
def svB(x:Sv):List UInt8:=Nx x.nd++Nx x.id++Nx x.nm++Nx x.tg++Ey x.ad++Ey x.pt++Lu x.ps++Ey x.vs++Lu x.gn
def gwB(g:Gw):List UInt8:=Nx g.c++Ey g.a++Ey g.v
def whB(x:Wh):List UInt8:=Nx x.nd++Ey x.pl.x++Ey x.pl.y++Ey x.pl.z++Ey x.pl.h++Ey x.pl.s
def pkB(p:Pk):List UInt8:=Nx p.fr++Lu p.wo++Zd mbB p.ms++Zd svB p.sv++Zd gwB p.gs++Zd whB p.wh
def mbR(s:ByteArray):Option (Mb×ByteArray):=(G7 s).bind fun a=>(Cp a.2).bind fun b=>(Cp b.2).bind fun c=>(Cp c.2).bind fun d=>(Nv d.2).bind fun e=>some (⟨a.1,b.1,c.1,d.1,e.1⟩,e.2)
def svR(s:ByteArray):Option (Sv×ByteArray):=(G7 s).bind fun a=>(G7 a.2).bind fun b=>(G7 b.2).bind fun c=>(G7 c.2).bind fun d=>(Cp d.2).bind fun e=>(Cp e.2).bind fun f=>(Nv f.2).bind fun g=>(Cp g.2).bind fun h=>(Nv h.2).bind fun i=>some (⟨a.1,b.1,c.1,d.1,e.1,f.1,g.1,h.1,i.1⟩,i.2)
def gwR(s:ByteArray):Option (Gw×ByteArray):=(G7 s).bind fun a=>(Cp a.2).bind fun b=>(Cp b.2).bind fun c=>some (⟨a.1,b.1,c.1⟩,c.2)
def whR(s:ByteArray):Option (Wh×ByteArray):=(G7 s).bind fun a=>(Cp a.2).bind fun b=>(Cp b.2).bind fun c=>(Cp c.2).bind fun d=>(Cp d.2).bind fun e=>(Cp e.2).bind fun f=>some (⟨a.1,⟨b.1,c.1,d.1,e.1,f.1⟩⟩,f.2)
def pkR(s:ByteArray):Option (Pk×ByteArray):=(G7 s).bind fun a=>(Nv a.2).bind fun b=>(Fj 20 mbR b.2).bind fun c=>(Fj 40 svR c.2).bind fun d=>(Fj 6 gwR d.2).bind fun e=>(Fj 20 whR e.2).bind fun f=>some (⟨a.1,b.1,c.1,d.1,e.1,f.1⟩,f.2)
def okT(s:ByteArray):Prop:=s.size≤9223372036854775807
def Mb.okB(m:Mb):Prop:=okT m.n∧isI m.st∧isI m.lf∧isI m.ad
def Sv.okB(x:Sv):Prop:=okT x.nd∧okT x.id∧okT x.nm∧okT x.tg∧isI x.ad∧isI x.pt∧isI x.vs
def Gw.okB(g:Gw):Prop:=okT g.c∧isI g.a∧isI g.v
def Wh.okB(x:Wh):Prop:=okT x.nd∧isI x.pl.x∧isI x.pl.y∧isI x.pl.z∧isI x.pl.h∧isI x.pl.s
def Pk.okB(p:Pk):Prop:=okT p.fr∧((p.ms.length:Int)≤20∧∀x∈p.ms,Mb.okB x)∧((p.sv.length:Int)≤40∧∀x∈p.sv,Sv.okB x)∧((p.gs.length:Int)≤6∧∀x∈p.gs,Gw.okB x)∧((p.wh.length:Int)≤20∧∀x∈p.wh,Wh.okB x)
theorem Ap0:Fm Mb.okB mbB mbR:=
 Uw (Ca Le (Ca Gb (Ca Gb (Ca Gb Ua)))) (fun p=>⟨p.1,p.2.1,p.2.2.1,p.2.2.2.1,p.2.2.2.2⟩) (fun m=>(m.n,m.st,m.lf,m.ad,m.sv)) (fun _=>rfl) (fun _=>rfl)
  (fun m=>by simp[Mb.okB,okT]) (fun m=>by simp[mbB]) (fun s=>by simp[mbR,Su,Option.bind_assoc,Option.map_bind,Function.comp_def])
theorem Ap1:Fm Sv.okB svB svR:=
 Uw (Ca Le (Ca Le (Ca Le (Ca Le (Ca Gb (Ca Gb (Ca Ua (Ca Gb Ua)))))))) (fun p=>⟨p.1,p.2.1,p.2.2.1,p.2.2.2.1,p.2.2.2.2.1,p.2.2.2.2.2.1,p.2.2.2.2.2.2.1,p.2.2.2.2.2.2.2.1,p.2.2.2.2.2.2.2.2⟩) (fun x=>(x.nd,x.id,x.nm,x.tg,x.ad,x.pt,x.ps,x.vs,x.gn)) (fun _=>rfl) (fun _=>rfl)
  (fun m=>by simp[Sv.okB,okT]) (fun m=>by simp[svB]) (fun s=>by simp[svR,Su,Option.bind_assoc,Option.map_bind,Function.comp_def])
theorem Apm:Fm Gw.okB gwB gwR:=
 Uw (Ca Le (Ca Gb Gb)) (fun p=>⟨p.1,p.2.1,p.2.2⟩) (fun x=>(x.c,x.a,x.v)) (fun _=>rfl) (fun _=>rfl)
  (fun m=>by simp[Gw.okB,okT]) (fun m=>by simp[gwB]) (fun s=>by simp[gwR,Su,Option.bind_assoc,Option.map_bind,Function.comp_def])
theorem Ape:Fm Wh.okB whB whR:=
 Uw (Ca Le (Ca Gb (Ca Gb (Ca Gb (Ca Gb Gb))))) (fun p=>⟨p.1,⟨p.2.1,p.2.2.1,p.2.2.2.1,p.2.2.2.2.1,p.2.2.2.2.2⟩⟩) (fun x=>(x.nd,x.pl.x,x.pl.y,x.pl.z,x.pl.h,x.pl.s)) (fun _=>rfl) (fun _=>rfl)
  (fun m=>by simp[Wh.okB,okT]) (fun m=>by simp[whB]) (fun s=>by simp[whR,Su,Option.bind_assoc,Option.map_bind,Function.comp_def])
theorem Alv:Fm Pk.okB pkB pkR:=
 Uw (Ca Le (Ca Ua (Ca (Zb Ap0 20 (by decide)) (Ca (Zb Ap1 40 (by decide)) (Ca (Zb Apm 6 (by decide)) (Zb Ape 20 (by decide))))))) (fun p=>⟨p.1,p.2.1,p.2.2.1,p.2.2.2.1,p.2.2.2.2.1,p.2.2.2.2.2⟩) (fun x=>(x.fr,x.wo,x.ms,x.sv,x.gs,x.wh)) (fun _=>rfl) (fun _=>rfl)
  (fun m=>by simp[Pk.okB,okT]) (fun m=>by simp[pkB]) (fun s=>by simp[pkR,Su,Option.bind_assoc,Option.map_bind,Function.comp_def])
end Pl
end
section
open Go.Lib
namespace Pl
end Pl
end
section
open Go.Lib
namespace Pl
def Ajq(err:Pk→Int)(z:Pk)(s:ByteArray):Pk×Int:=match pkR s with
 |none=>(z,1)
 |some p=>if p.2.size≠0∨err p.1≠0 then(z,1)else(p.1,0)
end Pl
end
namespace Pl
open Classical in
noncomputable def M4(l:List Mb):Int:=if 5<l.length then 2 else if Ad Mb.err l≠0 then Ad Mb.err l else if(l.map Mb.n).Nodup then 0 else 6
theorem Wb{l:List Mb}(h:5<l.length):M4 l=2:=by simp[M4,h]
theorem Vs{l:List Mb}(h:¬5<l.length)(h2:Ad Mb.err l≠0):M4 l=Ad Mb.err l:=by simp[M4,h,h2]
theorem Ag2{l:List Mb}(h:¬5<l.length)(h2:Ad Mb.err l=0)(h4:¬(l.map Mb.n).Nodup):M4 l=6:=by simp only[M4,h,h2,h4,if_false,ne_eq,not_true]
theorem Aj0{l:List Mb}(h:¬5<l.length)(h2:Ad Mb.err l=0)(h4:(l.map Mb.n).Nodup):M4 l=0:=by simp only[M4,h,h2,h4,if_false,if_true,ne_eq,not_true]
noncomputable def Pk.cks(p:Pk):List Int:=[Gc p.ms,Gp p.sv,Gx p.gs,Gr p.wh]
noncomputable def Pk.err(p:Pk):Int:=
 if lab p.fr.data.toList=false then 1 else if p.wo=false then(if p.sv.length+p.gs.length+p.wh.length=0 then M4 p.ms else 1)else Ad (fun e=>e) p.cks
theorem Pk.err_form{p:Pk}(h:lab p.fr.data.toList=false):p.err=1:=if_pos h
theorem Pk.err_more{p:Pk}(h:lab p.fr.data.toList=true)(h2:p.wo=false)(h3:p.sv.length+p.gs.length+p.wh.length≠0):p.err=1:=by
 unfold Pk.err;rw[if_neg (by simp[h]),if_pos h2,if_neg h3]
theorem Pk.err_few{p:Pk}(h:lab p.fr.data.toList=true)(h2:p.wo=false)(h3:p.sv.length+p.gs.length+p.wh.length=0):p.err=M4 p.ms:=by
 unfold Pk.err;rw[if_neg (by simp[h]),if_pos h2,if_pos h3]
theorem Pk.err_all{p:Pk}(h:lab p.fr.data.toList=true)(h2:p.wo=true):p.err=Ad (fun e=>e) p.cks:=by
 unfold Pk.err;rw[if_neg (by simp[h]),if_neg (by simp[h2])]
end Pl
theorem Al5[Glob](c:Bool)(l:List Mb)(hl:l.length≤9223372036854775807)(hw:∀m∈l,m.ok):Fun Tryz.prog 106 [.c (.sl c (l.map Mb.row))] [.c (.v (.int .i64 (M4 l)))]:=by
 have hlm:(l.map Mb.row).length=l.length:=ZE ..;refine A9 Ws rfl ?_;(refine goI ?_;repeat (intro gg;refine goI ?_));(refine Ab (fun h=>?_) (fun h=>?_)<;>rw[h])
 ·have h1:5<l.length:=by have:=ZV h;omega
  (refine goI ?_;repeat (intro gg;refine goI ?_));rw[Wb h1];(exact⟨[],aI⟩)
 ·have h1:¬5<l.length:=by have:=ZW h;omega
  (refine goI ?_;repeat (intro gg;refine goI ?_));refine .inl (cX (Xa c l hl hw) ?_);(refine goI ?_;repeat (intro gg;refine goI ?_));(refine Ab (fun h2=>?_) (fun h2=>?_)<;>rw[h2])
  ·have h2':Ad Mb.err l≠0:=by simpa using h2
   (refine goI ?_;repeat (intro gg;refine goI ?_));rw[Vs h1 h2'];(exact⟨[],aI⟩)
  ·have h2':Ad Mb.err l=0:=by simpa using h2
   (refine goI ?_;repeat (intro gg;refine goI ?_))
   rename Nat=>g0
   (refine⟨[],none,{q:Nat×List (ByteArray×V)//q.1≤l.length∧G5 q.2 ((l.take q.1).map Mb.n)},[0,4,16,17],fun⟨⟨k,E⟩,hk,hE⟩=>[(18,.v (.int .i64 k))],[],fun⟨⟨k,E⟩,hk,hE⟩=>[(240,⟨g0,.q (K0 (An E)),0,[]⟩)],fun⟨⟨k,E⟩,hk,hE⟩=>l.length-k,trivial,fun _=>⟨trivial,fun _=>⟨⟨(0,[]),ZU _,G5.nil⟩,tI,Aj _ _,tI,Ak _ _⟩⟩,fun⟨⟨k,E⟩,hk,hE⟩=>?_⟩);(refine goI ?_;repeat (intro gg;refine goI ?_));(refine Ab (fun h3=>?_) (fun h3=>?_)<;>rw[h3])
   ·have hlt:k<l.length:=by have:=ZV h3;omega
    (refine goI ?_;repeat (intro gg;refine goI ?_));refine⟨k,_,rfl,Al hlt,?_⟩;(refine goI ?_;repeat (intro gg;refine goI ?_));refine⟨_,_,rfl,Ez rfl,N0 _ _ _,?_⟩;(refine goI ?_;repeat (intro gg;refine goI ?_));have e:=Vi E l[k].n (.v (.bool true));have hE':G5 (put E l[k].n (.v (.bool true))) ((l.take (k+1)).map Mb.n):=by
     rw[XT,ZC hlt,ZI];exact hE.put _ _ (Ez rfl)
    (exact⟨none,trivial,fun gr=>⟨⟨(k+1,put E l[k].n (.v (.bool true))),by dsimp only;omega,hE'⟩,by show l.length-(k+1)<l.length-k;omega,tI,tI,⟨congrArg (fun x=>some (Ent.mk g0 (.q (K0 x)) 0 [])) e,trivial⟩,tI⟩⟩)
   ·have hge:¬k<l.length:=by have:=ZW h3;omega
    rw[List.take_of_length_le (by dsimp only;omega)]at hE;have hE:G5 E (l.map Mb.n):=hE;(refine goI ?_;repeat (intro gg;refine goI ?_))
    (try refine⟨_,rfl,?_⟩)
    (refine goI ?_;repeat (intro gg;refine goI ?_));rw[V9,ZE];have ha:=hE.all;have hle:=hE.le;rw[ZE]at ha hle;(refine Ab (fun h4=>?_) (fun h4=>?_)<;>rw[h4])
    ·have h4':E.length<l.length:=(by have:=ZV h4;omega);(refine goI ?_;repeat (intro gg;refine goI ?_));rw[Ag2 h1 h2' (fun q=>by have:=ha.2 q;omega)];(exact⟨[],aI⟩)
    ·have h4':¬E.length<l.length:=(by have:=ZW h4;omega);(refine goI ?_;repeat (intro gg;refine goI ?_));rw[Aj0 h1 h2' (ha.1 (by omega))];(exact⟨[],aI⟩)
theorem S4[Glob](p:Pk)(h:p.ok):Fun Tryz.prog 55 [.c (.agg p.row)] [.c (.v (.int .i64 p.err))]:=by
 have l1:(p.sv.map Sv.row).length=p.sv.length:=ZE ..;have l2:(p.gs.map Gw.row).length=p.gs.length:=ZE ..;have l3:(p.wh.map Wh.row).length=p.wh.length:=ZE ..;have b1:=h.svl;have b2:=h.gsl;have b3:=h.whl;refine A9 Mc rfl ?_;(refine goI ?_;repeat (intro gg;refine goI ?_));refine .inl (cX (C2 p.fr h.fr) ?_);(refine goI ?_;repeat (intro gg;refine goI ?_));(refine Ab (fun h1=>?_) (fun h1=>?_)<;>rw[h1])
 ·rw[Pk.err_form (Dk h1)];(refine goI ?_;repeat (intro gg;refine goI ?_));(exact⟨[],aI⟩)
 ·have h1':=Dl h1;cases hwo:p.wo with
  |false=>
   (refine goI ?_;repeat (intro gg;refine goI ?_));(refine Ab (fun h2=>?_) (fun h2=>?_)<;>rw[h2])
   ·have h2':=ZV h2;rw[Pk.err_more h1' hwo (by omega)];(refine goI ?_;repeat (intro gg;refine goI ?_));(exact⟨[],aI⟩)
   ·have h2':=ZW h2;rw[Pk.err_few h1' hwo (by omega)];(refine goI ?_;repeat (intro gg;refine goI ?_));refine .inl (cX (Al5 false p.ms h.msl h.ms) ?_);(refine goI ?_;repeat (intro gg;refine goI ?_));(exact⟨[],aI⟩)
  |true=>
   rw[Pk.err_all h1' hwo];(refine goI ?_;repeat (intro gg;refine goI ?_));(refine⟨_,_,false,aI,Vu p.ms h.msl h.ms,Am,nI,?_⟩);(refine goI ?_;repeat (intro gg;refine goI ?_));(refine⟨_,_,false,aI,U2 p.sv (by omega) h.sv,Am,nI,?_⟩);(refine goI ?_;repeat (intro gg;refine goI ?_));(refine⟨_,_,false,aI,Vo p.gs (by omega) h.gs,Am,nI,?_⟩);(refine goI ?_;repeat (intro gg;refine goI ?_));(refine⟨_,_,false,aI,Uq false p.wh (by omega) h.wh,Am,nI,?_⟩);(refine goI ?_;repeat (intro gg;refine goI ?_));(refine⟨[],none,{k:Nat//k≤4∧∀j,(h:j<p.cks.length)→j<k→p.cks[j]=0},[46,47],fun⟨k,hk,h0⟩=>[(48,.v (.int .i64 k))],[16,736],fun⟨k,hk,h0⟩=>[],fun⟨k,hk,h0⟩=>4-k,trivial,fun _=>⟨trivial,fun _=>⟨⟨0,ZU _,fun j _ h=>absurd h (Nat.not_lt_zero _)⟩,tI,Aj _ _,tI,Ak _ _⟩⟩,fun⟨k,hk,h0⟩=>?_⟩);(refine goI ?_;repeat (intro gg;refine goI ?_));have hk6:k≤4:=hk;(refine Ab (fun h3=>?_) (fun h3=>?_)<;>rw[h3])
   ·have hlt6:k<4:=by have h4:=ZV h3;have h5:(k:Int)<4:=h4;omega
    have hlt:k<p.cks.length:=hlt6;(refine goI ?_;repeat (intro gg;refine goI ?_));refine⟨k,_,rfl,Al (f:=Afj) (l:=p.cks) hlt,?_⟩;(refine goI ?_;repeat (intro gg;refine goI ?_));refine⟨_,Al (f:=Afj) (l:=p.cks) hlt,?_⟩;(refine goI ?_;repeat (intro gg;refine goI ?_));(refine Ab (fun h4=>?_) (fun h4=>?_)<;>rw[h4])
    ·have h4':p.cks[k]≠0:=by simpa using h4
     have e:Ad (fun e=>e) p.cks=p.cks[k]:=Bc (e:=fun e=>e) hlt h0 h4';(refine goI ?_;repeat (intro gg;refine goI ?_));rw[e];(exact⟨[],aI⟩)
    ·have h4':p.cks[k]=0:=by simpa using h4
     (refine goI ?_;repeat (intro gg;refine goI ?_));(exact⟨none,trivial,fun _=>⟨⟨k+1,by omega,up1 (p:=fun j h=>p.cks[j]=0) h0 (fun _=>h4')⟩,by show 4-(k+1)<4-k;omega,tI,tI,tI,tI⟩⟩)
   ·have hge:¬k<4:=by have h4:=ZW h3;have h5:¬(k:Int)<4:=h4;omega
    have hz:Ad (fun e=>e) p.cks=0:=A8 (e:=fun e=>e) fun i hi=>h0 i hi (by have h6:i<4:=hi;omega);(refine goI ?_;repeat (intro gg;refine goI ?_));rw[hz];(exact⟨[],aI⟩)
section
open Go.Lib
namespace Pl
theorem P1{x:ByteArray}(h:lab x.data.toList=true):x.size≤30:=by
 unfold lab at h;simp only[ZO,decide_eq_true_eq]at h;have:=h.2.2;rw[Array.length_toList]at this;exact this
theorem Aoc{x:ByteArray}(h:S9 x=true):x.size≤30:=by
 unfold S9 at h;cases h1:emp x with
 |false=>
  rw[h1]at h;exact P1 h
 |true=>
  unfold emp at h1;have h2:x.toList=(⟨#[]⟩:ByteArray).toList:=eq_of_beq h1;rw[Lib.toList_data,Lib.toList_data]at h2;have h3:x.data.toList.length=0:=by rw[h2];rfl
  rw[Array.length_toList]at h3;have h3:x.size=0:=h3;omega
theorem Gl{α:Type}{e:α→Int}{l:List α}(h:Ad e l=0):∀x∈l,e x=0:=fun x hx=>by
 obtain⟨i,hi,rfl⟩:=List.mem_iff_getElem.1 hx;exact Fu h i hi
theorem C3{α:Type}{mx:Nat}{e:α→Int}{lt:α→α→Bool}{l:List α}(h:ckL mx e lt l=0):l.length≤mx∧∀x∈l,e x=0:=by
 unfold ckL at h;split at h
 ·cases h
 ·split at h
  ·rename_i h1 h2;exact⟨by omega,Gl h2⟩
  ·rename_i h1 h2;exact absurd h h2
structure Mb.Sm(m:Mb):Prop where
 n:m.n.size≤30
 st:1≤m.st∧m.st≤4
 lf:1≤m.lf∧m.lf≤1000000
 ad:0≤m.ad∧m.ad≤4294967295
structure Sv.Sm(x:Sv):Prop where
 nd:x.nd.size≤30
 id:x.id.size≤30
 nm:x.nm.size≤30
 tg:x.tg.size≤30
 ad:0≤x.ad∧x.ad≤4294967295
 pt:0≤x.pt∧x.pt≤65535
 vs:1≤x.vs∧x.vs≤1000000
structure Gw.Sm(g:Gw):Prop where
 c:g.c.size≤30
 a:0≤g.a∧g.a≤4294967295
 v:1≤g.v∧g.v≤1000000
structure Wh.Sm(w:Wh):Prop where
 nd:w.nd.size≤30
 x: -10000000≤w.pl.x∧w.pl.x≤10000000
 y: -10000000≤w.pl.y∧w.pl.y≤10000000
 z: -10000000≤w.pl.z∧w.pl.z≤10000000
 h:0≤w.pl.h∧w.pl.h≤1000000
 s:0≤w.pl.s∧w.pl.s≤1000
structure Pk.Sm(p:Pk):Prop where
 fr:p.fr.size≤30
 msl:p.ms.length≤20
 ms:∀x∈p.ms,Mb.Sm x
 svl:p.sv.length≤40
 sv:∀x∈p.sv,Sv.Sm x
 gsl:p.gs.length≤6
 gs:∀x∈p.gs,Gw.Sm x
 whl:p.wh.length≤20
 wh:∀x∈p.wh,Wh.Sm x
theorem Mb.sm{m:Mb}(h:m.err=0):Mb.Sm m:=by
 obtain⟨h1,h2,h3,h4⟩:=Mb.err_inv h;exact⟨P1 h1,h2,h3,h4⟩
theorem Sv.sm{x:Sv}(h:x.err=0):Sv.Sm x:=by
 unfold Sv.err at h
 repeat' (split at h)
 all_goals first
  |(cases h;done)
  |skip
 rename_i h1 h2 h3 h4 h5 h6 h7;exact⟨P1 h1,P1 h2,P1 h3,Aoc h4,Ev.1 h5,Ev.1 h6,Ev.1 h7⟩
theorem Gw.sm{g:Gw}(h:g.err=0):Gw.Sm g:=by
 obtain⟨h1,h2,h3⟩:=Gw.err_inv h;exact⟨P1 h1,h2,h3⟩
theorem Wh.sm{w:Wh}(h:w.err=0):Wh.Sm w:=by
 unfold Wh.err at h;split at h
 ·rename_i h1;have h2:=Pc.err_iff.1 h;unfold Pc.okb Aje at h2;simp only[ZO]at h2;obtain⟨⟨⟨⟨a,b⟩,c⟩,d⟩,e⟩:=h2;exact⟨P1 h1,Ev.1 a,Ev.1 b,Ev.1 c,Ev.1 d,Ev.1 e⟩
 ·cases h
theorem Pk.sm{p:Pk}(h:p.err=0):Pk.Sm p:=by
 cases h1:lab p.fr.data.toList with
 |false=>rw[Pk.err_form h1]at h;cases h
 |true=>
  cases h2:p.wo with
  |false=>
   by_cases h3:p.sv.length+p.gs.length+p.wh.length=0
   ·rw[Pk.err_few h1 h2 h3]at h;have e1:p.sv=[]:=List.length_eq_zero_iff.1 (by omega);have e2:p.gs=[]:=List.length_eq_zero_iff.1 (by omega);have e3:p.wh=[]:=List.length_eq_zero_iff.1 (by omega);have h4:p.ms.length≤5∧Ad Mb.err p.ms=0:=by
     by_cases h5:5<p.ms.length
     ·rw[Wb h5]at h;cases h
     ·by_cases h6:Ad Mb.err p.ms=0
      ·exact⟨by omega,h6⟩
      ·rw[Vs h5 h6]at h;exact absurd h h6
    exact⟨P1 h1,by omega,fun x hx=>Mb.sm (Gl h4.2 x hx),by rw[e1];simp,fun x hx=>(by rw[e1]at hx;cases hx),by rw[e2];simp,fun x hx=>(by rw[e2]at hx;cases hx),by rw[e3];simp,fun x hx=>(by rw[e3]at hx;cases hx)⟩
   ·rw[Pk.err_more h1 h2 h3]at h;cases h
  |true=>
   rw[Pk.err_all h1 h2]at h;have g:=Fu h;obtain⟨a1,a2⟩:=C3 (show Gc p.ms=0 from g 0 (by show 0<4;omega));obtain⟨b1,b2⟩:=C3 (show Gp p.sv=0 from g 1 (by show 1<4;omega));obtain⟨c1,c2⟩:=C3 (show Gx p.gs=0 from g 2 (by show 2<4;omega));obtain⟨d1,d2⟩:=C3 (show Gr p.wh=0 from g 3 (by show 3<4;omega));exact⟨P1 h1,a1,fun x hx=>Mb.sm (a2 x hx),b1,fun x hx=>Sv.sm (b2 x hx),c1,fun x hx=>Gw.sm (c2 x hx),d1,fun x hx=>Wh.sm (d2 x hx)⟩
theorem Pk.Sm.okB{p:Pk}(h:Pk.Sm p):p.okB:=by
 have:=h.fr;have:=h.msl;have:=h.svl;have:=h.gsl;have:=h.whl;refine⟨by unfold okT;omega,⟨by omega,fun x hx=>?_⟩,⟨by omega,fun x hx=>?_⟩,⟨by omega,fun x hx=>?_⟩,⟨by omega,fun x hx=>?_⟩⟩
 ·obtain⟨h1,h2,h3,h4⟩:=h.ms x hx;unfold Mb.okB okT isI;omega
 ·obtain⟨h1,h2,h3,h4,h5,h6,h7⟩:=h.sv x hx;unfold Sv.okB okT isI;omega
 ·obtain⟨h1,h2,h3⟩:=h.gs x hx;unfold Gw.okB okT isI;omega
 ·obtain⟨h1,h2,h3,h4,h5,h6⟩:=h.wh x hx;unfold Wh.okB okT isI;omega
noncomputable def J3(s:ByteArray):Pk×Int:=Ajq Pk.err pk0 s
theorem rdPk_back{p:Pk}(h:p.err=0):J3 (bA (pkB p))=(p,0):=by
 have:=Alv.back p [] (Pk.sm h).okB;rw[List.append_nil]at this;unfold J3 Ajq;rw[this];simp only;rw[if_neg (by rw[Hj];simp[h])]
end Pl
end
theorem Amo(row:List V)(h:Qg [.s,.s,.l [.s,.i,.i,.i,.b],.l [.s,.i,.i,.i,.b,.i],.l [.s,.s,.s,.s,.i,.i,.b,.i,.b],.l [.s,.i,.i],.i,.i,.i,.i,.i,.l [.s,.i,.i,.i,.i,.i]] row):∃n:Nd,row=n.row∧n.ok:=by
 obtain⟨u0,_,rfl,f0,h⟩:=Aw h;obtain⟨u1,_,rfl,f1,h⟩:=Aw h;obtain⟨u2,_,rfl,f2,h⟩:=Aw h;obtain⟨u3,_,rfl,f3,h⟩:=Aw h;obtain⟨u4,_,rfl,f4,h⟩:=Aw h;obtain⟨u5,_,rfl,f5,h⟩:=Aw h;obtain⟨u6,_,rfl,f6,h⟩:=Aw h;obtain⟨u7,_,rfl,f7,h⟩:=Aw h;obtain⟨u8,_,rfl,f8,h⟩:=Aw h;obtain⟨u9,_,rfl,f9,h⟩:=Aw h;obtain⟨u10,_,rfl,f10,h⟩:=Aw h;obtain⟨u11,_,rfl,f11,h⟩:=Aw h;obtain rfl:=K4 h;obtain⟨nm,rfl,hn⟩:=Ou f0;obtain⟨ce,rfl,hc⟩:=Ou f1;obtain⟨ms,rfl,m1,m2⟩:=K7 Anz f2;obtain⟨rs,rfl,r1,r2⟩:=K7 Amx f3;obtain⟨sv,rfl,s1,s2⟩:=K7 Anw f4;obtain⟨gs,rfl,g1,g2⟩:=K7 Ao0 f5;obtain⟨a,rfl,_⟩:=El f6;obtain⟨b,rfl,_⟩:=El f7;obtain⟨c,rfl,_⟩:=El f8;obtain⟨d,rfl,_⟩:=El f9;obtain⟨e,rfl,_⟩:=El f10;obtain⟨wh,rfl,w1,w2⟩:=K7 Amy f11;exact⟨⟨nm,ce,ms,rs,sv,gs,⟨a,b,c,d,e⟩,wh⟩,rfl,⟨hn,hc,m1,m2,r1,r2,s1,s2,g1,g2,w1,w2⟩⟩
structure Pk.ok0(p:Pk):Prop where
 fr:p.fr.size≤9223372036854775807
 msl:p.ms.length≤9223372036854775807
 ms:∀x∈p.ms,x.ok
 sv:∀x∈p.sv,x.ok
 gs:∀x∈p.gs,x.ok
 wh:∀x∈p.wh,x.ok
theorem Pk.ok0.ok{p:Pk}(h:Pk.ok0 p)(h3:(p.sv.map Sv.row).length≤140737488351232)(h4:(p.gs.map Gw.row).length≤140737488351232)(h5:(p.wh.map Wh.row).length≤140737488351232):p.ok:=by
 rw[ZE]at h3 h4 h5;exact⟨h.fr,h.msl,h.ms,by omega,h.sv,by omega,h.gs,by omega,h.wh⟩
namespace Pl
structure Lt where
 to:Int
 tx:ByteArray
def Lt.row(l:Lt):List V:=[.v (.int .i64 l.to),.v (.string l.tx)]
structure Nt where
 ns:List Nd
 ls:List Lt
def Nt.row(n:Nt):List V:=[.sl false (n.ns.map Nd.row),.sl false (n.ls.map Lt.row)]
structure Nt.ok(n:Nt):Prop where
 nsl:n.ns.length≤1000000000000000
 ns:∀x∈n.ns,x.ok
 lsl:n.ls.length≤1000000000000000
 ls:∀x∈n.ls,x.tx.size≤1000000000000
noncomputable def Fe(k:Nat)(l:Lt):Int:=if l.to<0∨(k:Int)≤l.to then 3 else(J3 l.tx).2
noncomputable def Nt.err(n:Nt):Int:=
 if 6<n.ns.length∨20<n.ls.length then 2 else if Ad Nd.err n.ns≠0 then Ad Nd.err n.ns else if¬(n.ns.map Nd.nm).Nodup then 6 else Ad (Fe n.ns.length) n.ls
theorem Nt.err_many{n:Nt}(h:6<n.ns.length∨20<n.ls.length):n.err=2:=if_pos h
theorem Nt.err_each{n:Nt}(h:¬(6<n.ns.length∨20<n.ls.length))(h1:Ad Nd.err n.ns≠0):n.err=Ad Nd.err n.ns:=by
 unfold Nt.err;rw[if_neg h,if_pos h1]
theorem Nt.err_two{n:Nt}(h:¬(6<n.ns.length∨20<n.ls.length))(h1:Ad Nd.err n.ns=0)(h2:¬(n.ns.map Nd.nm).Nodup):n.err=6:=by
 unfold Nt.err;rw[if_neg h,if_neg (fun q=>q h1),if_pos h2]
theorem Nt.err_ls{n:Nt}(h:¬(6<n.ns.length∨20<n.ls.length))(h1:Ad Nd.err n.ns=0)(h2:(n.ns.map Nd.nm).Nodup):n.err=Ad (Fe n.ns.length) n.ls:=by
 unfold Nt.err;rw[if_neg h,if_neg (fun q=>q h1),if_neg (fun q=>q h2)]
theorem Rg{k:Nat}{l:Lt}(h:l.to<0∨(k:Int)≤l.to):Fe k l=3:=if_pos h
theorem Wc{k:Nat}{l:Lt}(h:¬(l.to<0∨(k:Int)≤l.to)):Fe k l=(J3 l.tx).2:=if_neg h
end Pl
instance:FlatRow Lt.row:=⟨fun x u hu=>by simp[Lt.row]at hu;rcases hu with rfl|rfl<;>exact⟨_,rfl⟩⟩
theorem Ug{n:Nd}:∀u∈n.row,Cl u:=by
 intro u hu;simp only[Nd.row,XC,XD,or_false]at hu;rcases hu with rfl|rfl|rfl|rfl|rfl|rfl|rfl|rfl|rfl|rfl|rfl|rfl
 all_goals first|exact(Af9 _).cl|exact C9
theorem Q7{l:List Nd}:∀row∈l.map Nd.row,∀u∈row,Cl u:=by
 intro row hr;obtain⟨n,_,rfl⟩:=XO.1 hr;exact Ug
theorem Ic{c:Bool}{l:List Nd}:Cl (.sl c (l.map Nd.row)):=Xu Q7
theorem Sc{n:Nt}:Cl (.agg n.row):=Lr fun u hu=>by
 simp only[Nt.row,XC,XD,or_false]at hu;rcases hu with rfl|rfl
 ·exact Ic
 ·exact C9
abbrev pwT:TypeId:=252
theorem Aq0:Ap7 pwT:=⟨by kernel_rfl,by decide⟩
def Abu(n:Int):List V:=[.v (.int .i64 n)]
instance:FlatRow Abu:=⟨fun x u hu=>by simp[Abu]at hu;exact⟨_,hu⟩⟩
def tRw(s:ByteArray):List V:=[.v (.string s)]
instance:FlatRow tRw:=⟨fun x u hu=>by simp[tRw]at hu;exact⟨_,hu⟩⟩
namespace Pl
def A6(ns:List Int):List UInt8:=ns.flatMap Ey
def B7(l:List ByteArray):List UInt8:=l.flatMap Nx
theorem Hs{α:Type}{f:α→List UInt8}{l:List α}{k:Nat}(hk:k<l.length):(l.take (k+1)).flatMap f=(l.take k).flatMap f++f l[k]:=by
 rw[XT,ZC hk,List.flatMap_append];simp
theorem Bs{n:Int}(h:isI n):(Ey n).length≤22:=by
 have:=Lib.itoa_length_le n h.1 h.2;unfold Ey;rw[ZF];simp only[ZJ,ZN];omega
theorem Eh{α:Type}{f:α→List UInt8}{m:Nat}:∀{l:List α},(∀x∈l,(f x).length≤m)→(l.flatMap f).length≤m*l.length
 |[],_=>by simp
 |x::l,h=>by
  have h1:=Eh (l:=l) fun y hy=>h y (ZL _ hy);have h2:=h x (XB ..);rw[List.flatMap_cons,ZF,ZJ,Nat.mul_add];omega
theorem Air(l:List UInt8):((⟨l.toArray⟩:ByteArray)++⟨#[59]⟩).data.toList=l++[59]:=by simp
end Pl
theorem Ce[Glob][Tabs](l:List UInt8)(c:Bool)(ns:List Int)(h:∀n∈ns,isI n)(hn:ns.length≤100)(hl:l.length≤100000000000):Hd Tryz.prog 222 [.mo (Dm pwT l) (Dm pwT (l++A6 ns)),.p (.c (.sl c (ns.map Abu)))] []:=by
 refine Us J7 rfl rfl (Uo rfl) ?_;(refine goI ?_;repeat (intro gg;refine goI ?_));rw[ZE];(refine⟨[],none,{k:Nat//k≤ns.length},[0,6,7],fun⟨k,hk⟩=>[(8,.v (.int .i64 k))],[],fun⟨k,hk⟩=>[(0,⟨0,.q (Dm pwT (l++A6 (ns.take k))),0,[]⟩)],fun⟨k,hk⟩=>ns.length-k,trivial,fun _=>⟨trivial,fun _=>⟨⟨0,by omega⟩,tI,Aj _ _,?_,Ak _ _⟩⟩,fun⟨k,hk⟩=>?_⟩;focus (exact⟨congrArg (fun r=>some (Ent.mk 0 (.q (Dm pwT r)) 0 [])) (show l=l++A6 (ns.take 0)by simp[A6]),trivial⟩));(refine goI ?_;repeat (intro gg;refine goI ?_));(refine Ab (fun h1=>?_) (fun h1=>?_)<;>rw[h1])
 ·have hlt:k<ns.length:=(by have:=ZV h1;omega);have hI:=h _ (ZK hlt);have hlen:(A6 (ns.take k)).length≤22*100:=by
   have h1:=Eh (f:=Ey) (m:=22) (l:=ns.take k) fun x hx=>Bs (h x (List.mem_of_mem_take hx));rw[ZM]at h1;have:min k ns.length≤100:=by omega
   exact XI h1 (Nat.mul_le_mul_left 22 this)
  have hsz:=Lib.itoa_length_le ns[k] hI.1 hI.2;have e:l++A6 (ns.take k)++(⟨(Lib.itoa ns[k]).toArray⟩++⟨#[59]⟩:ByteArray).data.toList=l++A6 (ns.take (k+1)):=by unfold A6;rw[Hs hlt,ZS,Air];rfl
  (refine goI ?_;repeat (intro gg;refine goI ?_));refine⟨k,_,rfl,Al hlt,?_⟩;(refine goI ?_;repeat (intro gg;refine goI ?_));(refine⟨_,_,false,aI,T8 ns[k] hI.1 hI.2,Am,nI,?_⟩);(refine goI ?_;repeat (intro gg;refine goI ?_));refine⟨by show(((Lib.itoa ns[k]).toArray.size+1:Nat):Int)≤_;rw[List.size_toArray];omega,?_⟩;(refine goI ?_;repeat (intro gg;refine goI ?_));(refine .inr (.inl ⟨_,_,false,[0],aM,Aad Aq0 (l++A6 (ns.take k)) (⟨(Lib.itoa ns[k]).toArray⟩++⟨#[59]⟩) (by rw[ZF];show _+_+((⟨(Lib.itoa ns[k]).toArray⟩++⟨#[59]⟩:ByteArray)).size≤_;rw[XP];show _+_+((Lib.itoa ns[k]).toArray.size+1)≤_;rw[List.size_toArray];omega),Am,oI,dI,?_⟩));(refine goI ?_;repeat (intro gg;refine goI ?_));(exact⟨none,trivial,fun gr=>⟨⟨k+1,by omega⟩,by show ns.length-(k+1)<ns.length-k;omega,tI,tI,⟨congrArg (fun r=>some (Ent.mk 0 (.q (Dm pwT r)) 0 [])) e,trivial⟩,tI⟩⟩)
 ·have hge:¬k<ns.length:=(by have:=ZW h1;omega);obtain rfl:k=ns.length:=by omega
  rw[show A6 ns=A6 (ns.take ns.length)by rw[XF]];(refine goI ?_;repeat (intro gg;refine goI ?_));(exact⟨[0],aM⟩)
theorem Lb[Glob][Tabs](l:List UInt8)(c:Bool)(ts:List ByteArray)(h:∀t∈ts,t.size≤100)(hn:ts.length≤10)(hl:l.length≤10000000000):Hd Tryz.prog 218 [.mo (Dm pwT l) (Dm pwT (l++B7 ts)),.p (.c (.sl c (ts.map tRw)))] []:=by
 refine Us Lh rfl rfl (Uo rfl) ?_;(refine goI ?_;repeat (intro gg;refine goI ?_));rw[ZE];(refine⟨[],none,{k:Nat//k≤ts.length},[0,6,7],fun⟨k,hk⟩=>[(8,.v (.int .i64 k))],[],fun⟨k,hk⟩=>[(0,⟨0,.q (Dm pwT (l++B7 (ts.take k))),0,[]⟩)],fun⟨k,hk⟩=>ts.length-k,trivial,fun _=>⟨trivial,fun _=>⟨⟨0,by omega⟩,tI,Aj _ _,?_,Ak _ _⟩⟩,fun⟨k,hk⟩=>?_⟩;focus (exact⟨congrArg (fun r=>some (Ent.mk 0 (.q (Dm pwT r)) 0 [])) (show l=l++B7 (ts.take 0)by simp[B7]),trivial⟩));(refine goI ?_;repeat (intro gg;refine goI ?_));(refine Ab (fun h1=>?_) (fun h1=>?_)<;>rw[h1])
 ·have hlt:k<ts.length:=(by have:=ZV h1;omega);have hz:=h _ (ZK hlt);have hI:isI (ts[k].size:Int):=⟨by omega,by omega⟩;have hlen:(B7 (ts.take k)).length≤122*10:=by
   have h1:=Eh (f:=Nx) (m:=122) (l:=ts.take k) fun x hx=>by
    have hx:=h x (List.mem_of_mem_take hx);have:=Bs (n:=(x.size:Int)) ⟨by omega,by omega⟩;unfold Nx;have hd:x.data.toList.length=x.size:=Array.length_toList;rw[ZF,hd];omega
   rw[ZM]at h1;have:min k ts.length≤10:=by omega
   exact XI h1 (Nat.mul_le_mul_left 122 this)
  have e:l++B7 (ts.take k)++A6 [(ts[k].size:Int)]++ts[k].data.toList=l++B7 (ts.take (k+1)):=by unfold B7;rw[Hs hlt];simp[A6,Nx]
  have hnl:=Bs hI;have hn1:(A6 [(ts[k].size:Int)]).length=(Ey (ts[k].size:Int)).length:=by simp[A6]
  (refine goI ?_;repeat (intro gg;refine goI ?_));refine⟨k,_,rfl,Al hlt,?_⟩;(refine goI ?_;repeat (intro gg;refine goI ?_));(refine .inr (.inl ⟨_,_,true,[0],aM,Ce (l++B7 (ts.take k)) false [(ts[k].size:Int)] (by simpa using hI) (by simp) (by rw[ZF];omega),(fun _=>Ec),oI,dI,?_⟩));(refine goI ?_;repeat (intro gg;refine goI ?_));(refine .inr (.inl ⟨_,_,false,[0],aM,Aad Aq0 (l++B7 (ts.take k)++A6 [(ts[k].size:Int)]) ts[k] (by rw[ZF,ZF,hn1];omega),Am,oI,dI,?_⟩));(refine goI ?_;repeat (intro gg;refine goI ?_));(exact⟨none,trivial,fun gr=>⟨⟨k+1,by omega⟩,by show ts.length-(k+1)<ts.length-k;omega,tI,tI,⟨congrArg (fun r=>some (Ent.mk 0 (.q (Dm pwT r)) 0 [])) e,trivial⟩,tI⟩⟩)
 ·have hge:¬k<ts.length:=(by have:=ZW h1;omega);obtain rfl:k=ts.length:=by omega
  rw[show B7 ts=B7 (ts.take ts.length)by rw[XF]];(refine goI ?_;repeat (intro gg;refine goI ?_));(exact⟨[0],aM⟩)
theorem Qc[Glob][Tabs](l:List UInt8)(b:Bool)(hl:l.length≤10000000000):Hd Tryz.prog 219 [.mo (Dm pwT l) (Dm pwT (l++Lu b)),.p (.c (.v (.bool b)))] []:=by
 refine Us Nf rfl rfl (Uo rfl) ?_;cases b
 ·rw[show l++Lu false=l++A6 [0]by simp[Lu,A6]];(refine goI ?_;repeat (intro gg;refine goI ?_));(refine .inr (.inl ⟨_,_,true,[0],aM,Ce l false [0] (by intro n hn;simp at hn;subst hn;exact⟨by decide,by decide⟩) (by simp) (by omega),(fun _=>Ec),oI,dI,?_⟩));(refine goI ?_;repeat (intro gg;refine goI ?_));(exact⟨[0],aM⟩)
 ·rw[show l++Lu true=l++A6 [1]by simp[Lu,A6]];(refine goI ?_;repeat (intro gg;refine goI ?_));(refine .inr (.inl ⟨_,_,true,[0],aM,Ce l false [1] (by intro n hn;simp at hn;subst hn;exact⟨by decide,by decide⟩) (by simp) (by omega),(fun _=>Ec),oI,dI,?_⟩));(refine goI ?_;repeat (intro gg;refine goI ?_));(exact⟨[0],aM⟩)
theorem Alq:Aar pwT [.v (.pointer none),.v (.slice none 0 0)] (Dm pwT []):=by
 intro w R b xs hown hrv;rcases hown.2 with⟨q,_⟩|⟨g,cap,cur,q,_,hg,hnc,hcm,hcs,htake⟩
 ·cases q
 ·injection q with q1 q2 q3;injection q1 with q1
  injection q1 with q1;subst q1 q3;have hl:cur.toList.length=2:=by simpa using hcs
  have hx:cur.toList=xs:=by rw[←htake,List.take_of_length_le (by rw[hl];exact ZT _)]
  match xs,hx with
  |[x0,x1],hx=>
   have e0:x0=.pointer none:=B8 (hrv 0 _ x0 rfl rfl);have e1:x1=.slice none 0 0:=B8 (hrv 1 _ x1 rfl rfl);subst e0 e1;have hc:cur= #[.pointer none,.slice none 0 0]:=by apply Array.ext';rw[hx]
   subst hc;exact⟨b,.slice none 0 0,rfl,⟨⟨_,.inl rfl,hg⟩,World.ownsRow_nil _ _ _ _,by simp[Value.ownBlock]⟩,fun k=>by simp[Value.ownBlock]⟩
  |[],hx=>rw[hx]at hl;simp at hl
  |[_],hx=>rw[hx]at hl;simp at hl
  |_::_::_::_,hx=>rw[hx]at hl;simp at hl
namespace Pl
theorem Cu{t:ByteArray}(h:t.size≤30):(Nx t).length≤52:=by
 have:=Bs (n:=(t.size:Int)) ⟨by omega,by omega⟩;have hd:t.data.toList.length=t.size:=Array.length_toList;unfold Nx;rw[ZF,hd];omega
theorem Gy(b:Bool):(Lu b).length≤22:=Bs (by cases b<;>exact⟨by decide,by decide⟩)
theorem Mb.lenB{m:Mb}(h:Mb.Sm m):(mbB m).length≤140:=by
 obtain⟨h1,h2,h3,h4⟩:=h;have a1:=Cu h1;have a2:=Bs (n:=m.st) ⟨by omega,by omega⟩;have a3:=Bs (n:=m.lf) ⟨by omega,by omega⟩;have a4:=Bs (n:=m.ad) ⟨by omega,by omega⟩;have a5:=Gy m.sv;unfold mbB;simp only[ZF];omega
theorem Sv.lenB{x:Sv}(h:Sv.Sm x):(svB x).length≤318:=by
 obtain⟨h1,h2,h3,h4,h5,h6,h7⟩:=h;have a1:=Cu h1;have a2:=Cu h2;have a3:=Cu h3;have a4:=Cu h4;have b2:=Bs (n:=x.ad) ⟨by omega,by omega⟩;have b3:=Bs (n:=x.pt) ⟨by omega,by omega⟩;have b4:=Bs (n:=x.vs) ⟨by omega,by omega⟩;have a5:=Gy x.ps;have a6:=Gy x.gn;unfold svB;simp only[ZF];omega
theorem Gw.lenB{g:Gw}(h:Gw.Sm g):(gwB g).length≤96:=by
 obtain⟨h1,h2,h3⟩:=h;have a1:=Cu h1;have b2:=Bs (n:=g.a) ⟨by omega,by omega⟩;have b3:=Bs (n:=g.v) ⟨by omega,by omega⟩;unfold gwB;simp only[ZF];omega
theorem Wh.lenB{w:Wh}(h:Wh.Sm w):(whB w).length≤162:=by
 obtain⟨h1,h2,h3,h4,h5,h6⟩:=h;have a1:=Cu h1;have b2:=Bs (n:=w.pl.x) ⟨by omega,by omega⟩;have b3:=Bs (n:=w.pl.y) ⟨by omega,by omega⟩;have b4:=Bs (n:=w.pl.z) ⟨by omega,by omega⟩;have b5:=Bs (n:=w.pl.h) ⟨by omega,by omega⟩;have b6:=Bs (n:=w.pl.s) ⟨by omega,by omega⟩;unfold whB;simp only[ZF];omega
theorem Gj{α:Type}{f:α→List UInt8}{m n:Nat}{l:List α}(h:∀x∈l,(f x).length≤m)(hl:l.length≤n)(k:Nat):((l.take k).flatMap f).length≤m*n:=by
 have h1:=Eh (f:=f) (m:=m) (l:=l.take k) fun x hx=>h x (List.mem_of_mem_take hx);rw[ZM]at h1;exact XI h1 (Nat.mul_le_mul_left m (by omega))
theorem Ef{ns:List Int}{k:Nat}(h:∀n∈ns,isI n)(hk:ns.length≤k):(A6 ns).length≤22*k:=by
 have h1:=Eh (f:=Ey) (m:=22) (l:=ns) fun x hx=>Bs (h x hx);exact XI h1 (Nat.mul_le_mul_left 22 hk)
end Pl
set_option maxHeartbeats 4000000 in
theorem Afu[Glob][Tabs](p:Pk)(h:Pk.Sm p):Fun Tryz.prog 188 [.c (.agg p.row)] [.c (.v (.string (bA (pkB p))))]:=by
 obtain⟨fr,wo,ms,sv,gs,wh⟩:=p;obtain⟨h1,h2,h3,h4,h5,h6,h7,h8,h9⟩:=h;simp only at h1 h2 h3 h4 h5 h6 h7 h8 h9;show Fun _ _ [.c (.agg [.v (.string fr),.v (.bool wo),.sl false (ms.map Mb.row),.sl false (sv.map Sv.row),.sl false (gs.map Gw.row),.sl false (wh.map Wh.row)])] _;have t1:∀t∈[fr],t.size≤100:=fun t ht=>by simp at ht;subst ht;omega
 have k1:(B7 [fr]).length≤52:=by simpa[B7]using Cu h1
 have k2:=Gy wo;obtain⟨A0,hA0⟩:∃A,A=[]++B7 [fr]++Lu wo:=⟨_,rfl⟩;have l0:A0.length≤100:=by rw[hA0];simp only[ZF,ZN];omega
 have hY:Hd Tryz.prog 219 [.mo (Dm pwT ([]++B7 [fr])) (Dm pwT A0),.p (.c (.v (.bool wo)))] []:=by
  rw[hA0];exact Qc _ wo (by simp only[ZF,ZN];omega)
 have hN0:Hd Tryz.prog 222 [.mo (Dm pwT (A0)) (Dm pwT (A0++A6 [(ms.length:Int)])),.p (.c (.sl false ([(ms.length:Int)].map Abu)))] []:=by
  exact Ce A0 false [(ms.length:Int)] (by intro n hn;simp at hn;subst hn;exact⟨by omega,by omega⟩) (by simp) (by omega)
 have n0:(A6 [(ms.length:Int)]).length≤22*1:=Ef (by intro n hn;simp at hn;subst hn;exact⟨by omega,by omega⟩) (by simp);obtain⟨A1,hA1⟩:∃A,A=A0++A6 [(ms.length:Int)]++(ms.take ms.length).flatMap mbB:=⟨_,rfl⟩;have l1:A1.length≤2922:=by
  have n2:=Gj (f:=mbB) (m:=140) (n:=20) (l:=ms) (fun x hx=>Mb.lenB (h3 x hx)) h2 ms.length;rw[hA1];simp only[ZF];omega
 have hN1:Hd Tryz.prog 222 [.mo (Dm pwT (A0++A6 [(ms.length:Int)]++(ms.take ms.length).flatMap mbB)) (Dm pwT (A1++A6 [(sv.length:Int)])),.p (.c (.sl false ([(sv.length:Int)].map Abu)))] []:=by
  rw[←hA1];exact Ce A1 false [(sv.length:Int)] (by intro n hn;simp at hn;subst hn;exact⟨by omega,by omega⟩) (by simp) (by omega)
 have n1:(A6 [(sv.length:Int)]).length≤22*1:=Ef (by intro n hn;simp at hn;subst hn;exact⟨by omega,by omega⟩) (by simp);obtain⟨A2,hA2⟩:∃A,A=A1++A6 [(sv.length:Int)]++(sv.take sv.length).flatMap svB:=⟨_,rfl⟩;have l2:A2.length≤15664:=by
  have n2:=Gj (f:=svB) (m:=318) (n:=40) (l:=sv) (fun x hx=>Sv.lenB (h5 x hx)) h4 sv.length;rw[hA2];simp only[ZF];omega
 have hN2:Hd Tryz.prog 222 [.mo (Dm pwT (A1++A6 [(sv.length:Int)]++(sv.take sv.length).flatMap svB)) (Dm pwT (A2++A6 [(gs.length:Int)])),.p (.c (.sl false ([(gs.length:Int)].map Abu)))] []:=by
  rw[←hA2];exact Ce A2 false [(gs.length:Int)] (by intro n hn;simp at hn;subst hn;exact⟨by omega,by omega⟩) (by simp) (by omega)
 have n2:(A6 [(gs.length:Int)]).length≤22*1:=Ef (by intro n hn;simp at hn;subst hn;exact⟨by omega,by omega⟩) (by simp);obtain⟨A3,hA3⟩:∃A,A=A2++A6 [(gs.length:Int)]++(gs.take gs.length).flatMap gwB:=⟨_,rfl⟩;have l3:A3.length≤16262:=by
  have n2:=Gj (f:=gwB) (m:=96) (n:=6) (l:=gs) (fun x hx=>Gw.lenB (h7 x hx)) h6 gs.length;rw[hA3];simp only[ZF];omega
 have hN3:Hd Tryz.prog 222 [.mo (Dm pwT (A2++A6 [(gs.length:Int)]++(gs.take gs.length).flatMap gwB)) (Dm pwT (A3++A6 [(wh.length:Int)])),.p (.c (.sl false ([(wh.length:Int)].map Abu)))] []:=by
  rw[←hA3];exact Ce A3 false [(wh.length:Int)] (by intro n hn;simp at hn;subst hn;exact⟨by omega,by omega⟩) (by simp) (by omega)
 have n3:(A6 [(wh.length:Int)]).length≤22*1:=Ef (by intro n hn;simp at hn;subst hn;exact⟨by omega,by omega⟩) (by simp);have eP:bA (pkB ⟨fr,wo,ms,sv,gs,wh⟩)=⟨(A3++A6 [(wh.length:Int)]++(wh.take wh.length).flatMap whB).toArray⟩:=by
  rw[hA3,hA2,hA1,hA0];simp only[XF];simp[bA,pkB,B7,A6,Zd]
 rw[eP];refine A9 Tk rfl ?_;(refine goI ?_;repeat (intro gg;refine goI ?_));refine .inr (.inl ⟨_,_,true,[80],Apt rfl (Ke rfl) Alq (by decide) (by decide) aM,Lb [] false [fr] t1 (by simp) (by simp),(fun _=>Ec),oI,dI,?_⟩);(refine goI ?_;repeat (intro gg;refine goI ?_));rename_i g1 gw g3;(refine .inr (.inl ⟨_,_,false,[80],aM,hY,Am,oI,dI,?_⟩));(refine goI ?_;repeat (intro gg;refine goI ?_));refine .inr (.inr (.inr (G8 1000 Jd rfl ?_)));(refine goI ?_;repeat (intro gg;refine goI ?_));rw[ZE];(refine .inr (.inl ⟨_,_,true,[80],aM,hN0,(fun _=>Ec),oI,dI,?_⟩));(refine goI ?_;repeat (intro gg;refine goI ?_))
 try rw[ZE]
 (refine⟨[],none,{k:Nat//k≤ms.length},[0,1,2,13,14],fun⟨k,hk⟩=>[(15,.v (.int .i64 k))],[16,48],fun⟨k,hk⟩=>[(80,⟨g1,.q (Dm pwT (A0++A6 [(ms.length:Int)]++(ms.take k).flatMap mbB)),0,[]⟩)],fun⟨k,hk⟩=>ms.length-k,trivial,fun _=>⟨trivial,fun _=>⟨⟨0,by omega⟩,tI,Aj _ _,?_,Ak _ _⟩⟩,fun⟨k,hk⟩=>?_⟩;focus (exact⟨congrArg (fun r=>some (Ent.mk g1 (.q (Dm pwT r)) 0 [])) (by simp),trivial⟩));(refine goI ?_;repeat (intro gg;refine goI ?_));(refine Ab (fun q0=>?_) (fun q0=>?_)<;>rw[q0])
 ·have hlt:k<ms.length:=(by have:=ZV q0;omega);have hm:=h3 _ (ZK hlt);have n2:=Gj (f:=mbB) (m:=140) (n:=20) (l:=ms) (fun x hx=>Mb.lenB (h3 x hx)) h2 k;(refine goI ?_;repeat (intro gg;refine goI ?_));refine⟨k,_,rfl,Al hlt,?_⟩;(refine goI ?_;repeat (intro gg;refine goI ?_));refine .inr (.inr (.inr (G8 2000 Qv rfl ?_)));(refine goI ?_;repeat (intro gg;refine goI ?_));have c0:(B7 [ms[k].n]).length≤52:=by
   have z0:=Cu hm.n;simp only[B7,List.flatMap_cons,List.flatMap_nil,List.append_nil,ZF];omega
  (refine .inr (.inl ⟨_,_,true,[80],aM,Lb (A0++A6 [(ms.length:Int)]++(ms.take k).flatMap mbB) false [ms[k].n] (by intro t ht;simp at ht;subst ht;first|exact XI hm.n (by decide)|exact XI hm.c (by decide)|exact XI hm.nd (by decide)) (by simp) (by simp only[ZF];omega),(fun _=>Ec),oI,dI,?_⟩));(refine goI ?_;repeat (intro gg;refine goI ?_));have c1:(A6 [ms[k].st,ms[k].lf,ms[k].ad]).length≤22*3:=Ef (by intro n hn;simp at hn;cases hm;rcases hn with rfl|rfl|rfl<;>exact⟨by omega,by omega⟩) (by simp);(refine .inr (.inl ⟨_,_,true,[80],aM,Ce (A0++A6 [(ms.length:Int)]++(ms.take k).flatMap mbB++B7 [ms[k].n]) false [ms[k].st,ms[k].lf,ms[k].ad] (by intro n hn;simp at hn;cases hm;rcases hn with rfl|rfl|rfl<;>exact⟨by omega,by omega⟩) (by simp) (by simp only[ZF];omega),(fun _=>Ec),oI,dI,?_⟩));(refine goI ?_;repeat (intro gg;refine goI ?_));have c2:=Gy ms[k].sv;(refine .inr (.inl ⟨_,_,false,[80],aM,Qc (A0++A6 [(ms.length:Int)]++(ms.take k).flatMap mbB++B7 [ms[k].n]++A6 [ms[k].st,ms[k].lf,ms[k].ad]) ms[k].sv (by simp only[ZF];omega),Am,oI,dI,?_⟩));(refine goI ?_;repeat (intro gg;refine goI ?_));have e2:A0++A6 [(ms.length:Int)]++(ms.take k).flatMap mbB++B7 [ms[k].n]++A6 [ms[k].st,ms[k].lf,ms[k].ad]++Lu ms[k].sv=A0++A6 [(ms.length:Int)]++(ms.take (k+1)).flatMap mbB:=by rw[Hs hlt];simp[mbB,B7,A6]
  (exact⟨none,trivial,fun gr=>⟨⟨k+1,by omega⟩,by show ms.length-(k+1)<ms.length-k;omega,tI,tI,⟨congrArg (fun r=>some (Ent.mk g1 (.q (Dm pwT r)) 0 [])) e2,trivial⟩,tI⟩⟩)
 ·have hge:¬k<ms.length:=(by have:=ZW q0;omega);obtain rfl:k=ms.length:=by omega
  (refine goI ?_;repeat (intro gg;refine goI ?_));refine .inr (.inr (.inr (G8 3000 Ih rfl ?_)));(refine goI ?_;repeat (intro gg;refine goI ?_));rw[ZE];(refine .inr (.inl ⟨_,_,true,[80],aM,hN1,(fun _=>Ec),oI,dI,?_⟩));(refine goI ?_;repeat (intro gg;refine goI ?_))
  try rw[ZE]
  (refine⟨[],none,{k:Nat//k≤sv.length},[0,1,2,13,14],fun⟨k,hk⟩=>[(15,.v (.int .i64 k))],[16,48],fun⟨k,hk⟩=>[(80,⟨g1,.q (Dm pwT (A1++A6 [(sv.length:Int)]++(sv.take k).flatMap svB)),0,[]⟩)],fun⟨k,hk⟩=>sv.length-k,trivial,fun _=>⟨trivial,fun _=>⟨⟨0,by omega⟩,tI,Aj _ _,?_,Ak _ _⟩⟩,fun⟨k,hk⟩=>?_⟩;focus (exact⟨congrArg (fun r=>some (Ent.mk g1 (.q (Dm pwT r)) 0 [])) (by simp),trivial⟩));(refine goI ?_;repeat (intro gg;refine goI ?_));(refine Ab (fun q1=>?_) (fun q1=>?_)<;>rw[q1])
  ·have hlt:k<sv.length:=(by have:=ZV q1;omega);have hm:=h5 _ (ZK hlt);have n2:=Gj (f:=svB) (m:=318) (n:=40) (l:=sv) (fun x hx=>Sv.lenB (h5 x hx)) h4 k;(refine goI ?_;repeat (intro gg;refine goI ?_));refine⟨k,_,rfl,Al hlt,?_⟩;(refine goI ?_;repeat (intro gg;refine goI ?_));refine .inr (.inr (.inr (G8 4000 Qa rfl ?_)));(refine goI ?_;repeat (intro gg;refine goI ?_));have c0:(B7 [sv[k].nd,sv[k].id,sv[k].nm,sv[k].tg]).length≤208:=by
    have z0:=Cu hm.nd;have z1:=Cu hm.id;have z2:=Cu hm.nm;have z3:=Cu hm.tg;simp only[B7,List.flatMap_cons,List.flatMap_nil,List.append_nil,ZF];omega
   (refine .inr (.inl ⟨_,_,true,[80],aM,Lb (A1++A6 [(sv.length:Int)]++(sv.take k).flatMap svB) false [sv[k].nd,sv[k].id,sv[k].nm,sv[k].tg] (by intro t ht;simp at ht;rcases ht with rfl|rfl|rfl|rfl<;>(first|exact XI hm.nd (by decide)|exact XI hm.id (by decide)|exact XI hm.nm (by decide)|exact XI hm.tg (by decide))) (by simp) (by simp only[ZF];omega),(fun _=>Ec),oI,dI,?_⟩));(refine goI ?_;repeat (intro gg;refine goI ?_));have c1:(A6 [sv[k].ad,sv[k].pt]).length≤22*2:=Ef (by intro n hn;simp at hn;cases hm;rcases hn with rfl|rfl<;>exact⟨by omega,by omega⟩) (by simp);(refine .inr (.inl ⟨_,_,true,[80],aM,Ce (A1++A6 [(sv.length:Int)]++(sv.take k).flatMap svB++B7 [sv[k].nd,sv[k].id,sv[k].nm,sv[k].tg]) false [sv[k].ad,sv[k].pt] (by intro n hn;simp at hn;cases hm;rcases hn with rfl|rfl<;>exact⟨by omega,by omega⟩) (by simp) (by simp only[ZF];omega),(fun _=>Ec),oI,dI,?_⟩));(refine goI ?_;repeat (intro gg;refine goI ?_));have c2:=Gy sv[k].ps;(refine .inr (.inl ⟨_,_,false,[80],aM,Qc (A1++A6 [(sv.length:Int)]++(sv.take k).flatMap svB++B7 [sv[k].nd,sv[k].id,sv[k].nm,sv[k].tg]++A6 [sv[k].ad,sv[k].pt]) sv[k].ps (by simp only[ZF];omega),Am,oI,dI,?_⟩));(refine goI ?_;repeat (intro gg;refine goI ?_));have c3:(A6 [sv[k].vs]).length≤22*1:=Ef (by intro n hn;simp at hn;cases hm;subst hn<;>exact⟨by omega,by omega⟩) (by simp);(refine .inr (.inl ⟨_,_,true,[80],aM,Ce (A1++A6 [(sv.length:Int)]++(sv.take k).flatMap svB++B7 [sv[k].nd,sv[k].id,sv[k].nm,sv[k].tg]++A6 [sv[k].ad,sv[k].pt]++Lu sv[k].ps) false [sv[k].vs] (by intro n hn;simp at hn;cases hm;subst hn<;>exact⟨by omega,by omega⟩) (by simp) (by simp only[ZF];omega),(fun _=>Ec),oI,dI,?_⟩));(refine goI ?_;repeat (intro gg;refine goI ?_));have c4:=Gy sv[k].gn;(refine .inr (.inl ⟨_,_,false,[80],aM,Qc (A1++A6 [(sv.length:Int)]++(sv.take k).flatMap svB++B7 [sv[k].nd,sv[k].id,sv[k].nm,sv[k].tg]++A6 [sv[k].ad,sv[k].pt]++Lu sv[k].ps++A6 [sv[k].vs]) sv[k].gn (by simp only[ZF];omega),Am,oI,dI,?_⟩));(refine goI ?_;repeat (intro gg;refine goI ?_));have e2:A1++A6 [(sv.length:Int)]++(sv.take k).flatMap svB++B7 [sv[k].nd,sv[k].id,sv[k].nm,sv[k].tg]++A6 [sv[k].ad,sv[k].pt]++Lu sv[k].ps++A6 [sv[k].vs]++Lu sv[k].gn=A1++A6 [(sv.length:Int)]++(sv.take (k+1)).flatMap svB:=by rw[Hs hlt];simp[svB,B7,A6]
   (exact⟨none,trivial,fun gr=>⟨⟨k+1,by omega⟩,by show sv.length-(k+1)<sv.length-k;omega,tI,tI,⟨congrArg (fun r=>some (Ent.mk g1 (.q (Dm pwT r)) 0 [])) e2,trivial⟩,tI⟩⟩)
  ·have hge:¬k<sv.length:=(by have:=ZW q1;omega);obtain rfl:k=sv.length:=by omega
   (refine goI ?_;repeat (intro gg;refine goI ?_));refine .inr (.inr (.inr (G8 5000 H3 rfl ?_)));(refine goI ?_;repeat (intro gg;refine goI ?_));rw[ZE];(refine .inr (.inl ⟨_,_,true,[80],aM,hN2,(fun _=>Ec),oI,dI,?_⟩));(refine goI ?_;repeat (intro gg;refine goI ?_))
   try rw[ZE]
   (refine⟨[],none,{k:Nat//k≤gs.length},[0,1,2,13,14],fun⟨k,hk⟩=>[(15,.v (.int .i64 k))],[16,48],fun⟨k,hk⟩=>[(80,⟨g1,.q (Dm pwT (A2++A6 [(gs.length:Int)]++(gs.take k).flatMap gwB)),0,[]⟩)],fun⟨k,hk⟩=>gs.length-k,trivial,fun _=>⟨trivial,fun _=>⟨⟨0,by omega⟩,tI,Aj _ _,?_,Ak _ _⟩⟩,fun⟨k,hk⟩=>?_⟩;focus (exact⟨congrArg (fun r=>some (Ent.mk g1 (.q (Dm pwT r)) 0 [])) (by simp),trivial⟩));(refine goI ?_;repeat (intro gg;refine goI ?_));(refine Ab (fun q2=>?_) (fun q2=>?_)<;>rw[q2])
   ·have hlt:k<gs.length:=(by have:=ZV q2;omega);have hm:=h7 _ (ZK hlt);have n2:=Gj (f:=gwB) (m:=96) (n:=6) (l:=gs) (fun x hx=>Gw.lenB (h7 x hx)) h6 k;(refine goI ?_;repeat (intro gg;refine goI ?_));refine⟨k,_,rfl,Al hlt,?_⟩;(refine goI ?_;repeat (intro gg;refine goI ?_));refine .inr (.inr (.inr (G8 6000 Pt rfl ?_)));(refine goI ?_;repeat (intro gg;refine goI ?_));have c0:(B7 [gs[k].c]).length≤52:=by
     have z0:=Cu hm.c;simp only[B7,List.flatMap_cons,List.flatMap_nil,List.append_nil,ZF];omega
    (refine .inr (.inl ⟨_,_,true,[80],aM,Lb (A2++A6 [(gs.length:Int)]++(gs.take k).flatMap gwB) false [gs[k].c] (by intro t ht;simp at ht;subst ht;first|exact XI hm.n (by decide)|exact XI hm.c (by decide)|exact XI hm.nd (by decide)) (by simp) (by simp only[ZF];omega),(fun _=>Ec),oI,dI,?_⟩));(refine goI ?_;repeat (intro gg;refine goI ?_));have c1:(A6 [gs[k].a,gs[k].v]).length≤22*2:=Ef (by intro n hn;simp at hn;cases hm;rcases hn with rfl|rfl<;>exact⟨by omega,by omega⟩) (by simp);(refine .inr (.inl ⟨_,_,true,[80],aM,Ce (A2++A6 [(gs.length:Int)]++(gs.take k).flatMap gwB++B7 [gs[k].c]) false [gs[k].a,gs[k].v] (by intro n hn;simp at hn;cases hm;rcases hn with rfl|rfl<;>exact⟨by omega,by omega⟩) (by simp) (by simp only[ZF];omega),(fun _=>Ec),oI,dI,?_⟩));(refine goI ?_;repeat (intro gg;refine goI ?_));have e2:A2++A6 [(gs.length:Int)]++(gs.take k).flatMap gwB++B7 [gs[k].c]++A6 [gs[k].a,gs[k].v]=A2++A6 [(gs.length:Int)]++(gs.take (k+1)).flatMap gwB:=by rw[Hs hlt];simp[gwB,B7,A6]
    (exact⟨none,trivial,fun gr=>⟨⟨k+1,by omega⟩,by show gs.length-(k+1)<gs.length-k;omega,tI,tI,⟨congrArg (fun r=>some (Ent.mk g1 (.q (Dm pwT r)) 0 [])) e2,trivial⟩,tI⟩⟩)
   ·have hge:¬k<gs.length:=(by have:=ZW q2;omega);obtain rfl:k=gs.length:=by omega
    (refine goI ?_;repeat (intro gg;refine goI ?_));refine .inr (.inr (.inr (G8 7000 Ka rfl ?_)));(refine goI ?_;repeat (intro gg;refine goI ?_));rw[ZE];(refine .inr (.inl ⟨_,_,true,[80],aM,hN3,(fun _=>Ec),oI,dI,?_⟩));(refine goI ?_;repeat (intro gg;refine goI ?_))
    try rw[ZE]
    (refine⟨[],none,{k:Nat//k≤wh.length},[0,1,2,13,14],fun⟨k,hk⟩=>[(15,.v (.int .i64 k))],[16,48],fun⟨k,hk⟩=>[(80,⟨g1,.q (Dm pwT (A3++A6 [(wh.length:Int)]++(wh.take k).flatMap whB)),0,[]⟩)],fun⟨k,hk⟩=>wh.length-k,trivial,fun _=>⟨trivial,fun _=>⟨⟨0,by omega⟩,tI,Aj _ _,?_,Ak _ _⟩⟩,fun⟨k,hk⟩=>?_⟩;focus (exact⟨congrArg (fun r=>some (Ent.mk g1 (.q (Dm pwT r)) 0 [])) (by simp),trivial⟩));(refine goI ?_;repeat (intro gg;refine goI ?_));(refine Ab (fun q3=>?_) (fun q3=>?_)<;>rw[q3])
    ·have hlt:k<wh.length:=(by have:=ZV q3;omega);have hm:=h9 _ (ZK hlt);have n2:=Gj (f:=whB) (m:=162) (n:=20) (l:=wh) (fun x hx=>Wh.lenB (h9 x hx)) h8 k;(refine goI ?_;repeat (intro gg;refine goI ?_));refine⟨k,_,rfl,Al hlt,?_⟩;(refine goI ?_;repeat (intro gg;refine goI ?_));refine .inr (.inr (.inr (G8 8000 Pr rfl ?_)));(refine goI ?_;repeat (intro gg;refine goI ?_));have c0:(B7 [wh[k].nd]).length≤52:=by
      have z0:=Cu hm.nd;simp only[B7,List.flatMap_cons,List.flatMap_nil,List.append_nil,ZF];omega
     (refine .inr (.inl ⟨_,_,true,[80],aM,Lb (A3++A6 [(wh.length:Int)]++(wh.take k).flatMap whB) false [wh[k].nd] (by intro t ht;simp at ht;subst ht;first|exact XI hm.n (by decide)|exact XI hm.c (by decide)|exact XI hm.nd (by decide)) (by simp) (by simp only[ZF];omega),(fun _=>Ec),oI,dI,?_⟩));(refine goI ?_;repeat (intro gg;refine goI ?_));have c1:(A6 [wh[k].pl.x,wh[k].pl.y,wh[k].pl.z,wh[k].pl.h,wh[k].pl.s]).length≤22*5:=Ef (by intro n hn;simp at hn;cases hm;rcases hn with rfl|rfl|rfl|rfl|rfl<;>exact⟨by omega,by omega⟩) (by simp);(refine .inr (.inl ⟨_,_,true,[80],aM,Ce (A3++A6 [(wh.length:Int)]++(wh.take k).flatMap whB++B7 [wh[k].nd]) false [wh[k].pl.x,wh[k].pl.y,wh[k].pl.z,wh[k].pl.h,wh[k].pl.s] (by intro n hn;simp at hn;cases hm;rcases hn with rfl|rfl|rfl|rfl|rfl<;>exact⟨by omega,by omega⟩) (by simp) (by simp only[ZF];omega),(fun _=>Ec),oI,dI,?_⟩));(refine goI ?_;repeat (intro gg;refine goI ?_));have e2:A3++A6 [(wh.length:Int)]++(wh.take k).flatMap whB++B7 [wh[k].nd]++A6 [wh[k].pl.x,wh[k].pl.y,wh[k].pl.z,wh[k].pl.h,wh[k].pl.s]=A3++A6 [(wh.length:Int)]++(wh.take (k+1)).flatMap whB:=by rw[Hs hlt];simp[whB,B7,A6]
     (exact⟨none,trivial,fun gr=>⟨⟨k+1,by omega⟩,by show wh.length-(k+1)<wh.length-k;omega,tI,tI,⟨congrArg (fun r=>some (Ent.mk g1 (.q (Dm pwT r)) 0 [])) e2,trivial⟩,tI⟩⟩)
    ·have hge:¬k<wh.length:=(by have:=ZW q3;omega);obtain rfl:k=wh.length:=by omega
     (refine goI ?_;repeat (intro gg;refine goI ?_));(refine .inr (.inl ⟨_,_,false,[80],aM,Aau (T:=pwT) (A3++A6 [(wh.length:Int)]++(wh.take wh.length).flatMap whB) (by intro q;have:=congrArg List.length q;simp[A6,Ey]at this),Am,oI,dI,?_⟩));(refine goI ?_;repeat (intro gg;refine goI ?_));(exact⟨[],aI⟩)
end Go.Proofs.YtchbkgnobpejnaaGreatDoor
