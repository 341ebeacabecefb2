/- Texts of this claim, joined. -/
import Derived.Test.YtkbjgdcdjccnaaaGreatDoorRows
import Derived.Lib.Walk
import Derived.Lib.SliceRun
import Derived.Lib.JoinLaws
import Derived.Lib.AppendZeros
import Derived.WalkSpells
import Derived.Shelf.SlSortCmp.NoneTotal
import Derived.Shelf.SlGeneric
import Derived.Test.YtkbjgdcdjccnaaaGreatDoorProg
import Derived.WalkKit
import Derived.Lib.Strings
import Derived.Lib.Slices
import Derived.Lib.Bytealg
import Derived.Shelf.Strings.OnBuilder
import Derived.Test.YtkbjgdcdjccnaaaGreatDoorVa
import Derived.Test.YtkbjgdcdjccnaaaGreatDoorVb
import Derived.Test.YtkbjgdcdjccnaaaGreatDoorVc
set_option linter.unusedSimpArgs false
set_option linter.unusedVariables false
namespace Go.Proofs.YtkbjgdcdjccnaaaGreatDoor
open Go.RowKit Pl
theorem O9(n a b:Int):Fun Tryz.prog 213 [.c (.v (.int .i64 n)),.c (.v (.int .i64 a)),.c (.v (.int .i64 b))] [.c (.v (.bool (wi n a b)))]:=by
 refine Av D6 rfl ?_;refine G0 ?_;(refine Aa (fun h=>?_) (fun h=>?_)<;>rw[h])
 ·refine G0 ?_;rw[Atz h];(exact⟨[],aI⟩)
 ·refine G0 ?_;rw[Au0 h];(exact⟨[],aI⟩)
theorem Ab1(n:Int):Fun Tryz.prog 212 [.c (.v (.int .i64 n))] [.c (.v (.bool (wi n (-10000000) 10000000)))]:=by
 refine Av F8 rfl ?_;refine G0 ?_;refine .inl (cX (O9 _ _ _) ?_);refine G1 ?_;intro gg;(exact⟨[],aI⟩)
theorem Au9{x y z h s:Int}(h1:wi x (-10000000) 10000000=true)(h2:wi y (-10000000) 10000000=true)(h3:wi z (-10000000) 10000000=true)(h4:wi h 0 1000000=true)(h5:wi s 0 1000=true):Al3 x y z h s=0:=by simp[Al3,Ah7,h1,h2,h3,h4,h5]
theorem Mi{x y z h s:Int}(h1:wi x (-10000000) 10000000=false∨wi y (-10000000) 10000000=false∨wi z (-10000000) 10000000=false∨wi h 0 1000000=false∨wi s 0 1000=false):Al3 x y z h s=3:=by
 rcases h1 with h|h|h|h|h<;>simp[Al3,Ah7,h]
theorem Il(p:Pc):Fun Tryz.prog 156 [.c (.agg p.row)] [.c (.v (.int .i64 p.err))]:=by
 refine Av P0 rfl ?_;refine G1 ?_;intro gg;refine .inl (cX (Ab1 _) ?_);refine G1 ?_;intro gg;(refine Aa (fun h1=>?_) (fun h1=>?_)<;>rw[h1])
 ·refine G0 ?_;rw[show p.err=3 from Mi (.inl (Dr h1))];(exact⟨[],aI⟩)
 ·refine G0 ?_;refine .inl (cX (Ab1 _) ?_);refine G1 ?_;intro gg;(refine Aa (fun h2=>?_) (fun h2=>?_)<;>rw[h2])
  ·refine G0 ?_;rw[show p.err=3 from Mi (.inr (.inl (Dr h2)))];(exact⟨[],aI⟩)
  ·refine G0 ?_;refine .inl (cX (Ab1 _) ?_);refine G1 ?_;intro gg;(refine Aa (fun h3=>?_) (fun h3=>?_)<;>rw[h3])
   ·refine G0 ?_;rw[show p.err=3 from Mi (.inr (.inr (.inl (Dr h3))))];(exact⟨[],aI⟩)
   ·refine G0 ?_;refine .inl (cX (O9 _ _ _) ?_);refine G1 ?_;intro gg;(refine Aa (fun h4=>?_) (fun h4=>?_)<;>rw[h4])
    ·refine G0 ?_;rw[show p.err=3 from Mi (.inr (.inr (.inr (.inl (Dr h4)))))];(exact⟨[],aI⟩)
    ·refine G0 ?_;refine .inl (cX (O9 _ _ _) ?_);refine G1 ?_;intro gg;(refine Aa (fun h5=>?_) (fun h5=>?_)<;>rw[h5])
     ·refine G0 ?_;rw[show p.err=3 from Mi (.inr (.inr (.inr (.inr (Dr h5)))))];(exact⟨[],aI⟩)
     ·refine G0 ?_;rw[show p.err=0 from Au9 (Ci h1) (Ci h2) (Ci h3) (Ci h4) (Ci h5)];(exact⟨[],aI⟩)
theorem Xf(p:Pc):Fun Tryz.prog 67 [.c (.agg p.row)] [.c (.v (.int .i64 p.err))]:=by
 refine Av Mc rfl ?_;refine G1 ?_;intro gg;refine .inl (cX (Cf _ _ _) ?_);refine G1 ?_;intro gg;(refine Aa (fun h1=>?_) (fun h1=>?_)<;>rw[h1])
 ·refine G0 ?_;rw[show p.err=3 from Mi (.inl (Dr h1))];(exact⟨[],aI⟩)
 ·refine G0 ?_;refine .inl (cX (Cf _ _ _) ?_);refine G1 ?_;intro gg;(refine Aa (fun h2=>?_) (fun h2=>?_)<;>rw[h2])
  ·refine G0 ?_;rw[show p.err=3 from Mi (.inr (.inl (Dr h2)))];(exact⟨[],aI⟩)
  ·refine G0 ?_;refine .inl (cX (Cf _ _ _) ?_);refine G1 ?_;intro gg;(refine Aa (fun h3=>?_) (fun h3=>?_)<;>rw[h3])
   ·refine G0 ?_;rw[show p.err=3 from Mi (.inr (.inr (.inl (Dr h3))))];(exact⟨[],aI⟩)
   ·refine G0 ?_;refine .inl (cX (Cf _ _ _) ?_);refine G1 ?_;intro gg;(refine Aa (fun h4=>?_) (fun h4=>?_)<;>rw[h4])
    ·refine G0 ?_;rw[show p.err=3 from Mi (.inr (.inr (.inr (.inl (Dr h4)))))];(exact⟨[],aI⟩)
    ·refine G0 ?_;refine .inl (cX (Cf _ _ _) ?_);refine G1 ?_;intro gg;(refine Aa (fun h5=>?_) (fun h5=>?_)<;>rw[h5])
     ·refine G0 ?_;rw[show p.err=3 from Mi (.inr (.inr (.inr (.inr (Dr h5)))))];(exact⟨[],aI⟩)
     ·refine G0 ?_;rw[show p.err=0 from Au9 (Ci h1) (Ci h2) (Ci h3) (Ci h4) (Ci h5)];(exact⟨[],aI⟩)
theorem Y9{n x:Int}(h:0≤n):n.tdiv x=n/x:=Int.tdiv_eq_ediv_of_nonneg h
theorem Arc(n:Int)(h0:0≤n)(hm:n≤9223372036854775807):Fun Tryz.prog 288 [.c (.v (.int .i64 n))] [.c (.v (.int .i64 (rt n)))]:=by
 refine Av Acb rfl ?_;refine G0 ?_;(refine Aa (fun h=>?_) (fun h=>?_)<;>rw[h])
 ·have h2:n<2:=by simpa using h
  have hr:rt n=n:=Av5 h0 (by rcases(by omega:n=0∨n=1)with rfl|rfl<;>decide) (by rcases(by omega:n=0∨n=1)with rfl|rfl<;>decide);refine G0 ?_;rw[hr];(exact⟨[],aI⟩)
 ·have h2:¬n<2:=by simpa using h
  refine G0 ?_;(refine⟨[],none,{k:Int//1≤k∧k≤6074000998},[0],fun⟨k,hk1,hk2⟩=>[(3,.v (.int .i64 k))],[],fun⟨k,hk1,hk2⟩=>[],fun⟨k,hk1,hk2⟩=>(12148001996-k).toNat,trivial,fun _=>⟨trivial,fun _=>⟨⟨1,by omega,by omega⟩,tI,An _ _,tI,Am _ _⟩⟩,fun⟨k,hk1,hk2⟩=>?_⟩);have hd:=It h0 hk1;have hq:n/k≤n:=Int.ediv_le_self _ h0;refine G0 ?_;refine⟨by omega,n/k,by rw[Y9 h0];exact Ed (by omega) (by omega),?_⟩;refine G0 ?_;(refine Aa (fun h3=>?_) (fun h3=>?_)<;>rw[h3])
  ·have hc:k≤n/k:=(by have:=ZV h3;omega);have hb:=Bd9 h0 hm hk1 hc;refine G0 ?_;(exact⟨none,trivial,fun _=>⟨⟨k*2,by omega,by omega⟩,by show(12148001996-k*2).toNat<(12148001996-k).toNat;omega,tI,tI,tI,tI⟩⟩)
  ·have hc:¬k≤n/k:=(by have:=ZW h3;omega);have hb:=Bb4 h0 hk1 (by omega);refine G0 ?_;(refine⟨[],none,{k:Int//1≤k∧k≤6074000998∧rt n≤k},[0],fun⟨x,hx1,hx2,hx3⟩=>[(3,.v (.int .i64 x))],[],fun⟨x,hx1,hx2,hx3⟩=>[],fun⟨x,hx1,hx2,hx3⟩=>x.toNat,trivial,fun _=>⟨trivial,fun _=>⟨⟨k,by omega,by omega,hb⟩,tI,An _ _,tI,Am _ _⟩⟩,fun⟨x,hx1,hx2,hx3⟩=>?_⟩);have q1:=It h0 hx1;have q2:=Azk (by omega) hx1 hx3;have q3:=Azd n h0 hm;have q4:=Aw7 h0 hx1;have q5:1≤rt n:=An7 (by omega) (by omega);have q6:=q1.1;clear q1;refine G0 ?_;refine⟨by omega,n/x,by rw[Y9 h0];exact Ed (by omega) (by omega),?_⟩;refine G0 ?_;refine⟨by omega,(x+n/x)/2,by rw[Y9 (by omega)];exact Ed (by omega) (by omega),?_⟩;refine G0 ?_;(refine Aa (fun h4=>?_) (fun h4=>?_)<;>rw[h4])
   ·have hc:x≤(x+n/x)/2:=(by have:=ZV h4;omega);refine G0 ?_;rw[show V.v (Value.int .i64 (rt n))=V.v (Value.int .i64 x)by rw[←Auq h0 hx1 hx3 hc]];(exact⟨[],aI⟩)
   ·have hc:¬x≤(x+n/x)/2:=(by have:=ZW h4;omega);refine G0 ?_;(exact⟨none,trivial,fun _=>⟨⟨(x+n/x)/2,by omega,by omega,by omega⟩,by show((x+n/x)/2).toNat<x.toNat;omega,tI,tI,tI,tI⟩⟩)
theorem Am9(c:Bool)(l:List Wh)(hl:l.length≤9223372036854775807)(hw:∀x∈l,x.ok):Fun Tryz.prog 157 [.c (.sl c (l.map Wh.row))] [.c (.v (.int .i64 (H9 l)))]:=by
 refine Av Np rfl ?_;refine G0 ?_;rw[ZE];(refine Aa (fun h1=>?_) (fun h1=>?_)<;>rw[h1])
 ·refine G0 ?_;have e:H9 l=2:=Jf (by have:=ZV h1;omega);rw[e];(exact⟨[],aI⟩)
 ·have h1':¬20<l.length:=(by have:=ZW h1;omega);refine G0 ?_;rw[ZE];(refine⟨[],none,{k:Nat//k≤l.length∧∀j,(h:j<l.length)→j<k→Wh.err l[j]=0},[0,10,11],fun⟨k,hk,h0⟩=>[(12,.v (.int .i64 k))],[],fun⟨k,hk,h0⟩=>[],fun⟨k,hk,h0⟩=>l.length-k,trivial,fun _=>⟨trivial,fun _=>⟨⟨0,ZU _,fun j _ h=>absurd h (Nat.not_lt_zero _)⟩,tI,An _ _,tI,Am _ _⟩⟩,fun⟨k,hk,h0⟩=>?_⟩);refine G0 ?_;(refine Aa (fun h2=>?_) (fun h2=>?_)<;>rw[h2])
  ·have hlt:k<l.length:=(by have:=ZV h2;omega);refine G0 ?_;refine⟨k,_,rfl,Ao hlt,?_⟩;refine G1 ?_;intro gg;have hx:=hw _ (ZK hlt);refine .inl (cX (Bu (l[k]).nd hx) ?_);refine G1 ?_;intro gg;have HE:=Bx (e:=Wh.err) hlt h0;(refine Aa (fun h3=>?_) (fun h3=>?_)<;>rw[h3])
   ·have h3':lab (l[k]).nd.data.toList=false:=Dr h3;refine G0 ?_;have e1:Wh.err l[k]=1:=by unfold Wh.err;rw[h3'];rfl
    have e:H9 l=1:=by unfold H9;rw[Gv h1' (by rw[HE (by rw[e1];decide),e1];decide),HE (by rw[e1];decide),e1]
    rw[e];(exact⟨[],aI⟩)
   ·have h3':lab (l[k]).nd.data.toList=true:=Ci h3;have e1:Wh.err l[k]=(l[k]).pl.err:=by unfold Wh.err;rw[h3'];rfl
    refine G0 ?_;refine .inl (cX (Il (l[k]).pl) ?_);refine G1 ?_;intro gg;(refine Aa (fun h4=>?_) (fun h4=>?_)<;>rw[h4])
    ·have h4':(l[k]).pl.err≠0:=by simpa using h4
     refine G0 ?_;have e:H9 l=(l[k]).pl.err:=by unfold H9;rw[Gv h1' (by rw[HE (by rw[e1];exact h4'),e1];exact h4'),HE (by rw[e1];exact h4'),e1]
     rw[e];(exact⟨[],aI⟩)
    ·have h4':(l[k]).pl.err=0:=by simpa using h4
     refine G0 ?_;(exact⟨none,trivial,fun _=>⟨⟨k+1,by omega,up1 (p:=fun j h=>Wh.err l[j]=0) h0 (fun _=>e1.trans h4')⟩,by show l.length-(k+1)<l.length-k;omega,tI,tI,tI,tI⟩⟩)
  ·have hge:¬k<l.length:=(by have:=ZW h2;omega);have h2':Aq Wh.err l=0:=Ba fun i hi=>h0 i hi (by omega);refine G0 ?_;(refine⟨[],none,{q:Nat//(q<l.length∨q=0)∧∀i,(h:i+1<l.length)→i<q→Wh.lt l[i] l[i+1]=true},[0],fun⟨q,hq,g0⟩=>[(6,.v (.int .i64 ((q:Int)+1)))],[],fun⟨q,hq,g0⟩=>[],fun⟨q,hq,g0⟩=>l.length-q,trivial,fun _=>⟨trivial,fun _=>⟨⟨0,by omega,fun j _ h=>by omega⟩,tI,An _ _,tI,Am _ _⟩⟩,fun⟨q,hq,g0⟩=>?_⟩);refine G0 ?_;rw[ZE];(refine Aa (fun h3=>?_) (fun h3=>?_)<;>rw[h3])
   ·have hlt3:q+1<l.length:=(by have:=ZV h3;omega);refine G0 ?_;refine⟨q+1,_,by omega,Ao hlt3,?_⟩;refine G0 ?_;refine⟨q,_,by omega,Ao (by omega),?_⟩;refine G0 ?_;rw[V4];(refine Aa (fun h4=>?_) (fun h4=>?_)<;>rw[h4])
    ·refine G0 ?_;have e:H9 l=4:=Qa h1' h2' (Et hlt3 (by simpa[Wh.lt]using h4));rw[e];(exact⟨[],aI⟩)
    ·refine G0 ?_;(exact⟨none,trivial,fun _=>⟨⟨q+1,by omega,up2 (p:=fun i h=>Wh.lt l[i] l[i+1]=true) g0 (fun _=>by simpa[Wh.lt]using h4)⟩,by show l.length-(q+1)<l.length-q;omega,tI,tI,tI,tI⟩⟩)
   ·have hge3:¬q+1<l.length:=(by have:=ZW h3;omega);refine G0 ?_;have e:H9 l=0:=Lk h1' h2' (E8 fun i hi=>g0 i hi (by omega));rw[e];(exact⟨[],aI⟩)
theorem Aex{α:Type}{p:α→Bool}{l:List α}{k:Nat}(h:k<l.length)(hp:p l[k]=false):l.all p=false:=by
 rw[List.all_eq_false];exact⟨l[k],ZK h,by rw[hp];simp⟩
def Avr(x:Int):List V:=[.v (.int .i64 x)]
instance:FlatRow Avr:=⟨fun x u hu=>by simp[Avr]at hu;subst hu;exact⟨_,rfl⟩⟩
theorem Akl(n:Nd)(h:n.ok)(hm:E5 n.ms=0):Fun Tryz.prog 158 [.c (.agg n.row)] [.c (.v (.bool (n.rs.all (Vz n.ms))))]:=by
 have hi:=Jb hm;have hrl:=h.rsl;refine Av Fm rfl ?_;refine G1 ?_;intro gg;rw[ZE];(refine⟨[],none,{k:Nat//k≤n.rs.length∧∀j,(h:j<n.rs.length)→j<k→Vz n.ms n.rs[j]=true},[1,8,9],fun⟨k,hk,h0⟩=>[(10,.v (.int .i64 k))],[16],fun⟨k,hk,h0⟩=>[],fun⟨k,hk,h0⟩=>n.rs.length-k,trivial,fun _=>⟨trivial,fun _=>⟨⟨0,ZU _,fun j _ h=>absurd h (Nat.not_lt_zero _)⟩,tI,An _ _,tI,Am _ _⟩⟩,fun⟨k,hk,h0⟩=>?_⟩);refine G0 ?_;(refine Aa (fun h1=>?_) (fun h1=>?_)<;>rw[h1])
 ·have hlt:k<n.rs.length:=(by have:=ZV h1;omega);refine G0 ?_;refine⟨k,_,rfl,Ao hlt,?_⟩;refine G1 ?_;intro gg;(refine .inl ⟨_,_,false,[],aI,Q4 false n.ms (n.rs[k]).m.n (by omega) (Mb.smono hi.2.2 _).mono,Ae,nI,?_⟩);refine G1 ?_;intro gg;(refine Aa (fun h3=>?_) (fun h3=>?_)<;>rw[h3])
  ·have h3':=Dr h3;refine G0 ?_;rw[Aex hlt (Aoj h3')];(exact⟨[],aI⟩)
  ·have h3':=Ci h3;have hl2:=Ep h3';have hro:=An5 h3' (ZC hl2);refine G0 ?_;refine⟨low (Mb.cf (n.rs[k]).m.n) n.ms,_,rfl,Ao hl2,?_⟩;refine G0 ?_;refine .inl (cX (Up (n.rs[k]).m (n.ms[low (Mb.cf (n.rs[k]).m.n) n.ms])) ?_);refine G1 ?_;intro gg;(refine Aa (fun h4=>?_) (fun h4=>?_)<;>rw[h4])
   ·have h4':=ZV h4;refine G0 ?_;rw[Aex hlt (by rw[hro];exact ZY (by omega))];(exact⟨[],aI⟩)
   ·have h4':=ZW h4;refine G0 ?_;(exact⟨none,trivial,fun _=>⟨⟨k+1,by omega,up1 (p:=fun j h=>Vz n.ms n.rs[j]=true) h0 (fun _=>by rw[hro];exact ZX (by omega))⟩,by show n.rs.length-(k+1)<n.rs.length-k;omega,tI,tI,tI,tI⟩⟩)
 ·have hge:¬k<n.rs.length:=(by have:=ZW h1;omega);refine G0 ?_;rw[show n.rs.all (Vz n.ms)=true from List.all_eq_true.2 fun r hr=>by obtain⟨j,hj,rfl⟩:=List.mem_iff_getElem.1 hr;exact h0 j hj (by omega)];(exact⟨[],aI⟩)
theorem Xc(n:Nd)(h:n.ok):Fun Tryz.prog 79 [.c (.agg n.row)] [.c (.v (.int .i64 n.err))]:=by
 refine Av Gx rfl ?_;refine G1 ?_;intro gg;refine .inl (cX (Bu n.nm h.nm) ?_);refine G1 ?_;intro gg;(refine Aa (fun h1=>?_) (fun h1=>?_)<;>rw[h1])
 ·refine G0 ?_;rw[Nd.err_form (.inl (Dr h1))];(exact⟨[],aI⟩)
 ·have h1':=Ci h1;refine G0 ?_;refine .inl (cX (Bu n.ce h.ce) ?_);refine G1 ?_;intro gg;(refine Aa (fun h2=>?_) (fun h2=>?_)<;>rw[h2])
  ·refine G0 ?_;rw[Nd.err_form (.inr (Dr h2))];(exact⟨[],aI⟩)
  ·have h2':=Ci h2;refine G0 ?_;(refine⟨_,_,false,aI,Aa0 n.ms h.msl h.ms,Ae,nI,?_⟩);refine G1 ?_;intro gg;(refine⟨_,_,false,aI,Agm false n.rs h.rsl h.rs,Ae,nI,?_⟩);refine G1 ?_;intro gg;(refine⟨_,_,false,aI,Aa8 n.sv h.svl h.sv,Ae,nI,?_⟩);refine G1 ?_;intro gg;(refine⟨_,_,false,aI,Al6 n.gs h.gsl h.gs,Ae,nI,?_⟩);refine G1 ?_;intro gg;(refine⟨_,_,false,aI,Il n.pl,Ae,nI,?_⟩);refine G1 ?_;intro gg;(refine⟨_,_,false,aI,Am9 false n.wh h.whl h.wh,Ae,nI,?_⟩);(refine goI ?_;repeat (intro gg;refine goI ?_));(refine⟨[],none,{k:Nat//k≤6∧∀j,(h:j<n.cks.length)→j<k→n.cks[j]=0},[1,35,36],fun⟨k,hk,h0⟩=>[(37,.v (.int .i64 k))],[16,560],fun⟨k,hk,h0⟩=>[],fun⟨k,hk,h0⟩=>6-k,trivial,fun _=>⟨trivial,fun _=>⟨⟨0,ZU _,fun j _ h=>absurd h (Nat.not_lt_zero _)⟩,tI,An _ _,tI,Am _ _⟩⟩,fun⟨k,hk,h0⟩=>?_⟩);refine G0 ?_;have hk6:k≤6:=hk;(refine Aa (fun h3=>?_) (fun h3=>?_)<;>rw[h3])
   ·have hlt6:k<6:=by have h4:=ZV h3;have h5:(k:Int)<6:=h4;omega
    have hlt:k<n.cks.length:=hlt6;refine G0 ?_;refine⟨k,_,rfl,Ao (f:=Avr) (l:=n.cks) hlt,?_⟩;refine G0 ?_;refine⟨_,Ao (f:=Avr) (l:=n.cks) hlt,?_⟩;refine G0 ?_;(refine Aa (fun h4=>?_) (fun h4=>?_)<;>rw[h4])
    ·have h4':n.cks[k]≠0:=by simpa using h4
     have e:Aq (fun e=>e) n.cks=n.cks[k]:=Bx (e:=fun e=>e) hlt h0 h4';refine G0 ?_;rw[Nd.err_ck h1' h2' (by rw[e];exact h4'),e];(exact⟨[],aI⟩)
    ·have h4':n.cks[k]=0:=by simpa using h4
     refine G0 ?_;(exact⟨none,trivial,fun _=>⟨⟨k+1,by omega,up1 (p:=fun j h=>n.cks[j]=0) h0 (fun _=>h4')⟩,by show 6-(k+1)<6-k;omega,tI,tI,tI,tI⟩⟩)
   ·have hge:¬k<6:=by have h4:=ZW h3;have h5:¬(k:Int)<6:=h4;omega
    have hz:Aq (fun e=>e) n.cks=0:=Ba (e:=fun e=>e) fun i hi=>h0 i hi (by have h6:i<6:=hi;omega);obtain⟨c1,c2,c3,c4,c5,c6⟩:=Ai0 hz;have hi:=Jb c1;refine G0 ?_;(refine .inl ⟨_,_,false,[],aI,Q4 false n.ms n.nm (by omega) (Mb.smono hi.2.2 _).mono,Ae,nI,?_⟩);refine G1 ?_;intro gg;(refine Aa (fun h5=>?_) (fun h5=>?_)<;>rw[h5])
    ·have h5':=Dr h5;refine G0 ?_;rw[Nd.err_none h1' h2' hz h5'];(exact⟨[],aI⟩)
    ·have h5':=Ci h5;have hl2:=Ep h5';have hm:n.ms[low (Mb.cf n.nm) n.ms]? =some n.ms[low (Mb.cf n.nm) n.ms]:=ZC hl2;rw[Nd.err_mine h1' h2' hz h5',Nd.mine_at hm];refine G0 ?_;refine⟨low (Mb.cf n.nm) n.ms,_,rfl,Ao hl2,?_⟩;refine G0 ?_;(refine Aa (fun h6=>?_) (fun h6=>?_)<;>rw[h6])
     ·have h6':(n.ms[low (Mb.cf n.nm) n.ms]).st=2:=by simpa using h6
      rw[if_pos (.inl h6')];refine G0 ?_;(exact⟨[],aI⟩)
     ·have h6':(n.ms[low (Mb.cf n.nm) n.ms]).st≠2:=by simpa using h6
      refine G0 ?_;refine⟨low (Mb.cf n.nm) n.ms,_,rfl,Ao hl2,?_⟩;refine G0 ?_;(refine Aa (fun h7=>?_) (fun h7=>?_)<;>rw[h7])
      ·have h7':(n.ms[low (Mb.cf n.nm) n.ms]).st=3:=by simpa using h7
       rw[if_pos (.inr h7')];refine G0 ?_;(exact⟨[],aI⟩)
      ·have h7':(n.ms[low (Mb.cf n.nm) n.ms]).st≠3:=by simpa using h7
       rw[if_neg (fun q=>q.elim h6' h7')];refine G0 ?_;refine .inl (cX (Akl n h c1) ?_);refine G1 ?_;intro gg;(refine Aa (fun h8=>?_) (fun h8=>?_)<;>rw[h8])
       ·rw[if_neg (by rw[Dr h8];simp)];refine G0 ?_;(exact⟨[],aI⟩)
       ·rw[if_pos (Ci h8)];refine G0 ?_;(exact⟨[],aI⟩)
theorem Ku(c:Bool)(l:List Mb)(hl:l.length≤1000):Fun Tryz.prog 41 [.c (.sl c (l.map Mb.row))] [.o 24 5 (l.map Mb.row)]:=
 Aho Mb.enc Mb.enc_len Mb.enc_one c l hl
theorem Aha(l:List Mb)(x:Mb)(i:Nat)(hi:i≤l.length)(hl:l.length≤1000):Fun Tryz.prog 97 [.o 24 5 (l.map Mb.row),.c (.v (.int .i64 i)),.o 24 5 [x.row]] [.o 24 5 ((l.take i++[x]++l.drop i).map Mb.row)]:=
 Afj Mb.enc Mb.enc_len Mb.enc_one l x i hi hl
namespace Pl
def Sv.at_(s:Sv)(v:Int):Sv:=⟨s.nd,s.id,s.nm,s.tg,s.ad,s.pt,s.ps,v,s.gn⟩
def Sv.sought(name tag:ByteArray)(x:Sv):Bool:=(x.nm.toList==name.toList)&&((emp tag||(x.tg.toList==tag.toList))&&(x.ps&& !x.gn))
def Ga(l:List Sv)(name tag:ByteArray):List Sv:=l.filter (Sv.sought name tag)
theorem Zf{l:List Sv}{name tag:ByteArray}{k:Nat}(hk:k<l.length):Ga (l.take (k+1)) name tag=if Sv.sought name tag l[k]=true then Ga (l.take k) name tag++[l[k]]else Ga (l.take k) name tag:=by
 unfold Ga;rw[Aly hk,List.filter_append];split<;>rename_i h<;>simp[h]
theorem Vm(l:List Sv)(name tag:ByteArray):(Ga l name tag).length≤l.length:=List.length_filter_le _ _
def Dp(l:List Sv)(name tag:ByteArray):Int×List Sv:=if D3 l≠0 then(D3 l,[])else if lab name.data.toList=false then(1,[])else if Vc tag=false then(1,[])else(0,Ga l name tag)
end Pl
theorem Aax(c:Bool)(l:List Sv)(hl:l.length≤1000):Fun Tryz.prog 117 [.c (.sl c (l.map Sv.row))] [.o 77 9 (l.map Sv.row)]:=
 Ajd Sv.enc Sv.enc_len Sv.enc_one c l hl
theorem Abv(c:Bool)(l:List Gw)(hl:l.length≤1000):Fun Tryz.prog 118 [.c (.sl c (l.map Gw.row))] [.o 74 3 (l.map Gw.row)]:=
 Ahv Gw.enc Gw.enc_len Gw.enc_one c l hl
theorem Aqw(l:List Gw)(here to:ByteArray)(hl:l.length≤9223372036854775807)(hw:∀x∈l,x.ok)(hh:here.size≤9223372036854775807)(ht:to.size≤9223372036854775807):Fun Tryz.prog 120 [.c (.sl false (l.map Gw.row)),.c (.v (.string here)),.c (.v (.string to))] [.c (.v (.int .i64 (Ff l here to).2)),.c (.v (.int .i64 (Ff l here to).1))]:=by
 refine Av Abt rfl ?_;refine G1 ?_;intro gg;(refine .inl ⟨_,_,true,[],aI,Aae false [l] (by simp) (by simpa using hl) (by simpa using hw),(fun _=>fI),nI,?_⟩);rw[Fz];refine G1 ?_;intro gg;(refine Aa (fun h1=>?_) (fun h1=>?_)<;>rw[h1])
 ·refine G0 ?_;rw[Av2 (by simpa using h1)];(exact⟨[],aI⟩)
 ·have h1':Eg l=0:=by simpa using h1
  have hi:=Nr h1';have hm:=Gw.smono hi.2.2 to;refine G0 ?_;refine .inl (cX (Bu here hh) ?_);refine G1 ?_;intro gg;(refine Aa (fun h2=>?_) (fun h2=>?_)<;>rw[h2])
  ·refine G0 ?_;rw[Awq h1' (Dr h2)];(exact⟨[],aI⟩)
  ·have h2':=Ci h2;refine G0 ?_;refine .inl (cX (Bu to ht) ?_);refine G1 ?_;intro gg;(refine Aa (fun h3=>?_) (fun h3=>?_)<;>rw[h3])
   ·refine G0 ?_;rw[Avh h1' h2' (Dr h3)];(exact⟨[],aI⟩)
   ·have h3':=Ci h3;refine G0 ?_;(refine Aa (fun h4=>?_) (fun h4=>?_)<;>rw[h4])
    ·refine G0 ?_;rw[Awd h1' h2' h3' h4];(exact⟨[],aI⟩)
    ·refine G0 ?_;(refine .inl ⟨_,_,false,[],aI,Aqu false l to (by omega) hm.mono,Ae,nI,?_⟩);refine G1 ?_;intro gg;(refine Aa (fun h5=>?_) (fun h5=>?_)<;>rw[h5])
     ·refine G0 ?_;rw[Alf h1' h2' h3' h4 (Dr h5)];(exact⟨[],aI⟩)
     ·have h5':hit (Gw.cf to) l=true:=Ci h5;have hlt:=Ep h5';refine G0 ?_;refine⟨low (Gw.cf to) l,_,rfl,Ao hlt,?_⟩;refine G0 ?_;rw[Adj h1' h2' h3' h4 h5'];(exact⟨[],aI⟩)
theorem Bb5:(Tryz.prog.info? 152).map (fun i=>(i.zero,i.size,i.bytes))=some (some (.agg #[.string ⟨#[]⟩,.int .i64 0,.int .i64 0,.int .i64 0,.int .i64 0,.int .i64 0]),6,56):=by kernel_rfl
def Bc8(base n:Nat)(xs:List Value)(w:World)(e:Ending)(w':World):Prop:=
 ∃A' c',e=.returned (.slice A' n c')∧w'.ownsRow base 152 6 (.slice A' n c') n xs∧Below base w w'∧w.drawn≤w'.drawn
set_option maxRecDepth 100000 in
theorem Aop(A:Option Addr)(n c:Nat)(xs:List Value)(w:World)(hA:A=none→n=0)(hn:n≤1000)(hxl:xs.length=n*6)(hx:∀ad,A=some ad→∀j u,xs[j]? =some u→w.cell? (ad.add j)=some u)(h1:∀v∈xs,v.oneCell'=true):
  Calls Tryz.prog 119 #[.slice A n c] w (Bc8 w.heap.size n xs w):=by
 obtain⟨i0,hi0,hz0,hzs,hzb⟩:=info_parts Bb5;cases A with
 |none=>
  obtain rfl:=hA rfl;obtain rfl:xs=[]:=XR (by simpa using hxl);clear hx hxl hi0 hz0 hzs hzb h1;have hnl:=fun(w:World)=>Lib.run_eql_slice_nil (P:=Tryz.prog) w 57 152 none 0 c 0 0 Tryz.underlying57
  go_enter Tryz.func119,Tryz.ntmps119
  go_wp2
  go_ret
  exact⟨none,0,rfl,World.ownsRow_nil _ _ _ _,Below.refl _ _,ZT _⟩
 |some ad=>
  have HX:=hid (hx ad rfl);have HXL:=hid hxl;have HZ0:=hid hz0;have HZS:=hid hzs;have HZB:=hid hzb;have HI0:=hid hi0;clear hx hxl hA hi0 hz0 hzs hzb;have hnl:=fun(w:World)=>Lib.run_eql_slice_nil (P:=Tryz.prog) w 57 152 (some ad) n c 0 0 Tryz.underlying57
  go_enter Tryz.func119,Tryz.ntmps119
  have hown0:(w.alloc (.cells #[] 152)).ownsRow w.heap.size 152 6 (.slice (some ⟨w.heap.size,0,none⟩) 0 0) 0 []:=
   ⟨by simp,.inr ⟨w.heap.size,0, #[],rfl,ZT _,heap_alloc_new w _,by omega,by simp[maxLen],by simp,by simp⟩⟩
  have HO:=hid hown0;have HX1:=hid (fun j u (hj:xs[j]? =some u)=>(World.cell?_alloc_lt w (.cells #[] 152) (ad.add j) (Yv (HX.out j u hj))).trans (HX.out j u hj));clear hown0
  go_wp2_with (at_builtin;refine I4 _ rfl _ _ 57 rfl w.heap.size 152 i0 _ 6 56 Tryz.underlying57 HI0.out HZ0.out HZS.out HZB.out rfl (by decide) _ _ _ rfl HO.out ad n c xs rfl HXL.out HX1.out h1 (by simp only[maxLen];omega) (by omega) (by simp) ?_;intro v1 w1 hown1 hg1 hd1 hat1)
  go_ret
  rw[Nat.zero_add,List.nil_append]at hown1;obtain⟨A',c',rfl⟩:=Mr hown1;exact⟨A',c',rfl,hown1,((Below.refl _ _).alloc (ZT _) _).grown hg1 (by simp) (Ez HO.out),hd1⟩
theorem Ahf{α:Type}(enc:α→List Value)(he:∀x,(enc x).length=6)(h1:∀x,∀v∈enc x,v.oneCell'=true)(cl:Bool)(l:List α)(hl:l.length≤1000):
  Fun Tryz.prog 119 [.c (.sl cl (l.map fun x=>(enc x).map .v))] [.o 152 6 (l.map fun x=>(enc x).map .v)]:=by
 refine⟨Cs Tryz.func119 (by kernel_rfl) (by kernel_rfl),fun w R xs hlt hp=>?_⟩;obtain⟨v,rfl,hv⟩:=Tr hp;obtain⟨A,c,rfl,hA,hx⟩:=S7 he hv;have hone:∀v∈l.flatMap enc,v.oneCell'=true:=fun v hv=>by
  obtain⟨g,_,hg⟩:=List.mem_flatMap.1 hv;exact h1 g v hg
 refine(Aop A l.length c (l.flatMap enc) w hA hl (Kf he l) hx hone).mono ?_
 rintro e w' ⟨A',c',rfl,hown,hb,hd⟩
 exact Kv he h1 (by decide) hlt hown (Hl hb) (fun k hk=>.inr (Ez hown k hk)) (fun k hk=>by have:=Ez hown k hk;intro h;have:=hlt k h;omega)
theorem Baq{w:World}{R R':Nat→Prop}{T:TypeId}{sz:Nat}{rows:List (List V)}{x:Value}(h:Rz w R (.o T sz rows) x)(hR:∀b,R b→R' b)(hb:∀b,x.ownBlock=some b→R' b):RV w R' noG (.sl false rows) x:=by
 obtain⟨hsz,xs,g5,g6⟩:=h;have g5':w.ownsRow 0 T (Ent.mk 0 (.t T) sz rows).sz (Loc.mk 0 sz x false none).val (Ent.mk 0 (.t T) sz rows).rows.length xs:=g5;rcases G6 g5' with⟨hv,h0⟩|⟨b,cap,hv,hbk⟩
 ·have hv:x=.slice none 0 0:=hv;rw[hv];have:rows=[]:=h0;subst this;exact .nil _ _ _ (by simp)
 ·have hv:x=.slice (some ⟨b,0,none⟩) rows.length cap:=hv;have hbk:x.ownBlock=some b:=hbk;rw[hv];have hcapn:rows.length≤cap:=by
   rcases g5.2 with⟨q,_⟩|⟨g',cap',cur,q,_,_,hnc,_⟩
   ·rw[hv]at q;cases q
   ·rw[hv]at q;injection q with _ _ q;omega
  refine .sl _ rows b 0 cap sz (fun i j=>(xs[i*sz+j]?).getD undef) (hb b hbk) hcapn (by simp) g6.1 ?_ ?_
  ·intro i j row u h1 h2;obtain⟨y,q1,_,q2⟩:=g6.2 i j row u h1 h2;show w.cell? ⟨b,0+i*sz+j,none⟩=some ((xs[i*sz+j]?).getD undef);rw[q1,Nat.zero_add];exact Fs g5' hbk q1
  ·intro i j row u h1 h2;obtain⟨y,q1,_,q2⟩:=g6.2 i j row u h1 h2;show RV w R' noG u ((xs[i*sz+j]?).getD undef);rw[q1];exact q2.mono (fun b hb=>⟨hR b hb,rfl⟩) (Gle.refl _)
def frz:Par→Par
 |.c u=>.c u
 |.o _ _ rows=>.c (.sl false rows)
theorem Fun.frz{P:Program}{f:FuncId}{ps rs:List Par}(h:Fun P f ps rs):Fun P f ps (rs.map frz):=by
 refine⟨h.1,fun w R xs hlt hp=>(h.2 w R xs hlt hp).mono ?_⟩
 rintro e w' ⟨ys,R',he,hfr,h1,h2,h3,h4⟩
 have no:∀(i:Nat) (T:TypeId) (sz:Nat) (rows:List (List V)),(rs.map Go.Proofs.YtkbjgdcdjccnaaaGreatDoor.frz)[i]?≠some (.o T sz rows):=fun i T sz rows q=>by
  rw[XJ]at q;cases hr:rs[i]? with
  |none=>rw[hr]at q;cases q
  |some r=>
   rw[hr]at q;cases r<;>cases q
 refine⟨ys,fun b=>R' b∨A5 rs ys b,he,hfr,fun b hb=>.inl (h1 b hb),?_,⟨by rw[ZE];exact h3.len,?_,?_,?_⟩,?_⟩
 ·rintro b (hb|hb)
  ·exact h2 b hb
  ·refine .inr ⟨?_,h4 b hb⟩;obtain⟨i,T,sz,rows,x,q1,q2,q3⟩:=hb;obtain⟨_,xs',g,_⟩:=h3.ok i _ x q1 q2;exact Mp g q3
 ·intro i p x hp1 hx;rw[XJ]at hp1;cases hr:rs[i]? with
  |none=>rw[hr]at hp1;cases hp1
  |some r=>
   rw[hr]at hp1;have ho:=h3.ok i r x hr hx;cases r with
   |c u=>
    injection hp1 with hp1;subst hp1;exact RV.mono ho (fun b hb=>⟨.inl hb,rfl⟩) (Gle.refl _)
   |o T sz rows=>
    injection hp1 with hp1;subst hp1;exact Baq ho (fun b hb=>.inl hb) (fun b hb=>.inr ⟨i,T,sz,rows,x,hr,hx,hb⟩)
 ·intro i j T sz rows T' sz' rows' x y b hij h1;exact absurd h1 (no i T sz rows)
 ·rintro b ⟨i,T,sz,rows,x,q1,_⟩
  exact absurd q1 (no i T sz rows)
 ·rintro b ⟨i,T,sz,rows,x,q1,_⟩
  exact absurd q1 (no i T sz rows)
theorem Wz(c:Bool)(l:List Wh)(hl:l.length≤1000):Fun Tryz.prog 119 [.c (.sl c (l.map Wh.row))] [.o 152 6 (l.map Wh.row)]:=
 Ahf Wh.enc Wh.enc_len Wh.enc_one c l hl
def wcF(n:Nd):List Par:=[.c (.v (.string n.nm)),.c (.v (.string n.ce)),.c (.sl false (n.ms.map Mb.row)),.c (.sl false (n.rs.map Ru.row)),.c (.sl false (n.sv.map Sv.row)),.c (.sl false (n.gs.map Gw.row)),
 .c (.v (.int .i64 n.pl.x)),.c (.v (.int .i64 n.pl.y)),.c (.v (.int .i64 n.pl.z)),.c (.v (.int .i64 n.pl.h)),.c (.v (.int .i64 n.pl.s)),.c (.sl false (n.wh.map Wh.row))]
theorem Ahb{l:List Wh}(h:H9 l=0):l.length≤20:=by
 unfold H9 ckL at h;split at h
 ·cases h
 ·omega
theorem Au8(n:Nd)(h:n.ok)(he:n.err≠0):Fun Tryz.prog 60 [.c (.agg n.row)] [.c (.v (.pointer none)),.c (.v (.int .i64 n.err))]:=by
 refine Av F7 rfl ?_;refine G1 ?_;intro gg;refine .inl (cX (Xc n h) ?_);refine G1 ?_;intro gg;rw[show(n.err !=0)=true from ZZ.2 he];refine G0 ?_;(exact⟨[],aI⟩)
theorem Azy(n:Nd)(h:n.ok)(g:n.Good)(he:n.err=0):Hv Tryz.prog 60 [.p (.c (.agg n.row))] [.pn 127 (wcF n),.p (.c (.v (.int .i64 0)))]:=by
 have i1:=(Jb g.ms).1;have i2:=(T7 g.rs).len;have i3:=(Iz g.sv).1;have i4:=(Nr g.gs).1;have i5:=Ahb g.wh;have c1:=(Ku false n.ms (by omega)).frz;have c2:=(Ln false n.rs (by omega)).frz;have c3:=(Aax false n.sv (by omega)).frz;have c4:=(Abv false n.gs (by omega)).frz;have c5:=(Wz false n.wh (by omega)).frz;simp only[List.map_cons,List.map_nil,Go.Proofs.YtkbjgdcdjccnaaaGreatDoor.frz]at c1 c2 c3 c4 c5;have cc:=Xc n h;rw[he]at cc;refine Kl F7 rfl rfl (show([0]:List Nat).Nodup from by decide) ?_;refine G1 ?_;intro gg;refine .inl (cX cc ?_);refine G1 ?_;intro gg;(refine⟨_,_,false,aI,c1,Ae,nI,?_⟩);refine G1 ?_;intro gg;(refine⟨_,_,false,aI,c2,Ae,nI,?_⟩);refine G1 ?_;intro gg;(refine⟨_,_,false,aI,c3,Ae,nI,?_⟩);refine G1 ?_;intro gg;(refine⟨_,_,false,aI,c4,Ae,nI,?_⟩);refine G1 ?_;intro gg;(refine⟨_,_,false,aI,c5,Ae,nI,?_⟩);(refine goI ?_;repeat (intro gg;refine goI ?_));(exact⟨512::([]++[]),Oq (gone:=[]) (gone1:=[]) rfl aI (by decide) (by decide) (by decide) aM⟩)
namespace Pl
structure Pk where
 fr:ByteArray
 wo:Bool
 ms:List Mb
 sv:List Sv
 gs:List Gw
 wh:List Wh
def Pk.row(p:Pk):List V:=[.v (.string p.fr),.v (.bool p.wo),.sl false (p.ms.map Mb.row),.sl false (p.sv.map Sv.row),.sl false (p.gs.map Gw.row),.sl false (p.wh.map Wh.row)]
structure Pk.ok(p:Pk):Prop where
 fr:p.fr.size≤9223372036854775807
 msl:p.ms.length≤9223372036854775807
 ms:∀x∈p.ms,x.ok
 svl:p.sv.length≤1000000000000000
 sv:∀x∈p.sv,x.ok
 gsl:p.gs.length≤1000000000000000
 gs:∀x∈p.gs,x.ok
 whl:p.wh.length≤1000000000000000
 wh:∀x∈p.wh,x.ok
end Pl
end Go.Proofs.YtkbjgdcdjccnaaaGreatDoor
namespace Go.Proofs.YtkbjgdcdjccnaaaGreatDoor.PlM
open Go.Proofs.YtkbjgdcdjccnaaaGreatDoor Pl
theorem newest:Arp Mb.kf Mb.nw:=Apv (c:=Mb.cmp) (Wg [fun(g x:Mb)=>Co g.lf x.lf,fun(g x:Mb)=>Co g.st x.st,fun(g x:Mb)=>Co g.ad x.ad,fun(g x:Mb)=>Co (b2i g.sv) (b2i x.sv)] (by
  intro c hc;simp only[XC,XD,or_false]at hc;rcases hc with rfl|rfl|rfl|rfl
  ·exact M0 (fun m:Mb=>m.lf)
  ·exact M0 (fun m:Mb=>m.st)
  ·exact M0 (fun m:Mb=>m.ad)
  ·exact M0 (fun m:Mb=>b2i m.sv))) (by
  intro x y h1 h2;have hz:=Aeg (l:=[Co x.lf y.lf,Co x.st y.st,Co x.ad y.ad,Co (b2i x.sv) (b2i y.sv)]) h2;have e1:=Iu.1 (hz _ (by simp:Co x.lf y.lf∈_));have e2:=Iu.1 (hz _ (by simp:Co x.st y.st∈_));have e3:=Iu.1 (hz _ (by simp:Co x.ad y.ad∈_));have e4:=Iu.1 (hz _ (by simp:Co (b2i x.sv) (b2i y.sv)∈_));have e0:y.n=x.n:=Ct.1 h1;obtain⟨a,b,c,d,e⟩:=x;obtain⟨a',b',c',d',e'⟩:=y;simp only at e0 e1 e2 e3 e4;subst e0 e1 e2 e3;have:e=e':=by cases e<;>cases e'<;>first|rfl|(simp[b2i]at e4)
  rw[this])
end Go.Proofs.YtkbjgdcdjccnaaaGreatDoor.PlM
namespace Go.Proofs.YtkbjgdcdjccnaaaGreatDoor
open Go.RowKit Pl




namespace Pl
def Aws(l:List Mb)(nm:ByteArray):Mb:=(l[low (Mb.cf nm) l]?).getD ⟨⟨#[]⟩,0,0,0,false⟩
theorem Aw5{l:List Mb}{nm:ByteArray}{x:Mb}(h:l[low (Mb.cf nm) l]? =some x):Aws l nm=x:=by unfold Aws;rw[h];rfl
theorem Aaq{l:List Ru}{m:Mb}{r:Ru}(h:r∈(Ml l m).2):r=⟨m,0⟩∨r∈l:=by
 unfold Ml at h;split at h
 ·simp at h
 ·rcases XM.1 h with q|q
  ·exact .inr q
  ·exact .inl (by simpa using q)
theorem Apo{l:List Ru}{m:Mb}{r:Ru}(h:r∈(Ow l m).2):r=⟨m,0⟩∨r∈l:=by
 unfold Ow at h;split at h
 ·simp at h
 ·split at h
  ·simp at h
  ·unfold Agd at h;split at h
   ·split at h
    ·split at h
     ·exact .inr h
     ·rcases Aaq h with q|q
      ·exact .inl q
      ·exact .inr (List.mem_of_mem_eraseIdx q)
    ·exact Aaq h
   ·exact Aaq h
end Pl
namespace Pl
def Ad2(l:List Mb)(m:Mb):Prop:=∃z∈l,z.n=m.n∧(z=m∨Mb.nw z m=true)
def Adb(a b:List Mb):Prop:=∀y∈a,Ad2 b y
theorem Ad2.grow{a b:List Mb}{m:Mb}(h:Ad2 a m)(g:Adb a b):Ad2 b m:=by
 obtain⟨z,hz,hn,hc⟩:=h;obtain⟨y,hy,hn2,hc2⟩:=g z hz;refine⟨y,hy,hn2.trans hn,?_⟩;rcases hc with rfl|hc
 ·exact hc2
 ·rcases hc2 with rfl|hc2
  ·exact .inr hc
  ·exact .inr (PlM.newest.trans _ _ _ hc2 hc)
theorem Adb.trans{a b c:List Mb}(h:Adb a b)(g:Adb b c):Adb a c:=fun y hy=>(h y hy).grow g
theorem Tt{l:List Ru}(h:Aiw l):∀r∈l,r.m.err=0∧0≤r.t∧r.t≤100:=fun r hr=>by
 obtain⟨i,hi,rfl⟩:=List.mem_iff_getElem.1 hr;exact⟨Jt (e:=Ru.err) h.each i hi,h.rng i hi⟩
theorem Ao0{l:List Ru}(h1:l.length≤20)(h2:∀r∈l,r.m.err=0∧0≤r.t∧r.t≤100)(h3:(l.map Ru.nm).Nodup):Aiw l where
 len:=h1
 each:=Ba (e:=Ru.err) fun i hi=>(h2 _ (ZK hi)).1
 rng:=fun i hi=>(h2 _ (ZK hi)).2
 nd:=h3
theorem Aoi{l:List Ru}(h:Aiw l):Fu l=0:=by
 refine Aff (by have:=h.len;omega) h.each ?_ h.nd;rw[List.any_eq_false];intro r hr;rw[(Ru.bad_iff _).2 (Tt h r hr).2];simp
theorem W2{l:List Ru}{m:Mb}(h:Aiw l)(hm:m.err=0)(hn:∀r∈l,Ru.is m.n r=false)(he:(Ml l m).1=0):Aiw (Ml l m).2:=by
 unfold Ml at he ⊢;split at he
 ·cases he
 ·rename_i h20;rw[if_neg h20];have hl:=h.len;refine Ao0 (by simp;omega) (fun r hr=>?_) ?_
  ·rcases XM.1 hr with q|q
   ·exact Tt h r q
   ·simp at q;subst q;exact⟨hm,(by decide:(0:Int)≤0),(by decide:(0:Int)≤100)⟩
  ·rw[ZI,List.nodup_append];refine⟨h.nd,by simp,fun a ha b hb=>?_⟩;simp[Ru.nm]at hb;subst hb;obtain⟨r,hr,rfl⟩:=XO.1 ha;intro e;have:=Ru.is_iff.2 e;rw[hn r hr]at this;cases this
theorem Ajw{l:List Ru}{i:Nat}(h:Aiw l):Aiw (l.eraseIdx i):=
 Ao0 (by have:=h.len;have:=List.length_eraseIdx_le l i;omega) (fun r hr=>Tt h r (List.mem_of_mem_eraseIdx hr)) (((List.eraseIdx_sublist l i).map Ru.nm).nodup h.nd)
theorem Als{l:List Ru}{m:Mb}(he:(Ow l m).1=0):Fu (Ow l m).2=0:=by
 by_cases h1:Fu l=0
 ·by_cases h2:m.err=0
  ·rw[Ats h1 h2]at he ⊢;have hR:=T7 h1;rcases Afl (p:=Ru.is m.n) (l:=l)with⟨ha,h0⟩|⟨k,hk,ha,h3,h4⟩
   ·have hno:¬0≤at_ (Ru.is m.n) l:=by rw[ha];omega
    rw[Avz hno]at he ⊢;refine Aoi (W2 hR h2 (fun r hr=>?_) he);obtain⟨i,hi,rfl⟩:=List.mem_iff_getElem.1 hr;exact h0 i hi
   ·have hyes:0≤at_ (Ru.is m.n) l:=by rw[ha];omega
    have hg:l[(at_ (Ru.is m.n) l).toNat]? =some l[k]:=by rw[ha];simp[hk]
    by_cases hc:Mb.cmp m (l[k]).m≤0
    ·rw[Au3 hyes hg hc];exact h1
    ·rw[Ard hyes hg hc]at he ⊢;rw[ha]at he ⊢;simp only[Int.toNat_natCast]at he ⊢;refine Aoi (W2 (Ajw hR) h2 (fun r hr=>?_) he);rw[←Uv k hk hR.nd h3]at hr;unfold Vj at hr;have:=(List.mem_filter.1 hr).2;simpa using this
  ·rw[App h1 h2]at he;exact absurd he h2
 ·rw[Aus h1]at he;exact absurd he h1
structure Gd(n:Nd):Prop where
 nm:lab n.nm.data.toList=true
 ce:lab n.ce.data.toList=true
 ms:E5 n.ms=0
 rs:Fu n.rs=0
 sv:D3 n.sv=0
 gs:Eg n.gs=0
 pl:n.pl.okb=true
 wh:H9 n.wh=0
 hit:hit (Mb.cf n.nm) n.ms=true
 ru:∀r∈n.rs,Ad2 n.ms r.m
theorem Gd.mine{n:Nd}(h:Gd n):Aws n.ms n.nm∈n.ms∧(Aws n.ms n.nm).n=n.nm:=by
 have hx:n.ms[low (Mb.cf n.nm) n.ms]? =some (n.ms[low (Mb.cf n.nm) n.ms]'(Ep h.hit)):=ZC _;rw[Aw5 hx];exact⟨ZK _,Ct.1 (Uj h.hit)⟩
theorem Gd.put{n:Nd}{m:Mb}(h:Gd n)(hm:Ad2 n.ms m)(he:(Ow n.rs m).1=0):Gd {n with rs:=(Ow n.rs m).2} :=
 ⟨h.nm,h.ce,h.ms,Als he,h.sv,h.gs,h.pl,h.wh,h.hit,fun r hr=>(Apo hr).elim (fun e=>by rw[e];exact hm) (fun e=>h.ru r e)⟩
structure Ax4(a b:Nd):Prop where
 nm:b.nm=a.nm
 ce:b.ce=a.ce
 sv:b.sv=a.sv
 gs:b.gs=a.gs
 pl:b.pl=a.pl
 wh:b.wh=a.wh
 ms:Adb a.ms b.ms
theorem Ax4.trans{a b c:Nd}(h:Ax4 a b)(g:Ax4 b c):Ax4 a c:=⟨g.nm.trans h.nm,g.ce.trans h.ce,g.sv.trans h.sv,g.gs.trans h.gs,g.pl.trans h.pl,g.wh.trans h.wh,h.ms.trans g.ms⟩
theorem L8{s:ByteArray}(h:lab s.data.toList=true):s.size≤9223372036854775807:=by
 have:=(Az7 h).2;have e:s.size=s.data.toList.length:=rfl;omega
theorem Av4{s:ByteArray}(h:Vc s=true):s.size≤9223372036854775807:=by
 unfold Vc emp at h;rcases(Bool.or_eq_true _ _).mp h with q|q
 ·have:=toList_inj (ZR.1 q);rw[this];exact ZU _
 ·exact L8 q
theorem Bap{l:List Mb}(h:E5 l=0):∀x∈l,x.ok:=fun x hx=>by
 obtain⟨i,hi,rfl⟩:=List.mem_iff_getElem.1 hx;exact L8 (Mb.err_inv ((Jb h).2.1 i hi)).1
theorem Bax{l:List Ru}(h:Fu l=0):∀x∈l,x.m.ok:=fun x hx=>L8 (Mb.err_inv (Tt (T7 h) x hx).1).1
theorem Sv.err_ok{s:Sv}(h:s.err=0):s.ok:=by
 unfold Sv.err at h;split at h
 ·rename_i h1;split at h
  ·rename_i h2;split at h
   ·rename_i h3;split at h
    ·rename_i h4;exact⟨L8 h1,L8 h2,L8 h3,Av4 h4⟩
    ·cases h
   ·cases h
  ·cases h
 ·cases h
theorem Ayq{l:List Sv}(h:D3 l=0):∀x∈l,x.ok:=fun x hx=>by
 obtain⟨i,hi,rfl⟩:=List.mem_iff_getElem.1 hx;exact Sv.err_ok ((Iz h).2.1 i hi)
theorem Azr{l:List Gw}(h:Eg l=0):∀x∈l,x.ok:=fun x hx=>by
 obtain⟨i,hi,rfl⟩:=List.mem_iff_getElem.1 hx;have he:=(Nr h).2.1 i hi;unfold Gw.err at he;split at he
 ·rename_i h1;exact L8 h1
 ·cases he
theorem Wh.err_cases(m:Wh):m.err=0∨m.err=1∨m.err=3∨m.err=7:=by
 unfold Wh.err;split
 ·cases q:m.pl.okb with
  |true=>exact .inl (Pc.err_ok q)
  |false=>exact .inr (.inr (.inl (Pc.err_bad q)))
 ·simp
theorem Ab5{l:List Wh}(h:H9 l=0):l.length≤20∧(∀i,(hi:i<l.length)→(l[i]).err=0)∧Bt Wh.lt l=true:=Yq Wh.err_cases h
theorem Wh.err_lab{x:Wh}(h:x.err=0):lab x.nd.data.toList=true:=by
 unfold Wh.err at h;split at h
 ·rename_i q;exact q
 ·cases h
theorem Baj{l:List Wh}(h:H9 l=0):∀x∈l,x.ok:=fun x hx=>by
 obtain⟨i,hi,rfl⟩:=List.mem_iff_getElem.1 hx;exact L8 (Wh.err_lab ((Ab5 h).2.1 i hi))
theorem Nd.Good.ok{n:Nd}(g:n.Good):n.ok where
 nm:=L8 g.nm
 ce:=L8 g.ce
 msl:=by have:=(Jb g.ms).1;omega
 ms:=Bap g.ms
 rsl:=by have:=(T7 g.rs).len;omega
 rs:=Bax g.rs
 svl:=by have:=(Iz g.sv).1;omega
 sv:=Ayq g.sv
 gsl:=by have:=(Nr g.gs).1;omega
 gs:=Azr g.gs
 whl:=by have:=(Ab5 g.wh).1;omega
 wh:=Baj g.wh
theorem Nd.Good.err{n:Nd}(g:n.Good):n.err=0:=by
 have hz:Aq (fun e=>e) n.cks=0:=by
  show Aq (fun e=>e) [E5 n.ms,Fu n.rs,D3 n.sv,Eg n.gs,n.pl.err,H9 n.wh]=0;rw[g.ms,g.rs,g.sv,g.gs,Pc.err_ok g.pl,g.wh];rfl
 rw[Nd.err_mine g.nm g.ce hz g.hit];have hx:n.ms[low (Mb.cf n.nm) n.ms]? =some (n.ms[low (Mb.cf n.nm) n.ms]'(Ep g.hit)):=ZC _;rw[Nd.mine_at hx,if_neg (fun q=>q.elim (g.st _ hx).1 (g.st _ hx).2),if_pos (List.all_eq_true.2 g.ru)]
end Pl
theorem Aou(l:List Sv)(name tag:ByteArray)(hl:l.length≤9223372036854775807)(hw:∀x∈l,x.ok)(hname:name.size≤9223372036854775807)(htag:tag.size≤9223372036854775807):Fun Tryz.prog 211 [.c (.sl false (l.map Sv.row)),.c (.v (.string name)),.c (.v (.string tag))] [.c (.sl false ((Dp l name tag).2.map Sv.row)),.c (.v (.int .i64 (Dp l name tag).1))]:=by
 refine Av Oy rfl ?_;refine G1 ?_;intro gg;(refine .inl ⟨_,_,true,[],aI,Sn false [l] (by simp) (by simpa using hl) (by simpa using hw),(fun _=>fI),nI,?_⟩);rw[Fz];refine G1 ?_;intro gg;(refine Aa (fun h1=>?_) (fun h1=>?_)<;>rw[h1])
 ·have h1':D3 l≠0:=by simpa using h1
  refine G0 ?_;rw[show Dp l name tag=(D3 l,[])by simp[Dp,h1']];(exact⟨[],aI⟩)
 ·have hc:D3 l=0:=by simpa using h1
  have hi:=Iz hc;clear h1;refine G0 ?_;refine .inl (cX (Bu name hname) ?_);refine G1 ?_;intro gg;(refine Aa (fun h2=>?_) (fun h2=>?_)<;>rw[h2])
  ·refine G0 ?_;rw[show Dp l name tag=(1,[])by simp[Dp,hc,Dr h2]];(exact⟨[],aI⟩)
  ·refine G0 ?_;refine .inl (cX (Wd tag htag) ?_);refine G1 ?_;intro gg;(refine Aa (fun h3=>?_) (fun h3=>?_)<;>rw[h3])
   ·refine G0 ?_;rw[show Dp l name tag=(1,[])by simp[Dp,hc,Ci h2,Dr h3]];(exact⟨[],aI⟩)
   ·have hF:Dp l name tag=(0,Ga l name tag):=by simp[Dp,hc,Ci h2,Ci h3]
    clear h2 h3;refine G0 ?_;rw[ZE];(refine⟨[(9,144,77,9)],none,{p:Nat×Nat//p.1≤l.length},[1,2,26,27],fun⟨⟨k,g⟩,hk⟩=>[(9,.own 144 g),(28,.v (.int .i64 k))],[],fun⟨⟨k,g⟩,hk⟩=>[(144,⟨g,77,9,(Ga (l.take k) name tag).map Sv.row⟩)],fun⟨⟨k,g⟩,hk⟩=>l.length-k,(by exact⟨rfl,by decide,(fun _ _ _ _ h=>by cases h),trivial⟩),fun gs=>⟨trivial,fun _=>⟨⟨(0,gs 144),by omega⟩,tI,tI,tI,tI⟩⟩,fun⟨⟨k,g⟩,hk⟩=>?_⟩);have hk':k≤l.length:=hk;have hlen:=Vm (l.take k) name tag;rw[ZM]at hlen;refine G0 ?_;(refine Aa (fun h0=>?_) (fun h0=>?_)<;>rw[h0])
    ·have hlt:k<l.length:=(by have:=ZV h0;omega);have hn:=Zf (name:=name) (tag:=tag) hlt;refine G0 ?_;refine⟨k,_,rfl,Ao hlt,?_⟩;refine G1 ?_;intro gg;(refine Aa (fun h1=>?_) (fun h1=>?_)<;>rw[h1])
     ·refine G0 ?_;(refine Aa (fun h2=>?_) (fun h2=>?_)<;>rw[h2])
      ·have h2':emp tag=true:=h2;refine G0 ?_;(refine Aa (fun h4=>?_) (fun h4=>?_)<;>rw[h4])
       ·refine G0 ?_;(refine Aa (fun h5=>?_) (fun h5=>?_)<;>rw[h5])
        ·skip
         have hs:Sv.sought name tag l[k]=true:=by unfold Sv.sought;rw[h1,h2',h4,h5];rfl
         rw[if_pos hs]at hn;refine G1 ?_;intro gg;refine⟨lI,lI,?_⟩;refine G1 ?_;intro gg;have hn':(Ga (l.take (k+1)) name tag).map Sv.row=(Ga (l.take k) name tag).map Sv.row++[[.v (.string l[k].nd),.v (.string l[k].id),.v (.string l[k].nm),.v (.string l[k].tg),.v (.int .i64 l[k].ad),.v (.int .i64 l[k].pt),.v (.bool true),.v (.int .i64 l[k].vs),.v (.bool l[k].gn)]]:=by
          rw[hn,ZI];show _++[Sv.row l[k]]=_;unfold Sv.row;rw[h4]
         (exact⟨none,trivial,fun gr=>⟨⟨(k+1,gg),by dsimp only;omega⟩,by show l.length-(k+1)<l.length-k;omega,hxI hn',hxI hn',hxI hn',hxI hn'⟩⟩)
        ·skip
         have hs:Sv.sought name tag l[k]=false:=by unfold Sv.sought;rw[h1,h2',h4,h5];rfl
         rw[if_neg (by rw[hs];decide)]at hn;refine G0 ?_;(exact⟨none,trivial,fun gr=>⟨⟨(k+1,g),by dsimp only;omega⟩,by show l.length-(k+1)<l.length-k;omega,hxI hn,hxI hn,hxI hn,hxI hn⟩⟩)
       ·skip
        have hs:Sv.sought name tag l[k]=false:=by unfold Sv.sought;rw[h1,h2',h4];rfl
        rw[if_neg (by rw[hs];decide)]at hn;refine G0 ?_;(exact⟨none,trivial,fun gr=>⟨⟨(k+1,g),by dsimp only;omega⟩,by show l.length-(k+1)<l.length-k;omega,hxI hn,hxI hn,hxI hn,hxI hn⟩⟩)
      ·have h2':emp tag=false:=h2;refine G0 ?_;(refine Aa (fun h3=>?_) (fun h3=>?_)<;>rw[h3])
       ·have h3':=h3;refine G0 ?_;(refine Aa (fun h4=>?_) (fun h4=>?_)<;>rw[h4])
        ·refine G0 ?_;(refine Aa (fun h5=>?_) (fun h5=>?_)<;>rw[h5])
         ·skip
          have hs:Sv.sought name tag l[k]=true:=by unfold Sv.sought;rw[h1,h2',h3',h4,h5];rfl
          rw[if_pos hs]at hn;refine G1 ?_;intro gg;refine⟨lI,lI,?_⟩;refine G1 ?_;intro gg;have hn':(Ga (l.take (k+1)) name tag).map Sv.row=(Ga (l.take k) name tag).map Sv.row++[[.v (.string l[k].nd),.v (.string l[k].id),.v (.string l[k].nm),.v (.string l[k].tg),.v (.int .i64 l[k].ad),.v (.int .i64 l[k].pt),.v (.bool true),.v (.int .i64 l[k].vs),.v (.bool l[k].gn)]]:=by
           rw[hn,ZI];show _++[Sv.row l[k]]=_;unfold Sv.row;rw[h4]
          (exact⟨none,trivial,fun gr=>⟨⟨(k+1,gg),by dsimp only;omega⟩,by show l.length-(k+1)<l.length-k;omega,hxI hn',hxI hn',hxI hn',hxI hn'⟩⟩)
         ·skip
          have hs:Sv.sought name tag l[k]=false:=by unfold Sv.sought;rw[h1,h2',h3',h4,h5];rfl
          rw[if_neg (by rw[hs];decide)]at hn;refine G0 ?_;(exact⟨none,trivial,fun gr=>⟨⟨(k+1,g),by dsimp only;omega⟩,by show l.length-(k+1)<l.length-k;omega,hxI hn,hxI hn,hxI hn,hxI hn⟩⟩)
        ·skip
         have hs:Sv.sought name tag l[k]=false:=by unfold Sv.sought;rw[h1,h2',h3',h4];rfl
         rw[if_neg (by rw[hs];decide)]at hn;refine G0 ?_;(exact⟨none,trivial,fun gr=>⟨⟨(k+1,g),by dsimp only;omega⟩,by show l.length-(k+1)<l.length-k;omega,hxI hn,hxI hn,hxI hn,hxI hn⟩⟩)
       ·have h3':=h3;have hs:Sv.sought name tag l[k]=false:=by unfold Sv.sought;rw[h1,h2',h3'];rfl
        rw[if_neg (by rw[hs];decide)]at hn;refine G0 ?_;(exact⟨none,trivial,fun gr=>⟨⟨(k+1,g),by dsimp only;omega⟩,by show l.length-(k+1)<l.length-k;omega,hxI hn,hxI hn,hxI hn,hxI hn⟩⟩)
     ·skip
      have hs:Sv.sought name tag l[k]=false:=by unfold Sv.sought;rw[h1];rfl
      rw[if_neg (by rw[hs];decide)]at hn;refine G0 ?_;(exact⟨none,trivial,fun gr=>⟨⟨(k+1,g),by dsimp only;omega⟩,by show l.length-(k+1)<l.length-k;omega,hxI hn,hxI hn,hxI hn,hxI hn⟩⟩)
    ·have hge:l.length≤k:=(by have:=ZW h0;omega);obtain rfl:k=l.length:=by omega
     refine G0 ?_;rw[hF,show Ga l name tag=Ga (l.take l.length) name tag by rw[XF]];(exact⟨[],aI⟩)
theorem Ajv(l:List Sv)(name tag:ByteArray)(hl:l.length≤9223372036854775807)(hw:∀x∈l,x.ok)(hname:name.size≤9223372036854775807)(htag:tag.size≤9223372036854775807):Fun Tryz.prog 211 [.c (.sl false (l.map Sv.row)),.c (.v (.string name)),.c (.v (.string tag))] [.o 77 9 ((Dp l name tag).2.map Sv.row),.c (.v (.int .i64 (Dp l name tag).1))]:=by
 refine Av Oy rfl ?_;refine G1 ?_;intro gg;(refine .inl ⟨_,_,true,[],aI,Sn false [l] (by simp) (by simpa using hl) (by simpa using hw),(fun _=>fI),nI,?_⟩);rw[Fz];refine G1 ?_;intro gg;(refine Aa (fun h1=>?_) (fun h1=>?_)<;>rw[h1])
 ·have h1':D3 l≠0:=by simpa using h1
  refine G0 ?_;rw[show Dp l name tag=(D3 l,[])by simp[Dp,h1']];(exact⟨[],aI⟩)
 ·have hc:D3 l=0:=by simpa using h1
  have hi:=Iz hc;clear h1;refine G0 ?_;refine .inl (cX (Bu name hname) ?_);refine G1 ?_;intro gg;(refine Aa (fun h2=>?_) (fun h2=>?_)<;>rw[h2])
  ·refine G0 ?_;rw[show Dp l name tag=(1,[])by simp[Dp,hc,Dr h2]];(exact⟨[],aI⟩)
  ·refine G0 ?_;refine .inl (cX (Wd tag htag) ?_);refine G1 ?_;intro gg;(refine Aa (fun h3=>?_) (fun h3=>?_)<;>rw[h3])
   ·refine G0 ?_;rw[show Dp l name tag=(1,[])by simp[Dp,hc,Ci h2,Dr h3]];(exact⟨[],aI⟩)
   ·have hF:Dp l name tag=(0,Ga l name tag):=by simp[Dp,hc,Ci h2,Ci h3]
    clear h2 h3;refine G0 ?_;rw[ZE];(refine⟨[(9,144,77,9)],none,{p:Nat×Nat//p.1≤l.length},[1,2,26,27],fun⟨⟨k,g⟩,hk⟩=>[(9,.own 144 g),(28,.v (.int .i64 k))],[],fun⟨⟨k,g⟩,hk⟩=>[(144,⟨g,77,9,(Ga (l.take k) name tag).map Sv.row⟩)],fun⟨⟨k,g⟩,hk⟩=>l.length-k,(by exact⟨rfl,by decide,(fun _ _ _ _ h=>by cases h),trivial⟩),fun gs=>⟨trivial,fun _=>⟨⟨(0,gs 144),by omega⟩,tI,tI,tI,tI⟩⟩,fun⟨⟨k,g⟩,hk⟩=>?_⟩);have hk':k≤l.length:=hk;have hlen:=Vm (l.take k) name tag;rw[ZM]at hlen;refine G0 ?_;(refine Aa (fun h0=>?_) (fun h0=>?_)<;>rw[h0])
    ·have hlt:k<l.length:=(by have:=ZV h0;omega);have hn:=Zf (name:=name) (tag:=tag) hlt;refine G0 ?_;refine⟨k,_,rfl,Ao hlt,?_⟩;refine G1 ?_;intro gg;(refine Aa (fun h1=>?_) (fun h1=>?_)<;>rw[h1])
     ·refine G0 ?_;(refine Aa (fun h2=>?_) (fun h2=>?_)<;>rw[h2])
      ·have h2':emp tag=true:=h2;refine G0 ?_;(refine Aa (fun h4=>?_) (fun h4=>?_)<;>rw[h4])
       ·refine G0 ?_;(refine Aa (fun h5=>?_) (fun h5=>?_)<;>rw[h5])
        ·skip
         have hs:Sv.sought name tag l[k]=true:=by unfold Sv.sought;rw[h1,h2',h4,h5];rfl
         rw[if_pos hs]at hn;refine G1 ?_;intro gg;refine⟨lI,lI,?_⟩;refine G1 ?_;intro gg;have hn':(Ga (l.take (k+1)) name tag).map Sv.row=(Ga (l.take k) name tag).map Sv.row++[[.v (.string l[k].nd),.v (.string l[k].id),.v (.string l[k].nm),.v (.string l[k].tg),.v (.int .i64 l[k].ad),.v (.int .i64 l[k].pt),.v (.bool true),.v (.int .i64 l[k].vs),.v (.bool l[k].gn)]]:=by
          rw[hn,ZI];show _++[Sv.row l[k]]=_;unfold Sv.row;rw[h4]
         (exact⟨none,trivial,fun gr=>⟨⟨(k+1,gg),by dsimp only;omega⟩,by show l.length-(k+1)<l.length-k;omega,hxI hn',hxI hn',hxI hn',hxI hn'⟩⟩)
        ·skip
         have hs:Sv.sought name tag l[k]=false:=by unfold Sv.sought;rw[h1,h2',h4,h5];rfl
         rw[if_neg (by rw[hs];decide)]at hn;refine G0 ?_;(exact⟨none,trivial,fun gr=>⟨⟨(k+1,g),by dsimp only;omega⟩,by show l.length-(k+1)<l.length-k;omega,hxI hn,hxI hn,hxI hn,hxI hn⟩⟩)
       ·skip
        have hs:Sv.sought name tag l[k]=false:=by unfold Sv.sought;rw[h1,h2',h4];rfl
        rw[if_neg (by rw[hs];decide)]at hn;refine G0 ?_;(exact⟨none,trivial,fun gr=>⟨⟨(k+1,g),by dsimp only;omega⟩,by show l.length-(k+1)<l.length-k;omega,hxI hn,hxI hn,hxI hn,hxI hn⟩⟩)
      ·have h2':emp tag=false:=h2;refine G0 ?_;(refine Aa (fun h3=>?_) (fun h3=>?_)<;>rw[h3])
       ·have h3':=h3;refine G0 ?_;(refine Aa (fun h4=>?_) (fun h4=>?_)<;>rw[h4])
        ·refine G0 ?_;(refine Aa (fun h5=>?_) (fun h5=>?_)<;>rw[h5])
         ·skip
          have hs:Sv.sought name tag l[k]=true:=by unfold Sv.sought;rw[h1,h2',h3',h4,h5];rfl
          rw[if_pos hs]at hn;refine G1 ?_;intro gg;refine⟨lI,lI,?_⟩;refine G1 ?_;intro gg;have hn':(Ga (l.take (k+1)) name tag).map Sv.row=(Ga (l.take k) name tag).map Sv.row++[[.v (.string l[k].nd),.v (.string l[k].id),.v (.string l[k].nm),.v (.string l[k].tg),.v (.int .i64 l[k].ad),.v (.int .i64 l[k].pt),.v (.bool true),.v (.int .i64 l[k].vs),.v (.bool l[k].gn)]]:=by
           rw[hn,ZI];show _++[Sv.row l[k]]=_;unfold Sv.row;rw[h4]
          (exact⟨none,trivial,fun gr=>⟨⟨(k+1,gg),by dsimp only;omega⟩,by show l.length-(k+1)<l.length-k;omega,hxI hn',hxI hn',hxI hn',hxI hn'⟩⟩)
         ·skip
          have hs:Sv.sought name tag l[k]=false:=by unfold Sv.sought;rw[h1,h2',h3',h4,h5];rfl
          rw[if_neg (by rw[hs];decide)]at hn;refine G0 ?_;(exact⟨none,trivial,fun gr=>⟨⟨(k+1,g),by dsimp only;omega⟩,by show l.length-(k+1)<l.length-k;omega,hxI hn,hxI hn,hxI hn,hxI hn⟩⟩)
        ·skip
         have hs:Sv.sought name tag l[k]=false:=by unfold Sv.sought;rw[h1,h2',h3',h4];rfl
         rw[if_neg (by rw[hs];decide)]at hn;refine G0 ?_;(exact⟨none,trivial,fun gr=>⟨⟨(k+1,g),by dsimp only;omega⟩,by show l.length-(k+1)<l.length-k;omega,hxI hn,hxI hn,hxI hn,hxI hn⟩⟩)
       ·have h3':=h3;have hs:Sv.sought name tag l[k]=false:=by unfold Sv.sought;rw[h1,h2',h3'];rfl
        rw[if_neg (by rw[hs];decide)]at hn;refine G0 ?_;(exact⟨none,trivial,fun gr=>⟨⟨(k+1,g),by dsimp only;omega⟩,by show l.length-(k+1)<l.length-k;omega,hxI hn,hxI hn,hxI hn,hxI hn⟩⟩)
     ·skip
      have hs:Sv.sought name tag l[k]=false:=by unfold Sv.sought;rw[h1];rfl
      rw[if_neg (by rw[hs];decide)]at hn;refine G0 ?_;(exact⟨none,trivial,fun gr=>⟨⟨(k+1,g),by dsimp only;omega⟩,by show l.length-(k+1)<l.length-k;omega,hxI hn,hxI hn,hxI hn,hxI hn⟩⟩)
    ·have hge:l.length≤k:=(by have:=ZW h0;omega);obtain rfl:k=l.length:=by omega
     refine G0 ?_;rw[hF,show Ga l name tag=Ga (l.take l.length) name tag by rw[XF]];(exact⟨[144],aI⟩)
section
open Go.Sort Go.Shelf
theorem Yh{P:Program}{f:FuncId}(h:E4 P f):∀args w,(callFunc f args).run P w=.ok (.enter f args) w:=fun args w=>by
 obtain⟨fn,h1,h2,h3⟩:=h
 have h2' : fn.name ≠ "runtime.NumGoroutine" := by simpa using h2
 have h3':¬fn.body=none:=by intro q;rw[q]at h3;simp at h3
 simp[callFunc,h1,h2',h3']
section
variable {α:Type} [Inhabited α] {enc:α→Value}
theorem Apu{w:World}{g:Nat}{cur:Array Value}{e:TypeId}{ss:List α}(hb:w.heap[g]? =some (.cells cur e (0,0)))(ht:cur.toList.take ss.length=ss.map enc):Holds enc w g 0 ss.toArray:=by
 intro j hj;have hj':j<ss.length:=by simpa using hj
 refine⟨?_,by simp[World.frozen?,hb]⟩;have h1:(cur.toList.take ss.length)[j]? =(ss.map enc)[j]? :=by rw[ht]
 rw[XA hj']at h1;simp only[World.cell?,hb,Nat.zero_add];simp only[Option.isSome_none,Bool.false_eq_true,if_false];rw[←Array.getElem?_toList,h1];simp[hj']
theorem Asf{w:World}{g n:Nat}{os:Array Obj}{cur:Array Value}{e:TypeId}{fr:Nat×Nat}(d:Array α)(hb:w.heap[g]? =some (.cells cur e fr)):
  (sortWorld enc w g 0 n d os).heap[g]? =some (.cells (putCells enc 0 d cur) e fr):=by
 have hg:g<w.heap.size:=(XL.1 hb).1;unfold sortWorld;rw[heap_grow_old _ _ (by simpa using hg)];simp[putRow,mapBlock,Sort.ahead,Array.getElem?_modify,hb,onCells]
theorem Wn{w:World}{g n k:Nat}{os:Array Obj}(d:Array α)(hk:k<w.heap.size)(hne:k≠g):(sortWorld enc w g 0 n d os).heap[k]? =w.heap[k]? :=by
 unfold sortWorld;rw[heap_grow_old _ _ (by simpa using hk)];have:g≠k:=fun e=>hne e.symm;simp[putRow,mapBlock,Sort.ahead,Array.getElem?_modify,this]
theorem Agq{w:World}{g n:Nat}{os:Array Obj}(d:Array α):w.heap.size≤(sortWorld enc w g 0 n d os).heap.size:=by
 unfold sortWorld Go.Sort.grow;simp
theorem Alp(cur:Array Value)(ts:List α)(h:ts.length≤cur.size):(putCells enc 0 ts.toArray cur).toList.take ts.length=ts.map enc:=by
 apply List.ext_getElem?;intro j;by_cases hj:j<ts.length
 ·rw[XA hj,Array.getElem?_toList];simp[putCells,hj,show j<cur.size by omega]
 ·rw[List.getElem?_take_eq_none (by omega),XK (by simp;omega)]
def Fp(enc:α→Value)(x:α):List V:=[.v (enc x)]
def N0(cf:α→α→Int)(d:List α):List α:=d.mergeSort fun x y=> !(ltOf cf) y x
omit [Inhabited α]in
theorem Ara{w:World}{R:Nat→Prop}{G:Nat→Option Loc}{d:List α}{vs:List Value}(hl:vs.length=d.length*1)(h:Cm w R G vs 1 (d.map (Fp enc))):vs=d.map enc:=by
 apply List.ext_getElem?;intro i;by_cases hi:i<d.length
 ·obtain⟨x,h1,_,h2⟩:=h.2 i 0 (Fp enc d[i]) (.v (enc d[i])) (by simp[hi]) rfl;rw[Nat.mul_one,Nat.add_zero]at h1;rw[h1,Bw h2];simp[hi]
 ·rw[XK (by omega),XK (by simp;omega)]
omit [Inhabited α]in
theorem Ari(h1:OneCell enc){w:World}{R:Nat→Prop}{G:Nat→Option Loc}(d:List α):Cm w R G (d.map enc) 1 (d.map (Fp enc)):=by
 refine⟨fun row hr=>?_,fun i j row u hi hj=>?_⟩
 ·obtain⟨x,_,rfl⟩:=XO.1 hr;rfl
 ·have hi':i<d.length:=by have:=(ZB.1 hi).1;simpa using this
  have e:row=Fp enc d[i]:=by rw[XJ,ZC hi']at hi;simpa using hi.symm
  subst e;cases j with
  |succ j=>simp[Fp]at hj
  |zero=>
   have e2:u=.v (enc d[i]):=by simpa[Fp]using hj.symm
   subst e2;exact⟨enc d[i],by simp[hi'],h1 _,.v _⟩
theorem Aqi{P:Program}{ρ:Ren}(L:SlLaysF.n6 P ρ)(hcall:E4 P (ρ.f 6))(T:TypeId)(h1:OneCell enc)(cf:α→α→Int)(hO:SWO (ltOf cf))(hT:∀x y,ltOf cf x y=false→ltOf cf y x=false→x=y)(f:FuncId)(caps:List V)(hfc:E4 P f)(d:List α)(hsz:d.length<4611686018427387904)(hf:d≠[]→∀(x y:α) (w:World) (R:Nat→Prop) (zs:List Value),(∀b,R b→b<w.heap.size)→Jd w R (.c (.v (enc x)):: .c (.v (enc y))::caps.map .c) zs→Calls P f zs.toArray w fun e w'=>e=.returned (.int .i64 (cf x y))∧∃q os,w'=Go.Sort.grow (w.drewN q) os):
  Hv P (ρ.f 6) [.ms T 1 (d.map (Fp enc)) ((N0 cf d).map (Fp enc)),.p (.c (.clo f caps))] []:=by
 refine⟨hcall,fun w R xs F hlt hp=>?_⟩
 match xs,hp with
 |[x0,x1],hp=>
  obtain⟨F1,F2,⟨⟨hpos,vs,hown,hrows⟩,hF1⟩,⟨F3,F4,⟨hx1,hF3⟩,hnil,hd34,hF2⟩,hd12,hF⟩:=hp;have hx1:RV w R noG (.clo f caps) x1:=hx1;have hF3':∀k,¬F3 k:=fun k hk=>by
   obtain⟨i,T',sz,rows,x,q1,_⟩:=(hF3 k).1 hk;cases i with
   |zero=>simp at q1
   |succ i=>simp at q1
  have hFF:∀b,F b↔F1 b:=fun b=>by
   rw[hF b,hF2 b];constructor
   ·rintro (q|q|q)
    ·exact q
    ·exact absurd q (hF3' b)
    ·exact absurd q (hnil b)
   ·exact .inl
  cases hx1 with
  |clo f cs xs' hl hcs=>
   have hvs:=Ara (by simpa using hown.1) hrows;subst hvs;have hlen:(d.map (Fp enc)).length=d.length:=by simp
   have hslen:(N0 cf d).length=d.length:=List.length_mergeSort d;have fin:∀w',Fr F w w'→(∀b,R b→w'.heap[b]? =w.heap[b]?)→w'.ownsRow 0 T 1 x0 (N0 cf d).length ((N0 cf d).map enc)→
     ∃(ys:List Value) (R' F':Nat→Prop),Ending.returned (Value.tuple #[])=.returned (Ge ys)∧([]:List Bg).length=ys.length∧Fr F w w'∧(∀b,R b→R' b)∧(∀b,R' b→R b∨(b<w'.heap.size∧(F b∨w.heap.size≤b)))∧
      C2 w' R' (([]:List Bg)++B7 [.ms T 1 (d.map (Fp enc)) ((N0 cf d).map (Fp enc)),.p (.c (.clo f caps))]) (ys++Ds [.ms T 1 (d.map (Fp enc)) ((N0 cf d).map (Fp enc)),.p (.c (.clo f caps))] [x0,.func (.func f) #[] xs'.toArray]) F'∧(∀b,F' b→F b∨w.heap.size≤b):=fun w' hfr hR ho=>by
    refine⟨[],R,F1,rfl,rfl,hfr,fun b hb=>hb,fun b hb=>.inl hb,?_,fun b hb=>.inl ((hFF b).2 hb)⟩;refine⟨F1,fun _=>False,⟨⟨hpos,(N0 cf d).map enc,by rw[ZE];exact ho,Ari h1 _⟩,fun k=>?_⟩,fun b hb=>hb,fun b hb=>⟨fun q=>q,(hd12 b hb).2⟩,fun b=>by simp⟩;rw[hF1 k];constructor
    ·rintro ⟨i,T',sz,rows,x,q1,q2,q3⟩
     cases i with
     |zero=>simp at q1 q2;exact⟨0,T,1,_,x,rfl,by simpa using q2,q3⟩
     |succ i=>simp at q1
    ·rintro ⟨i,T',sz,rows,x,q1,q2,q3⟩
     cases i with
     |zero=>simp at q1 q2;exact⟨0,T,1,_,x,rfl,by simpa using q2,q3⟩
     |succ i=>simp at q1
   have hnone:∀(p:Option Addr) (cap:Nat),d=[]→x0=.slice p 0 cap→Calls P (ρ.f 6) [x0,.func (.func f) #[] xs'.toArray].toArray w fun e w'=>∃(ys:List Value) (R' F':Nat→Prop),e=.returned (Ge ys)∧([]:List Bg).length=ys.length∧Fr F w w'∧(∀b,R b→R' b)∧(∀b,R' b→R b∨(b<w'.heap.size∧(F b∨w.heap.size≤b)))∧
      C2 w' R' (([]:List Bg)++B7 [.ms T 1 (d.map (Fp enc)) ((N0 cf d).map (Fp enc)),.p (.c (.clo f caps))]) (ys++Ds [.ms T 1 (d.map (Fp enc)) ((N0 cf d).map (Fp enc)),.p (.c (.clo f caps))] [x0,.func (.func f) #[] xs'.toArray]) F'∧(∀b,F' b→F b∨w.heap.size≤b):=fun p cap hd0 hx=>by
    have hs0:N0 cf d=[]:=XR (by rw[hslen,hd0];rfl);have h:=AnyF.slices_SortFunc_none (P:=P) (ρ:=ρ) {L with} p cap (.func (.func f) #[] xs'.toArray) w;rw[←hx]at h;refine h.mono ?_
    rintro e w' ⟨rfl,rfl⟩
    refine fin w' (Fr.refl _ _) (fun _ _=>rfl) ?_;rw[hs0];rw[hd0]at hown;exact hown
   rcases hown.2 with⟨hx,hz⟩|⟨g,cap,cur,hx,hbase,hb,hnc,hcm,hcs2,htake⟩
   ·exact hnone none 0 (XR (by omega)) hx
   ·by_cases hd0:d=[]
    ·exact hnone _ cap hd0 (by rw[hx,hd0];rfl)
    ·have hgR:∀b,R b→b≠g:=fun b hb e=>by
      have:F1 g:=(hF1 g).2 ⟨0,T,1,_,x0,rfl,rfl,by rw[hx];rfl⟩;exact(hd12 g this).2 (e▸hb)
     have hgF:F g:=(hFF g).2 ((hF1 g).2 ⟨0,T,1,_,x0,rfl,rfl,by rw[hx];rfl⟩);have hgs:g<w.heap.size:=(XL.1 hb).1;have hH:Holds enc w g 0 d.toArray:=Apu hb (by simpa using htake);have hcmp:CmpLays1 P f xs'.toArray enc cf g 0 d.toArray.size w:=fun m os dk hs x y=>by
      have hW:∀b,R b→(sortWorld enc w g 0 m dk os).heap[b]? =w.heap[b]? :=fun b hb=>Wn dk (hlt b hb) (hgR b hb);have hlt':∀b,R b→b<(sortWorld enc w g 0 m dk os).heap.size:=fun b hb=>XH (hlt b hb) (Agq dk);have hpars:Jd (sortWorld enc w g 0 m dk os) R (.c (.v (enc x)):: .c (.v (enc y))::caps.map .c) (enc x::enc y::xs'):=by
       have hc:∀p∈(.c (.v (enc x)):: .c (.v (enc y))::caps.map .c:List Par),∃u,p=.c u:=fun p hp=>by
        simp only[XC,XO]at hp;rcases hp with rfl|rfl|⟨u,_,rfl⟩<;>exact⟨_,rfl⟩
       refine⟨by simp[hl],fun i p z q1 q2=>?_,fun i j T1 s1 r1 T2 s2 r2 z1 z2 b _ q1=>?_,fun b hb=>absurd hb (Mo hc)⟩
       ·match i with
        |0=>simp at q1 q2;subst q1 q2;exact .v _
        |1=>simp at q1 q2;subst q1 q2;exact .v _
        |i+2=>
         simp only[List.getElem?_cons_succ,XJ]at q1 q2;cases hu:caps[i]? with
         |none=>rw[hu]at q1;cases q1
         |some u=>
          rw[hu]at q1;injection q1 with q1;subst q1
          exact(hcs i u z hu q2).mono (fun b hb=>⟨hb,hW b hb⟩) (Gle.refl _)
       ·obtain⟨u,hu⟩:=hc _ (ZH q1);cases hu
      have e0:(#[enc x,enc y]++xs'.toArray:Array Value)=(enc x::enc y::xs').toArray:=by simp
      rw[e0];exact hf hd0 x y _ R _ hlt' hpars
     have h:=Any.slices_SortFunc_total L enc h1 cf hO f xs'.toArray g 0 cap d.toArray w (Yh hfc) hcmp hH hgs (by simpa using hsz) hT;have e1:x0=.slice (some ⟨g,0,none⟩) d.toArray.size cap:=by rw[hx];simp
     rw[←e1]at h;refine h.mono ?_
     rintro e w' ⟨rfl,n,os,rfl⟩
     have hto:d.toArray.toList=d:=by simp
     rw[hto];refine fin _ ⟨rfl,rfl,rfl,Agq _,fun k hk hn=>Wn _ hk (fun e=>hn (e▸hgF))⟩ (fun b hb=>Wn _ (hlt b hb) (hgR b hb)) ?_;rw[hx,hlen,←hslen];refine⟨by simp,.inr ⟨g,cap,_,rfl,ZU _,Asf _ hb,by rw[hslen];rw[hlen]at hnc;exact hnc,hcm,by simp[putCells,hcs2],?_⟩⟩;rw[Nat.mul_one];exact Alp cur _ (by rw[hslen,hcs2];rw[hlen]at hnc;omega)
end
end
namespace Pl
open Go.Sort Go.Shelf
section
variable {α:Type} {c:α→α→Int}
theorem Good.self(g:Good c)(x:α):c x x=0:=by have:=g.anti x x;omega
theorem Bac(g:Good c):SWO (ltOf c) where
 irrefl x:=by unfold ltOf;rw[g.self];rfl
 trans x y z h1 h2:=by
  unfold ltOf at *;have h1:=ZV h1;have h2:=ZV h2;have a1:=g.anti x y;have a2:=g.anti y z;have a3:=g.anti x z;have:=g.pp z y x (by omega) (by omega);exact ZX (by omega)
 ntrans x y z h1 h2:=by
  unfold ltOf at *;have h1:=ZW h1;have h2:=ZW h2;refine ZY ?_;by_cases p1:c x y=0
  ·by_cases p2:c y z=0
   ·have:=g.zz x y z p1 p2;omega
   ·have:=g.zp x y z p1 (by omega);omega
  ·by_cases p2:c y z=0
   ·have:=g.pz x y z (by omega) p2;omega
   ·have:=g.pp x y z (by omega) (by omega);omega
theorem Bai(g:Good c)(h0:∀x y,c x y=0→x=y):∀x y,ltOf c x y=false→ltOf c y x=false→x=y:=fun x y h1 h2=>by
 unfold ltOf at *;have h1:=ZW h1;have h2:=ZW h2;have:=g.anti x y;exact h0 x y (by omega)
end
def rkN(K:ByteArray→Option Int)(a:ByteArray):Int:=if(K a).isSome then 0 else 1
def frN(K:ByteArray→Option Int)(a:ByteArray):Int:=(K a).getD 0
def cfN(K:ByteArray→Option Int)(a b:ByteArray):Int:=Bi [Co (rkN K a) (rkN K b),Co (frN K a) (frN K b),Dg a b]
theorem Agx(K:ByteArray→Option Int):Good (cfN K):=Wg [fun a b=>Co (rkN K a) (rkN K b),fun a b=>Co (frN K a) (frN K b),fun a b=>Dg a b] (by
 intro c hc;simp only[XC,XD,or_false]at hc;rcases hc with rfl|rfl|rfl
 ·exact M0 (rkN K)
 ·exact M0 (frN K)
 ·exact Au5 fun a=>a)
theorem Aum{K:ByteArray→Option Int}{a b:ByteArray}(h:cfN K a b=0):a=b:=Ct.1 (Aeg h _ (by simp))
end Pl
namespace Pl
def Wh.perr(w:Wh):Int:=w.pl.err
def Gm(f:Pc):List Wh→ByteArray→Option Int
 |[],_=>none
 |w::l,a=>if a=w.nd then some (f.far w.pl)else Gm f l a
theorem U6(f:Pc)(w:Wh)(a:ByteArray):∀l:List Wh,Gm f (l++[w]) a=(Gm f l a).or (if a=w.nd then some (f.far w.pl)else none)
 |[]=>by simp[Gm]
 |v::l=>by
  show(if a=v.nd then some (f.far v.pl)else Gm f (l++[w]) a)=(if a=v.nd then some (f.far v.pl)else Gm f l a).or _;split
  ·rfl
  ·exact U6 f w a l
def iV(n:Int):V:=.v (.int .i64 n)
theorem Ahl(k:ByteArray)(v:V)(a:ByteArray):∀(E:List (ByteArray×V)) (i:Nat),look a (E++[(k,v)]) i=(look a E i).or (if a=k then some (i+E.length,v)else none)
 |[],i=>by simp[look]
 |(b,u)::E,i=>by
  show(if a=b then some (i,u)else look a (E++[(k,v)]) (i+1))=(if a=b then some (i,u)else look a E (i+1)).or _;split
  ·rfl
  ·rw[Ahl k v a E (i+1)];congr 2;simp[Nat.add_assoc,Nat.add_comm 1]
def Gs(f:Pc)(l:List Wh)(E:List (ByteArray×V)):Prop:=∀a,(look a E 0).map (·.2)=(Gm f l a).map iV
theorem Gs.nil(f:Pc):Gs f [] []:=fun a=>rfl
theorem Gs.old{f:Pc}{l:List Wh}{E:List (ByteArray×V)}(h:Gs f l E){w:Wh}(hw:look w.nd E 0≠none):Gs f (l++[w]) E:=fun a=>by
 rw[h a,U6];by_cases e:a=w.nd
 ·subst e;have:=h w.nd;cases q:look w.nd E 0 with
  |none=>exact absurd q hw
  |some r=>
   rw[q]at this;cases q2:Gm f l w.nd with
   |none=>rw[q2]at this;cases this
   |some x=>rfl
 ·rw[if_neg e];cases Gm f l a<;>rfl
theorem Gs.new{f:Pc}{l:List Wh}{E:List (ByteArray×V)}(h:Gs f l E){w:Wh}(hw:look w.nd E 0=none):Gs f (l++[w]) (put E w.nd (iV (f.far w.pl))):=fun a=>by
 have e:put E w.nd (iV (f.far w.pl))=E++[(w.nd,iV (f.far w.pl))]:=by unfold put;rw[hw]
 have hn:Gm f l w.nd=none:=by
  have:=h w.nd;rw[hw]at this;cases q2:Gm f l w.nd with
  |none=>rfl
  |some x=>rw[q2]at this;cases this
 rw[e,Ahl,U6];by_cases q:a=w.nd
 ·subst q;rw[hw,hn];simp
 ·rw[if_neg q,if_neg q];have:=h a;cases q1:look a E 0<;>cases q2:Gm f l a<;>rw[q1,q2]at this<;>first|rfl|cases this|exact this
theorem Gs.at_none{f:Pc}{l:List Wh}{E:List (ByteArray×V)}(h:Gs f l E){a:ByteArray}(hf:Gm f l a=none):look a E 0=none:=by
 have:=h a;rw[hf]at this;cases q:look a E 0 with
 |none=>rfl
 |some r=>rw[q]at this;cases this
theorem Gs.at_some {f : Pc} {l : List Wh} {E : List (ByteArray × V)} (h : Gs f l E) {a : ByteArray} {x : Int} (hf : Gm f l a = some x) : ∃ i, look a E 0 = some (i, iV x) := by
  have := h a
  rw [hf] at this
  cases q : look a E 0 with
  | none => rw [q] at this; cases this
  | some r =>
    rw [q] at this
    obtain ⟨i, u⟩ := r
    exact ⟨i, by have e : u = iV x := by simpa using this
                 rw [e]⟩
theorem Gs.val{f:Pc}{l:List Wh}{E:List (ByteArray×V)}(h:Gs f l E){a:ByteArray}{i:Nat}{v:V}(q:look a E 0=some (i,v)):∃x,v=iV x:=by
 have:=h a;rw[q]at this;cases q2:Gm f l a with
 |none=>rw[q2]at this;cases this
 |some x=>rw[q2]at this;exact⟨x,by simpa using this⟩
def M7(s:ByteArray):List V:=[.v (.string s)]
instance:FlatRow M7:=⟨fun x u hu=>by simp[M7]at hu;exact⟨_,hu⟩⟩
instance:OneRow M7 1:=⟨fun _=>rfl,fun x u hu=>by simp[M7]at hu;exact⟨_,hu,rfl⟩⟩
noncomputable def G5(f:Pc)(l:List Wh)(names:List ByteArray):Int:=if 100<l.length∨100<names.length then 2 else if f.err≠0 then f.err else Aq Wh.perr l
end Pl
theorem Yu{p:Pc}:p.okb=true↔(-10000000≤p.x∧p.x≤10000000)∧(-10000000≤p.y∧p.y≤10000000)∧(-10000000≤p.z∧p.z≤10000000)∧(0≤p.h∧p.h≤1000000)∧(0≤p.s∧p.s≤1000):=O8
theorem Aqh(a b:Pc)(ha:a.okb=true)(hb:b.okb=true):Fun Tryz.prog 283 [.c (.agg a.row),.c (.agg b.row)] [.c (.v (.int .i64 (a.flat b)))]:=by
 obtain⟨⟨a1,a2⟩,⟨a3,a4⟩,⟨a5,a6⟩,_,_⟩:=Yu.1 ha;obtain⟨⟨b1,b2⟩,⟨b3,b4⟩,⟨b5,b6⟩,_,_⟩:=Yu.1 hb;have q1:=Qo a1 a2 b1 b2;have q2:=Qo a3 a4 b3 b4;have q3:=Qo a5 a6 b5 b6;refine Av Abu rfl ?_;(refine goI ?_;repeat (intro gg;refine goI ?_));(refine .inl ⟨_,_,false,[],aI,Arc ((a.x-b.x)*(a.x-b.x)+(a.y-b.y)*(a.y-b.y)+(a.z-b.z)*(a.z-b.z)) (by omega) (by omega),Ae,nI,?_⟩);refine G1 ?_;intro gg;(exact⟨[],aI⟩)
theorem Aka(a b:Pc)(ha:a.okb=true)(hb:b.okb=true):Fun Tryz.prog 270 [.c (.agg a.row),.c (.agg b.row)] [.c (.v (.int .i64 (a.far b)))]:=by
 obtain⟨_,_,_,⟨a7,a8⟩,_⟩:=Yu.1 ha;obtain⟨_,_,_,⟨b7,b8⟩,_⟩:=Yu.1 hb;obtain⟨f1,f2⟩:=(Az8 ha hb).1;refine Av X3 rfl ?_;(refine goI ?_;repeat (intro gg;refine goI ?_));(refine⟨_,_,false,aI,Aqh a b ha hb,Ae,nI,?_⟩);refine G1 ?_;intro gg;(exact⟨[],aI⟩)
section
open Go.Shelf
def Tryz.sortI_ren:Go.Shelf.Ren:=⟨fun|6=>43|15=>101|14=>100|28=>187|29=>188|20=>179|21=>180|22=>181|23=>182|24=>183|25=>184|26=>185|27=>186|46=>228|47=>229|48=>230|49=>231|50=>232|57=>258|n=>n,fun|22=>96|24=>3|25=>71|3=>3|39=>165|0=>0|53=>236|55=>238|4=>4|46=>230|45=>229|50=>122|5=>5|9=>9|66=>271|70=>275|76=>292|77=>293|n=>n,fun|n=>n⟩
def Tryz.sortS_ren:Go.Shelf.Ren:=⟨fun|6=>272|15=>101|14=>284|28=>187|29=>188|20=>289|21=>290|22=>291|23=>292|24=>293|25=>294|26=>295|27=>296|46=>297|47=>229|48=>230|49=>298|50=>299|57=>300|n=>n,fun|22=>171|24=>9|25=>191|3=>3|39=>165|0=>0|53=>236|55=>238|4=>4|46=>230|45=>229|50=>122|5=>5|9=>9|66=>271|70=>275|76=>292|77=>293|n=>n,fun|n=>n⟩
theorem Tryz.sortS:Go.Proofs.SlLaysF.n6 Tryz.prog Tryz.sortS_ren:={
 mixed:=by kernel_rfl
 f6:=⟨Tryz.f272.name,by decide,Tryz.func272.trans (congrArg some (by kernel_rfl))⟩
 f14:=⟨Tryz.f284.name,by decide,Tryz.func284.trans (congrArg some (by kernel_rfl))⟩
 f15:=Tryz.func101.trans (congrArg some (by kernel_rfl))
 f20:=⟨Tryz.f289.name,by decide,Tryz.func289.trans (congrArg some (by kernel_rfl))⟩
 f21:=⟨Tryz.f290.name,by decide,Tryz.func290.trans (congrArg some (by kernel_rfl))⟩
 f22:=⟨Tryz.f291.name,by decide,Tryz.func291.trans (congrArg some (by kernel_rfl))⟩
 f23:=⟨Tryz.f292.name,by decide,Tryz.func292.trans (congrArg some (by kernel_rfl))⟩
 f24:=⟨Tryz.f293.name,by decide,Tryz.func293.trans (congrArg some (by kernel_rfl))⟩
 f25:=⟨Tryz.f294.name,by decide,Tryz.func294.trans (congrArg some (by kernel_rfl))⟩
 f26:=⟨Tryz.f295.name,by decide,Tryz.func295.trans (congrArg some (by kernel_rfl))⟩
 f27:=⟨Tryz.f296.name,by decide,Tryz.func296.trans (congrArg some (by kernel_rfl))⟩
 f28:=Tryz.func187.trans (congrArg some (by kernel_rfl))
 f29:=Tryz.func188.trans (congrArg some (by kernel_rfl))
 f46:=⟨Tryz.f297.name,by decide,Tryz.func297.trans (congrArg some (by kernel_rfl))⟩
 f47:=Tryz.func229.trans (congrArg some (by kernel_rfl))
 f48:=Tryz.func230.trans (congrArg some (by kernel_rfl))
 f49:=⟨Tryz.f298.name,by decide,Tryz.func298.trans (congrArg some (by kernel_rfl))⟩
 f50:=⟨Tryz.f299.name,by decide,Tryz.func299.trans (congrArg some (by kernel_rfl))⟩
 f57:=⟨Tryz.f300.name,by decide,Tryz.func300.trans (congrArg some (by kernel_rfl))⟩
 t0:=Tryz.underlying0
 a0:=Tryz.isAgg0
 z0:=Tryz.sizeOf0
 v0:=Tryz.zeroValue0
 t3:=Tryz.underlying3
 a3:=Tryz.isAgg3
 z3:=Tryz.sizeOf3
 v3:=Tryz.zeroValue3
 t4:=Tryz.underlying4
 a4:=Tryz.isAgg4
 z4:=Tryz.sizeOf4
 v4:=Tryz.zeroValue4
 t5:=Tryz.underlying5
 a5:=Tryz.isAgg5
 z5:=Tryz.sizeOf5
 v5:=Tryz.zeroValue5
 t9:=Tryz.underlying9
 a9:=Tryz.isAgg9
 z9:=Tryz.sizeOf9
 v9:=Tryz.zeroValue9
 t22:=Tryz.underlying171
 a22:=Tryz.isAgg171
 z22:=Tryz.sizeOf171
 v22:=Tryz.zeroValue171
 a24:=Tryz.isAgg9
 z24:=Tryz.sizeOf9
 t25:=Tryz.underlying191
 a25:=Tryz.isAgg191
 z25:=Tryz.sizeOf191
 v25:=Tryz.zeroValue191
 t39:=Tryz.underlying165
 a39:=Tryz.isAgg165
 z39:=Tryz.sizeOf165
 v39:=Tryz.zeroValue165
 t45:=Tryz.underlying229
 a45:=Tryz.isAgg229
 z45:=Tryz.sizeOf229
 v45:=Tryz.zeroValue229
 t46:=Tryz.underlying230
 a46:=Tryz.isAgg230
 z46:=Tryz.sizeOf230
 v46:=Tryz.zeroValue230
 t50:=Tryz.underlying122
 a50:=Tryz.isAgg122
 z50:=Tryz.sizeOf122
 v50:=Tryz.zeroValue122
 t53:=Tryz.underlying236
 a53:=Tryz.isAgg236
 z53:=Tryz.sizeOf236
 v53:=Tryz.zeroValue236
 t55:=Tryz.underlying238
 a55:=Tryz.isAgg238
 z55:=Tryz.sizeOf238
 v55:=Tryz.zeroValue238
 t66:=Tryz.underlying271
 a66:=Tryz.isAgg271
 z66:=Tryz.sizeOf271
 v66:=Tryz.zeroValue271
 t70:=Tryz.underlying275
 a70:=Tryz.isAgg275
 z70:=Tryz.sizeOf275
 v70:=Tryz.zeroValue275
 t76:=Tryz.underlying292
 a76:=Tryz.isAgg292
 z76:=Tryz.sizeOf292
 v76:=Tryz.zeroValue292
 t77:=Tryz.underlying293
 a77:=Tryz.isAgg293
 z77:=Tryz.sizeOf293
 v77:=Tryz.zeroValue293}
end
section
open Go.Sort Go.Shelf
theorem Ak5(cl:Bool)(l:List ByteArray)(hl:l.length≤1000):Fun Tryz.prog 271 [.c (.sl cl (l.map M7))] [.o 9 1 (l.map M7)]:=by
 refine Av I2 rfl ?_;(refine goI ?_;repeat (intro gg;refine goI ?_));rename_i b;have hb:=gg;cases b with
 |true=>
  have e:l.map M7=[]:=hb rfl;refine G0 ?_;rw[e];(exact⟨[],aI⟩)
 |false=>
  refine G1 ?_;intro gg;refine⟨Ado,?_⟩;refine G0 ?_;refine⟨lI,lI,?_⟩;refine G1 ?_;intro gg;(exact⟨[80],aI⟩)
theorem Bbq{K:ByteArray→Option Int}{a b:ByteArray}(h1:K a=none)(h2:K b=none):cfN K a b=Bi [Co 0 0,Dg a b]:=by simp[cfN,rkN,frN,h1,h2,Qx,Co]
theorem Bdj{K:ByteArray→Option Int}{a b:ByteArray}{x y:Int}(h1:K a=some x)(h2:K b=some y):cfN K a b=Bi [Co x y,Dg a b]:=by simp[cfN,rkN,frN,h1,h2,Qx,Co]
theorem Bcf{K:ByteArray→Option Int}{a b:ByteArray}{x:Int}(h1:K a=some x)(h2:K b=none):cfN K a b= -1:=by simp[cfN,rkN,frN,h1,h2,Qx,Co]
theorem Bdd{K:ByteArray→Option Int}{a b:ByteArray}{y:Int}(h1:K a=none)(h2:K b=some y):cfN K a b=1:=by simp[cfN,rkN,frN,h1,h2,Qx,Co]
end
open Go
def Bdb(a b:ByteArray)(x y:Int)(ok is:Bool):Int:=bif ok&& !is then -1 else bif is&& !ok then 1 else Bi [Co x y,Dg a b]
theorem Apx(w:World):∃q os,w=Go.Sort.grow (w.drewN q) os:=⟨0, #[],by simp[Go.Sort.grow,World.drewN]⟩
theorem Alu(w:World)(o:Obj):∃q os,w.alloc o=Go.Sort.grow (w.drewN q) os:=⟨0, #[o],by simp[Go.Sort.grow,World.drewN,World.alloc,-World.alloc_eq]⟩
set_option maxRecDepth 100000 in
theorem Aqb(a b:ByteArray)(bx o mb:Nat)(w:World)(ha:w.cell? ⟨bx,o,none⟩=some (.map (some mb)))(x y:Int)(ok is:Bool)(h1:(Instr.lookup 306 (.map (some mb)) (.string a) true).run Tryz.prog w=.ok (.tuple #[.int .i64 x,.bool ok]) w)(h2:(Instr.lookup 306 (.map (some mb)) (.string b) true).run Tryz.prog w=.ok (.tuple #[.int .i64 y,.bool is]) w):Calls Tryz.prog 273 #[.string a,.string b,.pointer (some ⟨bx,o,none⟩)] w fun e w'=>e=.returned (.int .i64 (Bdb a b x y ok is))∧∃q os,w'=Go.Sort.grow (w.drewN q) os:=by
 have hnot:∀(x:Bool) (w:World),(Op.unary .not (.bool x)).run Tryz.prog w=.ok (.bool (!x)) w:=fun _ _=>rfl;cases ok<;>cases is
 all_goals
  go_enter Tryz.func273,Tryz.ntmps273
  go_wp2_with (first|(go_at_call 46;refine(Ahi x y _).mono ?_;rintro e w' ⟨rfl,rfl⟩)|(go_at_call 136;refine(Ahk a b _).mono ?_;rintro e w' ⟨rfl,rfl⟩)|(go_at_call 45;refine(Ayp _ [Co x y,Dg a b] _ (Blk.new _ _ _) (by simp)).mono ?_;rintro e w' ⟨rfl,rfl⟩))
  refine bodyPost_ret (results_tmp rfl _ _ _) rfl ⟨rfl,?_⟩
  first|exact Alu _ _|exact Apx _
theorem Ais{w:World}{R:Nat→Prop}{E:List (Value×V)}{x:Value}{k:ByteArray}{r:Option (Nat×V)}(hx:RV w R noG (.rmap E) x)(hf:Gb .string (.string k) E 0=some r):
  ∃(mb:Nat) (val:Value) (b:Bool),x=.map (some mb)∧(Instr.lookup 306 x (.string k) true).run Tryz.prog w=.ok (.tuple #[val,.bool b]) w∧(r=none→val=.int .i64 0∧b=false)∧∀j u,r=some (j,u)→b=true∧RV w R noG u val:=by
 cases hx with
 |rmap ents mb clock es hR hb hl hk hv=>
  obtain⟨s,g1,g2,g3⟩:=N2 es.toList E 0 (by simpa using hl) (fun j e p q1 q2=>hk j e p (by simpa using q1) q2) r hf;have hck:=fun em=>J1 (P:=Tryz.prog) (w:=w) (em:=em) (n:=9999) (v:=.string k) Tryz.underlying9 rfl;have hget:(Instr.lookup 306 (.map (some mb)) (.string k) true).run Tryz.prog w=(do
    let (v,b')←match s with
     |some (_,v)=>pure (v,true)
     |none=>pure (←zeroValue 3,false)
    pure (.tuple #[v,.bool b']):Sem Value).run Tryz.prog w:=by
   simp only[Instr.lookup,Sem.run_bind,run_underlying Tryz.underlying306,Result.andThen_ok,Sem.run_pure,Go.MapKept.run_getObj_map hb,hck,I8 Tryz.underlying9 g1];rfl
  have hi:(Tryz.prog.info? 3).map (fun i=>i.zero)=some (some (.int .i64 0)):=by kernel_rfl
  obtain⟨i,hi1,hi2⟩:=Option.map_eq_some_iff.1 hi;cases r with
  |none=>
   obtain rfl:=g2 rfl;refine⟨mb,.int .i64 0,false,rfl,?_,fun _=>⟨rfl,rfl⟩,fun j u h=>(by cases h)⟩;rw[hget];simp[zeroValue,typeInfo,hi1,hi2]
  |some q=>
   obtain⟨j,u⟩:=q;obtain⟨v,rfl,_,e,p,k1,k2,k3,k4⟩:=g3 j u rfl;refine⟨mb,v,true,rfl,?_,fun h=>(by cases h),fun j' u' h=>?_⟩
   ·rw[hget];simp
   ·cases h;refine⟨rfl,?_⟩;rw[k3,k4];exact hv (j-0) e p (by simpa using k1) k2
theorem Aym(f:Pc)(l:List Wh)(E:List (ByteArray×V))(hE:Gs f l E)(a b:ByteArray)(w:World)(R:Nat→Prop)(zs:List Value)(hlt:∀b,R b→b<w.heap.size)(hp:Jd w R [.c (.v (.string a)),.c (.v (.string b)),.c (.rptr [.rmap (ents E)] 0)] zs):Calls Tryz.prog 273 zs.toArray w fun e w'=>e=.returned (.int .i64 (cfN (Gm f l) a b))∧∃q os,w'=Go.Sort.grow (w.drewN q) os:=by
 have hl:=hp.len
 match zs,hl,hp with
 |[z0,z1,z2],_,hp=>
  have e0:z0=.string a:=Bw (hp.ok 0 _ _ rfl rfl);have e1:z1=.string b:=Bw (hp.ok 1 _ _ rfl rfl);subst e0 e1;have h2:RV w R noG (.rptr [.rmap (ents E)] 0) z2:=hp.ok 2 _ _ rfl rfl;cases h2 with
  |rptr row off bx o g hR hcell hh=>
   have hm:=hh 0 _ rfl;have hc:=hcell 0 _ rfl;have key:∀c:ByteArray,∃(mb:Nat) (val:Int) (bb:Bool),g 0=.map (some mb)∧(Instr.lookup 306 (g 0) (.string c) true).run Tryz.prog w=.ok (.tuple #[.int .i64 val,.bool bb]) w∧(Gm f l c=none→val=0∧bb=false)∧∀x,Gm f l c=some x→val=x∧bb=true:=by
    intro c;cases hk:Gm f l c with
    |none=>
     have q:=hE.at_none hk;obtain⟨mb,val,bb,k1,k2,k3,_⟩:=Ais (r:=none) hm ((Di _ _ _).trans (by rw[q]));obtain⟨rfl,rfl⟩:=k3 rfl;exact⟨mb,0,false,k1,k2,fun _=>⟨rfl,rfl⟩,fun x h=>(by cases h)⟩
    |some x=>
     obtain⟨j,q⟩:=hE.at_some hk;obtain⟨mb,val,bb,k1,k2,_,k3⟩:=Ais (r:=some (j,iV x)) hm ((Di _ _ _).trans (by rw[q]));obtain⟨rfl,hv⟩:=k3 j _ rfl;obtain rfl:=Bw hv;exact⟨mb,x,true,k1,k2,fun h=>(by cases h),fun y h=>by cases h;exact⟨rfl,rfl⟩⟩
   obtain⟨mb,x,ok,m1,l1,n1,s1⟩:=key a;obtain⟨mb2,y,is,m2,l2,n2,s2⟩:=key b;rw[m1]at l1 l2 hc;have h:=Aqb a b bx o mb w hc x y ok is l1 l2;have er:Bdb a b x y ok is=cfN (Gm f l) a b:=by
    cases h1:Gm f l a with
    |none=>
     obtain⟨rfl,rfl⟩:=n1 h1;cases h2:Gm f l b with
     |none=>obtain⟨rfl,rfl⟩:=n2 h2;rw[Bbq h1 h2];rfl
     |some v=>obtain⟨rfl,rfl⟩:=s2 v h2;rw[Bdd h1 h2];rfl
    |some u=>
     obtain⟨rfl,rfl⟩:=s1 u h1;cases h2:Gm f l b with
     |none=>obtain⟨rfl,rfl⟩:=n2 h2;rw[Bcf h1 h2];rfl
     |some v=>obtain⟨rfl,rfl⟩:=s2 v h2;rw[Bdj h1 h2];rfl
   rw[er]at h;exact h
theorem Ar0(f:Pc)(l:List Wh)(E:List (ByteArray×V))(hE:Gs f l E)(names:List ByteArray)(hn:names.length≤1000):Hv Tryz.prog 272 [.ms 9 1 (names.map M7) ((N0 (cfN (Gm f l)) names).map M7),.p (.c (.clo 273 [.rptr [.rmap (ents E)] 0]))] []:=
 Aqi (enc:=fun s:ByteArray=>Value.string s) Tryz.sortS (Cs Tryz.func272 (by kernel_rfl) (by kernel_rfl)) 9 (fun _=>rfl) (cfN (Gm f l)) (Bac (Agx _)) (Bai (Agx _) fun _ _=>Aum) 273 [.rptr [.rmap (ents E)] 0]
  (Cs Tryz.func273 (by kernel_rfl) (by kernel_rfl)) names (by omega) (fun _ a b w R zs hlt hp=>Aym f l E hE a b w R zs hlt hp)
section
open Go.Sort Go.Shelf
noncomputable def Aht(f:Pc)(l:List Wh)(names:List ByteArray):List ByteArray:=if G5 f l names=0 then N0 (cfN (Gm f l)) names else []
theorem S5{f:Pc}{l:List Wh}{names:List ByteArray}(h:100<l.length∨100<names.length):G5 f l names=2:=by simp[G5,h]
theorem Af6{f:Pc}{l:List Wh}{names:List ByteArray}(h:¬(100<l.length∨100<names.length))(h2:f.err≠0):G5 f l names=f.err:=by simp[G5,h,h2]
theorem Tq{f:Pc}{l:List Wh}{names:List ByteArray}(h:¬(100<l.length∨100<names.length))(h2:f.err=0):G5 f l names=Aq Wh.perr l:=by simp[G5,h,h2]
theorem S4{f:Pc}{l:List Wh}{names:List ByteArray}(h:G5 f l names≠0):Aht f l names=[]:=by simp[Aht,h]
theorem Ahr{f:Pc}{l:List Wh}{names:List ByteArray}(h:G5 f l names=0):Aht f l names=N0 (cfN (Gm f l)) names:=by simp[Aht,h]
theorem Aov(f:Pc)(l:List Wh)(names:List ByteArray)(hl:l.length≤9223372036854775807)(hn:names.length≤9223372036854775807):Fun Tryz.prog 252 [.c (.agg f.row),.c (.sl false (l.map Wh.row)),.c (.sl false (names.map M7))]
  [.o 9 1 ((Aht f l names).map M7),.c (.v (.int .i64 (G5 f l names)))]:=by
 refine Av Ack rfl ?_;refine G1 ?_;intro gg;rw[ZE];(refine Aa (fun h1=>?_) (fun h1=>?_)<;>rw[h1])
 ·have h1':100<l.length:=(by have:=ZV h1;omega);have e:=S5 (f:=f) (l:=l) (names:=names) (.inl h1');rw[e,S4 (by rw[e];decide)];refine G0 ?_;(exact⟨[],aI⟩)
 ·have h1':¬100<l.length:=(by have:=ZW h1;omega);refine G0 ?_;rw[ZE];(refine Aa (fun h2=>?_) (fun h2=>?_)<;>rw[h2])
  ·have h2':100<names.length:=(by have:=ZV h2;omega);have e:=S5 (f:=f) (l:=l) (names:=names) (.inr h2');rw[e,S4 (by rw[e];decide)];refine G0 ?_;(exact⟨[],aI⟩)
  ·have h2':¬100<names.length:=(by have:=ZW h2;omega);have h12:¬(100<l.length∨100<names.length):=by omega
   refine G0 ?_;refine .inl (cX (Il f) ?_);refine G1 ?_;intro gg;(refine Aa (fun h3=>?_) (fun h3=>?_)<;>rw[h3])
   ·have h3':f.err≠0:=by simpa using h3
    have e:=Af6 (f:=f) (l:=l) (names:=names) h12 h3';rw[e,S4 (by rw[e];exact h3')];refine G0 ?_;(exact⟨[],aI⟩)
   ·have h3':f.err=0:=by simpa using h3
    have e:=Tq (f:=f) (l:=l) (names:=names) h12 h3';(refine goI ?_;repeat (intro gg;refine goI ?_));rename_i gm
    rename Nat=>gb
    have hf:f.okb=true:=Pc.err_iff.1 h3';refine⟨[],rfl,?_⟩;refine G0 ?_;(refine⟨[],none,{q:Nat×List (ByteArray×V)//q.1≤l.length∧(∀j,(h:j<l.length)→j<q.1→Wh.perr l[j]=0)∧Gs f (l.take q.1) q.2},[1,2,3,9,30,31],fun⟨⟨k,E⟩,hk,h0,hE⟩=>[(32,.v (.int .i64 k))],[48,144],fun⟨⟨k,E⟩,hk,h0,hE⟩=>[(464,⟨gm,.q (N6 (ents E)),0,[]⟩)],fun⟨⟨k,E⟩,hk,h0,hE⟩=>l.length-k,trivial,fun _=>⟨trivial,fun _=>⟨⟨(0,[]),ZU _,fun j _ h=>absurd h (Nat.not_lt_zero _),Gs.nil f⟩,tI,An _ _,tI,Am _ _⟩⟩,fun⟨⟨k,E⟩,hk,h0,hE⟩=>?_⟩);refine G0 ?_;(refine Aa (fun h4=>?_) (fun h4=>?_)<;>rw[h4])
    ·have hlt:k<l.length:=by have:=ZV h4;simpa using this
     refine G0 ?_;refine⟨k,_,rfl,Ao hlt,?_⟩;refine G1 ?_;intro gg;refine .inl (cX (Il (l[k]).pl) ?_);refine G1 ?_;intro gg;(refine Aa (fun h5=>?_) (fun h5=>?_)<;>rw[h5])
     ·have h5':Wh.perr l[k]≠0:=by simpa[Wh.perr]using h5
      have e2:=e.trans (Bx hlt h0 h5');rw[e2,S4 (by rw[e2];exact h5')];refine G0 ?_;(exact⟨[],aI⟩)
     ·have h5':Wh.perr l[k]=0:=by simpa[Wh.perr]using h5
      have hp:(l[k]).pl.okb=true:=Pc.err_iff.1 h5';have et:l.take (k+1)=l.take k++[l[k]]:=by rw[XT,ZC hlt];rfl
      refine G0 ?_;cases hlk:Pl.look (l[k]).nd E 0 with
      |some r=>
       obtain⟨ri,rv⟩:=r;obtain⟨x,rfl⟩:=hE.val hlk;refine⟨some (ri,iV x),(Di _ _ _).trans (by rw[hlk]),?_⟩;refine G0 ?_;have hE':Gs f (l.take (k+1)) E:=by rw[et];exact hE.old (by rw[hlk];simp)
       (exact⟨none,trivial,fun _=>⟨⟨(k+1,E),by dsimp only;omega,up1 (p:=fun j h=>Wh.perr l[j]=0) h0 (fun _=>h5'),hE'⟩,by show l.length-(k+1)<l.length-k;omega,tI,tI,tI,tI⟩⟩)
      |none=>
       refine⟨none,(Di _ _ _).trans (by rw[hlk]),?_⟩;refine G0 ?_;(refine⟨_,_,false,aI,Aka f (l[k]).pl hf hp,Ae,nI,?_⟩);refine G1 ?_;intro gg;refine⟨_,none,rfl,A9 rfl,(Di _ _ _).trans (by rw[hlk]),?_⟩;refine G0 ?_;have e:=Uu E (l[k]).nd (iV (f.far (l[k]).pl));rw[hlk]at e;have hE':Gs f (l.take (k+1)) (put E (l[k]).nd (iV (f.far (l[k]).pl))):=by rw[et];exact hE.new hlk
       (exact⟨none,trivial,fun gr=>⟨⟨(k+1,put E (l[k]).nd (iV (f.far (l[k]).pl))),by dsimp only;omega,up1 (p:=fun j h=>Wh.perr l[j]=0) h0 (fun _=>h5'),hE'⟩,by show l.length-(k+1)<l.length-k;omega,tI,tI,⟨congrArg (fun x=>some (Ent.mk gm (.q (N6 x)) 0 [])) e,trivial⟩,tI⟩⟩)
    ·have hge:¬k<l.length:=by have:=ZW h4;simpa using this
     have hz:G5 f l names=0:=e.trans (Ba (fun i hi=>h0 i hi (by dsimp only;omega)));rw[List.take_of_length_le (by dsimp only;omega)]at hE;have hE:Gs f l E:=hE;rw[hz,Ahr hz];refine G0 ?_;(refine .inl ⟨_,_,false,[],aI,Ak5 false names (by omega),Ae,nI,?_⟩);refine G1 ?_;intro gg;refine .inr (.inl ⟨_,_,true,[960],Ay2 rfl B6 (by decide) (by decide) (by rw[ZE,ZE];exact List.length_mergeSort _) (Anp (Ba8 rfl rfl (by decide) (by decide) Ahg) (.nil _)),Ar0 f l E hE names (by omega),(fun _=>mfI),oI,(by exact(by decide:([960]:List Nat).Nodup)),?_⟩);refine G1 ?_;intro gg;(exact⟨[960],aI⟩)
end
section
open Go.Sort Go.Shelf

end
set_option maxHeartbeats 1000000 in
set_option maxRecDepth 100000 in
theorem Ape(s:ByteArray)(c:UInt8)(w:World):
  Calls Tryz.prog 246 #[.string s,.string ⟨#[c]⟩] w fun e w'=>e=.returned (.int .i64 (Lib.countByte s.data.toList c))∧w'=w:=by
 go_enter Tryz.func246,Tryz.ntmps246
 go_wp2
 rw[run_callFunc_extern Tryz.func265 (by kernel_rfl) (by kernel_rfl) (by kernel_rfl) (e:=Extern.BytealgCount.count) (by kernel_rfl),Lib.run_countString];simp only[Result.andThen];rw[Oper.upon_value]
 go_wp2
 go_ret
 exact⟨rfl,rfl⟩
set_option maxHeartbeats 1000000 in
set_option maxRecDepth 100000 in
theorem Acj(s:ByteArray)(c:Int)(w:World):
  Calls Tryz.prog 279 #[.string s,.int .u8 c] w fun e w'=>e=.returned (.int .i64 (Lib.indexByte s.data.toList c.toNat.toUInt8))∧w'=w:=by
 go_enter Tryz.func279,Tryz.ntmps279
 go_wp2
 rw[run_callFunc_extern Tryz.func286 (by kernel_rfl) (by kernel_rfl) (by kernel_rfl) (e:=Extern.BytealgIndexByte.indexByte) (by kernel_rfl),Lib.run_indexByteString];simp only[Result.andThen];rw[Oper.upon_value]
 go_wp2
 go_ret
 exact⟨rfl,rfl⟩
set_option maxHeartbeats 2000000 in
set_option maxRecDepth 100000 in
theorem Acf(s:ByteArray)(c:UInt8)(w:World):
  Calls Tryz.prog 266 #[.string s,.string ⟨#[c]⟩] w fun e w'=>e=.returned (.int .i64 (Lib.indexByte s.data.toList c))∧w'=w:=by
 go_enter Tryz.func266,Tryz.ntmps266
 go_wp2_with (go_at_call 279;refine(Acj _ _ _).mono ?_;rintro e w' ⟨rfl,rfl⟩)
 ·have h:([c]==s.toList)=true:=by assumption
  go_ret
  refine⟨?_,rfl⟩;have e:s.data.toList=[c]:=by rw[←Lib.toList_data];exact(ZR.1 h).symm
  rw[e];simp[Lib.indexByte]
 ·go_ret
  exact⟨rfl,rfl⟩
set_option maxHeartbeats 1000000 in
theorem Aqm(s:ByteArray)(c:UInt8)(w:World):
  Calls Tryz.prog 247 #[.string s,.string ⟨#[c]⟩] w fun e w'=>e=.returned (.int .i64 (Lib.indexByte s.data.toList c))∧w'=w:=by
 go_enter Tryz.func247,Tryz.ntmps247
 go_wp2_with (go_at_call 266;refine(Acf _ _ _).mono ?_;rintro e w' ⟨rfl,rfl⟩)
 go_ret
 exact⟨rfl,rfl⟩
namespace Pl
def ixb(r:ByteArray)(c:UInt8):Int:=Lib.indexByte r.data.toList c
def cnb(r:ByteArray)(c:UInt8):Nat:=Lib.countByte r.data.toList c
theorem Ayg{l:List UInt8}{c:UInt8}:Lib.indexByte l c= -1↔l.count c=0:=by
 induction l with
 |nil=>simp[Lib.indexByte]
 |cons b l ih=>
  unfold Lib.indexByte;have hg:=Lib.indexByte_ge l c;by_cases hb:(b==c)=true
  ·rw[if_pos hb];have:b=c:=by simpa using hb
   subst this;simp
  ·rw[if_neg hb];have hne:b≠c:=fun e=>hb (by simpa using e);rw[List.count_cons_of_ne hne];split
   ·rename_i h;have h':Lib.indexByte l c= -1:=by simpa using h
    simp[ih.1 h']
   ·rename_i h;have h':¬Lib.indexByte l c= -1:=by simpa using h
    constructor
    ·intro e;omega
    ·intro e;exact absurd (ih.2 e) h'
theorem Atm{l:List UInt8}{c:UInt8}(h:0<l.count c):∃m:Nat,Lib.indexByte l c=(m:Int)∧m<l.length∧(l.drop (m+1)).count c+1=l.count c:=by
 induction l with
 |nil=>simp at h
 |cons b l ih=>
  unfold Lib.indexByte;by_cases hb:(b==c)=true
  ·rw[if_pos hb];have:b=c:=by simpa using hb
   subst this;exact⟨0,rfl,by simp,by simp⟩
  ·rw[if_neg hb];have hne:b≠c:=fun e=>hb (by simpa using e);rw[List.count_cons_of_ne hne]at h ⊢;obtain⟨m,h1,h2,h3⟩:=ih h;have hn:¬((Lib.indexByte l c== -1)=true):=by rw[h1];simp
   rw[if_neg hn,h1];exact⟨m+1,by simp,by simp;omega,by simpa using h3⟩
def Bk(c:UInt8)(s:ByteArray):Nat→ByteArray
 |0=>s
 |k+1=>(Bk c s k).extract ((ixb (Bk c s k) c).toNat+1) (Bk c s k).size
def Rm(c:UInt8)(s:ByteArray)(k:Nat):ByteArray:=(Bk c s k).extract 0 (ixb (Bk c s k) c).toNat
def Cx(c:UInt8)(s:ByteArray):List ByteArray:=(List.range (cnb s c)).map (Rm c s)++[Bk c s (cnb s c)]
theorem Sf(c:UInt8)(s:ByteArray):(Cx c s).length=cnb s c+1:=by simp[Cx]
theorem Alk(s:ByteArray)(c:UInt8):cnb s c≤s.size:=by
 have:=List.count_le_length (a:=c) (l:=s.data.toList);simpa[cnb,Lib.countByte]using this
theorem F5(s:ByteArray)(a b:Nat):(s.extract a b).data.toList=(s.data.toList.take b).drop a:=by
 simp[ByteArray.data_extract,List.drop_take]
theorem K8(c:UInt8)(s:ByteArray):∀k,k≤cnb s c→cnb (Bk c s k) c+k=cnb s c
 |0,_=>rfl
 |k+1,h=>by
  have ih:=K8 c s k (by omega);have hp:0<(Bk c s k).data.toList.count c:=by have:cnb (Bk c s k) c=(Bk c s k).data.toList.count c:=rfl;omega
  obtain⟨m,h1,h2,h3⟩:=Atm hp;have hx:ixb (Bk c s k) c=(m:Int):=h1;have e:(Bk c s (k+1)).data.toList=(Bk c s k).data.toList.drop (m+1):=by
   show((Bk c s k).extract ((ixb (Bk c s k) c).toNat+1) (Bk c s k).size).data.toList=_;rw[F5,hx];congr 1;exact List.take_of_length_le (by simp)
  have:cnb (Bk c s (k+1)) c+1=cnb (Bk c s k) c:=by
   unfold cnb Lib.countByte;rw[e];exact h3
  omega
theorem Ann (c : UInt8) (s : ByteArray) {k : Nat} (h : k < cnb s c) : ∃ m : Nat, ixb (Bk c s k) c = (m : Int) ∧ m + 1 ≤ (Bk c s k).size ∧ Rm c s k = (Bk c s k).extract 0 m ∧ Bk c s (k + 1) = (Bk c s k).extract (m + 1) (Bk c s k).size := by
  have ih := K8 c s k (by omega)
  have hp : 0 < (Bk c s k).data.toList.count c := by have : cnb (Bk c s k) c = (Bk c s k).data.toList.count c := rfl; omega
  obtain ⟨m, h1, h2, _⟩ := Atm hp
  have hx : ixb (Bk c s k) c = (m : Int) := h1
  refine ⟨m, hx, by have h4 : m < (Bk c s k).size := by simpa using h2
                    omega, ?_, ?_⟩
  · show (Bk c s k).extract 0 (ixb (Bk c s k) c).toNat = _
    rw [hx]; rfl
  · show (Bk c s k).extract ((ixb (Bk c s k) c).toNat + 1) (Bk c s k).size = _
    rw [hx]; rfl
theorem Ql(c:UInt8)(s:ByteArray):∀k,(Bk c s k).size≤s.size
 |0=>ZT _
 |k+1=>by
  have:=Ql c s k;show((Bk c s k).extract _ _).size≤_;rw[ByteArray.size_extract];omega
end Pl
def Bl(s:ByteArray):List V:=[.v (.string s)]
instance:FlatRow Bl:=⟨fun x u hu=>by simp[Bl]at hu;subst hu;exact⟨_,rfl⟩⟩
theorem Apq(s:ByteArray)(c:UInt8):Fun Tryz.prog 246 [.c (.v (.string s)),.c (.v (.string ⟨#[c]⟩))] [.c (.v (.int .i64 (cnb s c)))]:=
 Lc (xs:=[.string s,.string ⟨#[c]⟩]) (Cs Tryz.func246 (by kernel_rfl) (by kernel_rfl)) fun w=>(Ape s c w).mono fun e w' ⟨h1,h2⟩=>⟨h1,h2▸Below.refl _ _⟩
theorem Apd(s:ByteArray)(c:UInt8):Fun Tryz.prog 247 [.c (.v (.string s)),.c (.v (.string ⟨#[c]⟩))] [.c (.v (.int .i64 (ixb s c)))]:=
 Lc (xs:=[.string s,.string ⟨#[c]⟩]) (Cs Tryz.func247 (by kernel_rfl) (by kernel_rfl)) fun w=>(Aqm s c w).mono fun e w' ⟨h1,h2⟩=>⟨h1,h2▸Below.refl _ _⟩
def Ea(c:UInt8)(s:ByteArray)(k:Nat):List ByteArray:=(List.range k).map (Rm c s)++List.replicate (cnb s c+1-k) ⟨#[]⟩
theorem W7(c:UInt8)(s:ByteArray){k:Nat}(h:k≤cnb s c+1):(Ea c s k).length=cnb s c+1:=by simp[Ea];omega
theorem Xo(c:UInt8)(s:ByteArray){k:Nat}(h:k<cnb s c+1)(x:ByteArray):(Ea c s k).set k x=(List.range k).map (Rm c s)++[x]++List.replicate (cnb s c-k) ⟨#[]⟩:=by
 unfold Ea;rw[show cnb s c+1-k=(cnb s c-k)+1 by omega,List.replicate_succ];rw[List.set_append_right _ _ (by simp)];simp
theorem Afu(c:UInt8)(s:ByteArray){k:Nat}(h:k<cnb s c):(Ea c s k).set k (Rm c s k)=Ea c s (k+1):=by
 rw[Xo c s (by omega)];unfold Ea;rw[List.range_succ,ZI];simp
theorem Ahc(c:UInt8)(s:ByteArray):((Ea c s (cnb s c)).set (cnb s c) (Bk c s (cnb s c))).take (cnb s c+1)=Cx c s:=by
 rw[Xo c s (by omega)];unfold Cx;rw[Nat.sub_self,List.replicate_zero,List.append_nil];exact List.take_of_length_le (by simp)
theorem Az2(c:UInt8):((⟨#[c]⟩:ByteArray).toList==(⟨#[]⟩:ByteArray).toList)=false:=by simp[Lib.toList_data]
theorem Aet(c:UInt8)(s:ByteArray):(Ea c s 0).map Bl=List.replicate (cnb s c+1) (([.string ⟨#[]⟩]:List Value).map .v):=by
 simp[Ea,Bl]
theorem Aeh(s:ByteArray)(c:UInt8)(hs:s.size≤1000000000000):Fun Tryz.prog 201 [.c (.v (.string s)),.c (.v (.string ⟨#[c]⟩)),.c (.v (.int .i64 0)),.c (.v (.int .i64 (-1)))] [.o 9 1 ((Cx c s).map Bl)]:=by
 have hc:=Alk s c;have hR:=K8 c s;have hz:=Ql c s;refine Av Q8 rfl ?_;refine G0 ?_;rw[Az2];refine G0 ?_;refine .inl (cX (Apq s c) ?_);refine G1 ?_;intro gg;rw[show min ((cnb s c:Int)+1) ((s.size:Int)+1)=(cnb s c:Int)+1 by omega];refine G0 ?_;refine⟨cnb s c+1,by simp,by simp,by simp only[maxLen];omega,by omega,?_⟩;refine G1 ?_;intro gg;rw[←Aet];refine G0 ?_;(refine⟨[],none,{k:Nat//k≤cnb s c},[1,2,3,9],fun⟨k,hk⟩=>[(0,.v (.string (Bk c s k))),(10,.v (.int .i64 k))],[],fun⟨k,hk⟩=>[(496,⟨gg,9,1,(Ea c s k).map Bl⟩)],fun⟨k,hk⟩=>cnb s c-k,trivial,fun _=>⟨trivial,fun _=>⟨⟨0,by omega⟩,tI,An _ _,tI,Am _ _⟩⟩,fun⟨k,hk⟩=>?_⟩);refine G0 ?_;(refine Aa (fun h1=>?_) (fun h1=>?_)<;>rw[h1])
 ·have hlt:k<cnb s c:=(by have:=ZV h1;omega);obtain⟨m,e1,e2,e3,e4⟩:=Ann c s hlt;have e5:=hz k;have e6:=Afu c s hlt;have e7:=W7 c s (k:=k) (by omega);have e8:k<(Ea c s k).length:=by omega
  refine G0 ?_;refine .inl (cX (Apd (Bk c s k) c) ?_);rw[e1];refine G1 ?_;intro gg;refine⟨0,m,rfl,⟨_,rfl⟩,by omega,by omega,?_⟩;refine G0 ?_;refine⟨k,_,rfl,Ao e8,?_⟩;refine G0 ?_;refine⟨(m:Int)+1,Ed (n:=(m:Int)+1) (by omega) (by omega),?_⟩;refine G0 ?_;refine⟨m+1,(Bk c s k).size,⟨_,rfl⟩,rfl,by omega,ZT _,?_⟩;rw[←e4];refine G0 ?_;have hn:(Ea c s (k+1)).map Bl=((Ea c s k).map Bl).set k [V.v (Value.string ((Bk c s k).extract 0 m))]:=by rw[←e6,List.map_set,e3];rfl
  (exact⟨none,trivial,fun gr=>⟨⟨k+1,by omega⟩,by show cnb s c-(k+1)<cnb s c-k;omega,hxI hn,hxI hn,hxI hn,hxI hn⟩⟩)
 ·have hge:¬k<cnb s c:=(by have:=ZW h1;omega);have hk':k≤cnb s c:=hk;obtain rfl:k=cnb s c:=by omega
  have e7:=W7 c s (k:=cnb s c) (by omega);have e8:cnb s c<(Ea c s (cnb s c)).length:=by omega
  refine G0 ?_;refine⟨cnb s c,_,rfl,Ao e8,?_⟩;refine G0 ?_;refine⟨0,0,cnb s c+1,rfl,rfl,⟨_,rfl⟩,ZU _,by simp[e7],rfl,rfl,fun g=>?_⟩;refine G0 ?_;have hE:(((Ea c s (cnb s c)).map Bl).set (cnb s c) [V.v (Value.string (Bk c s (cnb s c)))]).take (cnb s c+1)=(Cx c s).map Bl:=by rw[←Ahc,List.map_take,List.map_set];rfl
  rw[hE];(exact⟨[496],aI⟩)
def Bp(s:ByteArray):List ByteArray:=if(s.toList==(⟨#[]⟩:ByteArray).toList)=true then []else Cx 46 s
def A1(s:ByteArray):Int:=if(Bp s).any (fun x=> !lab x.data.toList)=true then 1 else if 8<(Bp s).length then 2 else if 120<s.size then 2 else 0
theorem Ae1(s:ByteArray)(c:UInt8)(hs:s.size≤1000000000000):Fun Tryz.prog 137 [.c (.v (.string s)),.c (.v (.string ⟨#[c]⟩))] [.o 9 1 ((Cx c s).map Bl)]:=by
 refine Av Vw rfl ?_;refine G0 ?_;refine .inl (cX (Aeh s c hs) ?_);refine G1 ?_;intro gg;(exact⟨[112],aI⟩)
theorem Z7(s:ByteArray)(hs:s.size≤1000000000000):Fun Tryz.prog 145 [.c (.v (.string s))] [.c (.sl false ((Bp s).map Bl))]:=by
 refine Av Abz rfl ?_;refine G0 ?_;(refine Aa (fun h=>?_) (fun h=>?_)<;>rw[h])
 ·refine G0 ?_;rw[show Bp s=[]from if_pos h];(exact⟨[],aI⟩)
 ·refine G0 ?_;refine .inl (cX (Ae1 s 46 hs) ?_);refine G1 ?_;intro gg;rw[show Bp s=Cx 46 s from if_neg (by rw[h];decide)];(exact⟨[],aI⟩)
theorem Atg(s:ByteArray)(hs:s.size≤9223372036854775807):Fun Tryz.prog 146 [.c (.v (.string s))] [.c (.v (.bool (!lab s.data.toList)))]:=by
 refine Av Zt rfl ?_;refine G0 ?_;refine .inl (cX (Bu s hs) ?_);refine G1 ?_;intro gg;(exact⟨[],aI⟩)
theorem Zl(cl:Bool)(l:List ByteArray)(f:FuncId)(p:ByteArray→Bool)(hl:l.length≤9223372036854775807)(hf:∀s∈l,Fun Tryz.prog f [.c (.v (.string s))] [.c (.v (.bool (p s)))]):
  Fun Tryz.prog 202 [.c (.sl cl (l.map Bl)),.c (.v (.func (.func f) #[] #[]))] [.c (.v (.int .i64 (at_ p l)))]:=by
 refine Av Ht rfl ?_;refine G0 ?_;rw[ZE];(refine⟨[],none,{k:Nat//k≤l.length∧∀j,(h:j<l.length)→j<k→p l[j]=false},[0,1,7],fun⟨k,hk,h0⟩=>[(8,.v (.int .i64 k))],[],fun⟨k,hk,h0⟩=>[],fun⟨k,hk,h0⟩=>l.length-k,trivial,fun _=>⟨trivial,fun _=>⟨⟨0,by omega,fun j _ h=>by omega⟩,tI,An _ _,tI,Am _ _⟩⟩,fun⟨k,hk,h0⟩=>?_⟩);refine G0 ?_;(refine Aa (fun h=>?_) (fun h=>?_)<;>rw[h])
 ·have hlt:k<l.length:=(by have:=ZV h;omega);refine G0 ?_;refine⟨k,_,rfl,Ao hlt,?_⟩;refine G0 ?_;refine .inl (cX (hf _ (ZK hlt)) ?_);refine G1 ?_;intro gg;(refine Aa (fun h2=>?_) (fun h2=>?_)<;>rw[h2])
  ·refine G0 ?_;rw[N4 hlt h0 h2];(exact⟨[],aI⟩)
  ·refine G0 ?_;(exact⟨none,trivial,fun _=>⟨⟨k+1,by omega,up1 (p:=fun j h=>p l[j]=false) h0 (fun _=>h2)⟩,by show l.length-(k+1)<l.length-k;omega,tI,tI,tI,tI⟩⟩)
 ·have hge:¬k<l.length:=(by have:=ZW h;omega);refine G0 ?_;rw[Ti (p:=p) (l:=l) (fun i hi=>h0 i hi (by omega))];(exact⟨[],aI⟩)
theorem R5(cl:Bool)(l:List ByteArray)(f:FuncId)(p:ByteArray→Bool)(hl:l.length≤9223372036854775807)(hf:∀s∈l,Fun Tryz.prog f [.c (.v (.string s))] [.c (.v (.bool (p s)))]):
  Fun Tryz.prog 138 [.c (.sl cl (l.map Bl)),.c (.v (.func (.func f) #[] #[]))] [.c (.v (.bool (l.any p)))]:=by
 have hI:=Zl cl l f p hl hf;refine Av Gj rfl ?_;refine G0 ?_;refine .inl (cX hI ?_);refine G1 ?_;intro gg;rw[Ag4];(exact⟨[],aI⟩)
theorem All(s:ByteArray)(a b:Nat):(s.extract a b).size≤s.size:=by rw[ByteArray.size_extract];omega
theorem Ju{s x:ByteArray}(h:x∈Bp s):x.size≤s.size:=by
 unfold Bp at h;split at h
 ·cases h
 ·unfold Cx at h;rcases XM.1 h with h|h
  ·obtain⟨k,_,rfl⟩:=XO.1 h;exact XI (All _ _ _) (Ql 46 s k)
  ·simp only[XC,XD,or_false]at h;subst h;exact Ql 46 s _
theorem P3(s:ByteArray):(Bp s).length≤s.size+1:=by
 unfold Bp;split
 ·simp
 ·rw[Sf];have:=Alk s 46;omega
theorem M1(s:ByteArray)(hs:s.size≤1000000000000):Fun Tryz.prog 76 [.c (.v (.string s))] [.c (.v (.int .i64 (A1 s)))]:=by
 have hL:=P3 s;have hC:=R5 false (Bp s) 146 (fun x=> !lab x.data.toList) (by omega) (fun x hx=>Atg x (by have:=Ju hx;omega));refine Av Aei rfl ?_;refine G0 ?_;refine .inl (cX (Z7 s hs) ?_);refine G1 ?_;intro gg;refine .inl (cX hC ?_);refine G1 ?_;intro gg;(refine Aa (fun h=>?_) (fun h=>?_)<;>rw[h])
 ·refine G0 ?_;rw[show A1 s=1 from if_pos h];(exact⟨[],aI⟩)
 ·have e:A1 s=if 8<(Bp s).length then 2 else if 120<s.size then 2 else 0:=if_neg (by rw[h];decide)
  refine G0 ?_;rw[ZE];(refine Aa (fun h2=>?_) (fun h2=>?_)<;>rw[h2])
  ·refine G0 ?_;rw[e,if_pos (by have:=ZV h2;omega)];(exact⟨[],aI⟩)
  ·rw[if_neg (by have:=ZW h2;omega)]at e;refine G0 ?_;(refine Aa (fun h3=>?_) (fun h3=>?_)<;>rw[h3])
   ·refine G0 ?_;rw[e,if_pos (by have:=ZV h3;omega)];(exact⟨[],aI⟩)
   ·refine G0 ?_;rw[e,if_neg (by have:=ZW h3;omega)];(exact⟨[],aI⟩)
namespace Pl
def Gl(c:UInt8)(s:ByteArray):Nat→List ByteArray×Nat
 |0=>([],0)
 |i+1=>if s.data.toList[i]? =some c then((Gl c s i).1++[s.extract (Gl c s i).2 i],i+1)else Gl c s i
theorem Bba{l:List UInt8}{c:UInt8}:∀{m:Nat},l[m]? =some c→(∀j,j<m→l[j]?≠some c)→Lib.indexByte l c=(m:Int):=by
 induction l with
 |nil=>intro m h;simp at h
 |cons b l ih=>
  intro m h1 h2;unfold Lib.indexByte;cases m with
  |zero=>
   simp at h1;subst h1;simp
  |succ m=>
   have hne:¬((b==c)=true):=fun e=>by
    have:b=c:=by simpa using e
    exact h2 0 (by omega) (by simp[this])
   rw[if_neg hne];have:=ih (m:=m) (by simpa using h1) (fun j hj=>by simpa using h2 (j+1) (by omega));have hn:¬((Lib.indexByte l c== -1)=true):=by rw[this];simp
   rw[if_neg hn,this];simp
theorem V3(s:ByteArray)(f:Nat):(s.extract f s.size).data.toList=s.data.toList.drop f:=by
 rw[F5,List.take_of_length_le (by simp)]
theorem Ws(c:UInt8)(s:ByteArray):∀i,i≤s.size→(Gl c s i).2≤i∧(∀j,(Gl c s i).2≤j→j<i→s.data.toList[j]?≠some c)∧
  ∃k,k≤cnb s c∧(Gl c s i).1=(List.range k).map (Rm c s)∧Bk c s k=s.extract (Gl c s i).2 s.size∧k≤i
 |0,_=>⟨ZT _,fun j _ h=>by omega,0,ZU _,rfl,by show s=s.extract 0 s.size;simp,ZT _⟩
 |i+1,hi=>by
  obtain⟨h1,h2,k,h3,h4,h5,h6⟩:=Ws c s i (by omega);by_cases hc:s.data.toList[i]? =some c
  ·have e:Gl c s (i+1)=((Gl c s i).1++[s.extract (Gl c s i).2 i],i+1):=if_pos hc;rw[e];generalize (Gl c s i).2=f at *;have hl:(Bk c s k).data.toList=s.data.toList.drop f:=by rw[h5,V3]
   have hx:ixb (Bk c s k) c=((i-f:Nat):Int):=by
    unfold ixb;rw[hl];refine Bba ?_ (fun j hj=>?_)
    ·rw[List.getElem?_drop,show f+(i-f)=i by omega];exact hc
    ·rw[List.getElem?_drop];exact h2 _ (by omega) (by omega)
   have hk:k<cnb s c:=by
    rcases Nat.lt_or_ge k (cnb s c)with q|q
    ·exact q
    ·have hq:=K8 c s k h3;have h0:(Bk c s k).data.toList.count c=0:=by have:cnb (Bk c s k) c=(Bk c s k).data.toList.count c:=rfl;omega
     have:=Ayg.2 h0;unfold ixb at hx;omega
   refine⟨ZT _,fun j h h'=>by omega,k+1,hk,?_,?_,by omega⟩
   ·show(Gl c s i).1++[s.extract f i]=_;rw[h4,List.range_succ,ZI];congr 1;show [s.extract f i]=[Rm c s k];congr 1;show _=(Bk c s k).extract 0 (ixb (Bk c s k) c).toNat;rw[hx,h5,ByteArray.extract_extract];congr 1;simp;omega
   ·show(Bk c s k).extract ((ixb (Bk c s k) c).toNat+1) (Bk c s k).size=s.extract (i+1) s.size;rw[hx,h5,ByteArray.extract_extract];congr 1
    ·simp;omega
    ·rw[ByteArray.size_extract];omega
  ·have e:Gl c s (i+1)=Gl c s i:=if_neg hc;rw[e];refine⟨by omega,fun j h h'=>?_,k,h3,h4,h5,by omega⟩;rcases Nat.lt_or_ge j i with q|q
   ·exact h2 j h q
   ·have:j=i:=by omega
    subst this;exact hc
theorem Au1(c:UInt8)(s:ByteArray):(Gl c s s.size).1++[s.extract (Gl c s s.size).2 s.size]=Cx c s:=by
 obtain⟨h1,h2,k,h3,h4,h5,_⟩:=Ws c s s.size (ZT _);have h0:(Bk c s k).data.toList.count c=0:=by
  rw[h5,V3,List.count_eq_zero];intro hm;obtain⟨j,hj,e⟩:=List.getElem_of_mem hm;have hj':(s.data.toList.drop (Gl c s s.size).2)[j]? =some c:=by rw[ZC hj,e]
  rw[List.getElem?_drop]at hj';have hlt:=(ZB.1 hj').1;exact h2 _ (by omega) (by simpa using hlt) hj'
 have hk:k=cnb s c:=by
  have:=K8 c s k h3;have:cnb (Bk c s k) c=(Bk c s k).data.toList.count c:=rfl;omega
 subst hk;rw[h4,←h5];rfl
theorem Auv(c:UInt8)(s:ByteArray){i:Nat}(h:i≤s.size):(Gl c s i).1.length≤i∧(Gl c s i).2≤i:=by
 obtain⟨h1,_,k,_,h4,_,h6⟩:=Ws c s i h;refine⟨?_,h1⟩;rw[h4];simp;exact h6
end Pl

namespace Pl
structure Qr where
 sv:ByteArray
 tg:ByteArray
 nd:ByteArray
 ce:ByteArray
def Qr.row(q:Qr):List V:=[.v (.string q.sv),.v (.string q.tg),.v (.string q.nd),.v (.string q.ce)]
instance:FlatRow Qr.row:=⟨fun x u hu=>by simp[Qr.row]at hu;rcases hu with rfl|rfl|rfl|rfl<;>exact⟨_,rfl⟩⟩
def Qr.ok(q:Qr):Prop:=q.sv.size≤9223372036854775807∧q.tg.size≤9223372036854775807∧q.nd.size≤9223372036854775807∧q.ce.size≤9223372036854775807
def em(x:ByteArray):Bool:=x.toList==(⟨#[]⟩:ByteArray).toList
def Cd:ByteArray:=⟨#[115,101,114,118,105,99,101]⟩
def C7:ByteArray:=⟨#[110,111,100,101]⟩
def Bm:ByteArray:=⟨#[109,101,115,104]⟩
def Aew(l:List ByteArray)(x:ByteArray):Bool:=l.any fun w=>x.toList==w.toList
def Ace(x:ByteArray):Bool:=bif em x then false else !lab x.data.toList
def Qr.all(q:Qr):List ByteArray:=[q.sv,q.tg,q.nd,q.ce]
def Qr.c1(q:Qr):Bool:=bif (em q.sv==em q.nd)then true else(bif em q.sv then !em q.tg else false)
def Qr.c2(q:Qr):Bool:=q.all.any Ace
def Qr.c3(q:Qr):Bool:=bif Aew [Cd,C7,Bm] q.ce then true else bif Aew [Cd,C7,Bm] q.sv then true else bif Aew [Cd,C7,Bm] q.tg then true else Aew [Cd,C7] q.nd
def Qr.err(q:Qr):Int:=bif q.c1 then 1 else bif q.c2 then 1 else bif q.c3 then 7 else 0
end Pl
theorem Alc(cl:Bool)(l:List ByteArray)(v:ByteArray)(hl:l.length≤9223372036854775807):
  Fun Tryz.prog 203 [.c (.sl cl (l.map Bl)),.c (.v (.string v))] [.c (.v (.int .i64 (at_ (fun w=>v.toList==w.toList) l)))]:=by
 refine Av Jk rfl ?_;refine G0 ?_;rw[ZE];(refine⟨[],none,{k:Nat//k≤l.length∧∀j,(h:j<l.length)→j<k→(v.toList==l[j].toList)=false},[0,1,7],fun⟨k,hk,h0⟩=>[(8,.v (.int .i64 k))],[],fun⟨k,hk,h0⟩=>[],fun⟨k,hk,h0⟩=>l.length-k,trivial,fun _=>⟨trivial,fun _=>⟨⟨0,by omega,fun j _ h=>by omega⟩,tI,An _ _,tI,Am _ _⟩⟩,fun⟨k,hk,h0⟩=>?_⟩);refine G0 ?_;(refine Aa (fun h=>?_) (fun h=>?_)<;>rw[h])
 ·have hlt:k<l.length:=(by have:=ZV h;omega);refine G0 ?_;refine⟨k,_,rfl,Ao hlt,?_⟩;refine G0 ?_;(refine Aa (fun h2=>?_) (fun h2=>?_)<;>rw[h2])
  ·refine G0 ?_;rw[N4 (p:=fun w=>v.toList==w.toList) hlt h0 h2];(exact⟨[],aI⟩)
  ·refine G0 ?_;(exact⟨none,trivial,fun _=>⟨⟨k+1,by omega,up1 (p:=fun j h=>(v.toList==l[j].toList)=false) h0 (fun _=>h2)⟩,by show l.length-(k+1)<l.length-k;omega,tI,tI,tI,tI⟩⟩)
 ·have hge:¬k<l.length:=(by have:=ZW h;omega);refine G0 ?_;rw[Ti (p:=fun w=>v.toList==w.toList) (l:=l) (fun i hi=>h0 i hi (by omega))];(exact⟨[],aI⟩)
theorem Af3(cl:Bool)(l:List ByteArray)(v:ByteArray)(hl:l.length≤9223372036854775807):
  Fun Tryz.prog 141 [.c (.sl cl (l.map Bl)),.c (.v (.string v))] [.c (.v (.bool (Aew l v)))]:=by
 refine Av H7 rfl ?_;refine G0 ?_;refine .inl (cX (Alc cl l v hl) ?_);refine G1 ?_;intro gg;rw[Ag4];(exact⟨[],aI⟩)
theorem Axe(s:ByteArray)(hs:s.size≤9223372036854775807):Fun Tryz.prog 139 [.c (.v (.string s))] [.c (.v (.bool (Ace s)))]:=by
 refine Av Vx rfl ?_;refine G0 ?_;(refine Aa (fun h=>?_) (fun h=>?_)<;>rw[h])
 ·have he:em s=false:=Dr h;refine G0 ?_;refine .inl (cX (Bu s hs) ?_);refine G1 ?_;intro gg;rw[show Ace s= !lab s.data.toList by unfold Ace;rw[he];rfl];(exact⟨[],aI⟩)
 ·have he:em s=true:=Ci h;refine G0 ?_;rw[show Ace s=false by unfold Ace;rw[he];rfl];(exact⟨[],aI⟩)
theorem Ly(s:ByteArray)(l:List ByteArray)(hl:l.length≤9223372036854775807):Fun Tryz.prog 140 [.c (.v (.string s)),.c (.sl false (l.map Bl))] [.c (.v (.bool (Aew l s)))]:=by
 refine Av V7 rfl ?_;refine G0 ?_;refine .inl (cX (Af3 false l s hl) ?_);refine G1 ?_;intro gg;(exact⟨[],aI⟩)
theorem Z2(q:Qr)(hq:q.ok):Fun Tryz.prog 74 [.c (.agg q.row)] [.c (.v (.int .i64 q.err))]:=by
 have hF:=R5 false q.all 139 Ace (by simp[Qr.all]) (fun x hx=>Axe x (by
  obtain⟨h1,h2,h3,h4⟩:=hq;simp only[Qr.all,XC,XD,or_false]at hx;rcases hx with rfl|rfl|rfl|rfl<;>assumption))
 refine Av Aaj rfl ?_;refine G1 ?_;intro gg;(refine Aa (fun h1=>?_) (fun h1=>?_)<;>rw[h1])
 ·have e1:(em q.sv==em q.nd)=true:=h1;have hc1:q.c1=true:=by unfold Qr.c1;rw[e1];rfl
  refine G0 ?_;rw[show q.err=1 by unfold Qr.err;rw[hc1];rfl];(exact⟨[],aI⟩)
 ·have e1:(em q.sv==em q.nd)=false:=h1;refine G0 ?_;(refine Aa (fun h2=>?_) (fun h2=>?_)<;>rw[h2])
  ·have e2:em q.sv=true:=h2;refine G0 ?_;(refine Aa (fun h3=>?_) (fun h3=>?_)<;>rw[h3])
   ·have e3:(!em q.tg)=true:=h3;have hc1:q.c1=true:=by unfold Qr.c1;rw[e1,e2,e3];rfl
    refine G0 ?_;rw[show q.err=1 by unfold Qr.err;rw[hc1];rfl];(exact⟨[],aI⟩)
   ·have e3:(!em q.tg)=false:=h3;have hc1:q.c1=false:=by unfold Qr.c1;rw[e1,e2,e3];rfl
    refine G1 ?_;intro gg;refine .inl (cY hF ?_);refine G1 ?_;intro gg;(refine Aa (fun h4=>?_) (fun h4=>?_)<;>rw[h4])
    ·refine G0 ?_;rw[show q.err=1 by unfold Qr.err;rw[hc1,show q.c2=true from h4];rfl];(exact⟨[],aI⟩)
    ·have hc2:q.c2=false:=h4;refine G1 ?_;intro gg;(refine .inl ⟨_,_,true,[],aI,Ly q.ce [Cd,C7,Bm] (by simp),(fun _=>fI),nI,?_⟩);refine G1 ?_;intro gg;(refine Aa (fun k1=>?_) (fun k1=>?_)<;>rw[k1])
     ·refine G0 ?_;rw[show q.err=7 by unfold Qr.err Qr.c3;rw[hc1,hc2,k1];rfl];(exact⟨[],aI⟩)
     ·refine G1 ?_;intro gg;(refine .inl ⟨_,_,true,[],aI,Ly q.sv [Cd,C7,Bm] (by simp),(fun _=>fI),nI,?_⟩);refine G1 ?_;intro gg;(refine Aa (fun k2=>?_) (fun k2=>?_)<;>rw[k2])
      ·refine G0 ?_;rw[show q.err=7 by unfold Qr.err Qr.c3;rw[hc1,hc2,k1,k2];rfl];(exact⟨[],aI⟩)
      ·refine G1 ?_;intro gg;(refine .inl ⟨_,_,true,[],aI,Ly q.tg [Cd,C7,Bm] (by simp),(fun _=>fI),nI,?_⟩);refine G1 ?_;intro gg;(refine Aa (fun k3=>?_) (fun k3=>?_)<;>rw[k3])
       ·refine G0 ?_;rw[show q.err=7 by unfold Qr.err Qr.c3;rw[hc1,hc2,k1,k2,k3];rfl];(exact⟨[],aI⟩)
       ·refine G1 ?_;intro gg;(refine .inl ⟨_,_,true,[],aI,Ly q.nd [Cd,C7] (by simp),(fun _=>fI),nI,?_⟩);refine G1 ?_;intro gg;(refine Aa (fun k4=>?_) (fun k4=>?_)<;>rw[k4])
        ·refine G0 ?_;rw[show q.err=7 by unfold Qr.err Qr.c3;rw[hc1,hc2,k1,k2,k3,k4];rfl];(exact⟨[],aI⟩)
        ·refine G0 ?_;rw[show q.err=0 by unfold Qr.err Qr.c3;rw[hc1,hc2,k1,k2,k3,k4];rfl];(exact⟨[],aI⟩)
  ·have e2:em q.sv=false:=h2;have hc1:q.c1=false:=by unfold Qr.c1;rw[e1,e2];rfl
   refine G1 ?_;intro gg;refine .inl (cY hF ?_);refine G1 ?_;intro gg;(refine Aa (fun h4=>?_) (fun h4=>?_)<;>rw[h4])
   ·refine G0 ?_;rw[show q.err=1 by unfold Qr.err;rw[hc1,show q.c2=true from h4];rfl];(exact⟨[],aI⟩)
   ·have hc2:q.c2=false:=h4;refine G1 ?_;intro gg;(refine .inl ⟨_,_,true,[],aI,Ly q.ce [Cd,C7,Bm] (by simp),(fun _=>fI),nI,?_⟩);refine G1 ?_;intro gg;(refine Aa (fun k1=>?_) (fun k1=>?_)<;>rw[k1])
    ·refine G0 ?_;rw[show q.err=7 by unfold Qr.err Qr.c3;rw[hc1,hc2,k1];rfl];(exact⟨[],aI⟩)
    ·refine G1 ?_;intro gg;(refine .inl ⟨_,_,true,[],aI,Ly q.sv [Cd,C7,Bm] (by simp),(fun _=>fI),nI,?_⟩);refine G1 ?_;intro gg;(refine Aa (fun k2=>?_) (fun k2=>?_)<;>rw[k2])
     ·refine G0 ?_;rw[show q.err=7 by unfold Qr.err Qr.c3;rw[hc1,hc2,k1,k2];rfl];(exact⟨[],aI⟩)
     ·refine G1 ?_;intro gg;(refine .inl ⟨_,_,true,[],aI,Ly q.tg [Cd,C7,Bm] (by simp),(fun _=>fI),nI,?_⟩);refine G1 ?_;intro gg;(refine Aa (fun k3=>?_) (fun k3=>?_)<;>rw[k3])
      ·refine G0 ?_;rw[show q.err=7 by unfold Qr.err Qr.c3;rw[hc1,hc2,k1,k2,k3];rfl];(exact⟨[],aI⟩)
      ·refine G1 ?_;intro gg;(refine .inl ⟨_,_,true,[],aI,Ly q.nd [Cd,C7] (by simp),(fun _=>fI),nI,?_⟩);refine G1 ?_;intro gg;(refine Aa (fun k4=>?_) (fun k4=>?_)<;>rw[k4])
       ·refine G0 ?_;rw[show q.err=7 by unfold Qr.err Qr.c3;rw[hc1,hc2,k1,k2,k3,k4];rfl];(exact⟨[],aI⟩)
       ·refine G0 ?_;rw[show q.err=0 by unfold Qr.err Qr.c3;rw[hc1,hc2,k1,k2,k3,k4];rfl];(exact⟨[],aI⟩)

theorem Ul(l:List ByteArray)(f:FuncId)(p:ByteArray→Bool)(hl:l.length≤1000)(hf:∀x∈l,Fun Tryz.prog f [.c (.v (.string x))] [.c (.v (.bool (p x)))]):
  Fun Tryz.prog 143 [.o 9 1 (l.map Bl),.c (.v (.func (.func f) #[] #[]))] [.o 9 1 ((keep p l).map Bl)]:=by
 refine Av Hi rfl ?_;refine G0 ?_;(refine .inl ⟨_,_,true,[],aI,Zl false l f p (by omega) hf,(fun _=>fI),nI,?_⟩);rcases Afl (p:=p) (l:=l)with⟨h1,h2⟩|⟨k,hk,h1,h2,h3⟩
 ·rw[h1,Pl.keep_all (p:=p) (l:=l) h2];refine G1 ?_;intro gg;(exact⟨[0],aI⟩)
 ·rw[h1];refine G1 ?_;intro gg;(refine⟨[],none,{q:List ByteArray×Nat×Nat//Jr p l q.1 q.2.1 q.2.2},[0,1,36,37,39,40,41],fun⟨⟨l',i,j⟩,hm⟩=>[(5,.v (.int .i64 i)),(6,.v (.int .i64 j))],[],fun⟨⟨l',i,j⟩,hm⟩=>[(0,⟨0,9,1,l'.map Bl⟩)],fun⟨⟨l',i,j⟩,hm⟩=>l.length-j,trivial,fun _=>⟨trivial,fun _=>⟨⟨(l,k,k+1),Jr.start hk h2 h3⟩,tI,An _ _,tI,Am _ _⟩⟩,fun⟨⟨l',i,j⟩,hm⟩=>?_⟩);refine G0 ?_;have hm:Jr p l l' i j:=hm;have hlen:l'.length=l.length:=hm.len;(refine Aa (fun h=>?_) (fun h=>?_)<;>rw[h])
  ·have hlt:j<l'.length:=by have:=ZV h;simpa using this
   refine G0 ?_;refine⟨j,_,rfl,Ao hlt,?_⟩;refine G0 ?_;have hj:j<l.length:=by omega
   have hx:l'[j]=l[j]:=hm.behind j hj (ZT _);rw[hx];refine .inl (cX (hf _ (ZK hj)) ?_);refine G1 ?_;intro gg;(refine Aa (fun h4=>?_) (fun h4=>?_)<;>rw[h4])
   ·have h4':p l[j]=false:=Dr h4;have hi:i<l'.length:=by have:=hm.ij;omega
    refine G0 ?_;refine⟨i,_,rfl,Ao hi,?_⟩;refine G0 ?_;have e:(l'.map Bl).set i (Bl l[j])=(l'.set i l[j]).map Bl:=List.map_set.symm;exact⟨none,trivial,fun gr=>⟨⟨(l'.set i l[j],i+1,j+1),hm.stays hj h4'⟩,by show l.length-(j+1)<l.length-j;omega,tI,tI,⟨congrArg (fun r=>some (Ent.mk 0 9 1 r)) e,trivial⟩,tI⟩⟩
   ·have h4':p l[j]=true:=Ci h4;refine G0 ?_;(exact⟨none,trivial,fun _=>⟨⟨(l',i,j+1),hm.gone hj h4'⟩,by show l.length-(j+1)<l.length-j;omega,tI,tI,tI,tI⟩⟩)
  ·have hge:¬j<l'.length:=by have:=ZW h;simpa using this
   have hi:i≤l'.length:=by have:=hm.ij;have:=hm.jl;omega
   refine G0 ?_;refine⟨1,i,(l'.map Bl).length,rfl,⟨_,rfl⟩,rfl,by simpa using hi,ZT _,?_⟩;refine G0 ?_;refine⟨by simpa using hi,ZT _,?_⟩;refine G0 ?_;refine⟨0,0,i,rfl,rfl,⟨_,rfl⟩,ZU _,?_,rfl,rfl,fun g=>?_⟩
   ·show i≤((l'.map Bl).take i++List.replicate ((l'.map Bl).length-i) _++(l'.map Bl).drop (l'.map Bl).length).length;simp only[ZF,ZM,ZE,List.length_replicate];omega
   refine G0 ?_;refine⟨[0],Ag8 rfl rfl rfl rfl rfl B6 ?_⟩;show((l'.map Bl).take i++List.replicate ((l'.map Bl).length-i) _++(l'.map Bl).drop (l'.map Bl).length).take i=(keep p l).map Bl;rw[ZS,List.take_append_of_le_length (by simp;omega),List.take_take,Nat.min_self,←hm.fin (by omega),List.map_take]
section
open Go.Shelf
def Tryz.lays156_ren:Go.Shelf.Ren:=⟨fun|156=>142|165=>204|166=>205|169=>150|240=>248|241=>249|276=>267|277=>268|n=>n,fun|31=>171|9=>9|3=>3|4=>4|0=>0|20=>20|72=>201|76=>253|70=>199|37=>173|75=>252|127=>256|164=>302|5=>5|80=>114|n=>n,fun|n=>n⟩
theorem Tryz.lays156:Go.Proofs.Lays.n156 Tryz.prog Tryz.lays156_ren:={
 mixed:=by kernel_rfl
 f156:=Tryz.func142.trans (congrArg some (by kernel_rfl))
 f165:=Tryz.func204.trans (congrArg some (by kernel_rfl))
 f166:=Tryz.func205.trans (congrArg some (by kernel_rfl))
 f169:=Tryz.func150.trans (congrArg some (by kernel_rfl))
 f240:=Tryz.func248.trans (congrArg some (by kernel_rfl))
 f241:=Tryz.func249.trans (congrArg some (by kernel_rfl))
 f276:=Tryz.func267.trans (congrArg some (by kernel_rfl))
 f277:=Tryz.func268.trans (congrArg some (by kernel_rfl))
 t0:=Tryz.underlying0
 a0:=Tryz.isAgg0
 z0:=Tryz.sizeOf0
 v0:=Tryz.zeroValue0
 t3:=Tryz.underlying3
 a3:=Tryz.isAgg3
 z3:=Tryz.sizeOf3
 v3:=Tryz.zeroValue3
 t4:=Tryz.underlying4
 a4:=Tryz.isAgg4
 z4:=Tryz.sizeOf4
 v4:=Tryz.zeroValue4
 t9:=Tryz.underlying9
 a9:=Tryz.isAgg9
 z9:=Tryz.sizeOf9
 v9:=Tryz.zeroValue9
 t20:=Tryz.underlying20
 a20:=Tryz.isAgg20
 z20:=Tryz.sizeOf20
 v20:=Tryz.zeroValue20
 t31:=Tryz.underlying171
 a31:=Tryz.isAgg171
 z31:=Tryz.sizeOf171
 v31:=Tryz.zeroValue171
 t37:=Tryz.underlying173
 a37:=Tryz.isAgg173
 z37:=Tryz.sizeOf173
 v37:=Tryz.zeroValue173
 t70:=Tryz.underlying199
 a70:=Tryz.isAgg199
 z70:=Tryz.sizeOf199
 v70:=Tryz.zeroValue199
 t72:=Tryz.underlying201
 a72:=Tryz.isAgg201
 z72:=Tryz.sizeOf201
 v72:=Tryz.zeroValue201
 t75:=Tryz.underlying252
 a75:=Tryz.isAgg252
 z75:=Tryz.sizeOf252
 v75:=Tryz.zeroValue252
 t76:=Tryz.underlying253
 a76:=Tryz.isAgg253
 z76:=Tryz.sizeOf253
 v76:=Tryz.zeroValue253
 t127:=Tryz.underlying256
 a127:=Tryz.isAgg256
 z127:=Tryz.sizeOf256
 v127:=Tryz.zeroValue256
 t164:=Tryz.underlying302
 a164:=Tryz.isAgg302
 z164:=Tryz.sizeOf302
 v164:=Tryz.zeroValue302}
theorem Tryz.Builder_Extra_156:Builder.Extra Tryz.prog Tryz.lays156_ren:={
 sizeBuilder:=by kernel_rfl
 liesBuilder:=by kernel_rfl
 t5:=Tryz.underlying5
 a5:=Tryz.isAgg5
 z5:=Tryz.sizeOf5
 v5:=Tryz.zeroValue5
 infoByte:=by kernel_rfl
 cellsByte:=by kernel_rfl
 sizeByte:=by kernel_rfl
 neB5:=by decide}
end
def Dk(sep:ByteArray)(xs:List ByteArray):ByteArray:=⟨(Lib.join (xs.map (·.data.toList)) sep.data.toList).toArray⟩
theorem Tg(cl:Bool)(xs:List ByteArray)(sep:ByteArray)(hN:xs.length≤140737488355328)(hlen:(Dk sep xs).size≤140737488355328):
  Fun Tryz.prog 142 [.c (.sl cl (xs.map Bl)),.c (.v (.string sep))] [.c (.v (.string (Dk sep xs)))]:=by
 refine⟨Cs Tryz.func142 (by kernel_rfl) (by kernel_rfl),fun w R ys hlt hp=>?_⟩;have fin:∀w',Fr (A5 [.c (.sl cl (xs.map Bl)),.c (.v (.string sep))] ys) w w'→∃(zs:List Value) (R':Nat→Prop),Ending.returned (Value.string (Dk sep xs))=.returned (Ge zs)∧Fr (A5 [.c (.sl cl (xs.map Bl)),.c (.v (.string sep))] ys) w w'∧(∀b,R b→R' b)∧
   (∀b,R' b→R b∨(b<w'.heap.size∧(A5 [.c (.sl cl (xs.map Bl)),.c (.v (.string sep))] ys b∨w.heap.size≤b)))∧Jd w' R' [.c (.v (.string (Dk sep xs)))] zs∧(∀b,A5 [.c (.v (.string (Dk sep xs)))] zs b→A5 [.c (.sl cl (xs.map Bl)),.c (.v (.string sep))] ys b∨w.heap.size≤b):=fun w' hfr=>by
  refine⟨[.string (Dk sep xs)],R,rfl,hfr,fun _ h=>h,fun b h=>.inl h,⟨rfl,?_,?_,?_⟩,?_⟩
  ·intro i p x h1 h2;cases i with
   |zero=>simp at h1 h2;subst h1 h2;exact .v _
   |succ i=>simp at h1
  ·intro i j T sz rows T' sz' rows' x y b _ h1;cases i with
   |zero=>simp at h1
   |succ i=>simp at h1
  ·intro b hb;exact absurd hb (Mo fun p hp=>by simp at hp;exact⟨_,hp⟩)
  ·intro b hb;exact absurd hb (Mo fun p hp=>by simp at hp;exact⟨_,hp⟩)
 have hl:=hp.len
 match ys,hl,hp,fin with
 |[y0,y1],_,hp,fin=>
  have h0:RV w R noG (.sl cl (xs.map Bl)) y0:=hp.ok 0 _ _ rfl rfl;have h1:RV w R noG (.v (.string sep)) y1:=hp.ok 1 _ _ rfl rfl;have e1:=Bw h1;subst e1;have hnone:∀(a:Option Addr) (cap:Nat),xs=[]→y0=.slice a 0 cap→Calls Tryz.prog 142 [y0,.string sep].toArray w fun e w'=>∃(zs:List Value) (R':Nat→Prop),e=.returned (Ge zs)∧Fr (A5 [.c (.sl cl (xs.map Bl)),.c (.v (.string sep))] [y0,.string sep]) w w'∧(∀b,R b→R' b)∧
   (∀b,R' b→R b∨(b<w'.heap.size∧(A5 [.c (.sl cl (xs.map Bl)),.c (.v (.string sep))] [y0,.string sep] b∨w.heap.size≤b)))∧Jd w' R' [.c (.v (.string (Dk sep xs)))] zs∧(∀b,A5 [.c (.v (.string (Dk sep xs)))] zs b→A5 [.c (.sl cl (xs.map Bl)),.c (.v (.string sep))] [y0,.string sep] b∨w.heap.size≤b):=fun a cap hx hy=>by
   have h:=Any.strings_Join_none Tryz.lays156 Tryz.Builder_Extra_156 a cap sep w;change Calls Tryz.prog 142 _ w _ at h;rw[←hy]at h;refine h.mono ?_
   rintro e w' ⟨rfl,rfl⟩
   have e2:Dk sep xs=⟨#[]⟩:=by rw[hx];rfl
   rw[←e2];exact fin w' (Fr.refl _ _)
  obtain⟨rows,hr'⟩:∃rows,rows=xs.map Bl:=⟨_,rfl⟩;rw[←hr']at h0;have hr:=hr'.symm;clear hr';have hlen0:rows.length=xs.length:=by rw[←hr];simp
  cases h0 with
  |nil clip a cap hc=>
   exact hnone a cap (by simpa using hr) rfl
  |sl clip rows b off cap sz f hR hcap hclip hs hcell hh=>
   by_cases hx:xs=[]
   ·exact hnone _ cap hx (by rw[hlen0,hx];rfl)
   ·have hsz:sz=1:=by
     obtain⟨x,xs',rfl⟩:=List.exists_cons_of_ne_nil hx;exact(hs (Bl x) (by rw[←hr];simp)).symm
    subst hsz;have h:=Any.strings_Join Tryz.lays156 Tryz.Builder_Extra_156 b off cap xs sep w (fun j x hj=>by
     have hrow:rows[j]? =some (Bl x):=by rw[←hr,XJ,hj];rfl
     have h2:=hcell j 0 (Bl x) (.v (.string x)) hrow rfl;rw[Bw (hh j 0 (Bl x) (.v (.string x)) hrow rfl)]at h2;rw[←h2,Nat.mul_one,Nat.add_zero]) (hlt b hR) hN (by omega) (by
      have:(Dk sep xs).size=(Lib.join (xs.map (·.data.toList)) sep.data.toList).length:=by
       show(Lib.join (xs.map (·.data.toList)) sep.data.toList).toArray.size=_;simp
      omega)
    change Calls Tryz.prog 142 _ w _ at h;rw[←hlen0]at h;refine h.mono ?_
    rintro e w' ⟨rfl,hb⟩
    exact fin w' (Hl hb)
namespace Pl
def dot:ByteArray:=⟨#[46]⟩
def Aud:ByteArray:=⟨#[46,110,111,100,101,46]⟩
def Ait:ByteArray:=⟨#[46,115,101,114,118,105,99,101,46]⟩
def Qr.base(q:Qr):ByteArray:=bif em q.nd then(bif em q.tg then q.sv++Ait else(q.tg++dot)++(q.sv++Ait))else q.nd++Aud
def Qr.pr(q:Qr):ByteArray:=(bif em q.ce then q.base else q.base++(q.ce++dot))++Bm
def Qr.words(q:Qr):List ByteArray:=bif em q.nd then [q.tg,q.sv,Cd,q.ce,Bm]else [q.nd,C7,q.ce,Bm]
theorem Qi{a b:ByteArray}(h:a.data.toList=b.data.toList):a=b:=by
 obtain⟨a⟩:=a;obtain⟨b⟩:=b;congr 1;exact Array.ext' h
theorem Abq(a b:ByteArray):(a++b).data.toList=a.data.toList++b.data.toList:=by simp[ByteArray.data_append]
theorem K2{x:ByteArray}:em x=true↔x=⟨#[]⟩:=by
 unfold em;rw[ZR];exact⟨fun h=>toList_inj h,fun h=>by rw[h]⟩
theorem Aa5{x:ByteArray}(h:x.size≠0):em x=false:=by
 cases q:em x with
 |false=>rfl
 |true=>rw[K2]at q;exact absurd (congrArg ByteArray.size q) h
theorem Ass{x:ByteArray}(h:lab x.data.toList=true):x.size≤30:=by
 unfold lab at h;simp at h;have:x.data.toList.length=x.size:=by rw[Array.length_toList];rfl
 omega
structure Qr.small(q:Qr):Prop where
 sv:q.sv.size≤30
 tg:q.tg.size≤30
 nd:q.nd.size≤30
 ce:q.ce.size≤30
theorem T9{q:Qr}(h:q.err=0):q.small∧(em q.sv==em q.nd)=false∧(em q.sv=true→em q.tg=true):=by
 unfold Qr.err at h;cases h1:q.c1 with
 |true=>rw[h1]at h;cases h
 |false=>
  cases h2:q.c2 with
  |true=>rw[h1,h2]at h;cases h
  |false=>
   have key:∀x∈q.all,x.size≤30:=fun x hx=>by
    have:=List.any_eq_false.1 h2 x hx;unfold Ace at this;cases he:em x with
    |true=>rw[K2.1 he];decide
    |false=>rw[he]at this;exact Ass (by simpa using this)
   refine⟨⟨key _ (by simp[Qr.all]),key _ (by simp[Qr.all]),key _ (by simp[Qr.all]),key _ (by simp[Qr.all])⟩,?_,?_⟩
   ·unfold Qr.c1 at h1;cases q1:(em q.sv==em q.nd)with
    |true=>rw[q1]at h1;cases h1
    |false=>rfl
   ·intro q2;unfold Qr.c1 at h1;cases q1:(em q.sv==em q.nd)with
    |true=>rw[q1]at h1;cases h1
    |false=>rw[q1,q2]at h1;simpa using h1
theorem Anx{q:Qr}(h:q.err=0):Dk dot (keep em q.words)=q.pr:=by
 obtain⟨_,h1,h2⟩:=T9 h;have es:em Cd=false:=Aa5 (by decide);have en:em C7=false:=Aa5 (by decide);have emm:em Bm=false:=Aa5 (by decide);apply Qi;unfold Qr.words Qr.pr Qr.base Dk keep;cases hn:em q.nd with
 |false=>
  cases hc:em q.ce<;>simp only[cond_false,cond_true,List.filter_cons,List.filter_nil,hn,hc,en,emm,Bool.not_false,Bool.not_true,if_true,Bool.false_eq_true,if_false]<;>simp[Lib.join,List.intercalate,Abq,dot,Aud,C7,Bm]
 |true=>
  have hs:em q.sv=false:=by rw[hn]at h1;simpa using h1
  cases hc:em q.ce<;>cases ht:em q.tg<;>simp only[cond_false,cond_true,List.filter_cons,List.filter_nil,hs,hc,ht,es,emm,Bool.not_false,Bool.not_true,if_true,Bool.false_eq_true,if_false]<;>simp[Lib.join,List.intercalate,Abq,dot,Ait,Cd,Bm]
theorem Amq{q:Qr}(h:q.err=0):q.pr.size≤200:=by
 have hs:=(T9 h).1;have h1:=hs.sv;have h2:=hs.tg;have h3:=hs.nd;have h4:=hs.ce;have e1:dot.size=1:=rfl;have e2:Ait.size=9:=rfl;have e3:Aud.size=6:=rfl;have e4:Bm.size=4:=rfl;unfold Qr.pr Qr.base;cases em q.nd<;>cases em q.tg<;>cases em q.ce<;>simp only[cond_true,cond_false,XP,e1,e2,e3,e4]<;>omega
def Au(q:Qr):ByteArray×Int:=if q.err≠0 then(⟨#[]⟩,q.err)else if A1 q.pr≠0 then(⟨#[]⟩,A1 q.pr)else(q.pr,0)
theorem Ak2{q:Qr}(h:q.err≠0):Au q=(⟨#[]⟩,q.err):=by simp[Au,h]
theorem Ail{q:Qr}(h:q.err=0)(h2:A1 q.pr≠0):Au q=(⟨#[]⟩,A1 q.pr):=by simp[Au,h,h2]
theorem Adh{q:Qr}(h:q.err=0)(h2:A1 q.pr=0):Au q=(q.pr,0):=by simp[Au,h,h2]
end Pl
theorem Amx(x:ByteArray):Fun Tryz.prog 144 [.c (.v (.string x))] [.c (.v (.bool (em x)))]:=by
 refine Av Se rfl ?_;refine G0 ?_;(exact⟨[],aI⟩)
def fP1:FuncId:=144
theorem Ah4(q:Qr)(h:q.err=0):Fun Tryz.prog 75 [.c (.agg q.row)] [.c (.v (.string q.pr))]:=by
 have hj:=Anx h;have hsz:=Amq h;have hk:∀l:List ByteArray,l.length≤5→(keep em l).length≤140737488355328:=fun l hl=>XI (List.length_filter_le _ _) (by omega);rw[←hj]at hsz ⊢;refine Av Vs rfl ?_;refine G1 ?_;intro gg;(refine Aa (fun h1=>?_) (fun h1=>?_)<;>rw[h1])
 ·have e:q.words=[q.nd,C7,q.ce,Bm]:=by
   have:em q.nd=false:=Dr h1;unfold Qr.words;rw[this];rfl
  rw[e]at hsz ⊢;(refine goI ?_;repeat (intro gg;refine goI ?_));refine⟨by simp[maxLen],by simp,?_⟩;refine G1 ?_;intro gg;(refine .inl ⟨_,_,true,[144],aI,Ul [q.nd,C7,q.ce,Bm] fP1 em (by simp) (fun x _=>Amx x),(fun _=>fI),nI,?_⟩);refine G1 ?_;intro gg;(refine .inl ⟨_,_,true,[],aI,Tg false (keep em [q.nd,C7,q.ce,Bm]) dot (hk _ (by simp)) (by omega),(fun _=>fI),nI,?_⟩);refine G1 ?_;intro gg;(exact⟨[],aI⟩)
 ·have e:q.words=[q.tg,q.sv,Cd,q.ce,Bm]:=by
   have:em q.nd=true:=Ci h1;unfold Qr.words;rw[this];rfl
  rw[e]at hsz ⊢;(refine goI ?_;repeat (intro gg;refine goI ?_));refine⟨by simp[maxLen],by simp,?_⟩;refine G1 ?_;intro gg;(refine .inl ⟨_,_,true,[224],aI,Ul [q.tg,q.sv,Cd,q.ce,Bm] fP1 em (by simp) (fun x _=>Amx x),(fun _=>fI),nI,?_⟩);refine G1 ?_;intro gg;(refine .inl ⟨_,_,true,[],aI,Tg false (keep em [q.tg,q.sv,Cd,q.ce,Bm]) dot (hk _ (by simp)) (by omega),(fun _=>fI),nI,?_⟩);refine G1 ?_;intro gg;(exact⟨[],aI⟩)
theorem Dw(q:Qr)(hq:q.ok):Fun Tryz.prog 27 [.c (.agg q.row)] [.c (.v (.string (Au q).1)),.c (.v (.int .i64 (Au q).2))]:=by
 refine Av Y4 rfl ?_;refine G1 ?_;intro gg;refine .inl (cX (Z2 q hq) ?_);refine G1 ?_;intro gg;(refine Aa (fun h1=>?_) (fun h1=>?_)<;>rw[h1])
 ·have h1':q.err≠0:=by simpa using h1
  rw[Ak2 h1'];refine G0 ?_;(exact⟨[],aI⟩)
 ·have h1':q.err=0:=by simpa using h1
  have hsz:=Amq h1';refine G0 ?_;refine .inl (cX (Ah4 q h1') ?_);refine G1 ?_;intro gg;(refine .inl ⟨_,_,false,[],aI,M1 q.pr (by omega),Ae,nI,?_⟩);refine G1 ?_;intro gg;(refine Aa (fun h2=>?_) (fun h2=>?_)<;>rw[h2])
  ·have h2':A1 q.pr≠0:=by simpa using h2
   rw[Ail h1' h2'];refine G0 ?_;(exact⟨[],aI⟩)
  ·have h2':A1 q.pr=0:=by simpa using h2
   rw[Adh h1' h2'];refine G0 ?_;(exact⟨[],aI⟩)
namespace Pl
theorem Aj0{c:UInt8}:∀{x y A B:List UInt8},c∉x→c∉y→x++c::A=y++c::B→x=y∧A=B
 |[],[],A,B,_,_,h=>⟨rfl,by simpa using h⟩
 |[],b::y,A,B,_,hy,h=>by
  simp at h hy;exact absurd h.1 hy.1
 |a::x,[],A,B,hx,_,h=>by
  simp at h hx;exact absurd h.1.symm hx.1
 |a::x,b::y,A,B,hx,hy,h=>by
  simp only[List.cons_append,List.cons.injEq]at h;obtain⟨h1,h2⟩:=Aj0 (fun q=>hx (ZL _ q)) (fun q=>hy (ZL _ q)) h.2;exact⟨by rw[h.1,h1],h2⟩
theorem Ni(x y:List UInt8)(r:List (List UInt8))(c:UInt8):Lib.join (x::y::r) [c]=x++c::Lib.join (y::r) [c]:=by
 simp[Lib.join,List.intercalate]
theorem Ajr{c:UInt8}:∀{xs ys:List (List UInt8)},xs≠[]→ys≠[]→(∀x∈xs,c∉x)→(∀y∈ys,c∉y)→Lib.join xs [c]=Lib.join ys [c]→xs=ys
 |[],_,h,_,_,_,_=>absurd rfl h
 |_,[],_,h,_,_,_=>absurd rfl h
 |[x],[y],_,_,_,_,h=>by rw[Lib.join_one,Lib.join_one]at h;rw[h]
 |[x],y::y'::r,_,_,hx,_,h=>by
  rw[Lib.join_one,Ni]at h;exact absurd (by rw[h];simp) (hx x (by simp))
 |x::x'::r,[y],_,_,_,hy,h=>by
  rw[Lib.join_one,Ni]at h;exact absurd (by rw[←h];simp) (hy y (by simp))
 |x::x'::r,y::y'::r',_,_,hx,hy,h=>by
  rw[Ni,Ni]at h;obtain⟨h1,h2⟩:=Aj0 (hx x (by simp)) (hy y (by simp)) h;rw[h1,Ajr (by simp) (by simp) (fun z hz=>hx z (ZL _ hz)) (fun z hz=>hy z (ZL _ hz)) h2]
theorem Ahs{x:List UInt8}(h:lab x=true):(46:UInt8)∉x:=fun hm=>by
 unfold lab at h;rw[ZO]at h;have:=List.all_eq_true.1 h.1 _ hm;exact absurd this (by decide)
theorem Ae2(c:UInt8)(s:ByteArray):∀i,i≤s.size→((Gl c s i).1.map fun x=>x.data.toList++[c]).flatten=s.data.toList.take (Gl c s i).2
 |0,_=>by simp[Gl]
 |i+1,h=>by
  have ih:=Ae2 c s i (by omega);have hle:=(Auv c s (i:=i) (by omega)).2;unfold Gl;split
  ·rename_i hc;rw[ZI,List.flatten_append,ih];simp only[List.map_cons,List.map_nil,List.flatten_cons,List.flatten_nil,List.append_nil];rw[F5,XT,hc];have:s.data.toList.take (Gl c s i).2++(s.data.toList.take i).drop (Gl c s i).2=s.data.toList.take i:=by
    have e:(s.data.toList.take i).take (Gl c s i).2=s.data.toList.take (Gl c s i).2:=by rw[List.take_take,Nat.min_eq_left hle]
    rw[←e,List.take_append_drop]
   rw[←ZS,this];rfl
  ·exact ih
theorem Ae7(c:UInt8)(y:List UInt8):∀xs:List (List UInt8),Lib.join (xs++[y]) [c]=(xs.map fun x=>x++[c]).flatten++y
 |[]=>by simp[Lib.join_one]
 |[x]=>by rw[List.singleton_append,Ni,Lib.join_one];simp
 |x::x'::r=>by
  have ih:=Ae7 c y (x'::r);rw[List.cons_append,List.cons_append,Ni,←List.cons_append,ih];simp
theorem Aiz(s:ByteArray):Dk dot (Cx 46 s)=s:=by
 apply Qi;rw[←Au1];show(Lib.join (((Gl 46 s s.size).1++[s.extract (Gl 46 s s.size).2 s.size]).map (·.data.toList)) [46]).toArray.toList=_;rw[ZI];have h:=Ae7 46 (s.extract (Gl 46 s s.size).2 s.size).data.toList ((Gl 46 s s.size).1.map (·.data.toList));have h2:=Ae2 46 s s.size (ZT _);simp only[List.map_map]at h;have h3:s.data.toList.take (Gl 46 s s.size).2++(s.extract (Gl 46 s s.size).2 s.size).data.toList=s.data.toList:=by rw[V3,List.take_append_drop]
 rw[show((fun x:List UInt8=>x++[46])∘fun x:ByteArray=>x.data.toList)=fun x:ByteArray=>x.data.toList++[46]from rfl,h2,h3]at h;rw[List.toList_toArray];exact h
theorem Aqs{s:ByteArray}(h:A1 s=0):∀x∈Bp s,lab x.data.toList=true:=fun x hx=>by
 unfold A1 at h;split at h
 ·omega
 ·rename_i h1;have h1:(Bp s).any (fun x=> !lab x.data.toList)=false:=by simpa using h1
  have:=List.any_eq_false.1 h1 x hx;simpa using this
theorem Avc{xs ys:List ByteArray}(h:xs.map (·.data.toList)=ys.map (·.data.toList)):xs=ys:=by
 induction xs generalizing ys with
 |nil=>cases ys with
  |nil=>rfl
  |cons y ys=>simp at h
 |cons x xs ih=>cases ys with
  |nil=>simp at h
  |cons y ys=>
   simp only[List.map_cons,List.cons.injEq]at h;rw[Qi h.1,ih h.2]
theorem Aoq{s:ByteArray}{xs:List ByteArray}(h0:xs≠[])(h1:∀x∈xs,lab x.data.toList=true)(h2:∀x∈Cx 46 s,lab x.data.toList=true)(h:Dk dot xs=s):Cx 46 s=xs:=by
 have hp:Cx 46 s≠[]:=by simp[Cx]
 refine Avc (Ajr (c:=46) (by simpa using hp) (by simpa using h0) (fun x hx=>?_) (fun x hx=>?_) ?_)
 ·obtain⟨y,hy,rfl⟩:=XO.1 hx;exact Ahs (h2 y hy)
 ·obtain⟨y,hy,rfl⟩:=XO.1 hx;exact Ahs (h1 y hy)
 ·have e:=(Aiz s).trans h.symm;have:=congrArg (fun b:ByteArray=>b.data.toList) e;simpa[Dk,dot]using this
theorem Rs{s:ByteArray}(h:em s=false):Bp s=Cx 46 s:=by
 unfold Bp;rw[if_neg (by unfold em at h;rw[h];simp)]
def isW(x:ByteArray):Bool:=bif x.toList==Cd.toList then true else x.toList==C7.toList
def noQ:Qr:=⟨⟨#[]⟩,⟨#[]⟩,⟨#[]⟩,⟨#[]⟩⟩
def q0 (l : List ByteArray) (k : Nat) : Qr :=
  ⟨if l.getD k ⟨#[]⟩ = Cd then l.getD (k - 1) ⟨#[]⟩ else ⟨#[]⟩, if l.getD k ⟨#[]⟩ = Cd ∧ k = 2 then l.getD 0 ⟨#[]⟩ else ⟨#[]⟩,
   if l.getD k ⟨#[]⟩ = C7 ∧ k = 1 then l.getD 0 ⟨#[]⟩ else ⟨#[]⟩, if k + 1 < l.length then l.getD (k + 1) ⟨#[]⟩ else ⟨#[]⟩⟩
structure Sx(l:List ByteArray)(k:Nat):Prop where
 lt:k<l.length
 near:l.length≤k+2
 w:isW (l.getD k ⟨#[]⟩)=true
 last:k+1<l.length→isW (l.getD (k+1) ⟨#[]⟩)=false
theorem Sx.uniq{l:List ByteArray}{k k':Nat}(h:Sx l k)(h':Sx l k'):k=k':=by
 have a1:=h.lt;have a2:=h.near;have b1:=h'.lt;have b2:=h'.near;rcases(by omega:k=k'∨k'=k+1∨k=k'+1)with q|q|q
 ·exact q
 ·have:=h.last (by omega);rw[←q,h'.w]at this;cases this
 ·have:=h'.last (by omega);rw[←q,h.w]at this;cases this
def Akf(ls:List ByteArray):List Qr:=match ls with
 |[a,_,_]=>[⟨a,⟨#[]⟩,⟨#[]⟩,⟨#[]⟩⟩,⟨⟨#[]⟩,⟨#[]⟩,a,⟨#[]⟩⟩]
 |[a,b,c,_]=>[⟨a,⟨#[]⟩,⟨#[]⟩,c⟩,⟨⟨#[]⟩,⟨#[]⟩,a,c⟩,⟨b,a,⟨#[]⟩,⟨#[]⟩⟩]
 |[a,b,c,d,_]=>[⟨b,a,⟨#[]⟩,d⟩]
 |_=>[]
theorem Hc{q:Qr}{s:ByteArray}(h:Au q=(s,0)):q.err=0∧A1 q.pr=0∧q.pr=s:=by
 unfold Au at h;split at h
 ·rename_i h1;simp only[Prod.mk.injEq]at h;exact absurd h.2 h1
 ·rename_i h1;split at h
  ·rename_i h2;simp only[Prod.mk.injEq]at h;exact absurd h.2 h2
  ·rename_i h2;simp only[Prod.mk.injEq]at h;exact⟨Classical.byContradiction h1,Classical.byContradiction h2,h.1⟩
theorem Aww{q:Qr}:keep em q.words≠[]:=fun h=>by
 have hm:Bm∈keep em q.words:=by
  unfold keep;rw[List.mem_filter];exact⟨by unfold Qr.words;cases em q.nd<;>simp,by rw[Aa5 (by decide)];rfl⟩
 rw[h]at hm;cases hm
theorem Apy{q:Qr}(h:q.err=0):∀x∈keep em q.words,lab x.data.toList=true:=fun x hx=>by
 have hall:∀y∈q.all,em y=false→lab y.data.toList=true:=fun y hy he=>by
  unfold Qr.err at h;cases h1:q.c1 with
  |true=>rw[h1]at h;cases h
  |false=>
   cases h2:q.c2 with
   |true=>rw[h1,h2]at h;cases h
   |false=>
    have:=List.any_eq_false.1 h2 y hy;unfold Ace at this;rw[he]at this;simpa using this
 unfold keep at hx;rw[List.mem_filter]at hx;obtain⟨hx1,hx2⟩:=hx;have he:em x=false:=by simpa using hx2
 have ls:lab Cd.data.toList=true:=by decide
 have ln:lab C7.data.toList=true:=by decide
 have lm:lab Bm.data.toList=true:=by decide
 unfold Qr.words at hx1;cases hn:em q.nd with
 |true=>
  rw[hn]at hx1;simp only[cond_true,XC,XD,or_false]at hx1;rcases hx1 with rfl|rfl|rfl|rfl|rfl
  ·exact hall _ (by simp[Qr.all]) he
  ·exact hall _ (by simp[Qr.all]) he
  ·exact ls
  ·exact hall _ (by simp[Qr.all]) he
  ·exact lm
 |false=>
  rw[hn]at hx1;simp only[cond_false,XC,XD,or_false]at hx1;rcases hx1 with rfl|rfl|rfl|rfl
  ·exact hall _ (by simp[Qr.all]) he
  ·exact ln
  ·exact hall _ (by simp[Qr.all]) he
  ·exact lm
theorem Aeo{q:Qr}{s:ByteArray}(h:Au q=(s,0)):Cx 46 s=keep em q.words:=by
 obtain⟨h1,h2,h3⟩:=Hc h;rw[h3]at h2;have hj:=(Anx h1).trans h3;have hs:em s=false:=by
  cases q2:em s with
  |false=>rfl
  |true=>
   have e:=K2.1 q2;have hsz:q.pr.size=0:=by rw[h3,e];rfl
   unfold Qr.pr at hsz;rw[XP]at hsz;have:Bm.size=4:=rfl;omega
 refine Aoq Aww (Apy h1) (fun x hx=>Aqs h2 x (by rw[Rs hs];exact hx)) hj
theorem T3:isW Cd=true:=by unfold isW;simp
theorem Ahp:isW C7=true:=by unfold isW;cases (C7.toList==Cd.toList)<;>simp
theorem Bam{q:Qr}(h:q.err=0):isW q.ce=false:=by
 unfold Qr.err at h;cases h1:q.c1 with
 |true=>rw[h1]at h;cases h
 |false=>
  cases h2:q.c2 with
  |true=>rw[h1,h2]at h;cases h
  |false=>
   cases h3:q.c3 with
   |true=>rw[h1,h2,h3]at h;cases h
   |false=>
    have h4:Aew [Cd,C7,Bm] q.ce=false:=by
     unfold Qr.c3 at h3;cases q1:Aew [Cd,C7,Bm] q.ce with
     |false=>rfl
     |true=>rw[q1]at h3;cases h3
    have k1:=List.any_eq_false.1 h4 Cd (by simp);have k2:=List.any_eq_false.1 h4 C7 (by simp);unfold isW;cases q1:(q.ce.toList==Cd.toList)with
    |true=>exact absurd q1 k1
    |false=>simpa using k2
theorem Eb:Cd≠C7:=fun h=>absurd (congrArg ByteArray.size h) (by decide)
theorem Mt{q:Qr}{s:ByteArray}(h:Au q=(s,0)):∃l k,Cx 46 s=l++[Bm]∧Sx l k∧1≤k∧k≤2∧q=q0 l k∧q∈Akf (Cx 46 s):=by
 have hp:=Aeo h;obtain⟨h1,h2,h3⟩:=Hc h;obtain⟨_,hc1,hc2⟩:=T9 h1;have hw:=Bam h1;have es:em Cd=false:=Aa5 (by decide);have en:em C7=false:=Aa5 (by decide);have emm:em Bm=false:=Aa5 (by decide);rw[hp];obtain⟨sv,tg,nd,ce⟩:=q;unfold Qr.words keep;dsimp only at *;cases hn:em nd with
 |false=>
  have hsv:em sv=true:=by rw[hn]at hc1;simpa using hc1
  have htg:=hc2 hsv;have e1:=K2.1 hsv;have e2:=K2.1 htg;subst e1 e2;cases hc:em ce with
  |true=>
   have e3:=K2.1 hc;subst e3;refine⟨[nd,C7],1,?_,⟨by simp,by simp,Ahp,by simp⟩,by omega,by omega,?_,?_⟩
   ·simp[hn,hc,en,emm]
   ·simp[q0,Eb.symm]
   ·simp[hn,hc,en,emm,Akf]
  |false=>
   refine⟨[nd,C7,ce],1,?_,⟨by simp,by simp,Ahp,fun _=>hw⟩,by omega,by omega,?_,?_⟩
   ·simp[hn,hc,en,emm]
   ·simp[q0,Eb.symm]
   ·simp[hn,hc,en,emm,Akf]
 |true=>
  have hsv:em sv=false:=by rw[hn]at hc1;simpa using hc1
  have e1:=K2.1 hn;subst e1;cases ht:em tg with
  |true=>
   have e2:=K2.1 ht;subst e2;cases hc:em ce with
   |true=>
    have e3:=K2.1 hc;subst e3;refine⟨[sv,Cd],1,?_,⟨by simp,by simp,T3,by simp⟩,by omega,by omega,?_,?_⟩
    ·simp[hsv,hc,es,emm]
    ·simp[q0,Eb]
    ·simp[hsv,hc,es,emm,Akf]
   |false=>
    refine⟨[sv,Cd,ce],1,?_,⟨by simp,by simp,T3,fun _=>hw⟩,by omega,by omega,?_,?_⟩
    ·simp[hn,hsv,hc,es,emm]
    ·simp[q0,Eb]
    ·simp[hn,hsv,hc,es,emm,Akf]
  |false=>
   cases hc:em ce with
   |true=>
    have e3:=K2.1 hc;subst e3;refine⟨[tg,sv,Cd],2,?_,⟨by simp,by simp,T3,by simp⟩,by omega,by omega,?_,?_⟩
    ·simp[hsv,ht,hc,es,emm]
    ·simp[q0,Eb]
    ·simp[hsv,ht,hc,es,emm,Akf]
   |false=>
    refine⟨[tg,sv,Cd,ce],2,?_,⟨by simp,by simp,T3,fun _=>hw⟩,by omega,by omega,?_,?_⟩
    ·simp[hsv,ht,hc,es,emm]
    ·simp[q0,Eb]
    ·simp[hsv,ht,hc,es,emm,Akf]
theorem Akg{q q':Qr}{s:ByteArray}(h:Au q=(s,0))(h':Au q'=(s,0)):q=q':=by
 obtain⟨l,k,a1,a2,_,_,a3,_⟩:=Mt h;obtain⟨l',k',b1,b2,_,_,b3,_⟩:=Mt h';have e:l=l':=by rw[a1]at b1;exact(List.append_inj' b1 rfl).1
 subst e;rw[a3,b3,a2.uniq b2]
open Classical in
noncomputable def Be(s:ByteArray):Qr×Int:=if A1 s≠0 then(noQ,A1 s)else if(Cx 46 s).getLast?≠some Bm then(noQ,8)else if h:∃q,Au q=(s,0)then(h.choose,0)else(noQ,1)
theorem Abk{s:ByteArray}(h:A1 s≠0):Be s=(noQ,A1 s):=by unfold Be;rw[if_pos h]
theorem Abh{s:ByteArray}(h:A1 s=0)(h2:(Cx 46 s).getLast?≠some Bm):Be s=(noQ,8):=by unfold Be;rw[if_neg (by simp[h]),if_pos h2]
theorem P8{s:ByteArray}(h:A1 s=0)(h2:(Cx 46 s).getLast? =some Bm)(h3:∀q,Au q≠(s,0)):Be s=(noQ,1):=by
 unfold Be;rw[if_neg (by simp[h]),if_neg (by simp[h2]),dif_neg (fun⟨q,hq⟩=>h3 q hq)]
theorem Dc{s:ByteArray}{q:Qr}(hq:Au q=(s,0)):Be s=(q,0):=by
 obtain⟨l,k,a1,_⟩:=Mt hq;obtain⟨h1,h2,h3⟩:=Hc hq;unfold Be;have hex:∃q,Au q=(s,0):=⟨q,hq⟩;rw[if_neg (by rw[←h3];simp[h2]),if_neg (by rw[a1];simp),dif_pos hex,Akg hex.choose_spec hq]
theorem Al2{s:ByteArray}{q:Qr}(h:Be s=(q,0)):Au q=(s,0):=by
 by_cases h1:A1 s=0
 ·by_cases h2:(Cx 46 s).getLast? =some Bm
  ·by_cases h3:∃q,Au q=(s,0)
   ·obtain⟨q',hq⟩:=h3;rw[Dc hq]at h;injection h with h _
    rw[←h];exact hq
   ·rw[P8 h1 h2 (fun q hq=>h3 ⟨q,hq⟩)]at h;simp at h
  ·rw[Abh h1 h2]at h;simp at h
 ·rw[Abk h1]at h;simp only[Prod.mk.injEq]at h;exact absurd h.2 h1
end Pl
end Go.Proofs.YtkbjgdcdjccnaaaGreatDoor
