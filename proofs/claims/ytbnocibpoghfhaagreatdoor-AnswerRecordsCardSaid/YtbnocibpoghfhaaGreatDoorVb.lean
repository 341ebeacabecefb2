/- Texts of this claim, joined. -/
import Derived.Shelf.SlSortCmp.NoneTotal
import Derived.Test.YtbnocibpoghfhaaGreatDoorWAbsQ
import Derived.Shelf.SlGeneric
import Derived.Test.YtbnocibpoghfhaaGreatDoorProg
import Derived.WalkKit
import Derived.Test.YtbnocibpoghfhaaGreatDoorRows
import Derived.Lib.Strings
import Derived.Lib.Slices
import Derived.Lib.Walk
import Derived.Lib.Bytealg
import Derived.Shelf.Strings.OnBuilder
import Derived.Shelf.Strings.BuilderK
import Derived.Maps.AppendAt
import Derived.Lib.AppendStr
import Derived.Test.YtbnocibpoghfhaaGreatDoorVa
set_option linter.unusedSimpArgs false
set_option linter.unusedVariables false
namespace Go.Proofs.YtbnocibpoghfhaaGreatDoor
namespace Pl
structure Mb where
 n:ByteArray
 st:Int
 lf:Int
 ad:Int
 sv:Bool
def Mb.enc(m:Mb):List Value:=[.string m.n,.int .i64 m.st,.int .i64 m.lf,.int .i64 m.ad,.bool m.sv]
def Mb.row(m:Mb):List V:=[.v (.string m.n),.v (.int .i64 m.st),.v (.int .i64 m.lf),.v (.int .i64 m.ad),.v (.bool m.sv)]
instance:FlatRow Mb.row:=⟨fun x u hu=>by simp[Mb.row]at hu;rcases hu with rfl|rfl|rfl|rfl|rfl<;>exact⟨_,rfl⟩⟩
def Mb.ok(m:Mb):Prop:=m.n.size≤9223372036854775807
def Mb.err(m:Mb):Int:=if lab m.n.data.toList then(if wi m.st 1 4 then(if wi m.lf 1 1000000&&wi m.ad 0 4294967295 then 0 else 3)else 7)else 1
def Mb.lt(g h:Mb):Bool:=slt g.n h.n
def F6(l:List Mb):Int:=ckL 20 Mb.err Mb.lt l
def Mb.cf(name:ByteArray)(g:Mb):Int:=Ey g.n name
def Mb.kf(g x:Mb):Int:=Mb.cf g.n x
def Mb.cmp(g x:Mb):Int:=B3 [E9 g.lf x.lf,E9 g.st x.st,E9 g.ad x.ad,E9 (b2i g.sv) (b2i x.sv)]
def Mb.nw(g x:Mb):Bool:=decide (0<Mb.cmp g x)
def Mb.is(name:ByteArray)(m:Mb):Bool:=m.n.toList==name.toList
def Mb.same(g h:Mb):Bool:=(g.n.toList==h.n.toList)&&((g.st==h.st)&&((g.lf==h.lf)&&((g.ad==h.ad)&&((g.sv==h.sv)&&true))))
theorem Mb.err_cases(m:Mb):m.err=0∨m.err=1∨m.err=3∨m.err=7:=by
 unfold Mb.err;split
 ·split
  ·split<;>simp
  ·simp
 ·simp
theorem Mb.lt_trans(x y z:Mb)(h1:Mb.lt x y=true)(h2:Mb.lt y z=true):Mb.lt x z=true:=Kj h1 h2
theorem Mb.lt_cf(name:ByteArray)(x y:Mb)(h:Mb.lt x y=true)(hy:Mb.cf name y≤0):Mb.cf name x<0:=by
 unfold Mb.cf at *;rw[Qu];rcases Bool.eq_false_or_eq_true (slt y.n name)with g|g
 ·exact Kj h g
 ·have h0:Ey y.n name=0:=by
   rcases(by omega:Ey y.n name<0∨Ey y.n name=0)with q|q
   ·rw[Qu]at q;rw[q]at g;cases g
   ·exact q
  rw[Gk]at h0;rw[←h0];exact h
theorem P4{l:List Mb}(h:F6 l=0):l.length≤20∧(∀i,(hi:i<l.length)→(l[i]).err=0)∧Cz Mb.lt l=true:=Ama Mb.err_cases h
theorem Mb.smono{l:List Mb}(h:Cz Mb.lt l=true)(name:ByteArray):Aaj (Mb.cf name) l:=Ahm Mb.lt_trans (Mb.lt_cf name) h
def Mb.ne(m x:Mb):Bool:= !(x.n.toList==m.n.toList)
theorem Mb.is_eq(name:ByteArray):Mb.is name=fun x=>decide (Mb.cf name x=0):=by
 funext x;unfold Mb.is Mb.cf;by_cases h:x.n=name
 ·rw[h,Uw];simp
 ·have h2:Ey x.n name≠0:=fun e=>h (Gk.1 e);rw[V2 h];simp[h2]
theorem Mb.ne_eq(m:Mb):Mb.ne m=fun x=>decide (Mb.kf m x≠0):=by
 funext x;have:=congrFun (Mb.is_eq m.n) x;unfold Mb.is at this;unfold Mb.ne Mb.kf;rw[this];simp
theorem Mb.at_eq{l:List Mb}(hs:Cz Mb.lt l=true)(name:ByteArray):at_ (Mb.is name) l=if hit (Mb.cf name) l=true then(low (Mb.cf name) l:Int)else -1:=by
 rw[Mb.is_eq];exact Apd (Mb.smono hs name)
theorem Aww(row:List V)(h:Qp [.s,.i,.i,.i,.b] row):∃m:Mb,row=m.row∧m.ok:=by
 obtain⟨u0,_,rfl,f0,h⟩:=Ap h;obtain⟨u1,_,rfl,f1,h⟩:=Ap h;obtain⟨u2,_,rfl,f2,h⟩:=Ap h;obtain⟨u3,_,rfl,f3,h⟩:=Ap h;obtain⟨u4,_,rfl,f4,h⟩:=Ap h;obtain rfl:=Ln h;obtain⟨n,rfl,hn⟩:=K3 f0;obtain⟨a,rfl,_⟩:=Ge f1;obtain⟨b,rfl,_⟩:=Ge f2;obtain⟨c,rfl,_⟩:=Ge f3;obtain⟨d,rfl⟩:=Ahf f4;exact⟨⟨n,a,b,c,d⟩,rfl,hn⟩
end Pl
open Go.RowKit Pl
theorem Qx(n a b:Int):Fun Tryz.prog 143 [.c (.v (.int .i64 n)),.c (.v (.int .i64 a)),.c (.v (.int .i64 b))] [.c (.v (.bool (wi n a b)))]:=by
 refine Ar Xd rfl ?_;refine G0 ?_;(refine Aa (fun h=>?_) (fun h=>?_)<;>rw[h])
 ·refine G0 ?_;rw[Aur h];(exact⟨[],aI⟩)
 ·refine G0 ?_;rw[Av8 h];(exact⟨[],aI⟩)
theorem Apq(m:Mb)(hm:m.ok):Fun Tryz.prog 132 [.c (.agg m.row)] [.c (.v (.int .i64 m.err))]:=by
 refine Ar Ac4 rfl ?_;refine G1 ?_;intro gg;(refine .inl ⟨_,_,false,[],aI,El _ hm,Ab,nI,?_⟩);refine G1 ?_;intro gg;(refine Aa (fun h1=>?_) (fun h1=>?_)<;>rw[h1])
 ·refine G0 ?_
  (rw[show m.err=1 from by(first|(simp_all;done)|(unfold Mb.err;simp_all))];(exact⟨[],aI⟩))
 ·refine G0 ?_;(refine .inl ⟨_,_,false,[],aI,Qx _ _ _,Ab,nI,?_⟩);refine G1 ?_;intro gg;(refine Aa (fun h2=>?_) (fun h2=>?_)<;>rw[h2])
  ·refine G0 ?_
   (rw[show m.err=7 from by(first|(simp_all;done)|(unfold Mb.err;simp_all))];(exact⟨[],aI⟩))
  ·refine G0 ?_;(refine .inl ⟨_,_,false,[],aI,Qx _ _ _,Ab,nI,?_⟩);refine G1 ?_;intro gg;(refine Aa (fun h3=>?_) (fun h3=>?_)<;>rw[h3])
   ·refine G0 ?_
    (rw[show m.err=3 from by(first|(simp_all;done)|(unfold Mb.err;simp_all))];(exact⟨[],aI⟩))
   ·refine G0 ?_;(refine .inl ⟨_,_,false,[],aI,Qx _ _ _,Ab,nI,?_⟩);refine G1 ?_;intro gg;(refine Aa (fun h4=>?_) (fun h4=>?_)<;>rw[h4])
    ·refine G0 ?_
     (rw[show m.err=3 from by(first|(simp_all;done)|(unfold Mb.err;simp_all))];(exact⟨[],aI⟩))
    ·refine G0 ?_
     (rw[show m.err=0 from by(first|(simp_all;done)|(unfold Mb.err;simp_all))];(exact⟨[],aI⟩))
theorem Aso(m:Mb)(hm:m.ok):Fun Tryz.prog 101 [.c (.agg m.row)] [.c (.v (.int .i64 m.err))]:=by
 refine Ar Nd rfl ?_;refine G1 ?_;intro gg;(refine .inl ⟨_,_,false,[],aI,Eb _ hm,Ab,nI,?_⟩);refine G1 ?_;intro gg;(refine Aa (fun h1=>?_) (fun h1=>?_)<;>rw[h1])
 ·refine G0 ?_
  (rw[show m.err=1 from by(first|(simp_all;done)|(unfold Mb.err;simp_all))];(exact⟨[],aI⟩))
 ·refine G0 ?_;(refine .inl ⟨_,_,false,[],aI,Db _ _ _,Ab,nI,?_⟩);refine G1 ?_;intro gg;(refine Aa (fun h2=>?_) (fun h2=>?_)<;>rw[h2])
  ·refine G0 ?_
   (rw[show m.err=7 from by(first|(simp_all;done)|(unfold Mb.err;simp_all))];(exact⟨[],aI⟩))
  ·refine G0 ?_;(refine .inl ⟨_,_,false,[],aI,Db _ _ _,Ab,nI,?_⟩);refine G1 ?_;intro gg;(refine Aa (fun h3=>?_) (fun h3=>?_)<;>rw[h3])
   ·refine G0 ?_
    (rw[show m.err=3 from by(first|(simp_all;done)|(unfold Mb.err;simp_all))];(exact⟨[],aI⟩))
   ·refine G0 ?_;(refine .inl ⟨_,_,false,[],aI,Qs _,Ab,nI,?_⟩);refine G1 ?_;intro gg;(refine Aa (fun h4=>?_) (fun h4=>?_)<;>rw[h4])
    ·refine G0 ?_
     (rw[show m.err=3 from by(first|(simp_all;done)|(unfold Mb.err;simp_all))];(exact⟨[],aI⟩))
    ·refine G0 ?_
     (rw[show m.err=0 from by(first|(simp_all;done)|(unfold Mb.err;simp_all))];(exact⟨[],aI⟩))

end Go.Proofs.YtbnocibpoghfhaaGreatDoor

namespace Go.Proofs.YtbnocibpoghfhaaGreatDoor
open Go.RowKit Pl
theorem Anv(c:Bool)(l:List Mb)(hl:l.length≤9223372036854775807)(hw:∀m∈l,m.ok):Fun Tryz.prog 117 [.c (.sl c (l.map Mb.row))] [.c (.v (.int .i64 (Bm Mb.err l)))]:=by
 refine Ar Abh rfl ?_;refine G0 ?_;rw[ZE];(refine⟨[],none,{k:Nat//k≤l.length∧∀j,(h:j<l.length)→j<k→(l[j]).err=0},[6,7],fun⟨k,hk,h0⟩=>[(8,.v (.int .i64 k))],[],fun⟨k,hk,h0⟩=>[],fun⟨k,hk,h0⟩=>l.length-k,trivial,fun _=>⟨trivial,fun _=>⟨⟨0,by omega,fun j _ h=>by omega⟩,tI,Af _ _,tI,Ae _ _⟩⟩,fun⟨k,hk,h0⟩=>?_⟩);refine G0 ?_;(refine Aa (fun h=>?_) (fun h=>?_)<;>rw[h])
 ·have hlt:k<l.length:=by simpa using h
  refine G0 ?_;refine⟨k,_,rfl,Ad hlt,?_⟩;refine G1 ?_;intro gg;(refine .inl ⟨_,_,false,[],aI,Apq _ (hw _ (ZK hlt)),Ab,nI,?_⟩);refine G1 ?_;intro gg;(refine Aa (fun h=>?_) (fun h=>?_)<;>rw[h])
  ·refine G0 ?_;rw[Ff hlt h0 (by simpa using h)];(exact⟨[],aI⟩)
  ·refine G0 ?_;(exact⟨none,trivial,fun _=>⟨⟨k+1,by omega,up1 (p:=fun j h=>(l[j]).err=0) h0 (fun _=>by simpa using h)⟩,by show l.length-(k+1)<l.length-k;omega,tI,tI,tI,tI⟩⟩)
 ·have hge:¬k<l.length:=by simpa using h
  refine G0 ?_;rw[Dm (l:=l) (fun i hi=>h0 i hi (by omega))];(exact⟨[],aI⟩)
def Ayd(l:List Mb):List V:=[.sl false (l.map Mb.row)]
theorem Ako(c:Bool)(ls:List (List Mb))(hls:ls.length≤9223372036854775807)(hl:∀l∈ls,l.length≤9223372036854775807)(hw:∀l∈ls,∀m∈l,m.ok):Fun Tryz.prog 84 [.c (.sl c (ls.map Ayd))] [.c (.v (.int .i64 (Bm F6 ls)))]:=by
 refine Ar Yc rfl ?_;refine G0 ?_;rw[ZE];(refine⟨[],none,{k:Nat//k≤ls.length∧∀j,(h:j<ls.length)→j<k→F6 (ls[j])=0},[7,8],fun⟨k,hk,h0⟩=>[(9,.v (.int .i64 k))],[],fun⟨k,hk,h0⟩=>[],fun⟨k,hk,h0⟩=>ls.length-k,trivial,fun _=>⟨trivial,fun _=>⟨⟨0,by omega,fun j _ h=>by omega⟩,tI,Af _ _,tI,Ae _ _⟩⟩,fun⟨k,hk,h0⟩=>?_⟩);refine G0 ?_;(refine Aa (fun h=>?_) (fun h=>?_)<;>rw[h])
 ·have hlt:k<ls.length:=by simpa using h
  refine G0 ?_;refine⟨k,_,rfl,Ad hlt,?_⟩;refine G0 ?_;have HL:=hl _ (ZK hlt);have HW:=hw _ (ZK hlt);have HE:=Ff (e:=F6) hlt h0;have HN:F6 ls[k]=0→∀j,(h:j<ls.length)→j<k+1→F6 (ls[j])=0:=fun e=>up1 (p:=fun j h=>F6 (ls[j])=0) h0 (fun _=>e);generalize ls[k]=l at *;rw[ZE];(refine Aa (fun h1=>?_) (fun h1=>?_)<;>rw[h1])
  ·refine G0 ?_;have e:F6 l=2:=T6 (by have:=ZV h1;omega);rw[HE (by rw[e];decide),e];(exact⟨[],aI⟩)
  ·have h1':¬20<l.length:=(by have:=ZW h1;omega);refine G0 ?_;(refine .inl ⟨_,_,false,[],aI,Anv false l HL HW,Ab,nI,?_⟩);refine G1 ?_;intro gg;(refine Aa (fun h2=>?_) (fun h2=>?_)<;>rw[h2])
   ·have h2':Bm Mb.err l≠0:=by simpa using h2
    refine G0 ?_;have e:F6 l=Bm Mb.err l:=U4 h1' h2';rw[HE (by rw[e];exact h2'),e];(exact⟨[],aI⟩)
   ·have h2':Bm Mb.err l=0:=by simpa using h2
    refine G0 ?_;(refine⟨[],none,{k:Nat//(k<l.length∨k=0)∧∀i,(h:i+1<l.length)→i<k→Mb.lt l[i] l[i+1]=true},[4,7,8,9],fun⟨q,hq,g0⟩=>[(6,.v (.int .i64 ((q:Int)+1)))],[],fun⟨q,hq,g0⟩=>[],fun⟨q,hq,g0⟩=>l.length-q,trivial,fun _=>⟨trivial,fun _=>⟨⟨0,by omega,fun j _ h=>by omega⟩,tI,Af _ _,tI,Ae _ _⟩⟩,fun⟨q,hq,g0⟩=>?_⟩);refine G0 ?_;rw[ZE];(refine Aa (fun h3=>?_) (fun h3=>?_)<;>rw[h3])
    ·have hlt3:q+1<l.length:=(by have:=ZV h3;omega);refine G0 ?_;refine⟨q+1,_,by omega,Ad hlt3,?_⟩;refine G0 ?_;refine⟨q,_,by omega,Ad (by omega),?_⟩;refine G0 ?_;rw[Afe];(refine Aa (fun h4=>?_) (fun h4=>?_)<;>rw[h4])
     ·refine G0 ?_;have e:F6 l=4:=Aet h1' h2' (K0 hlt3 (by simpa[Mb.lt]using h4));rw[HE (by rw[e];decide),e];(exact⟨[],aI⟩)
     ·refine G0 ?_;(exact⟨none,trivial,fun _=>⟨⟨q+1,by omega,up2 (p:=fun i h=>Mb.lt l[i] l[i+1]=true) g0 (fun _=>by simpa[Mb.lt]using h4)⟩,by show l.length-(q+1)<l.length-q;omega,tI,tI,tI,tI⟩⟩)
    ·have hge3:¬q+1<l.length:=(by have:=ZW h3;omega);refine G0 ?_;have e:F6 l=0:=Yx h1' h2' (Kd fun i hi=>g0 i hi (by omega));(exact⟨none,trivial,fun _=>⟨⟨k+1,by omega,HN e⟩,by show ls.length-(k+1)<ls.length-k;omega,tI,tI,tI,tI⟩⟩)
 ·have hge:¬k<ls.length:=by simpa using h
  refine G0 ?_;rw[Dm (l:=ls) (fun i hi=>h0 i hi (by omega))];(exact⟨[],aI⟩)
theorem Akb(l:List Mb)(hl:l.length≤9223372036854775807)(hw:∀m∈l,m.ok):Fun Tryz.prog 46 [.c (.sl false (l.map Mb.row))] [.c (.v (.int .i64 (F6 l)))]:=by
 refine Ar Yk rfl ?_;refine G1 ?_;intro gg;(refine .inl ⟨_,_,true,[],aI,Ako false [l] (by simp) (by simpa using hl) (by simpa using hw),(fun _=>fI),nI,?_⟩);rw[J9];refine G1 ?_;intro gg;(exact⟨[],aI⟩)
theorem Ajd(c:Bool)(l:List Mb)(hl:l.length≤9223372036854775807)(hw:∀m∈l,m.ok):Fun Tryz.prog 57 [.c (.sl c (l.map Mb.row))] [.c (.v (.int .i64 (F6 l)))]:=by
 refine Ar Lk rfl ?_;refine G0 ?_;rw[ZE];(refine Aa (fun h1=>?_) (fun h1=>?_)<;>rw[h1])
 ·refine G0 ?_;have e:F6 l=2:=T6 (by have:=ZV h1;omega);rw[e];(exact⟨[],aI⟩)
 ·have h1':¬20<l.length:=(by have:=ZW h1;omega);refine G0 ?_;(refine⟨[],none,{k:Nat//k≤l.length∧∀j,(h:j<l.length)→j<k→(l[j]).err=0},[0],fun⟨k,hk,h0⟩=>[(3,.v (.int .i64 k))],[],fun⟨k,hk,h0⟩=>[],fun⟨k,hk,h0⟩=>l.length-k,trivial,fun _=>⟨trivial,fun _=>⟨⟨0,by omega,fun j _ h=>by omega⟩,tI,Af _ _,tI,Ae _ _⟩⟩,fun⟨k,hk,h0⟩=>?_⟩);refine G0 ?_;rw[ZE];(refine Aa (fun h=>?_) (fun h=>?_)<;>rw[h])
  ·have hlt:k<l.length:=(by have:=ZV h;omega);refine G0 ?_;refine⟨k,_,rfl,Ad hlt,?_⟩;refine G0 ?_;(refine .inl ⟨_,_,false,[],aI,Aso _ (hw _ (ZK hlt)),Ab,nI,?_⟩);refine G1 ?_;intro gg;(refine Aa (fun h2=>?_) (fun h2=>?_)<;>rw[h2])
   ·refine G0 ?_;have h2':(l[k]).err≠0:=by simpa using h2
    have e0:=Ff hlt h0 h2';have e:F6 l=(l[k]).err:=(U4 h1' (by rw[e0];exact h2')).trans e0;rw[e];(exact⟨[],aI⟩)
   ·refine G0 ?_;(exact⟨none,trivial,fun _=>⟨⟨k+1,by omega,up1 (p:=fun j h=>(l[j]).err=0) h0 (fun _=>by simpa using h2)⟩,by show l.length-(k+1)<l.length-k;omega,tI,tI,tI,tI⟩⟩)
  ·have hge:¬k<l.length:=(by have:=ZW h;omega);have h2':Bm Mb.err l=0:=Dm fun i hi=>h0 i hi (by omega);refine G0 ?_;(refine⟨[],none,{k:Nat//(k<l.length∨k=0)∧∀i,(h:i+1<l.length)→i<k→Mb.lt l[i] l[i+1]=true},[0],fun⟨q,hq,g0⟩=>[(5,.v (.int .i64 ((q:Int)+1)))],[],fun⟨q,hq,g0⟩=>[],fun⟨q,hq,g0⟩=>l.length-q,trivial,fun _=>⟨trivial,fun _=>⟨⟨0,by omega,fun j _ h=>by omega⟩,tI,Af _ _,tI,Ae _ _⟩⟩,fun⟨q,hq,g0⟩=>?_⟩);refine G0 ?_;rw[ZE];(refine Aa (fun h3=>?_) (fun h3=>?_)<;>rw[h3])
   ·have hlt3:q+1<l.length:=(by have:=ZV h3;omega);refine G0 ?_;refine⟨q+1,_,by omega,Ad hlt3,?_⟩;refine G0 ?_;refine⟨q,_,by omega,Ad (by omega),?_⟩;refine G0 ?_;rw[Afe];(refine Aa (fun h4=>?_) (fun h4=>?_)<;>rw[h4])
    ·refine G0 ?_;have e:F6 l=4:=Aet h1' h2' (K0 hlt3 (by simpa[Mb.lt]using h4));rw[e];(exact⟨[],aI⟩)
    ·refine G0 ?_;(exact⟨none,trivial,fun _=>⟨⟨q+1,by omega,up2 (p:=fun i h=>Mb.lt l[i] l[i+1]=true) g0 (fun _=>by simpa[Mb.lt]using h4)⟩,by show l.length-(q+1)<l.length-q;omega,tI,tI,tI,tI⟩⟩)
   ·have hge3:¬q+1<l.length:=(by have:=ZW h3;omega);refine G0 ?_;have e:F6 l=0:=Yx h1' h2' (Kd fun i hi=>g0 i hi (by omega));rw[e];(exact⟨[],aI⟩)
theorem Alh(g:Mb)(name:ByteArray):Fun Tryz.prog 93 [.c (.agg g.row),.c (.v (.string name))] [.c (.v (.int .i64 (Mb.cf name g)))]:=by
 refine Ar W1 rfl ?_;refine G1 ?_;intro gg;(refine .inl ⟨_,_,false,[],aI,Aay _ _,Ab,nI,?_⟩);refine G1 ?_;intro gg;(exact⟨[],aI⟩)
theorem Au4(c:Bool)(l:List Mb)(name:ByteArray)(hl:l.length≤1000)(hm:Aj9 (Mb.cf name) l):Fun Tryz.prog 92 [.c (.sl c (l.map Mb.row)),.c (.v (.string name)),.c (.v (.func (.func 93) #[] #[]))] [.c (.v (.int .i64 (low (Mb.cf name) l))),.c (.v (.bool (hit (Mb.cf name) l)))]:=by
 refine Ar Dw rfl ?_;refine G0 ?_;rw[ZE];(refine⟨[],none,{p:Nat×Nat//p.1≤p.2∧p.2≤l.length∧(∀k,(h:k<l.length)→k<p.1→Mb.cf name l[k]<0)∧(∀k,(h:k<l.length)→p.2≤k→0≤Mb.cf name l[k])},[0,1,2,8],fun⟨⟨i,j⟩,h1,h2,h3,h4⟩=>[(9,.v (.int .i64 i)),(10,.v (.int .i64 j))],[],fun⟨⟨i,j⟩,h1,h2,h3,h4⟩=>[],fun⟨⟨i,j⟩,h1,h2,h3,h4⟩=>j-i,trivial,fun _=>⟨trivial,fun _=>⟨⟨(0,l.length),by omega,by omega,fun k _ h=>absurd h (by omega),fun k h h'=>absurd h (by omega)⟩,tI,Af _ _,tI,Ae _ _⟩⟩,fun⟨⟨i,j⟩,h1,h2,h3,h4⟩=>?_⟩);dsimp only at h1 h2 h3 h4;refine G0 ?_;(refine Aa (fun h=>?_) (fun h=>?_)<;>rw[h])
 ·have hlt:i<j:=(by have:=ZV h;omega);have hk:(i+j)/2<l.length:=by omega
  refine G0 ?_;refine⟨(i+j)/2,_,by omega,Ad hk,?_⟩;refine G0 ?_;(refine .inl ⟨_,_,false,[],aI,Alh _ _,Ab,nI,?_⟩);refine G1 ?_;intro gg;(refine Aa (fun h5=>?_) (fun h5=>?_)<;>rw[h5])
  ·have h5':Mb.cf name l[(i+j)/2]<0:=by simpa using h5
   refine G0 ?_;(exact⟨none,trivial,fun _=>⟨⟨((i+j)/2+1,j),by dsimp only;omega,h2,fun k hk' hka=>hm k ((i+j)/2) hk' hk (by dsimp only at hka;omega) h5',h4⟩,by show j-((i+j)/2+1)<j-i;omega,tI,tI,tI,tI⟩⟩)
  ·have h5':¬Mb.cf name l[(i+j)/2]<0:=by simpa using h5
   refine G0 ?_;(exact⟨none,trivial,fun _=>⟨⟨(i,(i+j)/2),by dsimp only;omega,by dsimp only;omega,h3,fun k hk' hka=>Int.not_lt.1 (fun h'=>h5' (hm ((i+j)/2) k hk hk' hka h'))⟩,by show(i+j)/2-i<j-i;omega,tI,tI,tI,tI⟩⟩)
 ·have hij:i=j:=(by have:=ZW h;omega);subst hij;have HE:=Apw (cf:=Mb.cf name) h2 h3 h4;refine G0 ?_;(refine Aa (fun h5=>?_) (fun h5=>?_)<;>rw[h5])
  ·have hin:i<l.length:=(by have:=ZV h5;omega);have HH:hit (Mb.cf name) l=decide (Mb.cf name l[i]=0):=by
    have hin':low (Mb.cf name) l<l.length:=by rw[←HE];exact hin
    rw[Aja hin'];simp only[←HE]
   refine G0 ?_;refine⟨i,_,rfl,Ad hin,?_⟩;refine G0 ?_;(refine .inl ⟨_,_,false,[],aI,Alh _ _,Ab,nI,?_⟩);refine G1 ?_;intro gg;rw[←HE,HH];(exact⟨[],aI⟩)
  ·have HH:hit (Mb.cf name) l=false:=Ale (by rw[←HE];exact(by have:=ZW h5;omega));refine G0 ?_;rw[←HE,HH];(exact⟨[],aI⟩)
theorem Ad0(c:Bool)(l:List Mb)(name:ByteArray)(hl:l.length≤1000)(hm:Aj9 (Mb.cf name) l):Fun Tryz.prog 50 [.c (.sl c (l.map Mb.row)),.c (.v (.string name))] [.c (.v (.int .i64 (low (Mb.cf name) l))),.c (.v (.bool (hit (Mb.cf name) l)))]:=by
 refine Ar Zc rfl ?_;refine G0 ?_;(refine .inl ⟨_,_,false,[],aI,Au4 c l name hl hm,Ab,nI,?_⟩);refine G1 ?_;intro gg;(exact⟨[],aI⟩)
theorem Akn(c:Bool)(l:List Mb)(name:ByteArray)(hl:l.length≤9223372036854775807):Fun Tryz.prog 12 [.c (.sl c (l.map Mb.row)),.c (.v (.string name))] [.c (.v (.int .i64 (at_ (Mb.is name) l)))]:=by
 refine Ar Ov rfl ?_;refine G0 ?_;(refine⟨[],none,{k:Nat//k≤l.length∧∀j,(h:j<l.length)→j<k→Mb.is name l[j]=false},[0,1],fun⟨k,hk,h0⟩=>[(5,.v (.int .i64 k))],[],fun⟨k,hk,h0⟩=>[],fun⟨k,hk,h0⟩=>l.length-k,trivial,fun _=>⟨trivial,fun _=>⟨⟨0,by omega,fun j _ h=>by omega⟩,tI,Af _ _,tI,Ae _ _⟩⟩,fun⟨k,hk,h0⟩=>?_⟩);refine G0 ?_;rw[ZE];(refine Aa (fun h=>?_) (fun h=>?_)<;>rw[h])
 ·have hlt:k<l.length:=(by have:=ZV h;omega);refine G0 ?_;refine⟨k,_,rfl,Ad hlt,?_⟩;refine G0 ?_;(refine Aa (fun h2=>?_) (fun h2=>?_)<;>rw[h2])
  ·refine G0 ?_;rw[Vq hlt h0 h2];(exact⟨[],aI⟩)
  ·refine G0 ?_;(exact⟨none,trivial,fun _=>⟨⟨k+1,by omega,up1 (p:=fun j h=>Mb.is name l[j]=false) h0 (fun _=>h2)⟩,by show l.length-(k+1)<l.length-k;omega,tI,tI,tI,tI⟩⟩)
 ·have hge:¬k<l.length:=(by have:=ZW h;omega);refine G0 ?_;rw[Ad9 (p:=Mb.is name) (l:=l) (fun i hi=>h0 i hi (by omega))];(exact⟨[],aI⟩)
section
open Go.Sort Go.Shelf
theorem X6{P:Program}{f:FuncId}(h:Gc P f):∀args w,(callFunc f args).run P w=.ok (.enter f args) w:=fun args w=>by
 obtain⟨fn,h1,h2,h3⟩:=h
 have h2' : fn.name ≠ "runtime.NumGoroutine" := by simpa using h2
 have h3':¬fn.body=none:=by intro q;rw[q]at h3;simp at h3
 simp[callFunc,h1,h2',h3']
section
variable {α:Type} [Inhabited α] {enc:α→Value}
theorem Ap3{w:World}{g:Nat}{cur:Array Value}{e:TypeId}{ss:List α}(hb:w.heap[g]? =some (.cells cur e (0,0)))(ht:cur.toList.take ss.length=ss.map enc):Holds enc w g 0 ss.toArray:=by
 intro j hj;have hj':j<ss.length:=by simpa using hj
 refine⟨?_,by simp[World.frozen?,hb]⟩;have h1:(cur.toList.take ss.length)[j]? =(ss.map enc)[j]? :=by rw[ht]
 rw[XA hj']at h1;simp only[World.cell?,hb,Nat.zero_add];simp only[Option.isSome_none,Bool.false_eq_true,if_false];rw[←Array.getElem?_toList,h1];simp[hj']
theorem Arn{w:World}{g n:Nat}{os:Array Obj}{cur:Array Value}{e:TypeId}{fr:Nat×Nat}(d:Array α)(hb:w.heap[g]? =some (.cells cur e fr)):
  (sortWorld enc w g 0 n d os).heap[g]? =some (.cells (putCells enc 0 d cur) e fr):=by
 have hg:g<w.heap.size:=(XL.1 hb).1;unfold sortWorld;rw[heap_grow_old _ _ (by simpa using hg)];simp[putRow,mapBlock,Sort.ahead,Array.getElem?_modify,hb,onCells]
theorem Wb{w:World}{g n k:Nat}{os:Array Obj}(d:Array α)(hk:k<w.heap.size)(hne:k≠g):(sortWorld enc w g 0 n d os).heap[k]? =w.heap[k]? :=by
 unfold sortWorld;rw[heap_grow_old _ _ (by simpa using hk)];have:g≠k:=fun e=>hne e.symm;simp[putRow,mapBlock,Sort.ahead,Array.getElem?_modify,this]
theorem Aii{w:World}{g n:Nat}{os:Array Obj}(d:Array α):w.heap.size≤(sortWorld enc w g 0 n d os).heap.size:=by
 unfold sortWorld Go.Sort.grow;simp
theorem Akk(cur:Array Value)(ts:List α)(h:ts.length≤cur.size):(putCells enc 0 ts.toArray cur).toList.take ts.length=ts.map enc:=by
 apply List.ext_getElem?;intro j;by_cases hj:j<ts.length
 ·rw[XA hj,Array.getElem?_toList];simp[putCells,hj,show j<cur.size by omega]
 ·rw[List.getElem?_take_eq_none (by omega),XK (by simp;omega)]
def Gb(enc:α→Value)(x:α):List V:=[.v (enc x)]
def Ii(cf:α→α→Int)(d:List α):List α:=d.mergeSort fun x y=> !(ltOf cf) y x
omit [Inhabited α]in
theorem Apu{w:World}{R:Nat→Prop}{G:Nat→Option Loc}{d:List α}{vs:List Value}(hl:vs.length=d.length*1)(h:C9 w R G vs 1 (d.map (Gb enc))):vs=d.map enc:=by
 apply List.ext_getElem?;intro i;by_cases hi:i<d.length
 ·obtain⟨x,h1,_,h2⟩:=h.2 i 0 (Gb enc d[i]) (.v (enc d[i])) (by simp[hi]) rfl;rw[Nat.mul_one,Nat.add_zero]at h1;rw[h1,Ce h2];simp[hi]
 ·rw[XK (by omega),XK (by simp;omega)]
omit [Inhabited α]in
theorem Aqg(h1:OneCell enc){w:World}{R:Nat→Prop}{G:Nat→Option Loc}(d:List α):C9 w R G (d.map enc) 1 (d.map (Gb enc)):=by
 refine⟨fun row hr=>?_,fun i j row u hi hj=>?_⟩
 ·obtain⟨x,_,rfl⟩:=XO.1 hr;rfl
 ·have hi':i<d.length:=by have:=(ZB.1 hi).1;simpa using this
  have e:row=Gb enc d[i]:=by rw[XJ,ZC hi']at hi;simpa using hi.symm
  subst e;cases j with
  |succ j=>simp[Gb]at hj
  |zero=>
   have e2:u=.v (enc d[i]):=by simpa[Gb]using hj.symm
   subst e2;exact⟨enc d[i],by simp[hi'],h1 _,.v _⟩
theorem Ap0{P:Program}{ρ:Ren}(L:SlLaysF.n6 P ρ)(hcall:Gc P (ρ.f 6))(T:TypeId)(h1:OneCell enc)(cf:α→α→Int)(hO:SWO (ltOf cf))(hT:∀x y,ltOf cf x y=false→ltOf cf y x=false→x=y)(f:FuncId)(caps:List V)(hfc:Gc P f)(d:List α)(hsz:d.length<4611686018427387904)(hf:d≠[]→∀(x y:α) (w:World) (R:Nat→Prop) (zs:List Value),(∀b,R b→b<w.heap.size)→Kx w R (.c (.v (enc x)):: .c (.v (enc y))::caps.map .c) zs→Calls P f zs.toArray w fun e w'=>e=.returned (.int .i64 (cf x y))∧∃q os,w'=Go.Sort.grow (w.drewN q) os):
  H3 P (ρ.f 6) [.ms T 1 (d.map (Gb enc)) ((Ii cf d).map (Gb enc)),.p (.c (.clo f caps))] []:=by
 refine⟨hcall,fun w R xs F hlt hp=>?_⟩
 match xs,hp with
 |[x0,x1],hp=>
  obtain⟨F1,F2,⟨⟨hpos,vs,hown,hrows⟩,hF1⟩,⟨F3,F4,⟨hx1,hF3⟩,hnil,hd34,hF2⟩,hd12,hF⟩:=hp;have hx1:RV w R noG (.clo f caps) x1:=hx1;have hF3':∀k,¬F3 k:=fun k hk=>by
   obtain⟨i,T',sz,rows,x,q1,_⟩:=(hF3 k).1 hk;cases i with
   |zero=>simp at q1
   |succ i=>simp at q1
  have hFF:∀b,F b↔F1 b:=fun b=>by
   rw[hF b,hF2 b];constructor
   ·rintro (q|q|q)
    ·exact q
    ·exact absurd q (hF3' b)
    ·exact absurd q (hnil b)
   ·exact .inl
  cases hx1 with
  |clo f cs xs' hl hcs=>
   have hvs:=Apu (by simpa using hown.1) hrows;subst hvs;have hlen:(d.map (Gb enc)).length=d.length:=by simp
   have hslen:(Ii cf d).length=d.length:=List.length_mergeSort d;have fin:∀w',Fr F w w'→(∀b,R b→w'.heap[b]? =w.heap[b]?)→w'.ownsRow 0 T 1 x0 (Ii cf d).length ((Ii cf d).map enc)→
     ∃(ys:List Value) (R' F':Nat→Prop),Ending.returned (Value.tuple #[])=.returned (G7 ys)∧([]:List Bp).length=ys.length∧Fr F w w'∧(∀b,R b→R' b)∧(∀b,R' b→R b∨(b<w'.heap.size∧(F b∨w.heap.size≤b)))∧
      Di w' R' (([]:List Bp)++Cd [.ms T 1 (d.map (Gb enc)) ((Ii cf d).map (Gb enc)),.p (.c (.clo f caps))]) (ys++D9 [.ms T 1 (d.map (Gb enc)) ((Ii cf d).map (Gb enc)),.p (.c (.clo f caps))] [x0,.func (.func f) #[] xs'.toArray]) F'∧(∀b,F' b→F b∨w.heap.size≤b):=fun w' hfr hR ho=>by
    refine⟨[],R,F1,rfl,rfl,hfr,fun b hb=>hb,fun b hb=>.inl hb,?_,fun b hb=>.inl ((hFF b).2 hb)⟩;refine⟨F1,fun _=>False,⟨⟨hpos,(Ii cf d).map enc,by rw[ZE];exact ho,Aqg h1 _⟩,fun k=>?_⟩,fun b hb=>hb,fun b hb=>⟨fun q=>q,(hd12 b hb).2⟩,fun b=>by simp⟩;rw[hF1 k];constructor
    ·rintro ⟨i,T',sz,rows,x,q1,q2,q3⟩
     cases i with
     |zero=>simp at q1 q2;exact⟨0,T,1,_,x,rfl,by simpa using q2,q3⟩
     |succ i=>simp at q1
    ·rintro ⟨i,T',sz,rows,x,q1,q2,q3⟩
     cases i with
     |zero=>simp at q1 q2;exact⟨0,T,1,_,x,rfl,by simpa using q2,q3⟩
     |succ i=>simp at q1
   have hnone:∀(p:Option Addr) (cap:Nat),d=[]→x0=.slice p 0 cap→Calls P (ρ.f 6) [x0,.func (.func f) #[] xs'.toArray].toArray w fun e w'=>∃(ys:List Value) (R' F':Nat→Prop),e=.returned (G7 ys)∧([]:List Bp).length=ys.length∧Fr F w w'∧(∀b,R b→R' b)∧(∀b,R' b→R b∨(b<w'.heap.size∧(F b∨w.heap.size≤b)))∧
      Di w' R' (([]:List Bp)++Cd [.ms T 1 (d.map (Gb enc)) ((Ii cf d).map (Gb enc)),.p (.c (.clo f caps))]) (ys++D9 [.ms T 1 (d.map (Gb enc)) ((Ii cf d).map (Gb enc)),.p (.c (.clo f caps))] [x0,.func (.func f) #[] xs'.toArray]) F'∧(∀b,F' b→F b∨w.heap.size≤b):=fun p cap hd0 hx=>by
    have hs0:Ii cf d=[]:=XR (by rw[hslen,hd0];rfl);have h:=AnyF.slices_SortFunc_none (P:=P) (ρ:=ρ) {L with} p cap (.func (.func f) #[] xs'.toArray) w;rw[←hx]at h;refine h.mono ?_
    rintro e w' ⟨rfl,rfl⟩
    refine fin w' (Fr.refl _ _) (fun _ _=>rfl) ?_;rw[hs0];rw[hd0]at hown;exact hown
   rcases hown.2 with⟨hx,hz⟩|⟨g,cap,cur,hx,hbase,hb,hnc,hcm,hcs2,htake⟩
   ·exact hnone none 0 (XR (by omega)) hx
   ·by_cases hd0:d=[]
    ·exact hnone _ cap hd0 (by rw[hx,hd0];rfl)
    ·have hgR:∀b,R b→b≠g:=fun b hb e=>by
      have:F1 g:=(hF1 g).2 ⟨0,T,1,_,x0,rfl,rfl,by rw[hx];rfl⟩;exact(hd12 g this).2 (e▸hb)
     have hgF:F g:=(hFF g).2 ((hF1 g).2 ⟨0,T,1,_,x0,rfl,rfl,by rw[hx];rfl⟩);have hgs:g<w.heap.size:=(XL.1 hb).1;have hH:Holds enc w g 0 d.toArray:=Ap3 hb (by simpa using htake);have hcmp:CmpLays1 P f xs'.toArray enc cf g 0 d.toArray.size w:=fun m os dk hs x y=>by
      have hW:∀b,R b→(sortWorld enc w g 0 m dk os).heap[b]? =w.heap[b]? :=fun b hb=>Wb dk (hlt b hb) (hgR b hb);have hlt':∀b,R b→b<(sortWorld enc w g 0 m dk os).heap.size:=fun b hb=>XH (hlt b hb) (Aii dk);have hpars:Kx (sortWorld enc w g 0 m dk os) R (.c (.v (enc x)):: .c (.v (enc y))::caps.map .c) (enc x::enc y::xs'):=by
       have hc:∀p∈(.c (.v (enc x)):: .c (.v (enc y))::caps.map .c:List Par),∃u,p=.c u:=fun p hp=>by
        simp only[XC,XO]at hp;rcases hp with rfl|rfl|⟨u,_,rfl⟩<;>exact⟨_,rfl⟩
       refine⟨by simp[hl],fun i p z q1 q2=>?_,fun i j T1 s1 r1 T2 s2 r2 z1 z2 b _ q1=>?_,fun b hb=>absurd hb (Mr hc)⟩
       ·match i with
        |0=>simp at q1 q2;subst q1 q2;exact .v _
        |1=>simp at q1 q2;subst q1 q2;exact .v _
        |i+2=>
         simp only[List.getElem?_cons_succ,XJ]at q1 q2;cases hu:caps[i]? with
         |none=>rw[hu]at q1;cases q1
         |some u=>
          rw[hu]at q1;injection q1 with q1;subst q1
          exact(hcs i u z hu q2).mono (fun b hb=>⟨hb,hW b hb⟩) (Gle.refl _)
       ·obtain⟨u,hu⟩:=hc _ (ZH q1);cases hu
      have e0:(#[enc x,enc y]++xs'.toArray:Array Value)=(enc x::enc y::xs').toArray:=by simp
      rw[e0];exact hf hd0 x y _ R _ hlt' hpars
     have h:=Any.slices_SortFunc_total L enc h1 cf hO f xs'.toArray g 0 cap d.toArray w (X6 hfc) hcmp hH hgs (by simpa using hsz) hT;have e1:x0=.slice (some ⟨g,0,none⟩) d.toArray.size cap:=by rw[hx];simp
     rw[←e1]at h;refine h.mono ?_
     rintro e w' ⟨rfl,n,os,rfl⟩
     have hto:d.toArray.toList=d:=by simp
     rw[hto];refine fin _ ⟨rfl,rfl,rfl,Aii _,fun k hk hn=>Wb _ hk (fun e=>hn (e▸hgF))⟩ (fun b hb=>Wb _ (hlt b hb) (hgR b hb)) ?_;rw[hx,hlen,←hslen];refine⟨by simp,.inr ⟨g,cap,_,rfl,ZU _,Arn _ hb,by rw[hslen];rw[hlen]at hnc;exact hnc,hcm,by simp[putCells,hcs2],?_⟩⟩;rw[Nat.mul_one];exact Akk cur _ (by rw[hslen,hcs2];rw[hlen]at hnc;omega)
end
end
namespace Pl
structure Good{α:Type}(c:α→α→Int):Prop where
 anti:∀a b,c b a= - c a b
 pp:∀a b d,0<c a b→0<c b d→0<c a d
 zp:∀a b d,c a b=0→0<c b d→0<c a d
 pz:∀a b d,0<c a b→c b d=0→0<c a d
 zz:∀a b d,c a b=0→c b d=0→c a d=0
theorem Vt{a b:Int}:E9 a b=0↔a=b:=⟨fun h=>Classical.byContradiction fun hn=>Aug hn h,fun h=>h▸Atk a⟩
theorem Aix{α:Type}(f:α→Int):Good fun g x=>E9 (f g) (f x) where
 anti:=fun a b=>by unfold E9;split<;>(try split)<;>(try split)<;>omega
 pp:=fun a b d h k=>by rw[Zu]at *;omega
 zp:=fun a b d h k=>by rw[Zu]at *;rw[Vt]at h;omega
 pz:=fun a b d h k=>by rw[Zu]at *;rw[Vt]at k;omega
 zz:=fun a b d h k=>by rw[Vt]at *;omega
theorem And(a b:ByteArray):Ey b a= - Ey a b:=by
 rcases Bool.eq_false_or_eq_true (slt a b)with h|h
 ·rw[Y0 h,Yz h];rfl
 ·rcases Bool.eq_false_or_eq_true (slt b a)with k|k
  ·rw[Y0 k,Yz k]
  ·have:=Ry h k;rw[this,Uw];rfl
theorem Ar2{α:Type}(f:α→ByteArray):Good fun g x=>Ey (f g) (f x) where
 anti:=fun a b=>And _ _
 pp:=fun a b d h k=>by rw[Aa5]at *;exact Kj k h
 zp:=fun a b d h k=>by rw[Aa5]at *;rw[Gk]at h;rw[h];exact k
 pz:=fun a b d h k=>by rw[Aa5]at *;rw[Gk]at k;rw[←k];exact h
 zz:=fun a b d h k=>by rw[Gk]at *;exact h.trans k
theorem H7(x:Int)(r:List Int):B3 (x::r)=if x=0 then B3 r else x:=rfl
theorem Ad7{α:Type}:∀(cs:List (α→α→Int)),(∀c∈cs,Good c)→Good fun g x=>B3 (cs.map fun c=>c g x)
 |[],_=>⟨fun _ _=>rfl,fun _ _ _ h=>by simp[B3]at h,fun _ _ _ _ h=>by simp[B3]at h,fun _ _ _ h=>by simp[B3]at h,fun _ _ _ _ _=>rfl⟩
 |c::cs,h=>by
  have hc:=h c (by simp);have ih:=Ad7 cs fun c hm=>h c (by simp[hm]);refine⟨fun a b=>?_,fun a b d p q=>?_,fun a b d p q=>?_,fun a b d p q=>?_,fun a b d p q=>?_⟩<;>simp only[List.map_cons,H7]at *
  ·rw[hc.anti a b];by_cases h0:c a b=0
   ·rw[if_pos (by omega),if_pos h0];exact ih.anti a b
   ·rw[if_neg (by omega),if_neg h0]
  all_goals
   rcases Classical.em (c a b=0)with h1|h1<;>rcases Classical.em (c b d=0)with h2|h2<;>(try simp only[h1,h2,if_true,if_false]at p q)
  all_goals first
   |(have h3:=hc.zz _ _ _ h1 h2;rw[if_pos h3];first|exact ih.pp _ _ _ p q|exact ih.zp _ _ _ p q|exact ih.pz _ _ _ p q|exact ih.zz _ _ _ p q)
   |(have h3:=hc.zp _ _ _ h1 q;rw[if_neg (by omega)];exact h3)
   |(have h3:=hc.pz _ _ _ p h2;rw[if_neg (by omega)];exact h3)
   |(have h3:=hc.pp _ _ _ p q;rw[if_neg (by omega)];exact h3)
   |omega
theorem Al8:∀{l:List Int},B3 l=0→∀x∈l,x=0
 |[],_,x,hx=>by cases hx
 |y::l,h,x,hx=>by
  rw[H7]at h;split at h
  ·rename_i h0;rcases XC.1 hx with rfl|hx
   ·exact h0
   ·exact Al8 h x hx
  ·rename_i h0;exact absurd h h0
structure Baa{α:Type}(cf:α→α→Int)(nw:α→α→Bool):Prop where
 irr:∀x,nw x x=false
 trans:∀x y z,nw x y=true→nw y z=true→nw x z=true
 tot:∀x y,cf x y=0→nw x y=false→nw y x=false→x=y
section
variable {α:Type} {lt:α→α→Bool} {cf:α→α→Int} {nw:α→α→Bool}
end
end Pl
namespace Pl
open Go.Sort Go.Shelf
section
variable {α:Type} {c:α→α→Int}
theorem Good.self(g:Good c)(x:α):c x x=0:=by have:=g.anti x x;omega
theorem Aj6(g:Good c):SWO (ltOf c) where
 irrefl x:=by unfold ltOf;rw[g.self];rfl
 trans x y z h1 h2:=by
  unfold ltOf at *;have h1:=ZV h1;have h2:=ZV h2;have a1:=g.anti x y;have a2:=g.anti y z;have a3:=g.anti x z;have:=g.pp z y x (by omega) (by omega);exact ZX (by omega)
 ntrans x y z h1 h2:=by
  unfold ltOf at *;have h1:=ZW h1;have h2:=ZW h2;refine ZY ?_;by_cases p1:c x y=0
  ·by_cases p2:c y z=0
   ·have:=g.zz x y z p1 p2;omega
   ·have:=g.zp x y z p1 (by omega);omega
  ·by_cases p2:c y z=0
   ·have:=g.pz x y z (by omega) p2;omega
   ·have:=g.pp x y z (by omega) (by omega);omega
theorem Arx(g:Good c)(h0:∀x y,c x y=0→x=y):∀x y,ltOf c x y=false→ltOf c y x=false→x=y:=fun x y h1 h2=>by
 unfold ltOf at *;have h1:=ZW h1;have h2:=ZW h2;have:=g.anti x y;exact h0 x y (by omega)
def leB(c:α→α→Int)(y x:α):Bool:= !(ltOf c) x y
theorem Adt{r:α→α→Prop}(an:∀x y,r x y→r y x→x=y):∀{a b:List α},a.Perm b→a.Pairwise r→b.Pairwise r→a=b
 |[],b,h,_,_=>(List.nil_perm.1 h).symm
 |x::a,[],h,_,_=>by have:=h.length_eq;simp at this
 |x::a,y::b,h,ha,hb=>by
  have ha':=List.pairwise_cons.1 ha;have hb':=List.pairwise_cons.1 hb;have e:x=y:=by
   have h1:x∈y::b:=h.mem_iff.1 XB;have h2:y∈x::a:=h.mem_iff.2 XB;rcases XC.1 h1 with q|q
   ·exact q
   ·rcases XC.1 h2 with q2|q2
    ·exact q2.symm
    ·exact an _ _ (ha'.1 _ q2) (hb'.1 _ q)
  subst e;rw[Adt an (List.Perm.cons_inv h) ha'.2 hb'.2]
def Jy(c:α→α→Int)(l:List α)(x:α):List α:=l.takeWhile (fun y=>leB c y x)++x::l.dropWhile fun y=>leB c y x
theorem Vz(l:List α)(x:α):(Jy c l x).Perm (x::l):=by
 unfold Jy;refine(List.perm_middle).trans ?_;rw[List.takeWhile_append_dropWhile]
theorem Api(y x:α)(l:List α):Jy c (y::l) x=if leB c y x=true then y::Jy c l x else x::y::l:=by
 unfold Jy;rw[List.takeWhile_cons,List.dropWhile_cons];split<;>rfl
theorem Xs(g:Good c)(x:α):∀{l:List α},l.Pairwise (fun u v=>leB c u v=true)→(Jy c l x).Pairwise fun u v=>leB c u v=true
 |[],_=>List.pairwise_singleton ..
 |y::l,h=>by
  have h':=List.pairwise_cons.1 h;rw[Api];split
  ·rename_i q;refine List.pairwise_cons.2 ⟨fun z hz=>?_,Xs g x h'.2⟩;have:=(Vz (c:=c) l x).mem_iff.1 hz;rcases XC.1 this with rfl|hz
   ·exact q
   ·exact h'.1 z hz
  ·rename_i q;have q:ltOf c x y=true:=by simpa[leB]using q
   have s:=Aj6 g;have hxy:leB c x y=true:=by
    unfold leB;cases p:ltOf c y x with
    |false=>rfl
    |true=>have:=s.trans _ _ _ p q;rw[s.irrefl]at this;cases this
   refine List.pairwise_cons.2 ⟨fun z hz=>?_,h⟩;rcases XC.1 hz with rfl|hz
   ·exact hxy
   ·have hyz:=h'.1 z hz;unfold leB at *;rw[Bool.not_eq_true']at *;exact s.ntrans _ _ _ hyz hxy
theorem Aij(g:Good c):∀(d:List α) {l:List α},l.Pairwise (fun u v=>leB c u v=true)→(d.foldl (Jy c) l).Pairwise (fun u v=>leB c u v=true)∧(d.foldl (Jy c) l).Perm (l++d)
 |[],l,h=>⟨h,by simp⟩
 |x::d,l,h=>by
  obtain⟨h1,h2⟩:=Aij g d (Xs g x h);refine⟨h1,h2.trans ?_⟩;refine((Vz l x).append_right d).trans ?_;exact(List.perm_middle).symm
theorem Ari(g:Good c)(h0:∀x y,c x y=0→x=y)(d:List α):d.foldl (Jy c) []=Ii c d:=by
 obtain⟨h1,h2⟩:=Aij g d (l:=[]) List.Pairwise.nil;have s:=Aj6 g;have hs:(Ii c d).Pairwise fun x y=>(!(ltOf c) y x)=true:=by
  refine List.pairwise_mergeSort (fun a b e p1 p2=>?_) (fun a b=>?_) _
  ·have p1':ltOf c b a=false:=by simpa using p1
   have p2':ltOf c e b=false:=by simpa using p2
   simpa using s.ntrans e b a p2' p1'
  ·cases q:ltOf c b a with
   |false=>rfl
   |true=>
    cases p:ltOf c a b with
    |false=>rfl
    |true=>have:=s.trans _ _ _ p q;rw[s.irrefl]at this;cases this
 refine Adt (r:=fun u v=>leB c u v=true) (fun x y p1 p2=>?_) (h2.trans (List.mergeSort_perm _ _).symm) h1 hs;have p1':ltOf c y x=false:=by simpa[leB]using p1
 have p2':ltOf c x y=false:=by simpa[leB]using p2
 exact Arx g h0 x y p2' p1'
end
def rkN(K:ByteArray→Option Int)(a:ByteArray):Int:=if(K a).isSome then 0 else 1
def frN(K:ByteArray→Option Int)(a:ByteArray):Int:=(K a).getD 0
def cfN(K:ByteArray→Option Int)(a b:ByteArray):Int:=B3 [E9 (rkN K a) (rkN K b),E9 (frN K a) (frN K b),Ey a b]
theorem Z0(K:ByteArray→Option Int):Good (cfN K):=Ad7 [fun a b=>E9 (rkN K a) (rkN K b),fun a b=>E9 (frN K a) (frN K b),fun a b=>Ey a b] (by
 intro c hc;simp only[XC,XD,or_false]at hc;rcases hc with rfl|rfl|rfl
 ·exact Aix (rkN K)
 ·exact Aix (frN K)
 ·exact Ar2 fun a=>a)
theorem Ahc{K:ByteArray→Option Int}{a b:ByteArray}(h:cfN K a b=0):a=b:=Gk.1 (Al8 h _ (by simp))
theorem Arl(K:ByteArray→Option Int)(d:List ByteArray):d.foldl (Jy (cfN K)) []=Ii (cfN K) d:=Ari (Z0 K) (fun _ _=>Ahc) d
end Pl
namespace Pl
def M6(n:Nat):Nat→Nat
 |0=>0
 |k+1=>if(k+1)*(k+1)≤n then k+1 else M6 n k
def isq(n:Nat):Nat:=M6 n n
theorem Aof(n k:Nat):M6 n k*M6 n k≤n:=by
 induction k with
 |zero=>simp[M6]
 |succ k ih=>
  unfold M6;split
  ·assumption
  ·exact ih
theorem Apf(n k:Nat)(h:n<(k+1)*(k+1)):n<(M6 n k+1)*(M6 n k+1):=by
 induction k with
 |zero=>simpa[M6]using h
 |succ k ih=>
  unfold M6;split
  ·exact h
  ·exact ih (by omega)
theorem Avz(n:Nat):isq n*isq n≤n:=Aof n n
theorem Axa(n:Nat):n<(isq n+1)*(isq n+1):=Apf n n (by rw[Nat.add_mul];omega)
def rt(n:Int):Int:=(isq n.toNat:Int)
theorem Ade(n:Int):0≤rt n:=Int.natCast_nonneg _
theorem Avg(n:Int)(h:0≤n):rt n*rt n≤n:=by
 have:=Avz n.toNat;unfold rt;have e:((isq n.toNat*isq n.toNat:Nat):Int)≤(n.toNat:Int):=Int.ofNat_le.2 this;rw[Int.natCast_mul]at e;omega
theorem Avm(n:Int)(h:0≤n):n<(rt n+1)*(rt n+1):=by
 have:=Axa n.toNat;unfold rt;have e:(n.toNat:Int)<((isq n.toNat+1)*(isq n.toNat+1):Nat):=Int.ofNat_lt.2 this;rw[Int.natCast_mul]at e;simp only[Int.natCast_add,Int.natCast_one]at e;omega
theorem Rk{a b:Int}(h0:0≤a)(h:a≤b):a*a≤b*b:=Int.mul_le_mul h h h0 (by omega)
theorem Alo{a b:Int}(h0:0≤b)(h:a*a<(b+1)*(b+1)):a≤b:=by
 rcases Int.lt_or_le b a with g|g
 ·have:=Rk (show 0≤b+1 by omega) (show b+1≤a by omega);omega
 ·exact g
theorem Alw{n r:Int}(h:0≤n)(h0:0≤r)(h2:n<(r+1)*(r+1)):rt n≤r:=by
 have:=Avg n h;exact Alo h0 (by omega)
theorem Am8{n r:Int}(h:0≤n)(h2:r*r≤n):r≤rt n:=by
 have:=Avm n h;exact Alo (Ade n) (by omega)
theorem Amp{n r:Int}(h0:0≤r)(h1:r*r≤n)(h2:n<(r+1)*(r+1)):rt n=r:=by
 have hn:0≤n:=Int.le_trans (Int.mul_nonneg h0 h0) h1;have a:=Alw hn h0 h2;have b:=Am8 hn h1;omega
theorem Awu(n:Int)(h:0≤n)(hm:n≤9223372036854775807):rt n≤3037000499:=Alw h (by omega) (by omega)
theorem Ir{n x:Int}(hn:0≤n)(hx:1≤x):0≤n/x∧x*(n/x)≤n∧n<x*(n/x)+x:=by
 have:=Int.mul_ediv_add_emod n x;have:=Int.emod_nonneg n (show x≠0 by omega);have:=Int.emod_lt_of_pos n (show 0<x by omega);exact⟨Int.ediv_nonneg hn (by omega),by omega,by omega⟩
theorem Ba9{a b s:Int}(h0:0≤a)(h1:0≤b)(h:a+b≤2*s):a*b≤s*s:=by
 have h2:(a+b)*(a+b)≤(2*s)*(2*s):=Rk (by omega) h;have h3:0≤(a-b)*(a-b):=by
  rcases Int.le_total 0 (a-b)with g|g
  ·exact Int.mul_nonneg g g
  ·exact Int.mul_nonneg_of_nonpos_of_nonpos g g
 have e:(a-b)*(a-b)=(a+b)*(a+b)-4*(a*b):=by grind
 have e2:(2*s)*(2*s)=4*(s*s):=by grind
 omega
theorem Azq{n x:Int}(hn:0≤n)(hm:n≤9223372036854775807)(hx:1≤x)(h:x≤n/x):x≤3037000499:=by
 obtain⟨a,b,c⟩:=Ir hn hx;have:x*x≤x*(n/x):=Int.mul_le_mul_of_nonneg_left h (by omega);exact Alo (by omega) (by omega)
theorem Awr{n x:Int}(hn:0≤n)(hx:1≤x)(h:n/x<x):rt n≤x:=by
 obtain⟨a,b,c⟩:=Ir hn hx;have:x*(n/x)≤x*(x-1):=Int.mul_le_mul_of_nonneg_left (by omega) (by omega);have e:x*(x-1)=x*x-x:=by grind
 have e2:(x+1)*(x+1)=x*x+2*x+1:=by grind
 exact Alw hn (by omega) (by omega)
theorem Axd{n x:Int}(hn:1≤n)(hx:1≤x)(h:rt n≤x):n/x≤rt n+2:=by
 have a:=Avm n (by omega);have b:1≤rt n:=Am8 (by omega) (by omega);refine Int.ediv_le_of_le_mul (by omega) ?_;have e:(rt n+1)*(rt n+1)=(rt n+2)*rt n+1:=by grind
 have:(rt n+2)*rt n≤(rt n+2)*x:=Int.mul_le_mul_of_nonneg_left h (by omega);omega
theorem Aun{n x:Int}(hn:0≤n)(hx:1≤x):rt n≤(x+n/x)/2:=by
 obtain⟨a,b,c⟩:=Ir hn hx;have s:=Avg n hn;rcases Int.lt_or_le ((x+n/x)/2) (rt n)with g|g
 ·have:=Ba9 (a:=x) (b:=n/x+1) (s:=rt n) (by omega) (by omega) (by omega);have e:x*(n/x+1)=x*(n/x)+x:=by grind
  omega
 ·exact g
theorem Aqy{n x:Int}(hn:0≤n)(hx:1≤x)(h:rt n≤x)(g:x≤(x+n/x)/2):x=rt n:=by
 obtain⟨a,b,c⟩:=Ir hn hx;have:x*x≤x*(n/x):=Int.mul_le_mul_of_nonneg_left (by omega) (by omega);have:=Am8 (n:=n) (r:=x) hn (by omega);omega
def J4(n r b:Int):Prop:=
 0≤r∧r*r≤n∧((b=0∧n<(r+1)*(r+1))∨((∃k:Nat,k≤31∧b=2^k)∧n<(r+2*b)*(r+2*b)))
theorem Aiv(k:Nat):((2:Int)^(k+1))/2=2^k∧(2:Int)^(k+1)=2*2^k∧1≤(2:Int)^k:=by
 have h:(2:Int)^(k+1)=2^k*2:=Int.pow_succ 2 k;have p:0<(2:Int)^k:=Int.pow_pos (by omega);omega
theorem Axp(k:Nat)(h:k≤31):(2:Int)^k≤2147483648:=by
 have e:(2147483648:Int)=2^k*2^(31-k):=by
  rw[←Int.pow_add,show k+(31-k)=31 by omega];decide
 have p:1≤(2:Int)^(31-k):=by have:0<(2:Int)^(31-k):=Int.pow_pos (by omega);omega
 have q:0≤(2:Int)^k:=by have:0<(2:Int)^k:=Int.pow_pos (by omega);omega
 have:=Int.mul_le_mul_of_nonneg_left p q;omega
theorem Acf{n:Int}(h0:0≤n)(hm:n≤9223372036854775807):J4 n 0 2147483648:=
 ⟨by omega,by omega,.inr ⟨⟨31,by omega,by decide⟩,by omega⟩⟩
theorem Z9{n r b:Int}(h0:0≤n)(hm:n≤9223372036854775807)(h:J4 n r b):
  0≤r∧r≤3037000499∧0≤b∧b≤2147483648∧(0<b→0≤b/2):=by
 obtain⟨a,c,d⟩:=h;have hr:r≤3037000499:=Alo (by omega) (by omega);refine⟨a,hr,?_⟩;rcases d with⟨e,_⟩|⟨⟨k,hk,e⟩,_⟩
 ·omega
 ·have:=Axp k hk;have:0<(2:Int)^k:=Int.pow_pos (by omega);omega
theorem Ai5{n r b:Int}(h:J4 n r b)(hb:0<b)(c:(r+b)*(r+b)≤n):J4 n (r+b) (b/2):=by
 obtain⟨a,_,d⟩:=h;refine⟨by omega,c,?_⟩;rcases d with⟨e,_⟩|⟨⟨k,hk,e⟩,d⟩
 ·omega
 ·cases k with
  |zero=>
   have:b=1:=by simpa using e
   subst this;exact .inl ⟨by decide,by rw[show r+1+1=r+2*1 by omega];exact d⟩
  |succ k=>
   obtain⟨p,q,s⟩:=Aiv k;refine .inr ⟨⟨k,by omega,by rw[e,p]⟩,?_⟩;rw[show r+b+2*(b/2)=r+2*b by rw[e,p,q];omega];exact d
theorem Aai{n r b:Int}(h:J4 n r b)(hb:0<b)(c:n<(r+b)*(r+b)):J4 n r (b/2):=by
 obtain⟨a,f,d⟩:=h;refine⟨a,f,?_⟩;rcases d with⟨e,_⟩|⟨⟨k,hk,e⟩,d⟩
 ·omega
 ·cases k with
  |zero=>
   have:b=1:=by simpa using e
   subst this;exact .inl ⟨by decide,c⟩
  |succ k=>
   obtain⟨p,q,s⟩:=Aiv k;refine .inr ⟨⟨k,by omega,by rw[e,p]⟩,?_⟩;rw[show r+2*(b/2)=r+b by rw[e,p,q]];exact c
theorem Ahe{n r b:Int}(h0:0≤n)(h:J4 n r b)(hb:b≤0):r=rt n:=by
 obtain⟨a,f,d⟩:=h;rcases d with⟨e,d⟩|⟨⟨k,hk,e⟩,d⟩
 ·exact(Amp a f d).symm
 ·have:0<(2:Int)^k:=Int.pow_pos (by omega);omega
theorem Aru{x:Int}(h0:0≤x)(h:x≤3037000499):x*x≤9223372036854775807:=by
 have:=Rk h0 h;omega
theorem Axh{n x:Int}(h0:0≤n)(hm:n≤9223372036854775807)(h:3037000500≤x):n<x*x:=by
 have:=Rk (show(0:Int)≤3037000500 by omega) h;omega
end Pl
namespace Pl
def sq3(x y z x' y' z':Int):Int:=(x-x')*(x-x')+(y-y')*(y-y')+(z-z')*(z-z')
def flat(x y z x' y' z':Int):Int:=rt (sq3 x y z x' y' z')
theorem Q7{x y z h s:Int}:Agm x y z h s=true↔(-10000000≤x∧x≤10000000)∧(-10000000≤y∧y≤10000000)∧(-10000000≤z∧z≤10000000)∧(0≤h∧h≤1000000)∧(0≤s∧s≤1000):=by
 unfold Agm;simp only[ZO,Ae2,and_assoc]
theorem Axn{x b:Int}(h1: -b≤x)(h2:x≤b):0≤x*x∧x*x≤b*b:=by
 rcases Int.le_total 0 x with h|h
 ·exact⟨Int.mul_nonneg h h,Rk h h2⟩
 ·have:=Rk (a:= -x) (b:=b) (by omega) (by omega);rw[Int.neg_mul_neg]at this;exact⟨Int.mul_nonneg_of_nonpos_of_nonpos h h,this⟩
theorem J8{x x':Int}(h1: -10000000≤x)(h2:x≤10000000)(h3: -10000000≤x')(h4:x'≤10000000):0≤(x-x')*(x-x')∧(x-x')*(x-x')≤400000000000000:=
 Axn (x:=x-x') (b:=20000000) (by omega) (by omega)
theorem Awa{x y z x' y' z':Int}(a1:0≤(x-x')*(x-x')∧(x-x')*(x-x')≤400000000000000)(a2:0≤(y-y')*(y-y')∧(y-y')*(y-y')≤400000000000000)(a3:0≤(z-z')*(z-z')∧(z-z')*(z-z')≤400000000000000):0≤sq3 x y z x' y' z'∧sq3 x y z x' y' z'≤1200000000000000:=by unfold sq3;omega
theorem Auk{x y z x' y' z':Int}(h:0≤sq3 x y z x' y' z'∧sq3 x y z x' y' z'≤1200000000000000):0≤flat x y z x' y' z'∧flat x y z x' y' z'≤34641017:=
 ⟨Ade _,Alw h.1 (by omega) (by omega)⟩
theorem Atr{x y z h s x' y' z' h' s':Int}(o:Agm x y z h s=true)(o':Agm x' y' z' h' s'=true):0≤flat x y z x' y' z'∧flat x y z x' y' z'≤34641017:=by
 obtain⟨⟨a1,a2⟩,⟨a3,a4⟩,⟨a5,a6⟩,_,_⟩:=Q7.1 o;obtain⟨⟨b1,b2⟩,⟨b3,b4⟩,⟨b5,b6⟩,_,_⟩:=Q7.1 o';exact Auk (Awa (J8 a1 a2 b1 b2) (J8 a3 a4 b3 b4) (J8 a5 a6 b5 b6))
def far(x y z h x' y' z' h':Int):Int:=flat x y z x' y' z'+h+h'
end Pl
namespace Pl
structure Pc where
 x:Int
 y:Int
 z:Int
 h:Int
 s:Int
def Pc.row(p:Pc):List V:=[.v (.int .i64 p.x),.v (.int .i64 p.y),.v (.int .i64 p.z),.v (.int .i64 p.h),.v (.int .i64 p.s)]
instance:FlatRow Pc.row:=⟨fun x u hu=>by simp[Pc.row]at hu;rcases hu with rfl|rfl|rfl|rfl|rfl<;>exact⟨_,rfl⟩⟩
def Pc.ok(p:Pc):Prop:=True
def Pc.okb(p:Pc):Bool:=Agm p.x p.y p.z p.h p.s
def Pc.err(p:Pc):Int:=Ajt p.x p.y p.z p.h p.s
theorem Pc.err_ok{p:Pc}(h:p.okb=true):p.err=0:=by unfold Pc.err Ajt;unfold Pc.okb at h;rw[if_pos h]
theorem Pc.err_bad{p:Pc}(h:p.okb=false):p.err=3:=by unfold Pc.err Ajt;unfold Pc.okb at h;rw[if_neg (by rw[h];decide)]
theorem Pc.err_iff{p:Pc}:p.err=0↔p.okb=true:=by
 cases h:p.okb with
 |true=>simp[Pc.err_ok h]
 |false=>simp[Pc.err_bad h]
def Pc.flat(a b:Pc):Int:=Pl.flat a.x a.y a.z b.x b.y b.z
def Pc.far(a b:Pc):Int:=Pl.far a.x a.y a.z a.h b.x b.y b.z b.h
theorem Ajf{a b:Pc}(h:a.okb=true)(h':b.okb=true):(0≤a.flat b∧a.flat b≤34641017)∧(0≤a.far b∧a.far b≤36641017):=by
 have f:=Atr h h';obtain⟨_,_,_,⟨a7,a8⟩,_⟩:=Q7.1 h;obtain⟨_,_,_,⟨b7,b8⟩,_⟩:=Q7.1 h';refine⟨f,?_⟩;unfold Pc.far Pl.far;omega
end Pl
namespace Pl
def ents(l:List (ByteArray×V)):List (Value×V):=l.map fun p=>(.string p.1,p.2)
def look(k:ByteArray):List (ByteArray×V)→Nat→Option (Nat×V)
 |[],_=>none
 |(a,v)::es,i=>if k=a then some (i,v)else look k es (i+1)
theorem D8(k:ByteArray):∀(l:List (ByteArray×V)) (i:Nat),Gn .string (.string k) (ents l) i=some (look k l i)
 |[],i=>rfl
 |(a,v)::es,i=>by
  have ih:=D8 k es (i+1);unfold ents at ih;by_cases h:k=a
  ·subst h;have hb:(k==k)=true:=(Go.MapKept.bytes_beq k k).2 rfl;simp[ents,Gn,look,Instr.sameNow,hb]
  ·have hb:(k==a)=false:=by
    cases q:(k==a)with
    |true=>exact absurd ((Go.MapKept.bytes_beq k a).1 q) h
    |false=>rfl
   simp only[ents,List.map_cons,Gn,look,Instr.sameNow,hb,if_neg h];exact ih
def put(l:List (ByteArray×V))(k:ByteArray)(v:V):List (ByteArray×V):=match look k l 0 with
 |some (i,_)=>l.set i (k,v)
 |none=>l++[(k,v)]
theorem Za(l:List (ByteArray×V))(k:ByteArray)(v:V):Tw (ents l) (.string k) v (look k l 0)=ents (put l k v):=by
 unfold put Tw;cases h:look k l 0 with
 |none=>simp[ents]
 |some p=>obtain⟨i,u⟩:=p;simp[ents,List.map_set]
theorem Ro{k:ByteArray}:∀{l:List (ByteArray×V)} {i j:Nat} {v:V},look k l i=some (j,v)→i≤j∧l[j-i]? =some (k,v)
 |[],i,j,v,h=>by simp[look]at h
 |(a,u)::es,i,j,v,h=>by
  unfold look at h;split at h
  ·rename_i e;simp only[ZD,Prod.mk.injEq]at h;obtain⟨rfl,rfl⟩:=h;subst e;exact⟨ZT _,by simp⟩
  ·obtain⟨h1,h2⟩:=Ro h;exact⟨by omega,by rw[show j-i=(j-(i+1))+1 by omega];simpa using h2⟩
theorem Xc{k:ByteArray}:∀{l:List (ByteArray×V)} {i:Nat},look k l i=none↔k∉l.map (·.1)
 |[],i=>by simp[look]
 |(a,u)::es,i=>by
  unfold look;split
  ·rename_i e;subst e;simp
  ·rename_i e;rw[Xc (l:=es) (i:=i+1)];simp[e]
open Classical in
theorem Ast{l:List (ByteArray×V)}{k:ByteArray}{v:V}:(put l k v).map (·.1)=if k∈l.map (·.1)then l.map (·.1)else l.map (·.1)++[k]:=by
 unfold put;cases h:look k l 0 with
 |none=>rw[if_neg (Xc.1 h)];simp
 |some p=>
  obtain⟨i,u⟩:=p;have hk:k∈l.map (·.1):=Classical.byContradiction fun q=>by rw[Xc.2 q]at h;cases h
  rw[if_pos hk];obtain⟨_,h2⟩:=Ro h;simp only[Nat.sub_zero]at h2;show(l.set i (k,v)).map (·.1)=l.map (·.1);rw[List.map_set];apply List.ext_getElem?;intro j;rw[List.getElem?_set];split
  ·rename_i e;subst e;split
   ·simp[h2]
   ·rename_i q;simp at q;simp[q]
  ·rfl
structure Ail(l:List (ByteArray×V))(ns:List ByteArray):Prop where
 mem:∀n,n∈l.map (·.1)↔n∈ns
 le:l.length≤ns.length
 all:l.length=ns.length↔ns.Nodup
 cl:∀p∈l,Cl p.2
theorem Ail.nil:Ail [] []:=⟨by simp,by simp,by simp,by simp⟩
theorem Ail.put{l:List (ByteArray×V)}{ns:List ByteArray}(h:Ail l ns)(k:ByteArray)(v:V)(hv:Cl v):Ail (put l k v) (ns++[k]):=by
 have hk:=Ast (l:=l) (k:=k) (v:=v);have hlen:(Pl.put l k v).length=((Pl.put l k v).map (·.1)).length:=by simp
 have hm:=h.mem k;refine⟨fun n=>?_,?_,?_,fun p hp=>?_⟩
 ·rw[hk];split
  ·rename_i q;rw[h.mem n];simp;intro e;subst e;exact hm.1 q
  ·simp only[XM,h.mem n]
 ·rw[hlen,hk];have:=h.le;split<;>simp<;>omega
 ·rw[hlen,hk];split
  ·rename_i q;have:=h.le;constructor
   ·intro e;simp at e;omega
   ·intro e;have:=(List.nodup_append.1 e).2.2 k (hm.1 q) k (by simp);exact absurd rfl this
  ·rename_i q;have hq:k∉ns:=fun e=>q (hm.2 e);simp only[ZF,ZE,ZJ,ZN];rw[List.nodup_append];constructor
   ·intro e;refine⟨h.all.1 (by omega),by simp,?_⟩;intro a ha b hb e';simp at hb;subst hb;subst e';exact hq ha
   ·intro e;have:=h.all.2 e.1;omega
 ·unfold Pl.put at hp;split at hp
  ·rcases List.mem_or_eq_of_mem_set hp with q|rfl
   ·exact h.cl p q
   ·exact hv
  ·rcases XM.1 hp with q|q
   ·exact h.cl p q
   ·simp at q;subst q;exact hv
end Pl
namespace Pl
structure Wh where
 nd:ByteArray
 pl:Pc
def Wh.row(x:Wh):List V:=[.v (.string x.nd),.v (.int .i64 x.pl.x),.v (.int .i64 x.pl.y),.v (.int .i64 x.pl.z),.v (.int .i64 x.pl.h),.v (.int .i64 x.pl.s)]
instance:FlatRow Wh.row:=⟨fun x u hu=>by simp[Wh.row]at hu;rcases hu with rfl|rfl|rfl|rfl|rfl|rfl<;>exact⟨_,rfl⟩⟩
def Wh.ok(x:Wh):Prop:=x.nd.size≤9223372036854775807
theorem Awz(row:List V)(h:Qp [.s,.i,.i,.i,.i,.i] row):∃m:Wh,row=m.row∧m.ok:=by
 obtain⟨u0,_,rfl,f0,h⟩:=Ap h;obtain⟨u1,_,rfl,f1,h⟩:=Ap h;obtain⟨u2,_,rfl,f2,h⟩:=Ap h;obtain⟨u3,_,rfl,f3,h⟩:=Ap h;obtain⟨u4,_,rfl,f4,h⟩:=Ap h;obtain⟨u5,_,rfl,f5,h⟩:=Ap h;obtain rfl:=Ln h;obtain⟨n,rfl,hn⟩:=K3 f0;obtain⟨a,rfl,_⟩:=Ge f1;obtain⟨b,rfl,_⟩:=Ge f2;obtain⟨c,rfl,_⟩:=Ge f3;obtain⟨d,rfl,_⟩:=Ge f4;obtain⟨e,rfl,_⟩:=Ge f5;exact⟨⟨n,a,b,c,d,e⟩,rfl,hn⟩
def Wh.perr(w:Wh):Int:=w.pl.err
def Bx(f:Pc):List Wh→ByteArray→Option Int
 |[],_=>none
 |w::l,a=>if a=w.nd then some (f.far w.pl)else Bx f l a
theorem W8(f:Pc)(w:Wh)(a:ByteArray):∀l:List Wh,Bx f (l++[w]) a=(Bx f l a).or (if a=w.nd then some (f.far w.pl)else none)
 |[]=>by simp[Bx]
 |v::l=>by
  show(if a=v.nd then some (f.far v.pl)else Bx f (l++[w]) a)=(if a=v.nd then some (f.far v.pl)else Bx f l a).or _;split
  ·rfl
  ·exact W8 f w a l
theorem Aha{f:Pc}(hf:f.okb=true){a:ByteArray}{x:Int}:∀{l:List Wh},(∀w∈l,w.pl.okb=true)→Bx f l a=some x→0≤x
 |[],_,h=>by cases h
 |w::l,hl,h=>by
  unfold Bx at h;split at h
  ·injection h with h;subst h;exact(Ajf hf (hl w (XB ..))).2.1
  ·exact Aha hf (fun v hv=>hl v (ZL _ hv)) h
def iV(n:Int):V:=.v (.int .i64 n)
theorem Agp(k:ByteArray)(v:V)(a:ByteArray):∀(E:List (ByteArray×V)) (i:Nat),look a (E++[(k,v)]) i=(look a E i).or (if a=k then some (i+E.length,v)else none)
 |[],i=>by simp[look]
 |(b,u)::E,i=>by
  show(if a=b then some (i,u)else look a (E++[(k,v)]) (i+1))=(if a=b then some (i,u)else look a E (i+1)).or _;split
  ·rfl
  ·rw[Agp k v a E (i+1)];congr 2;simp[Nat.add_assoc,Nat.add_comm 1]
def Gz(f:Pc)(l:List Wh)(E:List (ByteArray×V)):Prop:=∀a,(look a E 0).map (·.2)=(Bx f l a).map iV
theorem Gz.nil(f:Pc):Gz f [] []:=fun a=>rfl
theorem Gz.old{f:Pc}{l:List Wh}{E:List (ByteArray×V)}(h:Gz f l E){w:Wh}(hw:look w.nd E 0≠none):Gz f (l++[w]) E:=fun a=>by
 rw[h a,W8];by_cases e:a=w.nd
 ·subst e;have:=h w.nd;cases q:look w.nd E 0 with
  |none=>exact absurd q hw
  |some r=>
   rw[q]at this;cases q2:Bx f l w.nd with
   |none=>rw[q2]at this;cases this
   |some x=>rfl
 ·rw[if_neg e];cases Bx f l a<;>rfl
theorem Gz.new{f:Pc}{l:List Wh}{E:List (ByteArray×V)}(h:Gz f l E){w:Wh}(hw:look w.nd E 0=none):Gz f (l++[w]) (put E w.nd (iV (f.far w.pl))):=fun a=>by
 have e:put E w.nd (iV (f.far w.pl))=E++[(w.nd,iV (f.far w.pl))]:=by unfold put;rw[hw]
 have hn:Bx f l w.nd=none:=by
  have:=h w.nd;rw[hw]at this;cases q2:Bx f l w.nd with
  |none=>rfl
  |some x=>rw[q2]at this;cases this
 rw[e,Agp,W8];by_cases q:a=w.nd
 ·subst q;rw[hw,hn];simp
 ·rw[if_neg q,if_neg q];have:=h a;cases q1:look a E 0<;>cases q2:Bx f l a<;>rw[q1,q2]at this<;>first|rfl|cases this|exact this
theorem Gz.at_none{f:Pc}{l:List Wh}{E:List (ByteArray×V)}(h:Gz f l E){a:ByteArray}(hf:Bx f l a=none):look a E 0=none:=by
 have:=h a;rw[hf]at this;cases q:look a E 0 with
 |none=>rfl
 |some r=>rw[q]at this;cases this
theorem Gz.at_some {f : Pc} {l : List Wh} {E : List (ByteArray × V)} (h : Gz f l E) {a : ByteArray} {x : Int} (hf : Bx f l a = some x) : ∃ i, look a E 0 = some (i, iV x) := by
  have := h a
  rw [hf] at this
  cases q : look a E 0 with
  | none => rw [q] at this; cases this
  | some r =>
    rw [q] at this
    obtain ⟨i, u⟩ := r
    exact ⟨i, by have e : u = iV x := by simpa using this
                 rw [e]⟩
theorem Gz.val{f:Pc}{l:List Wh}{E:List (ByteArray×V)}(h:Gz f l E){a:ByteArray}{i:Nat}{v:V}(q:look a E 0=some (i,v)):∃x,v=iV x:=by
 have:=h a;rw[q]at this;cases q2:Bx f l a with
 |none=>rw[q2]at this;cases this
 |some x=>rw[q2]at this;exact⟨x,by simpa using this⟩
def Dg(s:ByteArray):List V:=[.v (.string s)]
instance:FlatRow Dg:=⟨fun x u hu=>by simp[Dg]at hu;exact⟨_,hu⟩⟩
instance:OneRow Dg 1:=⟨fun _=>rfl,fun x u hu=>by simp[Dg]at hu;exact⟨_,hu,rfl⟩⟩
noncomputable def Q8(f:Pc)(l:List Wh)(names:List ByteArray):List ByteArray:=names.foldl (Jy (cfN (Bx f l))) []
noncomputable def Hg(f:Pc)(l:List Wh)(names:List ByteArray):Int:=if 100<l.length∨100<names.length then 2 else if f.err≠0 then f.err else Bm Wh.perr l
theorem Ak5{f:Pc}{l:List Wh}{names:List ByteArray}{k:Nat}(hk:k<names.length):Q8 f l (names.take (k+1))=Jy (cfN (Bx f l)) (Q8 f l (names.take k)) names[k]:=by
 unfold Q8;rw[XT,ZC hk,List.foldl_append];rfl
theorem Ash{c:ByteArray→ByteArray→Int}(l:List ByteArray)(x:ByteArray):(Jy c l x).length=l.length+1:=by
 have:=(Vz (c:=c) l x).length_eq;simpa using this
theorem Add{c:ByteArray→ByteArray→Int}:∀(d l:List ByteArray),(d.foldl (Jy c) l).length=l.length+d.length
 |[],l=>by simp
 |x::d,l=>by rw[List.foldl_cons,Add,Ash,ZJ];omega
theorem Apg{f:Pc}{l:List Wh}{names:List ByteArray}:(Q8 f l names).length=names.length:=by
 unfold Q8;rw[Add];simp
theorem Re{c:ByteArray→ByteArray→Int}{l:List ByteArray}{x:ByteArray}{n:Nat}(hn:n≤l.length)(h1:∀j,(h:j<l.length)→j<n→leB c l[j] x=true)(h2:n=l.length∨∃h:n<l.length,leB c l[n] x=false):
  Jy c l x=l.take n++(x::l.drop n):=by
 unfold Jy;have ht:l.takeWhile (fun y=>leB c y x)=l.take n∧l.dropWhile (fun y=>leB c y x)=l.drop n:=by
  clear hn
  induction l generalizing n with
  |nil=>simp
  |cons y l ih=>
   cases n with
   |zero=>
    rcases h2 with h2|⟨hl,h2⟩
    ·simp at h2
    ·simp only[List.getElem_cons_zero]at h2;simp[h2]
   |succ n=>
    have h0:=h1 0 (by simp) (by omega);simp only[List.getElem_cons_zero]at h0;have:=ih (n:=n) (fun j h hj=>by have:=h1 (j+1) (by simpa using h) (by omega);simpa using this) (by
     rcases h2 with h2|⟨hl,h2⟩
     ·left;simpa using h2
     ·right;exact⟨by simpa using hl,by simpa using h2⟩)
    rw[List.takeWhile_cons,List.dropWhile_cons,if_pos h0,if_pos h0];exact⟨by rw[this.1];rfl,by rw[this.2];rfl⟩
 rw[ht.1,ht.2]
def Su(K:ByteArray→Option Int)(a:ByteArray):Int:=(K a).getD (-1)
theorem Ao4{K:ByteArray→Option Int}(h0:∀a x,K a=some x→0≤x)(y x:ByteArray):
  leB (cfN K) y x=true↔(Su K x<0∧0≤Su K y)∨((Su K x<0↔Su K y<0)∧(Su K y<Su K x∨(Su K y=Su K x∧slt x y=false))):=by
 have hs:Ey x y<0↔slt x y=true:=Qu;have key:leB (cfN K) y x=true↔¬cfN K x y<0:=by unfold leB ltOf;simp
 rw[key];unfold cfN Su rkN frN;have hx:=h0 x;have hy:=h0 y;rw[←Bool.not_eq_true,←hs];cases q1:K x<;>cases q2:K y<;>simp only[Option.isSome_none,Option.isSome_some,Option.getD_none,Option.getD_some,Bool.false_eq_true,if_false,if_true,H7,B3]
 ·simp[E9,H7,B3];omega
 ·rename_i b;have:=hy b q2;simp[E9,H7,B3];omega
 ·rename_i b;have:=hx b q1;simp[E9,H7,B3];omega
 ·rename_i b d;have:=hx b q1;have:=hy d q2;simp only[E9,H7,B3];by_cases c1:b<d
  ·simp[c1];omega
  ·by_cases c2:d<b
   ·simp[c1,c2];omega
   ·have:b=d:=by omega
    subst this;simp;omega
end Pl
end Go.Proofs.YtbnocibpoghfhaaGreatDoor

namespace Go.Proofs.YtbnocibpoghfhaaGreatDoor
open Go.RowKit Pl
theorem Qn(n a b:Int):Fun Tryz.prog 86 [.c (.v (.int .i64 n)),.c (.v (.int .i64 a)),.c (.v (.int .i64 b))] [.c (.v (.bool (wi n a b)))]:=by
 refine Ar Yg rfl ?_;refine G0 ?_;(refine Aa (fun h=>?_) (fun h=>?_)<;>rw[h])
 ·refine G0 ?_;rw[Aur h];(exact⟨[],aI⟩)
 ·refine G0 ?_;rw[Av8 h];(exact⟨[],aI⟩)
theorem Zs(n:Int):Fun Tryz.prog 85 [.c (.v (.int .i64 n))] [.c (.v (.bool (wi n (-10000000) 10000000)))]:=by
 refine Ar Wt rfl ?_;refine G0 ?_;(refine .inl ⟨_,_,false,[],aI,Qn _ _ _,Ab,nI,?_⟩);refine G1 ?_;intro gg;(exact⟨[],aI⟩)
theorem Arf{x y z h s:Int}(h1:wi x (-10000000) 10000000=true)(h2:wi y (-10000000) 10000000=true)(h3:wi z (-10000000) 10000000=true)(h4:wi h 0 1000000=true)(h5:wi s 0 1000=true):Ajt x y z h s=0:=by simp[Ajt,Agm,h1,h2,h3,h4,h5]
theorem M3{x y z h s:Int}(h1:wi x (-10000000) 10000000=false∨wi y (-10000000) 10000000=false∨wi z (-10000000) 10000000=false∨wi h 0 1000000=false∨wi s 0 1000=false):Ajt x y z h s=3:=by
 rcases h1 with h|h|h|h|h<;>simp[Ajt,Agm,h]
theorem On(p:Pc):Fun Tryz.prog 47 [.c (.agg p.row)] [.c (.v (.int .i64 p.err))]:=by
 refine Ar Zd rfl ?_;refine G1 ?_;intro gg;(refine .inl ⟨_,_,false,[],aI,Zs _,Ab,nI,?_⟩);refine G1 ?_;intro gg;(refine Aa (fun h1=>?_) (fun h1=>?_)<;>rw[h1])
 ·refine G0 ?_;rw[show p.err=3 from M3 (.inl (Dr h1))];(exact⟨[],aI⟩)
 ·refine G0 ?_;(refine .inl ⟨_,_,false,[],aI,Zs _,Ab,nI,?_⟩);refine G1 ?_;intro gg;(refine Aa (fun h2=>?_) (fun h2=>?_)<;>rw[h2])
  ·refine G0 ?_;rw[show p.err=3 from M3 (.inr (.inl (Dr h2)))];(exact⟨[],aI⟩)
  ·refine G0 ?_;(refine .inl ⟨_,_,false,[],aI,Zs _,Ab,nI,?_⟩);refine G1 ?_;intro gg;(refine Aa (fun h3=>?_) (fun h3=>?_)<;>rw[h3])
   ·refine G0 ?_;rw[show p.err=3 from M3 (.inr (.inr (.inl (Dr h3))))];(exact⟨[],aI⟩)
   ·refine G0 ?_;(refine .inl ⟨_,_,false,[],aI,Qn _ _ _,Ab,nI,?_⟩);refine G1 ?_;intro gg;(refine Aa (fun h4=>?_) (fun h4=>?_)<;>rw[h4])
    ·refine G0 ?_;rw[show p.err=3 from M3 (.inr (.inr (.inr (.inl (Dr h4)))))];(exact⟨[],aI⟩)
    ·refine G0 ?_;(refine .inl ⟨_,_,false,[],aI,Qn _ _ _,Ab,nI,?_⟩);refine G1 ?_;intro gg;(refine Aa (fun h5=>?_) (fun h5=>?_)<;>rw[h5])
     ·refine G0 ?_;rw[show p.err=3 from M3 (.inr (.inr (.inr (.inr (Dr h5)))))];(exact⟨[],aI⟩)
     ·refine G0 ?_;rw[show p.err=0 from Arf (Bw h1) (Bw h2) (Bw h3) (Bw h4) (Bw h5)];(exact⟨[],aI⟩)
theorem Xk(p:Pc):Fun Tryz.prog 58 [.c (.agg p.row)] [.c (.v (.int .i64 p.err))]:=by
 refine Ar Mz rfl ?_;refine G1 ?_;intro gg;(refine .inl ⟨_,_,false,[],aI,Db _ _ _,Ab,nI,?_⟩);refine G1 ?_;intro gg;(refine Aa (fun h1=>?_) (fun h1=>?_)<;>rw[h1])
 ·refine G0 ?_;rw[show p.err=3 from M3 (.inl (Dr h1))];(exact⟨[],aI⟩)
 ·refine G0 ?_;(refine .inl ⟨_,_,false,[],aI,Db _ _ _,Ab,nI,?_⟩);refine G1 ?_;intro gg;(refine Aa (fun h2=>?_) (fun h2=>?_)<;>rw[h2])
  ·refine G0 ?_;rw[show p.err=3 from M3 (.inr (.inl (Dr h2)))];(exact⟨[],aI⟩)
  ·refine G0 ?_;(refine .inl ⟨_,_,false,[],aI,Db _ _ _,Ab,nI,?_⟩);refine G1 ?_;intro gg;(refine Aa (fun h3=>?_) (fun h3=>?_)<;>rw[h3])
   ·refine G0 ?_;rw[show p.err=3 from M3 (.inr (.inr (.inl (Dr h3))))];(exact⟨[],aI⟩)
   ·refine G0 ?_;(refine .inl ⟨_,_,false,[],aI,Db _ _ _,Ab,nI,?_⟩);refine G1 ?_;intro gg;(refine Aa (fun h4=>?_) (fun h4=>?_)<;>rw[h4])
    ·refine G0 ?_;rw[show p.err=3 from M3 (.inr (.inr (.inr (.inl (Dr h4)))))];(exact⟨[],aI⟩)
    ·refine G0 ?_;(refine .inl ⟨_,_,false,[],aI,Db _ _ _,Ab,nI,?_⟩);refine G1 ?_;intro gg;(refine Aa (fun h5=>?_) (fun h5=>?_)<;>rw[h5])
     ·refine G0 ?_;rw[show p.err=3 from M3 (.inr (.inr (.inr (.inr (Dr h5)))))];(exact⟨[],aI⟩)
     ·refine G0 ?_;rw[show p.err=0 from Arf (Bw h1) (Bw h2) (Bw h3) (Bw h4) (Bw h5)];(exact⟨[],aI⟩)
theorem Ng{n x:Int}(h:0≤n):n.tdiv x=n/x:=Int.tdiv_eq_ediv_of_nonneg h
theorem Art(n:Int)(h0:0≤n)(hm:n≤9223372036854775807):Fun Tryz.prog 145 [.c (.v (.int .i64 n))] [.c (.v (.int .i64 (rt n)))]:=by
 refine Ar Ac5 rfl ?_;refine G0 ?_;(refine Aa (fun h=>?_) (fun h=>?_)<;>rw[h])
 ·have h2:n<2:=by simpa using h
  have hr:rt n=n:=Amp h0 (by rcases(by omega:n=0∨n=1)with rfl|rfl<;>decide) (by rcases(by omega:n=0∨n=1)with rfl|rfl<;>decide);refine G0 ?_;rw[hr];(exact⟨[],aI⟩)
 ·have h2:¬n<2:=by simpa using h
  refine G0 ?_;(refine⟨[],none,{k:Int//1≤k∧k≤6074000998},[0],fun⟨k,hk1,hk2⟩=>[(3,.v (.int .i64 k))],[],fun⟨k,hk1,hk2⟩=>[],fun⟨k,hk1,hk2⟩=>(12148001996-k).toNat,trivial,fun _=>⟨trivial,fun _=>⟨⟨1,by omega,by omega⟩,tI,Af _ _,tI,Ae _ _⟩⟩,fun⟨k,hk1,hk2⟩=>?_⟩);have hd:=Ir h0 hk1;have hq:n/k≤n:=Int.ediv_le_self _ h0;refine G0 ?_;refine⟨by omega,n/k,by rw[Ng h0];exact A6 (by omega) (by omega),?_⟩;refine G0 ?_;(refine Aa (fun h3=>?_) (fun h3=>?_)<;>rw[h3])
  ·have hc:k≤n/k:=(by have:=ZV h3;omega);have hb:=Azq h0 hm hk1 hc;refine G0 ?_;(exact⟨none,trivial,fun _=>⟨⟨k*2,by omega,by omega⟩,by show(12148001996-k*2).toNat<(12148001996-k).toNat;omega,tI,tI,tI,tI⟩⟩)
  ·have hc:¬k≤n/k:=(by have:=ZW h3;omega);have hb:=Awr h0 hk1 (by omega);refine G0 ?_;(refine⟨[],none,{k:Int//1≤k∧k≤6074000998∧rt n≤k},[0],fun⟨x,hx1,hx2,hx3⟩=>[(3,.v (.int .i64 x))],[],fun⟨x,hx1,hx2,hx3⟩=>[],fun⟨x,hx1,hx2,hx3⟩=>x.toNat,trivial,fun _=>⟨trivial,fun _=>⟨⟨k,by omega,by omega,hb⟩,tI,Af _ _,tI,Ae _ _⟩⟩,fun⟨x,hx1,hx2,hx3⟩=>?_⟩);have q1:=Ir h0 hx1;have q2:=Axd (by omega) hx1 hx3;have q3:=Awu n h0 hm;have q4:=Aun h0 hx1;have q5:1≤rt n:=Am8 (by omega) (by omega);have q6:=q1.1;clear q1;refine G0 ?_;refine⟨by omega,n/x,by rw[Ng h0];exact A6 (by omega) (by omega),?_⟩;refine G0 ?_;refine⟨by omega,(x+n/x)/2,by rw[Ng (by omega)];exact A6 (by omega) (by omega),?_⟩;refine G0 ?_;(refine Aa (fun h4=>?_) (fun h4=>?_)<;>rw[h4])
   ·have hc:x≤(x+n/x)/2:=(by have:=ZV h4;omega);refine G0 ?_;rw[show V.v (Value.int .i64 (rt n))=V.v (Value.int .i64 x)by rw[←Aqy h0 hx1 hx3 hc]];(exact⟨[],aI⟩)
   ·have hc:¬x≤(x+n/x)/2:=(by have:=ZW h4;omega);refine G0 ?_;(exact⟨none,trivial,fun _=>⟨⟨(x+n/x)/2,by omega,by omega,by omega⟩,by show((x+n/x)/2).toNat<x.toNat;omega,tI,tI,tI,tI⟩⟩)
theorem Ap8(n:Int)(h0:0≤n)(hm:n≤9223372036854775807):Fun Tryz.prog 138 [.c (.v (.int .i64 n))] [.c (.v (.int .i64 (rt n)))]:=by
 refine Ar Qh rfl ?_;refine G0 ?_;(refine⟨[],none,{p:Int×Int//J4 n p.1 p.2},[0],fun⟨⟨r,b⟩,hr⟩=>[(3,.v (.int .i64 r)),(4,.v (.int .i64 b))],[],fun⟨⟨r,b⟩,hr⟩=>[],fun⟨⟨r,b⟩,hr⟩=>b.toNat,trivial,fun _=>⟨trivial,fun _=>⟨⟨(0,2147483648),Acf h0 hm⟩,tI,Af _ _,tI,Ae _ _⟩⟩,fun⟨⟨r,b⟩,hr⟩=>?_⟩);dsimp only at hr;obtain⟨g1,g2,g3,g4,g5⟩:=Z9 h0 hm hr;refine G0 ?_;(refine Aa (fun h1=>?_) (fun h1=>?_)<;>rw[h1])
 ·have hb:0<b:=(by have:=ZV h1;omega);have g6:=g5 hb;refine G0 ?_;(refine Aa (fun h2=>?_) (fun h2=>?_)<;>rw[h2])
  ·have c1:r+b≤3037000499:=(by have:=ZV h2;omega);have g7:=Aru (show 0≤r+b by omega) c1;have g8:0≤(r+b)*(r+b):=Int.mul_nonneg (by omega) (by omega);refine G0 ?_;(refine Aa (fun h3=>?_) (fun h3=>?_)<;>rw[h3])
   ·have c2:(r+b)*(r+b)≤n:=ZV h3;refine G0 ?_;refine⟨by omega,b/2,by rw[Ng (by omega)];exact A6 (by omega) (by omega),?_⟩;refine G0 ?_;(exact⟨none,trivial,fun _=>⟨⟨(r+b,b/2),Ai5 hr hb c2⟩,by show(b/2).toNat<b.toNat;omega,tI,tI,tI,tI⟩⟩)
   ·have c2:¬(r+b)*(r+b)≤n:=ZW h3;refine G0 ?_;refine⟨by omega,b/2,by rw[Ng (by omega)];exact A6 (by omega) (by omega),?_⟩;refine G0 ?_;(exact⟨none,trivial,fun _=>⟨⟨(r,b/2),show J4 n r (b/2)from Aai hr hb (by omega)⟩,by show(b/2).toNat<b.toNat;omega,tI,tI,tI,tI⟩⟩)
  ·have c1:¬r+b≤3037000499:=(by have:=ZW h2;omega);refine G0 ?_;refine⟨by omega,b/2,by rw[Ng (by omega)];exact A6 (by omega) (by omega),?_⟩;refine G0 ?_;(exact⟨none,trivial,fun _=>⟨⟨(r,b/2),Aai hr hb (Axh h0 hm (by omega))⟩,by show(b/2).toNat<b.toNat;omega,tI,tI,tI,tI⟩⟩)
 ·have hb:¬0<b:=(by have:=ZW h1;omega);refine G0 ?_;rw[show V.v (Value.int .i64 (rt n))=V.v (Value.int .i64 r)by rw[←Ahe h0 hr (by omega)]];(exact⟨[],aI⟩)
theorem L4{p:Pc}:p.okb=true↔(-10000000≤p.x∧p.x≤10000000)∧(-10000000≤p.y∧p.y≤10000000)∧(-10000000≤p.z∧p.z≤10000000)∧(0≤p.h∧p.h≤1000000)∧(0≤p.s∧p.s≤1000):=Q7
theorem Anr(a b:Pc)(ha:a.okb=true)(hb:b.okb=true):Fun Tryz.prog 134 [.c (.agg a.row),.c (.agg b.row)] [.c (.v (.int .i64 (a.flat b)))]:=by
 obtain⟨⟨a1,a2⟩,⟨a3,a4⟩,⟨a5,a6⟩,_,_⟩:=L4.1 ha;obtain⟨⟨b1,b2⟩,⟨b3,b4⟩,⟨b5,b6⟩,_,_⟩:=L4.1 hb;have q1:=J8 a1 a2 b1 b2;have q2:=J8 a3 a4 b3 b4;have q3:=J8 a5 a6 b5 b6;refine Ar Aaf rfl ?_;(refine goI ?_;repeat (intro gg;refine goI ?_));(refine .inl ⟨_,_,false,[],aI,Art ((a.x-b.x)*(a.x-b.x)+(a.y-b.y)*(a.y-b.y)+(a.z-b.z)*(a.z-b.z)) (by omega) (by omega),Ab,nI,?_⟩);refine G1 ?_;intro gg;(exact⟨[],aI⟩)
theorem Ag9(a b:Pc)(ha:a.okb=true)(hb:b.okb=true):Fun Tryz.prog 128 [.c (.agg a.row),.c (.agg b.row)] [.c (.v (.int .i64 (a.flat b)))]:=by
 obtain⟨⟨a1,a2⟩,⟨a3,a4⟩,⟨a5,a6⟩,_,_⟩:=L4.1 ha;obtain⟨⟨b1,b2⟩,⟨b3,b4⟩,⟨b5,b6⟩,_,_⟩:=L4.1 hb;have q1:=J8 a1 a2 b1 b2;have q2:=J8 a3 a4 b3 b4;have q3:=J8 a5 a6 b5 b6;refine Ar Pr rfl ?_;(refine goI ?_;repeat (intro gg;refine goI ?_));(refine .inl ⟨_,_,false,[],aI,Ap8 ((a.x-b.x)*(a.x-b.x)+(a.y-b.y)*(a.y-b.y)+(a.z-b.z)*(a.z-b.z)) (by omega) (by omega),Ab,nI,?_⟩);refine G1 ?_;intro gg;(exact⟨[],aI⟩)
theorem Al0(a b:Pc)(ha:a.okb=true)(hb:b.okb=true):Fun Tryz.prog 121 [.c (.agg a.row),.c (.agg b.row)] [.c (.v (.int .i64 (a.far b)))]:=by
 obtain⟨_,_,_,⟨a7,a8⟩,_⟩:=L4.1 ha;obtain⟨_,_,_,⟨b7,b8⟩,_⟩:=L4.1 hb;obtain⟨f1,f2⟩:=(Ajf ha hb).1;refine Ar Yd rfl ?_;(refine goI ?_;repeat (intro gg;refine goI ?_));(refine⟨_,_,false,aI,Anr a b ha hb,Ab,nI,?_⟩);refine G1 ?_;intro gg;(exact⟨[],aI⟩)
theorem Apk(a b:Pc)(ha:a.okb=true)(hb:b.okb=true):Fun Tryz.prog 102 [.c (.agg a.row),.c (.agg b.row)] [.c (.v (.int .i64 (a.far b)))]:=by
 obtain⟨_,_,_,⟨a7,a8⟩,_⟩:=L4.1 ha;obtain⟨_,_,_,⟨b7,b8⟩,_⟩:=L4.1 hb;obtain⟨f1,f2⟩:=(Ajf ha hb).1;refine Ar Sr rfl ?_;(refine goI ?_;repeat (intro gg;refine goI ?_));(refine⟨_,_,false,aI,Ag9 a b ha hb,Ab,nI,?_⟩);refine G1 ?_;intro gg;(exact⟨[],aI⟩)
section
open Go.Shelf
def Tryz.sortS_ren:Go.Shelf.Ren:=⟨fun|6=>123|15=>136|14=>135|28=>154|29=>155|20=>146|21=>147|22=>148|23=>149|24=>150|25=>151|26=>152|27=>153|46=>160|47=>161|48=>162|49=>163|50=>164|57=>170|n=>n,fun|22=>67|24=>9|25=>135|3=>3|39=>69|0=>0|53=>184|55=>186|4=>4|46=>178|45=>177|50=>96|5=>5|9=>9|66=>191|70=>195|76=>197|77=>198|n=>n,fun|n=>n⟩
theorem Tryz.sortS:Go.Proofs.SlLaysF.n6 Tryz.prog Tryz.sortS_ren:={
 mixed:=by kernel_rfl
 f6:=⟨Tryz.f123.name,by decide,Tryz.func123.trans (congrArg some (by kernel_rfl))⟩
 f14:=⟨Tryz.f135.name,by decide,Tryz.func135.trans (congrArg some (by kernel_rfl))⟩
 f15:=Tryz.func136.trans (congrArg some (by kernel_rfl))
 f20:=⟨Tryz.f146.name,by decide,Tryz.func146.trans (congrArg some (by kernel_rfl))⟩
 f21:=⟨Tryz.f147.name,by decide,Tryz.func147.trans (congrArg some (by kernel_rfl))⟩
 f22:=⟨Tryz.f148.name,by decide,Tryz.func148.trans (congrArg some (by kernel_rfl))⟩
 f23:=⟨Tryz.f149.name,by decide,Tryz.func149.trans (congrArg some (by kernel_rfl))⟩
 f24:=⟨Tryz.f150.name,by decide,Tryz.func150.trans (congrArg some (by kernel_rfl))⟩
 f25:=⟨Tryz.f151.name,by decide,Tryz.func151.trans (congrArg some (by kernel_rfl))⟩
 f26:=⟨Tryz.f152.name,by decide,Tryz.func152.trans (congrArg some (by kernel_rfl))⟩
 f27:=⟨Tryz.f153.name,by decide,Tryz.func153.trans (congrArg some (by kernel_rfl))⟩
 f28:=Tryz.func154.trans (congrArg some (by kernel_rfl))
 f29:=Tryz.func155.trans (congrArg some (by kernel_rfl))
 f46:=⟨Tryz.f160.name,by decide,Tryz.func160.trans (congrArg some (by kernel_rfl))⟩
 f47:=Tryz.func161.trans (congrArg some (by kernel_rfl))
 f48:=Tryz.func162.trans (congrArg some (by kernel_rfl))
 f49:=⟨Tryz.f163.name,by decide,Tryz.func163.trans (congrArg some (by kernel_rfl))⟩
 f50:=⟨Tryz.f164.name,by decide,Tryz.func164.trans (congrArg some (by kernel_rfl))⟩
 f57:=⟨Tryz.f170.name,by decide,Tryz.func170.trans (congrArg some (by kernel_rfl))⟩
 t0:=Tryz.underlying0
 a0:=Tryz.isAgg0
 z0:=Tryz.sizeOf0
 v0:=Tryz.zeroValue0
 t3:=Tryz.underlying3
 a3:=Tryz.isAgg3
 z3:=Tryz.sizeOf3
 v3:=Tryz.zeroValue3
 t4:=Tryz.underlying4
 a4:=Tryz.isAgg4
 z4:=Tryz.sizeOf4
 v4:=Tryz.zeroValue4
 t5:=Tryz.underlying5
 a5:=Tryz.isAgg5
 z5:=Tryz.sizeOf5
 v5:=Tryz.zeroValue5
 t9:=Tryz.underlying9
 a9:=Tryz.isAgg9
 z9:=Tryz.sizeOf9
 v9:=Tryz.zeroValue9
 t22:=Tryz.underlying67
 a22:=Tryz.isAgg67
 z22:=Tryz.sizeOf67
 v22:=Tryz.zeroValue67
 a24:=Tryz.isAgg9
 z24:=Tryz.sizeOf9
 t25:=Tryz.underlying135
 a25:=Tryz.isAgg135
 z25:=Tryz.sizeOf135
 v25:=Tryz.zeroValue135
 t39:=Tryz.underlying69
 a39:=Tryz.isAgg69
 z39:=Tryz.sizeOf69
 v39:=Tryz.zeroValue69
 t45:=Tryz.underlying177
 a45:=Tryz.isAgg177
 z45:=Tryz.sizeOf177
 v45:=Tryz.zeroValue177
 t46:=Tryz.underlying178
 a46:=Tryz.isAgg178
 z46:=Tryz.sizeOf178
 v46:=Tryz.zeroValue178
 t50:=Tryz.underlying96
 a50:=Tryz.isAgg96
 z50:=Tryz.sizeOf96
 v50:=Tryz.zeroValue96
 t53:=Tryz.underlying184
 a53:=Tryz.isAgg184
 z53:=Tryz.sizeOf184
 v53:=Tryz.zeroValue184
 t55:=Tryz.underlying186
 a55:=Tryz.isAgg186
 z55:=Tryz.sizeOf186
 v55:=Tryz.zeroValue186
 t66:=Tryz.underlying191
 a66:=Tryz.isAgg191
 z66:=Tryz.sizeOf191
 v66:=Tryz.zeroValue191
 t70:=Tryz.underlying195
 a70:=Tryz.isAgg195
 z70:=Tryz.sizeOf195
 v70:=Tryz.zeroValue195
 t76:=Tryz.underlying197
 a76:=Tryz.isAgg197
 z76:=Tryz.sizeOf197
 v76:=Tryz.zeroValue197
 t77:=Tryz.underlying198
 a77:=Tryz.isAgg198
 z77:=Tryz.sizeOf198
 v77:=Tryz.zeroValue198}
end
section
open Go.Sort Go.Shelf
theorem Aj1(cl:Bool)(l:List ByteArray)(hl:l.length≤1000):Fun Tryz.prog 122 [.c (.sl cl (l.map Dg))] [.o 9 1 (l.map Dg)]:=by
 refine Ar I5 rfl ?_;(refine goI ?_;repeat (intro gg;refine goI ?_));rename_i b;have hb:=gg;cases b with
 |true=>
  have e:l.map Dg=[]:=hb rfl;refine G0 ?_;rw[e];(exact⟨[],aI⟩)
 |false=>
  refine G1 ?_;intro gg;refine⟨Ap7,?_⟩;refine G0 ?_;refine⟨lI,lI,?_⟩;refine G1 ?_;intro gg;(exact⟨[80],aI⟩)
theorem Ayo{K:ByteArray→Option Int}{a b:ByteArray}(h1:K a=none)(h2:K b=none):cfN K a b=B3 [E9 0 0,Ey a b]:=by simp[cfN,rkN,frN,h1,h2,H7,E9]
theorem Azo{K:ByteArray→Option Int}{a b:ByteArray}{x y:Int}(h1:K a=some x)(h2:K b=some y):cfN K a b=B3 [E9 x y,Ey a b]:=by simp[cfN,rkN,frN,h1,h2,H7,E9]
theorem Ayv{K:ByteArray→Option Int}{a b:ByteArray}{x:Int}(h1:K a=some x)(h2:K b=none):cfN K a b= -1:=by simp[cfN,rkN,frN,h1,h2,H7,E9]
theorem Aym{K:ByteArray→Option Int}{a b:ByteArray}{y:Int}(h1:K a=none)(h2:K b=some y):cfN K a b=1:=by simp[cfN,rkN,frN,h1,h2,H7,E9]
end
open Go
def Azx(a b:ByteArray)(x y:Int)(ok is:Bool):Int:=bif ok&& !is then -1 else bif is&& !ok then 1 else B3 [E9 x y,Ey a b]
theorem Ap4(w:World):∃q os,w=Go.Sort.grow (w.drewN q) os:=⟨0, #[],by simp[Go.Sort.grow,World.drewN]⟩
theorem Aki(w:World)(o:Obj):∃q os,w.alloc o=Go.Sort.grow (w.drewN q) os:=⟨0, #[o],by simp[Go.Sort.grow,World.drewN,World.alloc,-World.alloc_eq]⟩
set_option maxRecDepth 100000 in
theorem Ap2(a b:ByteArray)(bx o mb:Nat)(w:World)(ha:w.cell? ⟨bx,o,none⟩=some (.map (some mb)))(x y:Int)(ok is:Bool)(h1:(Instr.lookup 164 (.map (some mb)) (.string a) true).run Tryz.prog w=.ok (.tuple #[.int .i64 x,.bool ok]) w)(h2:(Instr.lookup 164 (.map (some mb)) (.string b) true).run Tryz.prog w=.ok (.tuple #[.int .i64 y,.bool is]) w):Calls Tryz.prog 124 #[.string a,.string b,.pointer (some ⟨bx,o,none⟩)] w fun e w'=>e=.returned (.int .i64 (Azx a b x y ok is))∧∃q os,w'=Go.Sort.grow (w.drewN q) os:=by
 have hnot:∀(x:Bool) (w:World),(Op.unary .not (.bool x)).run Tryz.prog w=.ok (.bool (!x)) w:=fun _ _=>rfl;cases ok<;>cases is
 all_goals
  go_enter Tryz.func124,Tryz.ntmps124
  go_wp2_with (first|(go_at_call 126;refine(Arr x y _).mono ?_;rintro e w' ⟨rfl,rfl⟩)|(go_at_call 94;refine(Ahs a b _).mono ?_;rintro e w' ⟨rfl,rfl⟩)|(go_at_call 125;refine(Axs _ [E9 x y,Ey a b] _ (Blk.new _ _ _) (by simp)).mono ?_;rintro e w' ⟨rfl,rfl⟩))
  refine bodyPost_ret (results_tmp rfl _ _ _) rfl ⟨rfl,?_⟩
  first|exact Aki _ _|exact Ap4 _
theorem Ait{w:World}{R:Nat→Prop}{E:List (Value×V)}{x:Value}{k:ByteArray}{r:Option (Nat×V)}(hx:RV w R noG (.rmap E) x)(hf:Gn .string (.string k) E 0=some r):
  ∃(mb:Nat) (val:Value) (b:Bool),x=.map (some mb)∧(Instr.lookup 164 x (.string k) true).run Tryz.prog w=.ok (.tuple #[val,.bool b]) w∧(r=none→val=.int .i64 0∧b=false)∧∀j u,r=some (j,u)→b=true∧RV w R noG u val:=by
 cases hx with
 |rmap ents mb clock es hR hb hl hk hv=>
  obtain⟨s,g1,g2,g3⟩:=Or es.toList E 0 (by simpa using hl) (fun j e p q1 q2=>hk j e p (by simpa using q1) q2) r hf;have hck:=fun em=>J0 (P:=Tryz.prog) (w:=w) (em:=em) (n:=9999) (v:=.string k) Tryz.underlying9 rfl;have hget:(Instr.lookup 164 (.map (some mb)) (.string k) true).run Tryz.prog w=(do
    let (v,b')←match s with
     |some (_,v)=>pure (v,true)
     |none=>pure (←zeroValue 3,false)
    pure (.tuple #[v,.bool b']):Sem Value).run Tryz.prog w:=by
   simp only[Instr.lookup,Sem.run_bind,run_underlying Tryz.underlying164,Result.andThen_ok,Sem.run_pure,Go.MapKept.run_getObj_map hb,hck,Jd Tryz.underlying9 g1];rfl
  have hi:(Tryz.prog.info? 3).map (fun i=>i.zero)=some (some (.int .i64 0)):=by kernel_rfl
  obtain⟨i,hi1,hi2⟩:=Option.map_eq_some_iff.1 hi;cases r with
  |none=>
   obtain rfl:=g2 rfl;refine⟨mb,.int .i64 0,false,rfl,?_,fun _=>⟨rfl,rfl⟩,fun j u h=>(by cases h)⟩;rw[hget];simp[zeroValue,typeInfo,hi1,hi2]
  |some q=>
   obtain⟨j,u⟩:=q;obtain⟨v,rfl,_,e,p,k1,k2,k3,k4⟩:=g3 j u rfl;refine⟨mb,v,true,rfl,?_,fun h=>(by cases h),fun j' u' h=>?_⟩
   ·rw[hget];simp
   ·cases h;refine⟨rfl,?_⟩;rw[k3,k4];exact hv (j-0) e p (by simpa using k1) k2
theorem Awo(f:Pc)(l:List Wh)(E:List (ByteArray×V))(hE:Gz f l E)(a b:ByteArray)(w:World)(R:Nat→Prop)(zs:List Value)(hlt:∀b,R b→b<w.heap.size)(hp:Kx w R [.c (.v (.string a)),.c (.v (.string b)),.c (.rptr [.rmap (ents E)] 0)] zs):Calls Tryz.prog 124 zs.toArray w fun e w'=>e=.returned (.int .i64 (cfN (Bx f l) a b))∧∃q os,w'=Go.Sort.grow (w.drewN q) os:=by
 have hl:=hp.len
 match zs,hl,hp with
 |[z0,z1,z2],_,hp=>
  have e0:z0=.string a:=Ce (hp.ok 0 _ _ rfl rfl);have e1:z1=.string b:=Ce (hp.ok 1 _ _ rfl rfl);subst e0 e1;have h2:RV w R noG (.rptr [.rmap (ents E)] 0) z2:=hp.ok 2 _ _ rfl rfl;cases h2 with
  |rptr row off bx o g hR hcell hh=>
   have hm:=hh 0 _ rfl;have hc:=hcell 0 _ rfl;have key:∀c:ByteArray,∃(mb:Nat) (val:Int) (bb:Bool),g 0=.map (some mb)∧(Instr.lookup 164 (g 0) (.string c) true).run Tryz.prog w=.ok (.tuple #[.int .i64 val,.bool bb]) w∧(Bx f l c=none→val=0∧bb=false)∧∀x,Bx f l c=some x→val=x∧bb=true:=by
    intro c;cases hk:Bx f l c with
    |none=>
     have q:=hE.at_none hk;obtain⟨mb,val,bb,k1,k2,k3,_⟩:=Ait (r:=none) hm ((D8 _ _ _).trans (by rw[q]));obtain⟨rfl,rfl⟩:=k3 rfl;exact⟨mb,0,false,k1,k2,fun _=>⟨rfl,rfl⟩,fun x h=>(by cases h)⟩
    |some x=>
     obtain⟨j,q⟩:=hE.at_some hk;obtain⟨mb,val,bb,k1,k2,_,k3⟩:=Ait (r:=some (j,iV x)) hm ((D8 _ _ _).trans (by rw[q]));obtain⟨rfl,hv⟩:=k3 j _ rfl;obtain rfl:=Ce hv;exact⟨mb,x,true,k1,k2,fun h=>(by cases h),fun y h=>by cases h;exact⟨rfl,rfl⟩⟩
   obtain⟨mb,x,ok,m1,l1,n1,s1⟩:=key a;obtain⟨mb2,y,is,m2,l2,n2,s2⟩:=key b;rw[m1]at l1 l2 hc;have h:=Ap2 a b bx o mb w hc x y ok is l1 l2;have er:Azx a b x y ok is=cfN (Bx f l) a b:=by
    cases h1:Bx f l a with
    |none=>
     obtain⟨rfl,rfl⟩:=n1 h1;cases h2:Bx f l b with
     |none=>obtain⟨rfl,rfl⟩:=n2 h2;rw[Ayo h1 h2];rfl
     |some v=>obtain⟨rfl,rfl⟩:=s2 v h2;rw[Aym h1 h2];rfl
    |some u=>
     obtain⟨rfl,rfl⟩:=s1 u h1;cases h2:Bx f l b with
     |none=>obtain⟨rfl,rfl⟩:=n2 h2;rw[Ayv h1 h2];rfl
     |some v=>obtain⟨rfl,rfl⟩:=s2 v h2;rw[Azo h1 h2];rfl
   rw[er]at h;exact h
theorem Anw(f:Pc)(l:List Wh)(E:List (ByteArray×V))(hE:Gz f l E)(names:List ByteArray)(hn:names.length≤1000):H3 Tryz.prog 123 [.ms 9 1 (names.map Dg) ((Ii (cfN (Bx f l)) names).map Dg),.p (.c (.clo 124 [.rptr [.rmap (ents E)] 0]))] []:=
 Ap0 (enc:=fun s:ByteArray=>Value.string s) Tryz.sortS (Fb Tryz.func123 (by kernel_rfl) (by kernel_rfl)) 9 (fun _=>rfl) (cfN (Bx f l)) (Aj6 (Z0 _)) (Arx (Z0 _) fun _ _=>Ahc) 124 [.rptr [.rmap (ents E)] 0]
  (Fb Tryz.func124 (by kernel_rfl) (by kernel_rfl)) names (by omega) (fun _ a b w R zs hlt hp=>Awo f l E hE a b w R zs hlt hp)
section
open Go.Sort Go.Shelf
noncomputable def Aih(f:Pc)(l:List Wh)(names:List ByteArray):List ByteArray:=if Hg f l names=0 then Ii (cfN (Bx f l)) names else []
theorem Un{f:Pc}{l:List Wh}{names:List ByteArray}(h:100<l.length∨100<names.length):Hg f l names=2:=by simp[Hg,h]
theorem Aey{f:Pc}{l:List Wh}{names:List ByteArray}(h:¬(100<l.length∨100<names.length))(h2:f.err≠0):Hg f l names=f.err:=by simp[Hg,h,h2]
theorem Us{f:Pc}{l:List Wh}{names:List ByteArray}(h:¬(100<l.length∨100<names.length))(h2:f.err=0):Hg f l names=Bm Wh.perr l:=by simp[Hg,h,h2]
theorem T5{f:Pc}{l:List Wh}{names:List ByteArray}(h:Hg f l names≠0):Aih f l names=[]:=by simp[Aih,h]
theorem Agh{f:Pc}{l:List Wh}{names:List ByteArray}(h:Hg f l names=0):Aih f l names=Ii (cfN (Bx f l)) names:=by simp[Aih,h]
theorem Ant(f:Pc)(l:List Wh)(names:List ByteArray)(hl:l.length≤9223372036854775807)(hn:names.length≤9223372036854775807):Fun Tryz.prog 97 [.c (.agg f.row),.c (.sl false (l.map Wh.row)),.c (.sl false (names.map Dg))]
  [.o 9 1 ((Aih f l names).map Dg),.c (.v (.int .i64 (Hg f l names)))]:=by
 refine Ar Ac8 rfl ?_;refine G1 ?_;intro gg;rw[ZE];(refine Aa (fun h1=>?_) (fun h1=>?_)<;>rw[h1])
 ·have h1':100<l.length:=(by have:=ZV h1;omega);have e:=Un (f:=f) (l:=l) (names:=names) (.inl h1');rw[e,T5 (by rw[e];decide)];refine G0 ?_;(exact⟨[],aI⟩)
 ·have h1':¬100<l.length:=(by have:=ZW h1;omega);refine G0 ?_;rw[ZE];(refine Aa (fun h2=>?_) (fun h2=>?_)<;>rw[h2])
  ·have h2':100<names.length:=(by have:=ZV h2;omega);have e:=Un (f:=f) (l:=l) (names:=names) (.inr h2');rw[e,T5 (by rw[e];decide)];refine G0 ?_;(exact⟨[],aI⟩)
  ·have h2':¬100<names.length:=(by have:=ZW h2;omega);have h12:¬(100<l.length∨100<names.length):=by omega
   refine G0 ?_;(refine .inl ⟨_,_,false,[],aI,On f,Ab,nI,?_⟩);refine G1 ?_;intro gg;(refine Aa (fun h3=>?_) (fun h3=>?_)<;>rw[h3])
   ·have h3':f.err≠0:=by simpa using h3
    have e:=Aey (f:=f) (l:=l) (names:=names) h12 h3';rw[e,T5 (by rw[e];exact h3')];refine G0 ?_;(exact⟨[],aI⟩)
   ·have h3':f.err=0:=by simpa using h3
    have e:=Us (f:=f) (l:=l) (names:=names) h12 h3';(refine goI ?_;repeat (intro gg;refine goI ?_));rename_i gm
    rename Nat=>gb
    have hf:f.okb=true:=Pc.err_iff.1 h3';refine⟨[],rfl,?_⟩;refine G0 ?_;(refine⟨[],none,{q:Nat×List (ByteArray×V)//q.1≤l.length∧(∀j,(h:j<l.length)→j<q.1→Wh.perr l[j]=0)∧Gz f (l.take q.1) q.2},[1,2,3,9,30,31],fun⟨⟨k,E⟩,hk,h0,hE⟩=>[(32,.v (.int .i64 k))],[48,144],fun⟨⟨k,E⟩,hk,h0,hE⟩=>[(464,⟨gm,.q (Q4 (ents E)),0,[]⟩)],fun⟨⟨k,E⟩,hk,h0,hE⟩=>l.length-k,trivial,fun _=>⟨trivial,fun _=>⟨⟨(0,[]),ZU _,fun j _ h=>absurd h (Nat.not_lt_zero _),Gz.nil f⟩,tI,Af _ _,tI,Ae _ _⟩⟩,fun⟨⟨k,E⟩,hk,h0,hE⟩=>?_⟩);refine G0 ?_;(refine Aa (fun h4=>?_) (fun h4=>?_)<;>rw[h4])
    ·have hlt:k<l.length:=by have:=ZV h4;simpa using this
     refine G0 ?_;refine⟨k,_,rfl,Ad hlt,?_⟩;refine G1 ?_;intro gg;(refine .inl ⟨_,_,false,[],aI,On (l[k]).pl,Ab,nI,?_⟩);refine G1 ?_;intro gg;(refine Aa (fun h5=>?_) (fun h5=>?_)<;>rw[h5])
     ·have h5':Wh.perr l[k]≠0:=by simpa[Wh.perr]using h5
      have e2:=e.trans (Ff hlt h0 h5');rw[e2,T5 (by rw[e2];exact h5')];refine G0 ?_;(exact⟨[],aI⟩)
     ·have h5':Wh.perr l[k]=0:=by simpa[Wh.perr]using h5
      have hp:(l[k]).pl.okb=true:=Pc.err_iff.1 h5';have et:l.take (k+1)=l.take k++[l[k]]:=by rw[XT,ZC hlt];rfl
      refine G0 ?_;cases hlk:Pl.look (l[k]).nd E 0 with
      |some r=>
       obtain⟨ri,rv⟩:=r;obtain⟨x,rfl⟩:=hE.val hlk;refine⟨some (ri,iV x),(D8 _ _ _).trans (by rw[hlk]),?_⟩;refine G0 ?_;have hE':Gz f (l.take (k+1)) E:=by rw[et];exact hE.old (by rw[hlk];simp)
       (exact⟨none,trivial,fun _=>⟨⟨(k+1,E),by dsimp only;omega,up1 (p:=fun j h=>Wh.perr l[j]=0) h0 (fun _=>h5'),hE'⟩,by show l.length-(k+1)<l.length-k;omega,tI,tI,tI,tI⟩⟩)
      |none=>
       refine⟨none,(D8 _ _ _).trans (by rw[hlk]),?_⟩;refine G0 ?_;(refine⟨_,_,false,aI,Al0 f (l[k]).pl hf hp,Ab,nI,?_⟩);refine G1 ?_;intro gg;refine⟨_,none,rfl,As rfl,(D8 _ _ _).trans (by rw[hlk]),?_⟩;refine G0 ?_;have e:=Za E (l[k]).nd (iV (f.far (l[k]).pl));rw[hlk]at e;have hE':Gz f (l.take (k+1)) (put E (l[k]).nd (iV (f.far (l[k]).pl))):=by rw[et];exact hE.new hlk
       (exact⟨none,trivial,fun gr=>⟨⟨(k+1,put E (l[k]).nd (iV (f.far (l[k]).pl))),by dsimp only;omega,up1 (p:=fun j h=>Wh.perr l[j]=0) h0 (fun _=>h5'),hE'⟩,by show l.length-(k+1)<l.length-k;omega,tI,tI,⟨congrArg (fun x=>some (Ent.mk gm (.q (Q4 x)) 0 [])) e,trivial⟩,tI⟩⟩)
    ·have hge:¬k<l.length:=by have:=ZW h4;simpa using this
     have hz:Hg f l names=0:=e.trans (Dm (fun i hi=>h0 i hi (by dsimp only;omega)));rw[List.take_of_length_le (by dsimp only;omega)]at hE;have hE:Gz f l E:=hE;rw[hz,Agh hz];refine G0 ?_;(refine .inl ⟨_,_,false,[],aI,Aj1 false names (by omega),Ab,nI,?_⟩);refine G1 ?_;intro gg;refine .inr (.inl ⟨_,_,true,[960],Ava rfl Dy (by decide) (by decide) (by rw[ZE,ZE];exact List.length_mergeSort _) (Amw (Axk rfl rfl (by decide) (by decide) Alq) (.nil _)),Anw f l E hE names (by omega),(fun _=>mfI),oI,(by exact(by decide:([960]:List Nat).Nodup)),?_⟩);refine G1 ?_;intro gg;(exact⟨[960],aI⟩)
end
theorem Ay4{w:World}{R R':Nat→Prop}{T:TypeId}{sz:Nat}{rows:List (List V)}{x:Value}(h:Sy w R (.o T sz rows) x)(hR:∀b,R b→R' b)(hb:∀b,x.ownBlock=some b→R' b):RV w R' noG (.sl false rows) x:=by
 obtain⟨hsz,xs,g5,g6⟩:=h;have g5':w.ownsRow 0 T (Ent.mk 0 (.t T) sz rows).sz (Loc.mk 0 sz x false none).val (Ent.mk 0 (.t T) sz rows).rows.length xs:=g5;rcases Ha g5' with⟨hv,h0⟩|⟨b,cap,hv,hbk⟩
 ·have hv:x=.slice none 0 0:=hv;rw[hv];have:rows=[]:=h0;subst this;exact .nil _ _ _ (by simp)
 ·have hv:x=.slice (some ⟨b,0,none⟩) rows.length cap:=hv;have hbk:x.ownBlock=some b:=hbk;rw[hv];have hcapn:rows.length≤cap:=by
   rcases g5.2 with⟨q,_⟩|⟨g',cap',cur,q,_,_,hnc,_⟩
   ·rw[hv]at q;cases q
   ·rw[hv]at q;injection q with _ _ q;omega
  refine .sl _ rows b 0 cap sz (fun i j=>(xs[i*sz+j]?).getD undef) (hb b hbk) hcapn (by simp) g6.1 ?_ ?_
  ·intro i j row u h1 h2;obtain⟨y,q1,_,q2⟩:=g6.2 i j row u h1 h2;show w.cell? ⟨b,0+i*sz+j,none⟩=some ((xs[i*sz+j]?).getD undef);rw[q1,Nat.zero_add];exact Gh g5' hbk q1
  ·intro i j row u h1 h2;obtain⟨y,q1,_,q2⟩:=g6.2 i j row u h1 h2;show RV w R' noG u ((xs[i*sz+j]?).getD undef);rw[q1];exact q2.mono (fun b hb=>⟨hR b hb,rfl⟩) (Gle.refl _)
def frz:Par→Par
 |.c u=>.c u
 |.o _ _ rows=>.c (.sl false rows)
theorem Fun.frz{P:Program}{f:FuncId}{ps rs:List Par}(h:Fun P f ps rs):Fun P f ps (rs.map frz):=by
 refine⟨h.1,fun w R xs hlt hp=>(h.2 w R xs hlt hp).mono ?_⟩
 rintro e w' ⟨ys,R',he,hfr,h1,h2,h3,h4⟩
 have no:∀(i:Nat) (T:TypeId) (sz:Nat) (rows:List (List V)),(rs.map Go.Proofs.YtbnocibpoghfhaaGreatDoor.frz)[i]?≠some (.o T sz rows):=fun i T sz rows q=>by
  rw[XJ]at q;cases hr:rs[i]? with
  |none=>rw[hr]at q;cases q
  |some r=>
   rw[hr]at q;cases r<;>cases q
 refine⟨ys,fun b=>R' b∨A2 rs ys b,he,hfr,fun b hb=>.inl (h1 b hb),?_,⟨by rw[ZE];exact h3.len,?_,?_,?_⟩,?_⟩
 ·rintro b (hb|hb)
  ·exact h2 b hb
  ·refine .inr ⟨?_,h4 b hb⟩;obtain⟨i,T,sz,rows,x,q1,q2,q3⟩:=hb;obtain⟨_,xs',g,_⟩:=h3.ok i _ x q1 q2;exact Mm g q3
 ·intro i p x hp1 hx;rw[XJ]at hp1;cases hr:rs[i]? with
  |none=>rw[hr]at hp1;cases hp1
  |some r=>
   rw[hr]at hp1;have ho:=h3.ok i r x hr hx;cases r with
   |c u=>
    injection hp1 with hp1;subst hp1;exact RV.mono ho (fun b hb=>⟨.inl hb,rfl⟩) (Gle.refl _)
   |o T sz rows=>
    injection hp1 with hp1;subst hp1;exact Ay4 ho (fun b hb=>.inl hb) (fun b hb=>.inr ⟨i,T,sz,rows,x,hr,hx,hb⟩)
 ·intro i j T sz rows T' sz' rows' x y b hij h1;exact absurd h1 (no i T sz rows)
 ·rintro b ⟨i,T,sz,rows,x,q1,_⟩
  exact absurd q1 (no i T sz rows)
 ·rintro b ⟨i,T,sz,rows,x,q1,_⟩
  exact absurd q1 (no i T sz rows)
section
open Go.Sort Go.Shelf
theorem Alx{f:Pc}{a:ByteArray}:∀{l:List Wh},(∀j,(h:j<l.length)→(l[j].nd.toList==a.toList)=false)→Bx f l a=none
 |[],_=>rfl
 |w::l,h=>by
  have h0:=h 0 (by simp);simp only[List.getElem_cons_zero]at h0;have hne:a≠w.nd:=fun e=>by rw[e]at h0;simp at h0
  show(if a=w.nd then some (f.far w.pl)else Bx f l a)=none;rw[if_neg hne];exact Alx fun j hj=>by have:=h (j+1) (by simpa using hj);simpa using this
theorem Am4{f:Pc}{a:ByteArray}:∀{l:List Wh} {k:Nat} (hk:k<l.length),(∀j,(h:j<l.length)→j<k→(l[j].nd.toList==a.toList)=false)→(l[k].nd.toList==a.toList)=true→Bx f l a=some (f.far l[k].pl)
 |[],k,hk,_,_=>by simp at hk
 |w::l,0,hk,h0,h1=>by
  have e:w.nd=a:=toList_inj (by simpa using h1);show(if a=w.nd then some (f.far w.pl)else Bx f l a)=_;rw[if_pos e.symm];rfl
 |w::l,k+1,hk,h0,h1=>by
  have h:=h0 0 (by simp) (by omega);simp only[List.getElem_cons_zero]at h;have hne:a≠w.nd:=fun e=>by rw[e]at h;simp at h
  show(if a=w.nd then some (f.far w.pl)else Bx f l a)=_;rw[if_neg hne];have:=Am4 (f:=f) (l:=l) (k:=k) (by simpa using hk) (fun j hj hjk=>by have:=h0 (j+1) (by simpa using hj) (by omega);simpa using this) (by simpa using h1);simpa using this
theorem Xy(f:Pc)(l:List Wh)(a:ByteArray)(hl:l.length≤9223372036854775807)(hf:f.okb=true)(hw:∀w∈l,w.pl.okb=true):Fun Tryz.prog 60 [.c (.agg f.row),.c (.sl false (l.map Wh.row)),.c (.v (.string a))] [.c (.v (.int .i64 (Su (Bx f l) a)))]:=by
 refine Ar Po rfl ?_;refine G1 ?_;intro gg;(refine⟨[],none,{k:Nat//k≤l.length∧∀j,(h:j<l.length)→j<k→(l[j].nd.toList==a.toList)=false},[1,2,3],fun⟨k,hk,h0⟩=>[(7,.v (.int .i64 k))],[48],fun⟨k,hk,h0⟩=>[],fun⟨k,hk,h0⟩=>l.length-k,trivial,fun _=>⟨trivial,fun _=>⟨⟨0,by omega,fun j _ h=>by omega⟩,tI,Af _ _,tI,Ae _ _⟩⟩,fun⟨k,hk,h0⟩=>?_⟩);refine G0 ?_;rw[ZE];(refine Aa (fun h=>?_) (fun h=>?_)<;>rw[h])
 ·have hlt:k<l.length:=(by have:=ZV h;omega);refine G0 ?_;refine⟨k,_,rfl,Ad hlt,?_⟩;refine G0 ?_;(refine Aa (fun h2=>?_) (fun h2=>?_)<;>rw[h2])
  ·have e:Su (Bx f l) a=f.far l[k].pl:=by unfold Su;rw[Am4 hlt h0 h2];rfl
   rw[e];refine G0 ?_;refine⟨k,_,rfl,Ad hlt,?_⟩;refine G0 ?_;(refine .inl ⟨_,_,false,[],aI,Apk f (l[k]).pl hf (hw _ (ZK hlt)),Ab,nI,?_⟩);refine G1 ?_;intro gg;(exact⟨[],aI⟩)
  ·refine G0 ?_;(exact⟨none,trivial,fun _=>⟨⟨k+1,by omega,up1 (p:=fun j h=>(l[j].nd.toList==a.toList)=false) h0 (fun _=>h2)⟩,by show l.length-(k+1)<l.length-k;omega,tI,tI,tI,tI⟩⟩)
 ·have hge:¬k<l.length:=(by have:=ZW h;omega);have e:Su (Bx f l) a= -1:=by unfold Su;rw[Alx fun j hj=>h0 j hj (by omega)];rfl
  rw[e];refine G0 ?_;(exact⟨[],aI⟩)
theorem Oc{c:ByteArray→ByteArray→Int}{L:List ByteArray}{x:ByteArray}{n:Nat}(e:Jy c L x=L.take n++(x::L.drop n))(hn:n≤L.length):
  (L.map Dg).take n++([Dg x]++((L.map Dg).drop n).take ((L.map Dg).length-n))=(Jy c L x).map Dg:=by
 rw[e,ZI,List.map_cons,List.map_take,List.map_drop,List.take_of_length_le (l:=(L.map Dg).drop n) (by simp)];rfl
theorem Afu(f:Pc)(l:List Wh)(names:List ByteArray)(hl:l.length≤100)(hn:names.length≤100)(hf:f.okb=true)(hw:∀w∈l,w.pl.okb=true):Fun Tryz.prog 29 [.c (.agg f.row),.c (.sl false (l.map Wh.row)),.c (.sl false (names.map Dg))]
  [.o 9 1 ((Q8 f l names).map Dg)]:=by
 have hpos:∀a x,Bx f l a=some x→0≤x:=fun a x h=>Aha hf hw h;refine Ar Rd rfl ?_;refine G1 ?_;intro gg;(refine⟨[(7,112,9,1)],none,{p:Nat×Nat×List ByteArray//p.1≤names.length∧p.2.2=Q8 f l (names.take p.1)},[1,2,3],fun⟨⟨k,g,L⟩,hk,hL⟩=>[(7,.own 112 g),(8,.v (.int .i64 k))],[48],fun⟨⟨k,g,L⟩,hk,hL⟩=>[(112,⟨g,9,1,L.map Dg⟩)],fun⟨⟨k,g,L⟩,hk,hL⟩=>names.length-k,(by exact⟨rfl,by decide,(fun _ _ _ _ h=>by cases h),trivial⟩),fun gs=>⟨trivial,fun _=>⟨⟨(0,gs 112,[]),by omega,by simp[Q8]⟩,tI,tI,tI,tI⟩⟩,fun⟨⟨k,g,L⟩,hk,hL⟩=>?_⟩);have hk:k≤names.length:=hk;have hL:L=Q8 f l (names.take k):=hL;refine G0 ?_;rw[ZE];(refine Aa (fun h=>?_) (fun h=>?_)<;>rw[h])
 ·have hlt:k<names.length:=(by have:=ZV h;omega);have hs:=Ak5 (f:=f) (l:=l) hlt;have hLl:L.length≤100:=by rw[hL,Apg,ZM];omega
  rw[←hL]at hs;obtain⟨s,hsd⟩:∃s,names[k]=s:=⟨_,rfl⟩;have hrow:(names.map Dg)[k]? =some (Dg s):=by rw[Ad hlt,hsd]
  rw[hsd]at hs;refine G0 ?_;refine⟨k,_,rfl,hrow,?_⟩;refine G0 ?_;(refine .inl ⟨_,_,false,[],aI,Xy f l s (by omega) hf hw,Ab,nI,?_⟩);refine G1 ?_;intro gg;(refine⟨[],none,{j:Nat//j≤L.length∧∀i,(h:i<L.length)→i<j→leB (cfN (Bx f l)) L[i] s=true},[1,2,3,7,8,9],fun⟨j,hj,h0⟩=>[(10,.v (.int .i64 j))],[48,112],fun⟨j,hj,h0⟩=>[],fun⟨j,hj,h0⟩=>L.length-j,trivial,fun _=>⟨trivial,fun _=>⟨⟨0,by omega,fun j _ h=>by omega⟩,tI,Af _ _,tI,Ae _ _⟩⟩,fun⟨j,hj,h0⟩=>?_⟩);refine G0 ?_;rw[ZE];(refine Aa (fun h2=>?_) (fun h2=>?_)<;>rw[h2])
  ·have hjl:j<L.length:=(by have:=ZV h2;omega);have hA:=Ao4 hpos L[j] s;have hrj:(L.map Dg)[j]? =some (Dg L[j]):=Ad hjl;refine G0 ?_;refine⟨j,_,rfl,hrj,?_⟩;refine G0 ?_;(refine .inl ⟨_,_,false,[],aI,Xy f l L[j] (by omega) hf hw,Ab,nI,?_⟩);generalize Su (Bx f l) s=x at *;generalize Su (Bx f l) L[j]=y at *;refine G1 ?_;intro gg;(refine Aa (fun a1=>?_) (fun a1=>?_)<;>rw[a1])
   ·have a1':x<0:=ZV a1;refine G0 ?_;(refine Aa (fun a2=>?_) (fun a2=>?_)<;>rw[a2])
    ·have a2':0≤y:=ZV a2;refine G0 ?_;have ht:leB (cfN (Bx f l)) L[j] s=true:=hA.2 (.inl ⟨a1',a2'⟩);(exact⟨none,trivial,fun _=>⟨⟨j+1,by omega,up1 (p:=fun i h=>leB (cfN (Bx f l)) L[i] s=true) h0 (fun _=>ht)⟩,by show L.length-(j+1)<L.length-j;omega,tI,tI,tI,tI⟩⟩)
    ·have a2':¬0≤y:=ZW a2;have a3:decide (y<0)=true:=ZX (by omega);refine G0 ?_;rw[a1,a3];refine G0 ?_;(refine Aa (fun b1=>?_) (fun b1=>?_)<;>rw[b1])
     ·refine G0 ?_;have ht:leB (cfN (Bx f l)) L[j] s=true:=hA.2 (.inr ⟨by omega,.inl (ZV b1)⟩);(exact⟨none,trivial,fun _=>⟨⟨j+1,by omega,up1 (p:=fun i h=>leB (cfN (Bx f l)) L[i] s=true) h0 (fun _=>ht)⟩,by show L.length-(j+1)<L.length-j;omega,tI,tI,tI,tI⟩⟩)
     ·refine G0 ?_;(refine Aa (fun b2=>?_) (fun b2=>?_)<;>rw[b2])
      ·have b2':y=x:=by simpa using b2
       refine G0 ?_;refine⟨j,_,rfl,hrj,?_⟩;refine G0 ?_;refine⟨k,_,rfl,hrow,?_⟩;refine G0 ?_;rw[Afe];(refine Aa (fun b3=>?_) (fun b3=>?_)<;>rw[b3])
       ·have b3':slt s L[j]=true:=by simpa using b3
        have hfl:leB (cfN (Bx f l)) L[j] s=false:=by
         rw[←Bool.not_eq_true,hA]
         rintro (q|⟨_,q|⟨_,q⟩⟩)
         ·omega
         ·have:=ZW b1;omega
         ·rw[q]at b3';cases b3'
        have eI:=Re (c:=cfN (Bx f l)) (l:=L) (x:=s) hj h0 (.inr ⟨hjl,hfl⟩);have eR:=Oc eI hj;refine G0 ?_;refine⟨0,j,rfl,rfl,⟨.i64,rfl⟩,ZU _,by rw[ZE];exact hj,rfl,rfl,⟨.i64,rfl⟩,?_⟩;refine G0 ?_;refine⟨k,_,rfl,hrow,?_⟩;refine G1 ?_;intro gg;refine⟨j,(L.map Dg).length,rfl,⟨.i64,rfl⟩,rfl,by rw[ZE];exact hj,ZT _,rfl,?_⟩;refine G0 ?_;refine⟨by rw[ZE];exact hj,ZT _,?_⟩;refine G0 ?_;have hdl:(((L.map Dg).drop j).take (L.length-j)).length≤100:=by simp;omega
        refine⟨lI,lI,?_⟩;refine G1 ?_;intro gg;refine⟨⟨trivial,trivial,trivial,rfl,trivial,trivial,trivial,trivial,trivial,trivial,trivial,trivial,trivial⟩,?_⟩;refine G0 ?_;refine⟨List.cons_ne_nil _ _,rfl,by rw[ZE];exact hj,?_⟩;refine⟨lI,lI,?_⟩;refine G1 ?_;intro gg;exact⟨some (7,1408,112),by(first|exact trivial|exact⟨_,rfl,rfl,trivial⟩),fun gr=>⟨⟨(k+1,gr,Jy (cfN (Bx f l)) L s),by dsimp only;omega,hs.symm⟩,by show names.length-(k+1)<names.length-k;omega,tI,tI,⟨congrArg (fun r=>some (Ent.mk gr (.t 9) 1 r)) eR,trivial⟩,tI⟩⟩
       ·have b3':slt s L[j]=false:=by simpa using b3
        refine G0 ?_;have ht:leB (cfN (Bx f l)) L[j] s=true:=hA.2 (.inr ⟨by omega,.inr ⟨b2',b3'⟩⟩);(exact⟨none,trivial,fun _=>⟨⟨j+1,by omega,up1 (p:=fun i h=>leB (cfN (Bx f l)) L[i] s=true) h0 (fun _=>ht)⟩,by show L.length-(j+1)<L.length-j;omega,tI,tI,tI,tI⟩⟩)
      ·have b2':y≠x:=by simpa using b2
       have hfl:leB (cfN (Bx f l)) L[j] s=false:=by
        rw[←Bool.not_eq_true,hA]
        rintro (q|⟨_,q|⟨q,_⟩⟩)
        ·omega
        ·have:=ZW b1;omega
        ·exact b2' q
       have eI:=Re (c:=cfN (Bx f l)) (l:=L) (x:=s) hj h0 (.inr ⟨hjl,hfl⟩);have eR:=Oc eI hj;refine G0 ?_;refine⟨0,j,rfl,rfl,⟨.i64,rfl⟩,ZU _,by rw[ZE];exact hj,rfl,rfl,⟨.i64,rfl⟩,?_⟩;refine G0 ?_;refine⟨k,_,rfl,hrow,?_⟩;refine G1 ?_;intro gg;refine⟨j,(L.map Dg).length,rfl,⟨.i64,rfl⟩,rfl,by rw[ZE];exact hj,ZT _,rfl,?_⟩;refine G0 ?_;refine⟨by rw[ZE];exact hj,ZT _,?_⟩;refine G0 ?_;have hdl:(((L.map Dg).drop j).take (L.length-j)).length≤100:=by simp;omega
       refine⟨lI,lI,?_⟩;refine G1 ?_;intro gg;refine⟨⟨trivial,trivial,trivial,rfl,trivial,trivial,trivial,trivial,trivial,trivial,trivial,trivial,trivial⟩,?_⟩;refine G0 ?_;refine⟨List.cons_ne_nil _ _,rfl,by rw[ZE];exact hj,?_⟩;refine⟨lI,lI,?_⟩;refine G1 ?_;intro gg;exact⟨some (7,1408,112),by(first|exact trivial|exact⟨_,rfl,rfl,trivial⟩),fun gr=>⟨⟨(k+1,gr,Jy (cfN (Bx f l)) L s),by dsimp only;omega,hs.symm⟩,by show names.length-(k+1)<names.length-k;omega,tI,tI,⟨congrArg (fun r=>some (Ent.mk gr (.t 9) 1 r)) eR,trivial⟩,tI⟩⟩
   ·have a1':¬x<0:=ZW a1;refine G0 ?_;rw[a1];cases a3:decide (y<0)with
    |true=>
     have a3':y<0:=ZV a3;refine G0 ?_;have hfl:leB (cfN (Bx f l)) L[j] s=false:=by
      rw[←Bool.not_eq_true,hA]
      rintro (q|⟨q,_⟩)<;>omega
     have eI:=Re (c:=cfN (Bx f l)) (l:=L) (x:=s) hj h0 (.inr ⟨hjl,hfl⟩);have eR:=Oc eI hj;refine G0 ?_;refine⟨0,j,rfl,rfl,⟨.i64,rfl⟩,ZU _,by rw[ZE];exact hj,rfl,rfl,⟨.i64,rfl⟩,?_⟩;refine G0 ?_;refine⟨k,_,rfl,hrow,?_⟩;refine G1 ?_;intro gg;refine⟨j,(L.map Dg).length,rfl,⟨.i64,rfl⟩,rfl,by rw[ZE];exact hj,ZT _,rfl,?_⟩;refine G0 ?_;refine⟨by rw[ZE];exact hj,ZT _,?_⟩;refine G0 ?_;have hdl:(((L.map Dg).drop j).take (L.length-j)).length≤100:=by simp;omega
     refine⟨lI,lI,?_⟩;refine G1 ?_;intro gg;refine⟨⟨trivial,trivial,trivial,rfl,trivial,trivial,trivial,trivial,trivial,trivial,trivial,trivial,trivial⟩,?_⟩;refine G0 ?_;refine⟨List.cons_ne_nil _ _,rfl,by rw[ZE];exact hj,?_⟩;refine⟨lI,lI,?_⟩;refine G1 ?_;intro gg;exact⟨some (7,1408,112),by(first|exact trivial|exact⟨_,rfl,rfl,trivial⟩),fun gr=>⟨⟨(k+1,gr,Jy (cfN (Bx f l)) L s),by dsimp only;omega,hs.symm⟩,by show names.length-(k+1)<names.length-k;omega,tI,tI,⟨congrArg (fun r=>some (Ent.mk gr (.t 9) 1 r)) eR,trivial⟩,tI⟩⟩
    |false=>
     have a3':¬y<0:=ZW a3;refine G0 ?_;(refine Aa (fun b1=>?_) (fun b1=>?_)<;>rw[b1])
     ·refine G0 ?_;have ht:leB (cfN (Bx f l)) L[j] s=true:=hA.2 (.inr ⟨by omega,.inl (ZV b1)⟩);(exact⟨none,trivial,fun _=>⟨⟨j+1,by omega,up1 (p:=fun i h=>leB (cfN (Bx f l)) L[i] s=true) h0 (fun _=>ht)⟩,by show L.length-(j+1)<L.length-j;omega,tI,tI,tI,tI⟩⟩)
     ·refine G0 ?_;(refine Aa (fun b2=>?_) (fun b2=>?_)<;>rw[b2])
      ·have b2':y=x:=by simpa using b2
       refine G0 ?_;refine⟨j,_,rfl,hrj,?_⟩;refine G0 ?_;refine⟨k,_,rfl,hrow,?_⟩;refine G0 ?_;rw[Afe];(refine Aa (fun b3=>?_) (fun b3=>?_)<;>rw[b3])
       ·have b3':slt s L[j]=true:=by simpa using b3
        have hfl:leB (cfN (Bx f l)) L[j] s=false:=by
         rw[←Bool.not_eq_true,hA]
         rintro (q|⟨_,q|⟨_,q⟩⟩)
         ·omega
         ·have:=ZW b1;omega
         ·rw[q]at b3';cases b3'
        have eI:=Re (c:=cfN (Bx f l)) (l:=L) (x:=s) hj h0 (.inr ⟨hjl,hfl⟩);have eR:=Oc eI hj;refine G0 ?_;refine⟨0,j,rfl,rfl,⟨.i64,rfl⟩,ZU _,by rw[ZE];exact hj,rfl,rfl,⟨.i64,rfl⟩,?_⟩;refine G0 ?_;refine⟨k,_,rfl,hrow,?_⟩;refine G1 ?_;intro gg;refine⟨j,(L.map Dg).length,rfl,⟨.i64,rfl⟩,rfl,by rw[ZE];exact hj,ZT _,rfl,?_⟩;refine G0 ?_;refine⟨by rw[ZE];exact hj,ZT _,?_⟩;refine G0 ?_;have hdl:(((L.map Dg).drop j).take (L.length-j)).length≤100:=by simp;omega
        refine⟨lI,lI,?_⟩;refine G1 ?_;intro gg;refine⟨⟨trivial,trivial,trivial,rfl,trivial,trivial,trivial,trivial,trivial,trivial,trivial,trivial,trivial⟩,?_⟩;refine G0 ?_;refine⟨List.cons_ne_nil _ _,rfl,by rw[ZE];exact hj,?_⟩;refine⟨lI,lI,?_⟩;refine G1 ?_;intro gg;exact⟨some (7,1408,112),by(first|exact trivial|exact⟨_,rfl,rfl,trivial⟩),fun gr=>⟨⟨(k+1,gr,Jy (cfN (Bx f l)) L s),by dsimp only;omega,hs.symm⟩,by show names.length-(k+1)<names.length-k;omega,tI,tI,⟨congrArg (fun r=>some (Ent.mk gr (.t 9) 1 r)) eR,trivial⟩,tI⟩⟩
       ·have b3':slt s L[j]=false:=by simpa using b3
        refine G0 ?_;have ht:leB (cfN (Bx f l)) L[j] s=true:=hA.2 (.inr ⟨by omega,.inr ⟨b2',b3'⟩⟩);(exact⟨none,trivial,fun _=>⟨⟨j+1,by omega,up1 (p:=fun i h=>leB (cfN (Bx f l)) L[i] s=true) h0 (fun _=>ht)⟩,by show L.length-(j+1)<L.length-j;omega,tI,tI,tI,tI⟩⟩)
      ·have b2':y≠x:=by simpa using b2
       have hfl:leB (cfN (Bx f l)) L[j] s=false:=by
        rw[←Bool.not_eq_true,hA]
        rintro (q|⟨_,q|⟨q,_⟩⟩)
        ·omega
        ·have:=ZW b1;omega
        ·exact b2' q
       have eI:=Re (c:=cfN (Bx f l)) (l:=L) (x:=s) hj h0 (.inr ⟨hjl,hfl⟩);have eR:=Oc eI hj;refine G0 ?_;refine⟨0,j,rfl,rfl,⟨.i64,rfl⟩,ZU _,by rw[ZE];exact hj,rfl,rfl,⟨.i64,rfl⟩,?_⟩;refine G0 ?_;refine⟨k,_,rfl,hrow,?_⟩;refine G1 ?_;intro gg;refine⟨j,(L.map Dg).length,rfl,⟨.i64,rfl⟩,rfl,by rw[ZE];exact hj,ZT _,rfl,?_⟩;refine G0 ?_;refine⟨by rw[ZE];exact hj,ZT _,?_⟩;refine G0 ?_;have hdl:(((L.map Dg).drop j).take (L.length-j)).length≤100:=by simp;omega
       refine⟨lI,lI,?_⟩;refine G1 ?_;intro gg;refine⟨⟨trivial,trivial,trivial,rfl,trivial,trivial,trivial,trivial,trivial,trivial,trivial,trivial,trivial⟩,?_⟩;refine G0 ?_;refine⟨List.cons_ne_nil _ _,rfl,by rw[ZE];exact hj,?_⟩;refine⟨lI,lI,?_⟩;refine G1 ?_;intro gg;exact⟨some (7,1408,112),by(first|exact trivial|exact⟨_,rfl,rfl,trivial⟩),fun gr=>⟨⟨(k+1,gr,Jy (cfN (Bx f l)) L s),by dsimp only;omega,hs.symm⟩,by show names.length-(k+1)<names.length-k;omega,tI,tI,⟨congrArg (fun r=>some (Ent.mk gr (.t 9) 1 r)) eR,trivial⟩,tI⟩⟩
  ·have hge:¬j<L.length:=(by have:=ZW h2;omega);have eI:=Re (c:=cfN (Bx f l)) (l:=L) (x:=s) hj h0 (.inl (by omega));have eR:=Oc eI hj;refine G0 ?_;refine⟨0,j,rfl,rfl,⟨.i64,rfl⟩,ZU _,by rw[ZE];exact hj,rfl,rfl,⟨.i64,rfl⟩,?_⟩;refine G0 ?_;refine⟨k,_,rfl,hrow,?_⟩;refine G1 ?_;intro gg;refine⟨j,(L.map Dg).length,rfl,⟨.i64,rfl⟩,rfl,by rw[ZE];exact hj,ZT _,rfl,?_⟩;refine G0 ?_;refine⟨by rw[ZE];exact hj,ZT _,?_⟩;refine G0 ?_;have hdl:(((L.map Dg).drop j).take (L.length-j)).length≤100:=by simp;omega
   refine⟨lI,lI,?_⟩;refine G1 ?_;intro gg;refine⟨⟨trivial,trivial,trivial,rfl,trivial,trivial,trivial,trivial,trivial,trivial,trivial,trivial,trivial⟩,?_⟩;refine G0 ?_;refine⟨List.cons_ne_nil _ _,rfl,by rw[ZE];exact hj,?_⟩;refine⟨lI,lI,?_⟩;refine G1 ?_;intro gg;exact⟨some (7,1408,112),by(first|exact trivial|exact⟨_,rfl,rfl,trivial⟩),fun gr=>⟨⟨(k+1,gr,Jy (cfN (Bx f l)) L s),by dsimp only;omega,hs.symm⟩,by show names.length-(k+1)<names.length-k;omega,tI,tI,⟨congrArg (fun r=>some (Ent.mk gr (.t 9) 1 r)) eR,trivial⟩,tI⟩⟩
 ·have hge:¬k<names.length:=(by have:=ZW h;omega);obtain rfl:k=names.length:=by omega
  have hL2:Q8 f l names=L:=by rw[hL,XF]
  rw[hL2];refine G0 ?_;(exact⟨[112],aI⟩)
end
set_option maxHeartbeats 1000000 in
set_option maxRecDepth 100000 in
theorem Aou(s:ByteArray)(c:UInt8)(w:World):
  Calls Tryz.prog 140 #[.string s,.string ⟨#[c]⟩] w fun e w'=>e=.returned (.int .i64 (Lib.countByte s.data.toList c))∧w'=w:=by
 go_enter Tryz.func140,Tryz.ntmps140
 go_wp2
 rw[run_callFunc_extern Tryz.func158 (by kernel_rfl) (by kernel_rfl) (by kernel_rfl) (e:=Extern.BytealgCount.count) (by kernel_rfl),Lib.run_countString];simp only[Result.andThen];rw[Oper.upon_value]
 go_wp2
 go_ret
 exact⟨rfl,rfl⟩
set_option maxHeartbeats 1000000 in
set_option maxRecDepth 100000 in
theorem Acc(s:ByteArray)(c:Int)(w:World):
  Calls Tryz.prog 166 #[.string s,.int .u8 c] w fun e w'=>e=.returned (.int .i64 (Lib.indexByte s.data.toList c.toNat.toUInt8))∧w'=w:=by
 go_enter Tryz.func166,Tryz.ntmps166
 go_wp2
 rw[run_callFunc_extern Tryz.func171 (by kernel_rfl) (by kernel_rfl) (by kernel_rfl) (e:=Extern.BytealgIndexByte.indexByte) (by kernel_rfl),Lib.run_indexByteString];simp only[Result.andThen];rw[Oper.upon_value]
 go_wp2
 go_ret
 exact⟨rfl,rfl⟩
set_option maxHeartbeats 2000000 in
set_option maxRecDepth 100000 in
theorem Ac2(s:ByteArray)(c:UInt8)(w:World):
  Calls Tryz.prog 159 #[.string s,.string ⟨#[c]⟩] w fun e w'=>e=.returned (.int .i64 (Lib.indexByte s.data.toList c))∧w'=w:=by
 go_enter Tryz.func159,Tryz.ntmps159
 go_wp2_with (go_at_call 166;refine(Acc _ _ _).mono ?_;rintro e w' ⟨rfl,rfl⟩)
 ·have h:([c]==s.toList)=true:=by assumption
  go_ret
  refine⟨?_,rfl⟩;have e:s.data.toList=[c]:=by rw[←Lib.toList_data];exact(ZR.1 h).symm
  rw[e];simp[Lib.indexByte]
 ·go_ret
  exact⟨rfl,rfl⟩
set_option maxHeartbeats 1000000 in
theorem Aor(s:ByteArray)(c:UInt8)(w:World):
  Calls Tryz.prog 141 #[.string s,.string ⟨#[c]⟩] w fun e w'=>e=.returned (.int .i64 (Lib.indexByte s.data.toList c))∧w'=w:=by
 go_enter Tryz.func141,Tryz.ntmps141
 go_wp2_with (go_at_call 159;refine(Ac2 _ _ _).mono ?_;rintro e w' ⟨rfl,rfl⟩)
 go_ret
 exact⟨rfl,rfl⟩
namespace Pl
def ixb(r:ByteArray)(c:UInt8):Int:=Lib.indexByte r.data.toList c
def cnb(r:ByteArray)(c:UInt8):Nat:=Lib.countByte r.data.toList c
theorem Aw2{l:List UInt8}{c:UInt8}:Lib.indexByte l c= -1↔l.count c=0:=by
 induction l with
 |nil=>simp[Lib.indexByte]
 |cons b l ih=>
  unfold Lib.indexByte;have hg:=Lib.indexByte_ge l c;by_cases hb:(b==c)=true
  ·rw[if_pos hb];have:b=c:=by simpa using hb
   subst this;simp
  ·rw[if_neg hb];have hne:b≠c:=fun e=>hb (by simpa using e);rw[List.count_cons_of_ne hne];split
   ·rename_i h;have h':Lib.indexByte l c= -1:=by simpa using h
    simp[ih.1 h']
   ·rename_i h;have h':¬Lib.indexByte l c= -1:=by simpa using h
    constructor
    ·intro e;omega
    ·intro e;exact absurd (ih.2 e) h'
theorem Aqa{l:List UInt8}{c:UInt8}(h:0<l.count c):∃m:Nat,Lib.indexByte l c=(m:Int)∧m<l.length∧(l.drop (m+1)).count c+1=l.count c:=by
 induction l with
 |nil=>simp at h
 |cons b l ih=>
  unfold Lib.indexByte;by_cases hb:(b==c)=true
  ·rw[if_pos hb];have:b=c:=by simpa using hb
   subst this;exact⟨0,rfl,by simp,by simp⟩
  ·rw[if_neg hb];have hne:b≠c:=fun e=>hb (by simpa using e);rw[List.count_cons_of_ne hne]at h ⊢;obtain⟨m,h1,h2,h3⟩:=ih h;have hn:¬((Lib.indexByte l c== -1)=true):=by rw[h1];simp
   rw[if_neg hn,h1];exact⟨m+1,by simp,by simp;omega,by simpa using h3⟩
def Bz(c:UInt8)(s:ByteArray):Nat→ByteArray
 |0=>s
 |k+1=>(Bz c s k).extract ((ixb (Bz c s k) c).toNat+1) (Bz c s k).size
def S0(c:UInt8)(s:ByteArray)(k:Nat):ByteArray:=(Bz c s k).extract 0 (ixb (Bz c s k) c).toNat
def Ci(c:UInt8)(s:ByteArray):List ByteArray:=(List.range (cnb s c)).map (S0 c s)++[Bz c s (cnb s c)]
theorem Om(c:UInt8)(s:ByteArray):(Ci c s).length=cnb s c+1:=by simp[Ci]
theorem Afh(s:ByteArray)(c:UInt8):cnb s c≤s.size:=by
 have:=List.count_le_length (a:=c) (l:=s.data.toList);simpa[cnb,Lib.countByte]using this
theorem D3(s:ByteArray)(a b:Nat):(s.extract a b).data.toList=(s.data.toList.take b).drop a:=by
 simp[ByteArray.data_extract,List.drop_take]
theorem Ku(c:UInt8)(s:ByteArray):∀k,k≤cnb s c→cnb (Bz c s k) c+k=cnb s c
 |0,_=>rfl
 |k+1,h=>by
  have ih:=Ku c s k (by omega);have hp:0<(Bz c s k).data.toList.count c:=by have:cnb (Bz c s k) c=(Bz c s k).data.toList.count c:=rfl;omega
  obtain⟨m,h1,h2,h3⟩:=Aqa hp;have hx:ixb (Bz c s k) c=(m:Int):=h1;have e:(Bz c s (k+1)).data.toList=(Bz c s k).data.toList.drop (m+1):=by
   show((Bz c s k).extract ((ixb (Bz c s k) c).toNat+1) (Bz c s k).size).data.toList=_;rw[D3,hx];congr 1;exact List.take_of_length_le (by simp)
  have:cnb (Bz c s (k+1)) c+1=cnb (Bz c s k) c:=by
   unfold cnb Lib.countByte;rw[e];exact h3
  omega
theorem Alb (c : UInt8) (s : ByteArray) {k : Nat} (h : k < cnb s c) : ∃ m : Nat, ixb (Bz c s k) c = (m : Int) ∧ m + 1 ≤ (Bz c s k).size ∧ S0 c s k = (Bz c s k).extract 0 m ∧ Bz c s (k + 1) = (Bz c s k).extract (m + 1) (Bz c s k).size := by
  have ih := Ku c s k (by omega)
  have hp : 0 < (Bz c s k).data.toList.count c := by have : cnb (Bz c s k) c = (Bz c s k).data.toList.count c := rfl; omega
  obtain ⟨m, h1, h2, _⟩ := Aqa hp
  have hx : ixb (Bz c s k) c = (m : Int) := h1
  refine ⟨m, hx, by have h4 : m < (Bz c s k).size := by simpa using h2
                    omega, ?_, ?_⟩
  · show (Bz c s k).extract 0 (ixb (Bz c s k) c).toNat = _
    rw [hx]; rfl
  · show (Bz c s k).extract ((ixb (Bz c s k) c).toNat + 1) (Bz c s k).size = _
    rw [hx]; rfl
theorem R9(c:UInt8)(s:ByteArray):∀k,(Bz c s k).size≤s.size
 |0=>ZT _
 |k+1=>by
  have:=R9 c s k;show((Bz c s k).extract _ _).size≤_;rw[ByteArray.size_extract];omega
end Pl
def A1(s:ByteArray):List V:=[.v (.string s)]
instance:FlatRow A1:=⟨fun x u hu=>by simp[A1]at hu;subst hu;exact⟨_,rfl⟩⟩
theorem Ans(s:ByteArray)(c:UInt8):Fun Tryz.prog 140 [.c (.v (.string s)),.c (.v (.string ⟨#[c]⟩))] [.c (.v (.int .i64 (cnb s c)))]:=
 Nx (xs:=[.string s,.string ⟨#[c]⟩]) (Fb Tryz.func140 (by kernel_rfl) (by kernel_rfl)) fun w=>(Aou s c w).mono fun e w' ⟨h1,h2⟩=>⟨h1,h2▸Below.refl _ _⟩
theorem Ap6(s:ByteArray)(c:UInt8):Fun Tryz.prog 141 [.c (.v (.string s)),.c (.v (.string ⟨#[c]⟩))] [.c (.v (.int .i64 (ixb s c)))]:=
 Nx (xs:=[.string s,.string ⟨#[c]⟩]) (Fb Tryz.func141 (by kernel_rfl) (by kernel_rfl)) fun w=>(Aor s c w).mono fun e w' ⟨h1,h2⟩=>⟨h1,h2▸Below.refl _ _⟩
def E4(c:UInt8)(s:ByteArray)(k:Nat):List ByteArray:=(List.range k).map (S0 c s)++List.replicate (cnb s c+1-k) ⟨#[]⟩
theorem Xm(c:UInt8)(s:ByteArray){k:Nat}(h:k≤cnb s c+1):(E4 c s k).length=cnb s c+1:=by simp[E4];omega
theorem Xi(c:UInt8)(s:ByteArray){k:Nat}(h:k<cnb s c+1)(x:ByteArray):(E4 c s k).set k x=(List.range k).map (S0 c s)++[x]++List.replicate (cnb s c-k) ⟨#[]⟩:=by
 unfold E4;rw[show cnb s c+1-k=(cnb s c-k)+1 by omega,List.replicate_succ];rw[List.set_append_right _ _ (by simp)];simp
theorem Aeu(c:UInt8)(s:ByteArray){k:Nat}(h:k<cnb s c):(E4 c s k).set k (S0 c s k)=E4 c s (k+1):=by
 rw[Xi c s (by omega)];unfold E4;rw[List.range_succ,ZI];simp
theorem Agt(c:UInt8)(s:ByteArray):((E4 c s (cnb s c)).set (cnb s c) (Bz c s (cnb s c))).take (cnb s c+1)=Ci c s:=by
 rw[Xi c s (by omega)];unfold Ci;rw[Nat.sub_self,List.replicate_zero,List.append_nil];exact List.take_of_length_le (by simp)
theorem Axi(c:UInt8):((⟨#[c]⟩:ByteArray).toList==(⟨#[]⟩:ByteArray).toList)=false:=by simp[Lib.toList_data]
theorem Ae3(c:UInt8)(s:ByteArray):(E4 c s 0).map A1=List.replicate (cnb s c+1) (([.string ⟨#[]⟩]:List Value).map .v):=by
 simp[E4,A1]
theorem Aej(s:ByteArray)(c:UInt8)(hs:s.size≤1000000000000):Fun Tryz.prog 129 [.c (.v (.string s)),.c (.v (.string ⟨#[c]⟩)),.c (.v (.int .i64 0)),.c (.v (.int .i64 (-1)))] [.o 9 1 ((Ci c s).map A1)]:=by
 have hc:=Afh s c;have hR:=Ku c s;have hz:=R9 c s;refine Ar Sk rfl ?_;(refine goI ?_;repeat (intro gg;refine goI ?_));rw[Axi];(refine goI ?_;repeat (intro gg;refine goI ?_));(refine .inl ⟨_,_,false,[],aI,Ans s c,Ab,nI,?_⟩);(refine goI ?_;repeat (intro gg;refine goI ?_));rw[show min ((cnb s c:Int)+1) ((s.size:Int)+1)=(cnb s c:Int)+1 by omega];(refine goI ?_;repeat (intro gg;refine goI ?_));refine⟨cnb s c+1,by simp,by simp,by simp only[maxLen];omega,by omega,?_⟩;(refine goI ?_;repeat (intro gg;refine goI ?_));rw[←Ae3];(refine goI ?_;repeat (intro gg;refine goI ?_));(refine⟨[],none,{k:Nat//k≤cnb s c},[1,2,3,9],fun⟨k,hk⟩=>[(0,.v (.string (Bz c s k))),(10,.v (.int .i64 k))],[],fun⟨k,hk⟩=>[(496,⟨gg,9,1,(E4 c s k).map A1⟩)],fun⟨k,hk⟩=>cnb s c-k,trivial,fun _=>⟨trivial,fun _=>⟨⟨0,by omega⟩,tI,Af _ _,tI,Ae _ _⟩⟩,fun⟨k,hk⟩=>?_⟩);(refine goI ?_;repeat (intro gg;refine goI ?_));(refine Aa (fun h1=>?_) (fun h1=>?_)<;>rw[h1])
 ·have hlt:k<cnb s c:=(by have:=ZV h1;omega);obtain⟨m,e1,e2,e3,e4⟩:=Alb c s hlt;have e5:=hz k;have e6:=Aeu c s hlt;have e7:=Xm c s (k:=k) (by omega);have e8:k<(E4 c s k).length:=by omega
  (refine goI ?_;repeat (intro gg;refine goI ?_));(refine .inl ⟨_,_,false,[],aI,Ap6 (Bz c s k) c,Ab,nI,?_⟩);rw[e1];(refine goI ?_;repeat (intro gg;refine goI ?_));refine⟨0,m,rfl,⟨_,rfl⟩,by omega,by omega,?_⟩;(refine goI ?_;repeat (intro gg;refine goI ?_));refine⟨k,_,rfl,Ad e8,?_⟩;(refine goI ?_;repeat (intro gg;refine goI ?_));refine⟨(m:Int)+1,A6 (n:=(m:Int)+1) (by omega) (by omega),?_⟩;(refine goI ?_;repeat (intro gg;refine goI ?_));refine⟨m+1,(Bz c s k).size,⟨_,rfl⟩,rfl,by omega,ZT _,?_⟩;rw[←e4];(refine goI ?_;repeat (intro gg;refine goI ?_));have hn:(E4 c s (k+1)).map A1=((E4 c s k).map A1).set k [V.v (Value.string ((Bz c s k).extract 0 m))]:=by rw[←e6,List.map_set,e3];rfl
  (exact⟨none,trivial,fun gr=>⟨⟨k+1,by omega⟩,by show cnb s c-(k+1)<cnb s c-k;omega,hxI hn,hxI hn,hxI hn,hxI hn⟩⟩)
 ·have hge:¬k<cnb s c:=(by have:=ZW h1;omega);have hk':k≤cnb s c:=hk;obtain rfl:k=cnb s c:=by omega
  have e7:=Xm c s (k:=cnb s c) (by omega);have e8:cnb s c<(E4 c s (cnb s c)).length:=by omega
  (refine goI ?_;repeat (intro gg;refine goI ?_));refine⟨cnb s c,_,rfl,Ad e8,?_⟩;(refine goI ?_;repeat (intro gg;refine goI ?_));refine⟨0,0,cnb s c+1,rfl,rfl,⟨_,rfl⟩,ZU _,by simp[e7],rfl,rfl,fun g=>?_⟩;(refine goI ?_;repeat (intro gg;refine goI ?_));have hE:(((E4 c s (cnb s c)).map A1).set (cnb s c) [V.v (Value.string (Bz c s (cnb s c)))]).take (cnb s c+1)=(Ci c s).map A1:=by rw[←Agt,List.map_take,List.map_set];rfl
  rw[hE];(exact⟨[496],aI⟩)
namespace Pl
theorem Ajo{α:Type}(p:α→Bool)(l:List α):decide (0≤at_ p l)=l.any p:=by
 rcases Ajp (p:=p) (l:=l)with⟨h1,h2⟩|⟨k,hk,h1,h2,_⟩
 ·rw[h1];cases hq:l.any p with
  |false=>rfl
  |true=>
   obtain⟨x,hx,hp⟩:=List.any_eq_true.1 hq;obtain⟨i,hi,rfl⟩:=List.getElem_of_mem hx;rw[h2 i hi]at hp;cases hp
 ·rw[h1];have:l.any p=true:=List.any_eq_true.2 ⟨_,ZK hk,h2⟩;rw[this];simp
def keep{α:Type}(p:α→Bool)(l:List α):List α:=l.filter fun x=> !p x
theorem keep_all{α:Type}{p:α→Bool}{l:List α}(h:∀i,(h:i<l.length)→p l[i]=false):keep p l=l:=by
 unfold keep;rw[List.filter_eq_self];intro x hx;obtain⟨i,hi,rfl⟩:=List.getElem_of_mem hx;simp[h i hi]
theorem Rh{α:Type}{p:α→Bool}{l:List α}{k:Nat}(h:k<l.length):keep p (l.take (k+1))=if p l[k]=true then keep p (l.take k)else keep p (l.take k)++[l[k]]:=by
 unfold keep;rw[XT,ZC h,List.filter_append];cases q:p l[k]<;>simp[q]
structure Ju{α:Type}(p:α→Bool)(l l':List α)(i j:Nat):Prop where
 ij:i<j
 jl:j≤l.length
 len:l'.length=l.length
 ahead:l'.take i=keep p (l.take j)
 behind:∀k,(h:k<l.length)→j≤k→l'[k]'(by rw[len];exact h)=l[k]
theorem Ju.start{α:Type}{p:α→Bool}{l:List α}{k:Nat}(hk:k<l.length)(h1:p l[k]=true)(h0:∀i,(h:i<l.length)→i<k→p l[i]=false):Ju p l l k (k+1):=by
 refine⟨by omega,by omega,rfl,?_,fun _ _ _=>rfl⟩;rw[Rh hk,if_pos h1,keep_all];intro i hi;simp at hi;simp only[List.getElem_take];exact h0 i (by omega) (by omega)
theorem Ju.gone{α:Type}{p:α→Bool}{l l':List α}{i j:Nat}(h:Ju p l l' i j)(hj:j<l.length)(hp:p l[j]=true):Ju p l l' i (j+1):=by
 refine⟨by have:=h.ij;omega,by omega,h.len,?_,fun k hk hkj=>h.behind k hk (by omega)⟩;rw[Rh hj,if_pos hp];exact h.ahead
theorem Ju.stays{α:Type}{p:α→Bool}{l l':List α}{i j:Nat}(h:Ju p l l' i j)(hj:j<l.length)(hp:p l[j]=false):Ju p l (l'.set i l[j]) (i+1) (j+1):=by
 have hij:=h.ij;have hlen:=h.len;refine⟨by omega,by omega,by simp[hlen],?_,fun k hk hkj=>?_⟩
 ·rw[Rh hj,if_neg (by simp[hp]),XT,List.take_set_of_le (ZT _),h.ahead];congr 1;rw[List.getElem?_set_self (by omega)];rfl
 ·rw[List.getElem_set_ne (by omega)];exact h.behind k hk (by omega)
theorem Ju.fin{α:Type}{p:α→Bool}{l l':List α}{i j:Nat}(h:Ju p l l' i j)(hj:¬j<l.length):l'.take i=keep p l:=by
 rw[h.ahead,List.take_of_length_le (by omega)]
end Pl
def A5(s:ByteArray):List ByteArray:=if(s.toList==(⟨#[]⟩:ByteArray).toList)=true then []else Ci 46 s
def Ao(s:ByteArray):Int:=if(A5 s).any (fun x=> !lab x.data.toList)=true then 1 else if 8<(A5 s).length then 2 else if 120<s.size then 2 else 0
theorem Acm(s:ByteArray)(c:UInt8)(hs:s.size≤1000000000000):Fun Tryz.prog 103 [.c (.v (.string s)),.c (.v (.string ⟨#[c]⟩))] [.o 9 1 ((Ci c s).map A1)]:=by
 refine Ar W5 rfl ?_;refine G0 ?_;(refine .inl ⟨_,_,false,[],aI,Aej s c hs,Ab,nI,?_⟩);refine G1 ?_;intro gg;(exact⟨[112],aI⟩)
theorem Aax(s:ByteArray)(hs:s.size≤1000000000000):Fun Tryz.prog 90 [.c (.v (.string s))] [.c (.sl false ((A5 s).map A1))]:=by
 refine Ar Ac0 rfl ?_;refine G0 ?_;(refine Aa (fun h=>?_) (fun h=>?_)<;>rw[h])
 ·refine G0 ?_;rw[show A5 s=[]from if_pos h];(exact⟨[],aI⟩)
 ·refine G0 ?_;(refine .inl ⟨_,_,false,[],aI,Acm s 46 hs,Ab,nI,?_⟩);refine G1 ?_;intro gg;rw[show A5 s=Ci 46 s from if_neg (by rw[h];decide)];(exact⟨[],aI⟩)
theorem Aqs(s:ByteArray)(hs:s.size≤9223372036854775807):Fun Tryz.prog 91 [.c (.v (.string s))] [.c (.v (.bool (!lab s.data.toList)))]:=by
 refine Ar Zx rfl ?_;refine G0 ?_;(refine .inl ⟨_,_,false,[],aI,El s hs,Ab,nI,?_⟩);refine G1 ?_;intro gg;(exact⟨[],aI⟩)
theorem Abo(cl:Bool)(l:List ByteArray)(f:FuncId)(p:ByteArray→Bool)(hl:l.length≤9223372036854775807)(hf:∀s∈l,Fun Tryz.prog f [.c (.v (.string s))] [.c (.v (.bool (p s)))]):
  Fun Tryz.prog 80 [.c (.sl cl (l.map A1)),.c (.v (.func (.func f) #[] #[]))] [.c (.v (.int .i64 (at_ p l)))]:=by
 refine Ar H2 rfl ?_;refine G0 ?_;rw[ZE];(refine⟨[],none,{k:Nat//k≤l.length∧∀j,(h:j<l.length)→j<k→p l[j]=false},[0,1,7],fun⟨k,hk,h0⟩=>[(8,.v (.int .i64 k))],[],fun⟨k,hk,h0⟩=>[],fun⟨k,hk,h0⟩=>l.length-k,trivial,fun _=>⟨trivial,fun _=>⟨⟨0,by omega,fun j _ h=>by omega⟩,tI,Af _ _,tI,Ae _ _⟩⟩,fun⟨k,hk,h0⟩=>?_⟩);refine G0 ?_;(refine Aa (fun h=>?_) (fun h=>?_)<;>rw[h])
 ·have hlt:k<l.length:=(by have:=ZV h;omega);refine G0 ?_;refine⟨k,_,rfl,Ad hlt,?_⟩;refine G0 ?_;(refine .inl ⟨_,_,false,[],aI,hf _ (ZK hlt),Ab,nI,?_⟩);refine G1 ?_;intro gg;(refine Aa (fun h2=>?_) (fun h2=>?_)<;>rw[h2])
  ·refine G0 ?_;rw[Vq hlt h0 h2];(exact⟨[],aI⟩)
  ·refine G0 ?_;(exact⟨none,trivial,fun _=>⟨⟨k+1,by omega,up1 (p:=fun j h=>p l[j]=false) h0 (fun _=>h2)⟩,by show l.length-(k+1)<l.length-k;omega,tI,tI,tI,tI⟩⟩)
 ·have hge:¬k<l.length:=(by have:=ZW h;omega);refine G0 ?_;rw[Ad9 (p:=p) (l:=l) (fun i hi=>h0 i hi (by omega))];(exact⟨[],aI⟩)
theorem S7(cl:Bool)(l:List ByteArray)(f:FuncId)(p:ByteArray→Bool)(hl:l.length≤9223372036854775807)(hf:∀s∈l,Fun Tryz.prog f [.c (.v (.string s))] [.c (.v (.bool (p s)))]):
  Fun Tryz.prog 39 [.c (.sl cl (l.map A1)),.c (.v (.func (.func f) #[] #[]))] [.c (.v (.bool (l.any p)))]:=by
 have hI:=Abo cl l f p hl hf;refine Ar Gt rfl ?_;refine G0 ?_;(refine .inl ⟨_,_,false,[],aI,hI,Ab,nI,?_⟩);refine G1 ?_;intro gg;rw[Ajo];(exact⟨[],aI⟩)
theorem Ajz(s:ByteArray)(a b:Nat):(s.extract a b).size≤s.size:=by rw[ByteArray.size_extract];omega
theorem Fm{s x:ByteArray}(h:x∈A5 s):x.size≤s.size:=by
 unfold A5 at h;split at h
 ·cases h
 ·unfold Ci at h;rcases XM.1 h with h|h
  ·obtain⟨k,_,rfl⟩:=XO.1 h;exact XI (Ajz _ _ _) (R9 46 s k)
  ·simp only[XC,XD,or_false]at h;subst h;exact R9 46 s _
theorem Jk(s:ByteArray):(A5 s).length≤s.size+1:=by
 unfold A5;split
 ·simp
 ·rw[Om];have:=Afh s 46;omega
theorem N9(s:ByteArray)(hs:s.size≤1000000000000):Fun Tryz.prog 49 [.c (.v (.string s))] [.c (.v (.int .i64 (Ao s)))]:=by
 have hL:=Jk s;have hC:=S7 false (A5 s) 91 (fun x=> !lab x.data.toList) (by omega) (fun x hx=>Aqs x (by have:=Fm hx;omega));refine Ar Afi rfl ?_;refine G0 ?_;(refine .inl ⟨_,_,false,[],aI,Aax s hs,Ab,nI,?_⟩);refine G1 ?_;intro gg;(refine .inl ⟨_,_,false,[],aI,hC,Ab,nI,?_⟩);refine G1 ?_;intro gg;(refine Aa (fun h=>?_) (fun h=>?_)<;>rw[h])
 ·refine G0 ?_;rw[show Ao s=1 from if_pos h];(exact⟨[],aI⟩)
 ·have e:Ao s=if 8<(A5 s).length then 2 else if 120<s.size then 2 else 0:=if_neg (by rw[h];decide)
  refine G0 ?_;rw[ZE];(refine Aa (fun h2=>?_) (fun h2=>?_)<;>rw[h2])
  ·refine G0 ?_;rw[e,if_pos (by have:=ZV h2;omega)];(exact⟨[],aI⟩)
  ·rw[if_neg (by have:=ZW h2;omega)]at e;refine G0 ?_;(refine Aa (fun h3=>?_) (fun h3=>?_)<;>rw[h3])
   ·refine G0 ?_;rw[e,if_pos (by have:=ZV h3;omega)];(exact⟨[],aI⟩)
   ·refine G0 ?_;rw[e,if_neg (by have:=ZW h3;omega)];(exact⟨[],aI⟩)
namespace Pl
def Eg(c:UInt8)(s:ByteArray):Nat→List ByteArray×Nat
 |0=>([],0)
 |i+1=>if s.data.toList[i]? =some c then((Eg c s i).1++[s.extract (Eg c s i).2 i],i+1)else Eg c s i
theorem Ayk{l:List UInt8}{c:UInt8}:∀{m:Nat},l[m]? =some c→(∀j,j<m→l[j]?≠some c)→Lib.indexByte l c=(m:Int):=by
 induction l with
 |nil=>intro m h;simp at h
 |cons b l ih=>
  intro m h1 h2;unfold Lib.indexByte;cases m with
  |zero=>
   simp at h1;subst h1;simp
  |succ m=>
   have hne:¬((b==c)=true):=fun e=>by
    have:b=c:=by simpa using e
    exact h2 0 (by omega) (by simp[this])
   rw[if_neg hne];have:=ih (m:=m) (by simpa using h1) (fun j hj=>by simpa using h2 (j+1) (by omega));have hn:¬((Lib.indexByte l c== -1)=true):=by rw[this];simp
   rw[if_neg hn,this];simp
theorem Wi(s:ByteArray)(f:Nat):(s.extract f s.size).data.toList=s.data.toList.drop f:=by
 rw[D3,List.take_of_length_le (by simp)]
theorem Vk(c:UInt8)(s:ByteArray):∀i,i≤s.size→(Eg c s i).2≤i∧(∀j,(Eg c s i).2≤j→j<i→s.data.toList[j]?≠some c)∧
  ∃k,k≤cnb s c∧(Eg c s i).1=(List.range k).map (S0 c s)∧Bz c s k=s.extract (Eg c s i).2 s.size∧k≤i
 |0,_=>⟨ZT _,fun j _ h=>by omega,0,ZU _,rfl,by show s=s.extract 0 s.size;simp,ZT _⟩
 |i+1,hi=>by
  obtain⟨h1,h2,k,h3,h4,h5,h6⟩:=Vk c s i (by omega);by_cases hc:s.data.toList[i]? =some c
  ·have e:Eg c s (i+1)=((Eg c s i).1++[s.extract (Eg c s i).2 i],i+1):=if_pos hc;rw[e];generalize (Eg c s i).2=f at *;have hl:(Bz c s k).data.toList=s.data.toList.drop f:=by rw[h5,Wi]
   have hx:ixb (Bz c s k) c=((i-f:Nat):Int):=by
    unfold ixb;rw[hl];refine Ayk ?_ (fun j hj=>?_)
    ·rw[List.getElem?_drop,show f+(i-f)=i by omega];exact hc
    ·rw[List.getElem?_drop];exact h2 _ (by omega) (by omega)
   have hk:k<cnb s c:=by
    rcases Nat.lt_or_ge k (cnb s c)with q|q
    ·exact q
    ·have hq:=Ku c s k h3;have h0:(Bz c s k).data.toList.count c=0:=by have:cnb (Bz c s k) c=(Bz c s k).data.toList.count c:=rfl;omega
     have:=Aw2.2 h0;unfold ixb at hx;omega
   refine⟨ZT _,fun j h h'=>by omega,k+1,hk,?_,?_,by omega⟩
   ·show(Eg c s i).1++[s.extract f i]=_;rw[h4,List.range_succ,ZI];congr 1;show [s.extract f i]=[S0 c s k];congr 1;show _=(Bz c s k).extract 0 (ixb (Bz c s k) c).toNat;rw[hx,h5,ByteArray.extract_extract];congr 1;simp;omega
   ·show(Bz c s k).extract ((ixb (Bz c s k) c).toNat+1) (Bz c s k).size=s.extract (i+1) s.size;rw[hx,h5,ByteArray.extract_extract];congr 1
    ·simp;omega
    ·rw[ByteArray.size_extract];omega
  ·have e:Eg c s (i+1)=Eg c s i:=if_neg hc;rw[e];refine⟨by omega,fun j h h'=>?_,k,h3,h4,h5,by omega⟩;rcases Nat.lt_or_ge j i with q|q
   ·exact h2 j h q
   ·have:j=i:=by omega
    subst this;exact hc
theorem Ahg(c:UInt8)(s:ByteArray):(Eg c s s.size).1++[s.extract (Eg c s s.size).2 s.size]=Ci c s:=by
 obtain⟨h1,h2,k,h3,h4,h5,_⟩:=Vk c s s.size (ZT _);have h0:(Bz c s k).data.toList.count c=0:=by
  rw[h5,Wi,List.count_eq_zero];intro hm;obtain⟨j,hj,e⟩:=List.getElem_of_mem hm;have hj':(s.data.toList.drop (Eg c s s.size).2)[j]? =some c:=by rw[ZC hj,e]
  rw[List.getElem?_drop]at hj';have hlt:=(ZB.1 hj').1;exact h2 _ (by omega) (by simpa using hlt) hj'
 have hk:k=cnb s c:=by
  have:=Ku c s k h3;have:cnb (Bz c s k) c=(Bz c s k).data.toList.count c:=rfl;omega
 subst hk;rw[h4,←h5];rfl
theorem Aie(c:UInt8)(s:ByteArray){i:Nat}(h:i≤s.size):(Eg c s i).1.length≤i∧(Eg c s i).2≤i:=by
 obtain⟨h1,_,k,_,h4,_,h6⟩:=Vk c s i h;refine⟨?_,h1⟩;rw[h4];simp;exact h6
end Pl
theorem Auo{s:ByteArray}{k:Nat}(h:k<s.size):∃c,s[k]? =some c∧s.data.toList[k]? =some c:=⟨s[k],by simp[h],by simp[h];rfl⟩
theorem At8{c:UInt8}{s:ByteArray}{i:Nat}(h:s.data.toList[i]? =some c):Eg c s (i+1)=((Eg c s i).1++[s.extract (Eg c s i).2 i],i+1):=if_pos h
theorem Ats{c:UInt8}{s:ByteArray}{i:Nat}(h:s.data.toList[i]?≠some c):Eg c s (i+1)=Eg c s i:=if_neg h
theorem Q9(s:ByteArray)(hs:s.size≤1000000000000):Fun Tryz.prog 67 [.c (.v (.string s))] [.c (.sl false ((A5 s).map A1))]:=by
 refine Ar O6 rfl ?_;refine G0 ?_;(refine Aa (fun h=>?_) (fun h=>?_)<;>rw[h])
 ·refine G0 ?_;rw[show A5 s=[]from if_pos h];(exact⟨[],aI⟩)
 ·have hE:=Ahg 46 s;rw[show A5 s=Ci 46 s from if_neg (by rw[h];decide),←hE];refine G0 ?_;(refine⟨[(3,48,9,1)],none,{p:Nat×Nat//p.1≤s.size},[0],fun⟨⟨k,g⟩,hk⟩=>[(3,.own 48 g),(4,.v (.int .i64 (Eg 46 s k).2)),(5,.v (.int .i64 k))],[],fun⟨⟨k,g⟩,hk⟩=>[(48,⟨g,9,1,(Eg 46 s k).1.map A1⟩)],fun⟨⟨k,g⟩,hk⟩=>s.size-k,(by exact⟨rfl,by decide,(fun _ _ _ _ h=>by cases h),trivial⟩),fun gs=>⟨trivial,fun _=>⟨⟨(0,gs 48),by omega⟩,tI,tI,tI,tI⟩⟩,fun⟨⟨k,g⟩,hk⟩=>?_⟩);have hk':k≤s.size:=hk;have hl:=Aie 46 s hk';refine G0 ?_;(refine Aa (fun h1=>?_) (fun h1=>?_)<;>rw[h1])
  ·have hlt:k<s.size:=(by have:=ZV h1;omega);obtain⟨c,hc1,hc2⟩:=Auo hlt;refine G0 ?_;refine⟨k,c,rfl,hc1,?_⟩;refine G0 ?_;(refine Aa (fun h2=>?_) (fun h2=>?_)<;>rw[h2])
   ·have hc:c=46:=by
     have h3:(c.toNat:Int)=46:=by simpa using h2
     exact UInt8.toNat_inj.1 (by show c.toNat=46;omega)
    subst hc;have e:=At8 hc2;obtain⟨e1,e2⟩:(Eg 46 s (k+1)).1=(Eg 46 s k).1++[s.extract (Eg 46 s k).2 k]∧(Eg 46 s (k+1)).2=k+1:=by rw[e];exact⟨rfl,rfl⟩
    refine G0 ?_;refine⟨(Eg 46 s k).2,k,⟨_,rfl⟩,⟨_,rfl⟩,hl.2,by omega,?_⟩;refine G1 ?_;intro gg;refine⟨lI,lI,?_⟩;refine G1 ?_;intro gg;(exact⟨none,trivial,fun gr=>⟨⟨(k+1,gg),by dsimp only;omega⟩,by show s.size-(k+1)<s.size-k;omega,hxI e,hxI e,hxI e,hxI e⟩⟩)
   ·have hc:s.data.toList[k]?≠some 46:=fun q=>by
     rw[hc2]at q;injection q with q;subst q
     simp at h2
    have e:=Ats hc;refine G0 ?_;(exact⟨none,trivial,fun gr=>⟨⟨(k+1,g),by dsimp only;omega⟩,by show s.size-(k+1)<s.size-k;omega,hxI e,hxI e,hxI e,hxI e⟩⟩)
  ·have hge:¬k<s.size:=(by have:=ZW h1;omega);obtain rfl:k=s.size:=by omega
   refine G0 ?_;refine⟨(Eg 46 s s.size).2,s.size,⟨_,rfl⟩,rfl,hl.2,ZT _,?_⟩;refine G1 ?_;intro gg;refine⟨lI,lI,?_⟩;refine G1 ?_;intro gg;rw[ZI];(exact⟨[],aI⟩)
theorem Ck(s:ByteArray)(hs:s.size≤1000000000000):Fun Tryz.prog 59 [.c (.v (.string s))] [.c (.v (.int .i64 (Ao s)))]:=by
 have hL:=Jk s;refine Ar Na rfl ?_;refine G0 ?_;(refine .inl ⟨_,_,false,[],aI,Q9 s hs,Ab,nI,?_⟩);refine G1 ?_;intro gg;(refine⟨[],none,{k:Nat//k≤(A5 s).length∧∀j,(h:j<(A5 s).length)→j<k→lab (A5 s)[j].data.toList=true},[0,3],fun⟨k,hk,h0⟩=>[(4,.v (.int .i64 k))],[],fun⟨k,hk,h0⟩=>[],fun⟨k,hk,h0⟩=>(A5 s).length-k,trivial,fun _=>⟨trivial,fun _=>⟨⟨0,by omega,fun j _ h=>by omega⟩,tI,Af _ _,tI,Ae _ _⟩⟩,fun⟨k,hk,h0⟩=>?_⟩);refine G0 ?_;rw[ZE];(refine Aa (fun h=>?_) (fun h=>?_)<;>rw[h])
 ·have hlt:k<(A5 s).length:=(by have:=ZV h;omega);refine G0 ?_;refine⟨k,_,rfl,Ad hlt,?_⟩;refine G0 ?_;(refine .inl ⟨_,_,false,[],aI,Eb (A5 s)[k] (by have:=Fm (ZK hlt);omega),Ab,nI,?_⟩);refine G1 ?_;intro gg;(refine Aa (fun h2=>?_) (fun h2=>?_)<;>rw[h2])
  ·refine G0 ?_;have e:Ao s=1:=if_pos (List.any_eq_true.2 ⟨_,ZK hlt,h2⟩);rw[e];(exact⟨[],aI⟩)
  ·refine G0 ?_;(exact⟨none,trivial,fun _=>⟨⟨k+1,by omega,up1 (p:=fun j h=>lab (A5 s)[j].data.toList=true) h0 (fun _=>Bw h2)⟩,by show(A5 s).length-(k+1)<(A5 s).length-k;omega,tI,tI,tI,tI⟩⟩)
 ·have hge:¬k<(A5 s).length:=(by have:=ZW h;omega);have hn:(A5 s).any (fun x=> !lab x.data.toList)=false:=by
   rw[List.any_eq_false];intro x hx;obtain⟨j,hj,rfl⟩:=List.getElem_of_mem hx;rw[h0 j hj (by omega)];simp
  have e:Ao s=if 8<(A5 s).length then 2 else if 120<s.size then 2 else 0:=if_neg (by rw[hn];decide)
  refine G0 ?_;rw[ZE];(refine Aa (fun h2=>?_) (fun h2=>?_)<;>rw[h2])
  ·refine G0 ?_;rw[e,if_pos (by have:=ZV h2;omega)];(exact⟨[],aI⟩)
  ·rw[if_neg (by have:=ZW h2;omega)]at e;refine G0 ?_;(refine Aa (fun h3=>?_) (fun h3=>?_)<;>rw[h3])
   ·refine G0 ?_;rw[e,if_pos (by have:=ZV h3;omega)];(exact⟨[],aI⟩)
   ·refine G0 ?_;rw[e,if_neg (by have:=ZW h3;omega)];(exact⟨[],aI⟩)
namespace Pl
structure Qr where
 sv:ByteArray
 tg:ByteArray
 nd:ByteArray
 ce:ByteArray
def Qr.row(q:Qr):List V:=[.v (.string q.sv),.v (.string q.tg),.v (.string q.nd),.v (.string q.ce)]
instance:FlatRow Qr.row:=⟨fun x u hu=>by simp[Qr.row]at hu;rcases hu with rfl|rfl|rfl|rfl<;>exact⟨_,rfl⟩⟩
def Qr.ok(q:Qr):Prop:=q.sv.size≤9223372036854775807∧q.tg.size≤9223372036854775807∧q.nd.size≤9223372036854775807∧q.ce.size≤9223372036854775807
def em(x:ByteArray):Bool:=x.toList==(⟨#[]⟩:ByteArray).toList
def Br:ByteArray:=⟨#[115,101,114,118,105,99,101]⟩
def Cm:ByteArray:=⟨#[110,111,100,101]⟩
def Bc:ByteArray:=⟨#[109,101,115,104]⟩
def Z2(l:List ByteArray)(x:ByteArray):Bool:=l.any fun w=>x.toList==w.toList
def Gx(x:ByteArray):Bool:=bif em x then false else !lab x.data.toList
def Qr.all(q:Qr):List ByteArray:=[q.sv,q.tg,q.nd,q.ce]
def Qr.c1(q:Qr):Bool:=bif (em q.sv==em q.nd)then true else(bif em q.sv then !em q.tg else false)
def Qr.c2(q:Qr):Bool:=q.all.any Gx
def Qr.c3(q:Qr):Bool:=bif Z2 [Br,Cm,Bc] q.ce then true else bif Z2 [Br,Cm,Bc] q.sv then true else bif Z2 [Br,Cm,Bc] q.tg then true else Z2 [Br,Cm] q.nd
def Qr.err(q:Qr):Int:=bif q.c1 then 1 else bif q.c2 then 1 else bif q.c3 then 7 else 0
end Pl
theorem Akd(cl:Bool)(l:List ByteArray)(v:ByteArray)(hl:l.length≤9223372036854775807):
  Fun Tryz.prog 81 [.c (.sl cl (l.map A1)),.c (.v (.string v))] [.c (.v (.int .i64 (at_ (fun w=>v.toList==w.toList) l)))]:=by
 refine Ar Jg rfl ?_;refine G0 ?_;rw[ZE];(refine⟨[],none,{k:Nat//k≤l.length∧∀j,(h:j<l.length)→j<k→(v.toList==l[j].toList)=false},[0,1,7],fun⟨k,hk,h0⟩=>[(8,.v (.int .i64 k))],[],fun⟨k,hk,h0⟩=>[],fun⟨k,hk,h0⟩=>l.length-k,trivial,fun _=>⟨trivial,fun _=>⟨⟨0,by omega,fun j _ h=>by omega⟩,tI,Af _ _,tI,Ae _ _⟩⟩,fun⟨k,hk,h0⟩=>?_⟩);refine G0 ?_;(refine Aa (fun h=>?_) (fun h=>?_)<;>rw[h])
 ·have hlt:k<l.length:=(by have:=ZV h;omega);refine G0 ?_;refine⟨k,_,rfl,Ad hlt,?_⟩;refine G0 ?_;(refine Aa (fun h2=>?_) (fun h2=>?_)<;>rw[h2])
  ·refine G0 ?_;rw[Vq (p:=fun w=>v.toList==w.toList) hlt h0 h2];(exact⟨[],aI⟩)
  ·refine G0 ?_;(exact⟨none,trivial,fun _=>⟨⟨k+1,by omega,up1 (p:=fun j h=>(v.toList==l[j].toList)=false) h0 (fun _=>h2)⟩,by show l.length-(k+1)<l.length-k;omega,tI,tI,tI,tI⟩⟩)
 ·have hge:¬k<l.length:=(by have:=ZW h;omega);refine G0 ?_;rw[Ad9 (p:=fun w=>v.toList==w.toList) (l:=l) (fun i hi=>h0 i hi (by omega))];(exact⟨[],aI⟩)
theorem Afs(cl:Bool)(l:List ByteArray)(v:ByteArray)(hl:l.length≤9223372036854775807):
  Fun Tryz.prog 43 [.c (.sl cl (l.map A1)),.c (.v (.string v))] [.c (.v (.bool (Z2 l v)))]:=by
 refine Ar Ie rfl ?_;refine G0 ?_;(refine .inl ⟨_,_,false,[],aI,Akd cl l v hl,Ab,nI,?_⟩);refine G1 ?_;intro gg;rw[Ajo];(exact⟨[],aI⟩)
theorem Atl(s:ByteArray)(hs:s.size≤9223372036854775807):Fun Tryz.prog 40 [.c (.v (.string s))] [.c (.v (.bool (Gx s)))]:=by
 refine Ar Wk rfl ?_;refine G0 ?_;(refine Aa (fun h=>?_) (fun h=>?_)<;>rw[h])
 ·have he:em s=false:=Dr h;refine G0 ?_;(refine .inl ⟨_,_,false,[],aI,El s hs,Ab,nI,?_⟩);refine G1 ?_;intro gg;rw[show Gx s= !lab s.data.toList by unfold Gx;rw[he];rfl];(exact⟨[],aI⟩)
 ·have he:em s=true:=Bw h;refine G0 ?_;rw[show Gx s=false by unfold Gx;rw[he];rfl];(exact⟨[],aI⟩)
theorem Me(s:ByteArray)(l:List ByteArray)(hl:l.length≤9223372036854775807):Fun Tryz.prog 42 [.c (.v (.string s)),.c (.sl false (l.map A1))] [.c (.v (.bool (Z2 l s)))]:=by
 refine Ar Vu rfl ?_;refine G0 ?_;(refine .inl ⟨_,_,false,[],aI,Afs false l s hl,Ab,nI,?_⟩);refine G1 ?_;intro gg;(exact⟨[],aI⟩)
theorem Abb(q:Qr)(hq:q.ok):Fun Tryz.prog 18 [.c (.agg q.row)] [.c (.v (.int .i64 q.err))]:=by
 have hF:=S7 false q.all 40 Gx (by simp[Qr.all]) (fun x hx=>Atl x (by
  obtain⟨h1,h2,h3,h4⟩:=hq;simp only[Qr.all,XC,XD,or_false]at hx;rcases hx with rfl|rfl|rfl|rfl<;>assumption))
 refine Ar Z5 rfl ?_;refine G1 ?_;intro gg;(refine Aa (fun h1=>?_) (fun h1=>?_)<;>rw[h1])
 ·have e1:(em q.sv==em q.nd)=true:=h1;have hc1:q.c1=true:=by unfold Qr.c1;rw[e1];rfl
  refine G0 ?_;rw[show q.err=1 by unfold Qr.err;rw[hc1];rfl];(exact⟨[],aI⟩)
 ·have e1:(em q.sv==em q.nd)=false:=h1;refine G0 ?_;(refine Aa (fun h2=>?_) (fun h2=>?_)<;>rw[h2])
  ·have e2:em q.sv=true:=h2;refine G0 ?_;(refine Aa (fun h3=>?_) (fun h3=>?_)<;>rw[h3])
   ·have e3:(!em q.tg)=true:=h3;have hc1:q.c1=true:=by unfold Qr.c1;rw[e1,e2,e3];rfl
    refine G0 ?_;rw[show q.err=1 by unfold Qr.err;rw[hc1];rfl];(exact⟨[],aI⟩)
   ·have e3:(!em q.tg)=false:=h3;have hc1:q.c1=false:=by unfold Qr.c1;rw[e1,e2,e3];rfl
    refine G1 ?_;intro gg;(refine .inl ⟨_,_,true,[],aI,hF,(fun _=>fI),nI,?_⟩);refine G1 ?_;intro gg;(refine Aa (fun h4=>?_) (fun h4=>?_)<;>rw[h4])
    ·refine G0 ?_;rw[show q.err=1 by unfold Qr.err;rw[hc1,show q.c2=true from h4];rfl];(exact⟨[],aI⟩)
    ·have hc2:q.c2=false:=h4;refine G1 ?_;intro gg;(refine .inl ⟨_,_,true,[],aI,Me q.ce [Br,Cm,Bc] (by simp),(fun _=>fI),nI,?_⟩);refine G1 ?_;intro gg;(refine Aa (fun k1=>?_) (fun k1=>?_)<;>rw[k1])
     ·refine G0 ?_;rw[show q.err=7 by unfold Qr.err Qr.c3;rw[hc1,hc2,k1];rfl];(exact⟨[],aI⟩)
     ·refine G1 ?_;intro gg;(refine .inl ⟨_,_,true,[],aI,Me q.sv [Br,Cm,Bc] (by simp),(fun _=>fI),nI,?_⟩);refine G1 ?_;intro gg;(refine Aa (fun k2=>?_) (fun k2=>?_)<;>rw[k2])
      ·refine G0 ?_;rw[show q.err=7 by unfold Qr.err Qr.c3;rw[hc1,hc2,k1,k2];rfl];(exact⟨[],aI⟩)
      ·refine G1 ?_;intro gg;(refine .inl ⟨_,_,true,[],aI,Me q.tg [Br,Cm,Bc] (by simp),(fun _=>fI),nI,?_⟩);refine G1 ?_;intro gg;(refine Aa (fun k3=>?_) (fun k3=>?_)<;>rw[k3])
       ·refine G0 ?_;rw[show q.err=7 by unfold Qr.err Qr.c3;rw[hc1,hc2,k1,k2,k3];rfl];(exact⟨[],aI⟩)
       ·refine G1 ?_;intro gg;(refine .inl ⟨_,_,true,[],aI,Me q.nd [Br,Cm] (by simp),(fun _=>fI),nI,?_⟩);refine G1 ?_;intro gg;(refine Aa (fun k4=>?_) (fun k4=>?_)<;>rw[k4])
        ·refine G0 ?_;rw[show q.err=7 by unfold Qr.err Qr.c3;rw[hc1,hc2,k1,k2,k3,k4];rfl];(exact⟨[],aI⟩)
        ·refine G0 ?_;rw[show q.err=0 by unfold Qr.err Qr.c3;rw[hc1,hc2,k1,k2,k3,k4];rfl];(exact⟨[],aI⟩)
  ·have e2:em q.sv=false:=h2;have hc1:q.c1=false:=by unfold Qr.c1;rw[e1,e2];rfl
   refine G1 ?_;intro gg;(refine .inl ⟨_,_,true,[],aI,hF,(fun _=>fI),nI,?_⟩);refine G1 ?_;intro gg;(refine Aa (fun h4=>?_) (fun h4=>?_)<;>rw[h4])
   ·refine G0 ?_;rw[show q.err=1 by unfold Qr.err;rw[hc1,show q.c2=true from h4];rfl];(exact⟨[],aI⟩)
   ·have hc2:q.c2=false:=h4;refine G1 ?_;intro gg;(refine .inl ⟨_,_,true,[],aI,Me q.ce [Br,Cm,Bc] (by simp),(fun _=>fI),nI,?_⟩);refine G1 ?_;intro gg;(refine Aa (fun k1=>?_) (fun k1=>?_)<;>rw[k1])
    ·refine G0 ?_;rw[show q.err=7 by unfold Qr.err Qr.c3;rw[hc1,hc2,k1];rfl];(exact⟨[],aI⟩)
    ·refine G1 ?_;intro gg;(refine .inl ⟨_,_,true,[],aI,Me q.sv [Br,Cm,Bc] (by simp),(fun _=>fI),nI,?_⟩);refine G1 ?_;intro gg;(refine Aa (fun k2=>?_) (fun k2=>?_)<;>rw[k2])
     ·refine G0 ?_;rw[show q.err=7 by unfold Qr.err Qr.c3;rw[hc1,hc2,k1,k2];rfl];(exact⟨[],aI⟩)
     ·refine G1 ?_;intro gg;(refine .inl ⟨_,_,true,[],aI,Me q.tg [Br,Cm,Bc] (by simp),(fun _=>fI),nI,?_⟩);refine G1 ?_;intro gg;(refine Aa (fun k3=>?_) (fun k3=>?_)<;>rw[k3])
      ·refine G0 ?_;rw[show q.err=7 by unfold Qr.err Qr.c3;rw[hc1,hc2,k1,k2,k3];rfl];(exact⟨[],aI⟩)
      ·refine G1 ?_;intro gg;(refine .inl ⟨_,_,true,[],aI,Me q.nd [Br,Cm] (by simp),(fun _=>fI),nI,?_⟩);refine G1 ?_;intro gg;(refine Aa (fun k4=>?_) (fun k4=>?_)<;>rw[k4])
       ·refine G0 ?_;rw[show q.err=7 by unfold Qr.err Qr.c3;rw[hc1,hc2,k1,k2,k3,k4];rfl];(exact⟨[],aI⟩)
       ·refine G0 ?_;rw[show q.err=0 by unfold Qr.err Qr.c3;rw[hc1,hc2,k1,k2,k3,k4];rfl];(exact⟨[],aI⟩)
theorem C5{q:Qr}{k:Nat}(h:k<4):(q.all.map A1)[k]? =some (A1 (q.all[k]'h)):=Ad (f:=A1) (l:=q.all) h
def Ee(k:Nat)(x:ByteArray):Bool:=bif x.toList==Br.toList then true else bif x.toList==Cm.toList then true else bif ((k:Int) !=2)then x.toList==Bc.toList else false
theorem Qr.c2_of{q:Qr}(h:∀j,(hj:j<4)→Gx (q.all[j]'hj)=false):q.c2=false:=by
 have a:=h 0 (by omega);have b:=h 1 (by omega);have c:=h 2 (by omega);have d:=h 3 (by omega);simp only[Qr.all,List.getElem_cons_zero,List.getElem_cons_succ]at a b c d;simp[Qr.c2,Qr.all,a,b,c,d]
theorem Qr.c2_at{q:Qr}{k:Nat}(hk:k<4)(h:Gx (q.all[k]'hk)=true):q.c2=true:=List.any_eq_true.2 ⟨_,ZK hk,h⟩
theorem Qr.c3_of{q:Qr}(h:∀j,(hj:j<4)→Ee j (q.all[j]'hj)=false):q.c3=false:=by
 have a:=h 0 (by omega);have b:=h 1 (by omega);have c:=h 2 (by omega);have d:=h 3 (by omega);simp only[Qr.all,List.getElem_cons_zero,List.getElem_cons_succ,Ee]at a b c d;simp[Qr.c3,Z2]at *;simp_all
theorem Qr.c3_at{q:Qr}{k:Nat}(hk:k<4)(h:Ee k (q.all[k]'hk)=true):q.c3=true:=by
 rcases(by omega:k=0∨k=1∨k=2∨k=3)with rfl|rfl|rfl|rfl<;>
  (simp only[Qr.all,List.getElem_cons_zero,List.getElem_cons_succ,Ee]at h
   simp[Qr.c3,Z2]at *
   grind)
theorem Pd(q:Qr)(hq:q.ok):Fun Tryz.prog 24 [.c (.agg q.row)] [.c (.v (.int .i64 q.err))]:=by
 have hz:∀k,(hk:k<4)→(q.all[k]'hk).size≤9223372036854775807:=fun k hk=>by
  obtain⟨h1,h2,h3,h4⟩:=hq;have hx:=ZK (l:=q.all) (n:=k) hk;generalize q.all[k]'hk=x at *;simp only[Qr.all,XC,XD,or_false]at hx;rcases hx with rfl|rfl|rfl|rfl<;>assumption
 cases e1:em q.sv with
 |true=>
  have r1:(q.sv.toList==(⟨#[]⟩:ByteArray).toList)=true:=e1;cases e2:em q.nd with
  |true=>
   have r2:(q.nd.toList==(⟨#[]⟩:ByteArray).toList)=true:=e2;have hc1:q.c1=true:=by unfold Qr.c1;rw[e1,e2];rfl
   refine Ar B5 rfl ?_;refine G1 ?_;intro gg;rw[r1];refine G0 ?_;rw[r2];refine G0 ?_;rw[show q.err=1 by unfold Qr.err;rw[hc1];rfl];(exact⟨[],aI⟩)
  |false=>
   have r2:(q.nd.toList==(⟨#[]⟩:ByteArray).toList)=false:=e2;cases e3:em q.tg with
   |true=>
    have r3:(q.tg.toList==(⟨#[]⟩:ByteArray).toList)=true:=e3;have hc1:q.c1=false:=by unfold Qr.c1;rw[e1,e2,e3];rfl
    refine Ar B5 rfl ?_;refine G1 ?_;intro gg;rw[r1];refine G0 ?_;rw[r2];refine G0 ?_;rw[r1];refine G0 ?_;rw[r3];refine G1 ?_;intro gg;(refine⟨[],none,{k:Nat//k≤4∧∀j,(h:j<4)→j<k→Gx (q.all[j]'h)=false},[3],fun⟨k,hk,h0⟩=>[(4,.v (.int .i64 k))],[672],fun⟨k,hk,h0⟩=>[],fun⟨k,hk,h0⟩=>4-k,trivial,fun _=>⟨trivial,fun _=>⟨⟨0,by omega,fun j _ h=>by omega⟩,tI,Af _ _,tI,Ae _ _⟩⟩,fun⟨k,hk,h0⟩=>?_⟩);refine G0 ?_;(refine Aa (fun g1=>?_) (fun g1=>?_)<;>rw[g1])
    ·have hlt:k<4:=(by have:=ZV g1;omega);have hnx:Gx (q.all[k]'hlt)=false→_:=fun hb=>up1 (n:=4) (p:=fun j h=>Gx (q.all[j]'h)=false) h0 (fun _=>hb);refine G0 ?_;refine⟨k,_,rfl,C5 hlt,?_⟩;refine G0 ?_;refine⟨_,C5 hlt,?_⟩;refine G0 ?_;(refine Aa (fun g2=>?_) (fun g2=>?_)<;>rw[g2])
     ·have he:em (q.all[k]'hlt)=false:=Dr g2;refine G0 ?_;refine⟨k,_,rfl,C5 hlt,?_⟩;refine G0 ?_;refine⟨_,C5 hlt,?_⟩;refine G0 ?_;(refine .inl ⟨_,_,false,[],aI,Eb (q.all[k]'hlt) (hz k hlt),Ab,nI,?_⟩);refine G1 ?_;intro gg;have hbl:Gx (q.all[k]'hlt)= !lab (q.all[k]'hlt).data.toList:=by unfold Gx;rw[he];rfl
      (refine Aa (fun g3=>?_) (fun g3=>?_)<;>rw[g3])
      ·have hc2:=Qr.c2_at hlt (hbl.trans g3);refine G0 ?_;rw[show q.err=1 by unfold Qr.err;rw[hc1,hc2];rfl];(exact⟨[],aI⟩)
      ·refine G0 ?_;(exact⟨none,trivial,fun _=>⟨⟨k+1,by omega,hnx (hbl.trans g3)⟩,by show 4-(k+1)<4-k;omega,tI,tI,tI,tI⟩⟩)
     ·have he:em (q.all[k]'hlt)=true:=Bw g2;refine G0 ?_;(exact⟨none,trivial,fun _=>⟨⟨k+1,by omega,hnx (by unfold Gx;rw[he];rfl)⟩,by show 4-(k+1)<4-k;omega,tI,tI,tI,tI⟩⟩)
    ·have hge:¬k<4:=(by have:=ZW g1;omega);have hc2:q.c2=false:=Qr.c2_of fun j hj=>h0 j hj (by omega);refine G0 ?_;(refine⟨[],none,{k:Nat//k≤4∧∀j,(h:j<4)→j<k→Ee j (q.all[j]'h)=false},[3],fun⟨k,hk,h0⟩=>[(5,.v (.int .i64 k))],[672],fun⟨k,hk,h0⟩=>[],fun⟨k,hk,h0⟩=>4-k,trivial,fun _=>⟨trivial,fun _=>⟨⟨0,by omega,fun j _ h=>by omega⟩,tI,Af _ _,tI,Ae _ _⟩⟩,fun⟨k,hk,h0⟩=>?_⟩);refine G0 ?_;(refine Aa (fun g1=>?_) (fun g1=>?_)<;>rw[g1])
     ·have hlt:k<4:=(by have:=ZV g1;omega);have hbad:Ee k (q.all[k]'hlt)=true→q.err=7:=fun hb=>by unfold Qr.err;rw[hc1,hc2,Qr.c3_at hlt hb];rfl
      have hnx:Ee k (q.all[k]'hlt)=false→_:=fun hb=>up1 (n:=4) (p:=fun j h=>Ee j (q.all[j]'h)=false) h0 (fun _=>hb);refine G0 ?_;refine⟨k,_,rfl,C5 hlt,?_⟩;refine G0 ?_;refine⟨_,C5 hlt,?_⟩;refine G0 ?_;(refine Aa (fun g2=>?_) (fun g2=>?_)<;>rw[g2])
      ·refine G0 ?_;rw[hbad (by unfold Ee;rw[show((q.all[k]'hlt).toList==Br.toList)=true from g2];rfl)];(exact⟨[],aI⟩)
      ·refine G0 ?_;refine⟨k,_,rfl,C5 hlt,?_⟩;refine G0 ?_;refine⟨_,C5 hlt,?_⟩;refine G0 ?_;(refine Aa (fun g3=>?_) (fun g3=>?_)<;>rw[g3])
       ·refine G0 ?_;rw[hbad (by unfold Ee;rw[show((q.all[k]'hlt).toList==Br.toList)=false from g2,show((q.all[k]'hlt).toList==Cm.toList)=true from g3];rfl)];(exact⟨[],aI⟩)
       ·refine G0 ?_;(refine Aa (fun g4=>?_) (fun g4=>?_)<;>rw[g4])
        ·refine G0 ?_;refine⟨k,_,rfl,C5 hlt,?_⟩;refine G0 ?_;refine⟨_,C5 hlt,?_⟩;refine G0 ?_;have hkb:Ee k (q.all[k]'hlt)=((q.all[k]'hlt).toList==Bc.toList):=by unfold Ee;rw[show((q.all[k]'hlt).toList==Br.toList)=false from g2,show((q.all[k]'hlt).toList==Cm.toList)=false from g3,show((k:Int) !=2)=true from g4];rfl
         (refine Aa (fun g5=>?_) (fun g5=>?_)<;>rw[g5])
         ·refine G0 ?_;rw[hbad (hkb.trans g5)];(exact⟨[],aI⟩)
         ·refine G0 ?_;(exact⟨none,trivial,fun _=>⟨⟨k+1,by omega,hnx (hkb.trans g5)⟩,by show 4-(k+1)<4-k;omega,tI,tI,tI,tI⟩⟩)
        ·refine G0 ?_;(exact⟨none,trivial,fun _=>⟨⟨k+1,by omega,hnx (by unfold Ee;rw[show((q.all[k]'hlt).toList==Br.toList)=false from g2,show((q.all[k]'hlt).toList==Cm.toList)=false from g3,show((k:Int) !=2)=false from g4];rfl)⟩,by show 4-(k+1)<4-k;omega,tI,tI,tI,tI⟩⟩)
     ·have hge:¬k<4:=(by have:=ZW g1;omega);have hc3:q.c3=false:=Qr.c3_of fun j hj=>h0 j hj (by omega);refine G0 ?_;rw[show q.err=0 by unfold Qr.err;rw[hc1,hc2,hc3];rfl];(exact⟨[],aI⟩)
   |false=>
    have r3:(q.tg.toList==(⟨#[]⟩:ByteArray).toList)=false:=e3;have hc1:q.c1=true:=by unfold Qr.c1;rw[e1,e2,e3];rfl
    refine Ar B5 rfl ?_;refine G1 ?_;intro gg;rw[r1];refine G0 ?_;rw[r2];refine G0 ?_;rw[r1];refine G0 ?_;rw[r3];refine G0 ?_;rw[r1];refine G0 ?_;rw[show q.err=1 by unfold Qr.err;rw[hc1];rfl];(exact⟨[],aI⟩)
 |false=>
  have r1:(q.sv.toList==(⟨#[]⟩:ByteArray).toList)=false:=e1;cases e2:em q.nd with
  |true=>
   have r2:(q.nd.toList==(⟨#[]⟩:ByteArray).toList)=true:=e2;have hc1:q.c1=false:=by unfold Qr.c1;rw[e1,e2];rfl
   cases e3:em q.tg with
   |true=>
    have r3:(q.tg.toList==(⟨#[]⟩:ByteArray).toList)=true:=e3;refine Ar B5 rfl ?_;refine G1 ?_;intro gg;rw[r1];refine G0 ?_;rw[r1];refine G0 ?_;rw[r2];refine G0 ?_;rw[r3];refine G1 ?_;intro gg;(refine⟨[],none,{k:Nat//k≤4∧∀j,(h:j<4)→j<k→Gx (q.all[j]'h)=false},[3],fun⟨k,hk,h0⟩=>[(4,.v (.int .i64 k))],[672],fun⟨k,hk,h0⟩=>[],fun⟨k,hk,h0⟩=>4-k,trivial,fun _=>⟨trivial,fun _=>⟨⟨0,by omega,fun j _ h=>by omega⟩,tI,Af _ _,tI,Ae _ _⟩⟩,fun⟨k,hk,h0⟩=>?_⟩);refine G0 ?_;(refine Aa (fun g1=>?_) (fun g1=>?_)<;>rw[g1])
    ·have hlt:k<4:=(by have:=ZV g1;omega);have hnx:Gx (q.all[k]'hlt)=false→_:=fun hb=>up1 (n:=4) (p:=fun j h=>Gx (q.all[j]'h)=false) h0 (fun _=>hb);refine G0 ?_;refine⟨k,_,rfl,C5 hlt,?_⟩;refine G0 ?_;refine⟨_,C5 hlt,?_⟩;refine G0 ?_;(refine Aa (fun g2=>?_) (fun g2=>?_)<;>rw[g2])
     ·have he:em (q.all[k]'hlt)=false:=Dr g2;refine G0 ?_;refine⟨k,_,rfl,C5 hlt,?_⟩;refine G0 ?_;refine⟨_,C5 hlt,?_⟩;refine G0 ?_;(refine .inl ⟨_,_,false,[],aI,Eb (q.all[k]'hlt) (hz k hlt),Ab,nI,?_⟩);refine G1 ?_;intro gg;have hbl:Gx (q.all[k]'hlt)= !lab (q.all[k]'hlt).data.toList:=by unfold Gx;rw[he];rfl
      (refine Aa (fun g3=>?_) (fun g3=>?_)<;>rw[g3])
      ·have hc2:=Qr.c2_at hlt (hbl.trans g3);refine G0 ?_;rw[show q.err=1 by unfold Qr.err;rw[hc1,hc2];rfl];(exact⟨[],aI⟩)
      ·refine G0 ?_;(exact⟨none,trivial,fun _=>⟨⟨k+1,by omega,hnx (hbl.trans g3)⟩,by show 4-(k+1)<4-k;omega,tI,tI,tI,tI⟩⟩)
     ·have he:em (q.all[k]'hlt)=true:=Bw g2;refine G0 ?_;(exact⟨none,trivial,fun _=>⟨⟨k+1,by omega,hnx (by unfold Gx;rw[he];rfl)⟩,by show 4-(k+1)<4-k;omega,tI,tI,tI,tI⟩⟩)
    ·have hge:¬k<4:=(by have:=ZW g1;omega);have hc2:q.c2=false:=Qr.c2_of fun j hj=>h0 j hj (by omega);refine G0 ?_;(refine⟨[],none,{k:Nat//k≤4∧∀j,(h:j<4)→j<k→Ee j (q.all[j]'h)=false},[3],fun⟨k,hk,h0⟩=>[(5,.v (.int .i64 k))],[672],fun⟨k,hk,h0⟩=>[],fun⟨k,hk,h0⟩=>4-k,trivial,fun _=>⟨trivial,fun _=>⟨⟨0,by omega,fun j _ h=>by omega⟩,tI,Af _ _,tI,Ae _ _⟩⟩,fun⟨k,hk,h0⟩=>?_⟩);refine G0 ?_;(refine Aa (fun g1=>?_) (fun g1=>?_)<;>rw[g1])
     ·have hlt:k<4:=(by have:=ZV g1;omega);have hbad:Ee k (q.all[k]'hlt)=true→q.err=7:=fun hb=>by unfold Qr.err;rw[hc1,hc2,Qr.c3_at hlt hb];rfl
      have hnx:Ee k (q.all[k]'hlt)=false→_:=fun hb=>up1 (n:=4) (p:=fun j h=>Ee j (q.all[j]'h)=false) h0 (fun _=>hb);refine G0 ?_;refine⟨k,_,rfl,C5 hlt,?_⟩;refine G0 ?_;refine⟨_,C5 hlt,?_⟩;refine G0 ?_;(refine Aa (fun g2=>?_) (fun g2=>?_)<;>rw[g2])
      ·refine G0 ?_;rw[hbad (by unfold Ee;rw[show((q.all[k]'hlt).toList==Br.toList)=true from g2];rfl)];(exact⟨[],aI⟩)
      ·refine G0 ?_;refine⟨k,_,rfl,C5 hlt,?_⟩;refine G0 ?_;refine⟨_,C5 hlt,?_⟩;refine G0 ?_;(refine Aa (fun g3=>?_) (fun g3=>?_)<;>rw[g3])
       ·refine G0 ?_;rw[hbad (by unfold Ee;rw[show((q.all[k]'hlt).toList==Br.toList)=false from g2,show((q.all[k]'hlt).toList==Cm.toList)=true from g3];rfl)];(exact⟨[],aI⟩)
       ·refine G0 ?_;(refine Aa (fun g4=>?_) (fun g4=>?_)<;>rw[g4])
        ·refine G0 ?_;refine⟨k,_,rfl,C5 hlt,?_⟩;refine G0 ?_;refine⟨_,C5 hlt,?_⟩;refine G0 ?_;have hkb:Ee k (q.all[k]'hlt)=((q.all[k]'hlt).toList==Bc.toList):=by unfold Ee;rw[show((q.all[k]'hlt).toList==Br.toList)=false from g2,show((q.all[k]'hlt).toList==Cm.toList)=false from g3,show((k:Int) !=2)=true from g4];rfl
         (refine Aa (fun g5=>?_) (fun g5=>?_)<;>rw[g5])
         ·refine G0 ?_;rw[hbad (hkb.trans g5)];(exact⟨[],aI⟩)
         ·refine G0 ?_;(exact⟨none,trivial,fun _=>⟨⟨k+1,by omega,hnx (hkb.trans g5)⟩,by show 4-(k+1)<4-k;omega,tI,tI,tI,tI⟩⟩)
        ·refine G0 ?_;(exact⟨none,trivial,fun _=>⟨⟨k+1,by omega,hnx (by unfold Ee;rw[show((q.all[k]'hlt).toList==Br.toList)=false from g2,show((q.all[k]'hlt).toList==Cm.toList)=false from g3,show((k:Int) !=2)=false from g4];rfl)⟩,by show 4-(k+1)<4-k;omega,tI,tI,tI,tI⟩⟩)
     ·have hge:¬k<4:=(by have:=ZW g1;omega);have hc3:q.c3=false:=Qr.c3_of fun j hj=>h0 j hj (by omega);refine G0 ?_;rw[show q.err=0 by unfold Qr.err;rw[hc1,hc2,hc3];rfl];(exact⟨[],aI⟩)
   |false=>
    have r3:(q.tg.toList==(⟨#[]⟩:ByteArray).toList)=false:=e3;refine Ar B5 rfl ?_;refine G1 ?_;intro gg;rw[r1];refine G0 ?_;rw[r1];refine G0 ?_;rw[r2];refine G0 ?_;rw[r3];refine G0 ?_;rw[r1];refine G1 ?_;intro gg;(refine⟨[],none,{k:Nat//k≤4∧∀j,(h:j<4)→j<k→Gx (q.all[j]'h)=false},[3],fun⟨k,hk,h0⟩=>[(4,.v (.int .i64 k))],[672],fun⟨k,hk,h0⟩=>[],fun⟨k,hk,h0⟩=>4-k,trivial,fun _=>⟨trivial,fun _=>⟨⟨0,by omega,fun j _ h=>by omega⟩,tI,Af _ _,tI,Ae _ _⟩⟩,fun⟨k,hk,h0⟩=>?_⟩);refine G0 ?_;(refine Aa (fun g1=>?_) (fun g1=>?_)<;>rw[g1])
    ·have hlt:k<4:=(by have:=ZV g1;omega);have hnx:Gx (q.all[k]'hlt)=false→_:=fun hb=>up1 (n:=4) (p:=fun j h=>Gx (q.all[j]'h)=false) h0 (fun _=>hb);refine G0 ?_;refine⟨k,_,rfl,C5 hlt,?_⟩;refine G0 ?_;refine⟨_,C5 hlt,?_⟩;refine G0 ?_;(refine Aa (fun g2=>?_) (fun g2=>?_)<;>rw[g2])
     ·have he:em (q.all[k]'hlt)=false:=Dr g2;refine G0 ?_;refine⟨k,_,rfl,C5 hlt,?_⟩;refine G0 ?_;refine⟨_,C5 hlt,?_⟩;refine G0 ?_;(refine .inl ⟨_,_,false,[],aI,Eb (q.all[k]'hlt) (hz k hlt),Ab,nI,?_⟩);refine G1 ?_;intro gg;have hbl:Gx (q.all[k]'hlt)= !lab (q.all[k]'hlt).data.toList:=by unfold Gx;rw[he];rfl
      (refine Aa (fun g3=>?_) (fun g3=>?_)<;>rw[g3])
      ·have hc2:=Qr.c2_at hlt (hbl.trans g3);refine G0 ?_;rw[show q.err=1 by unfold Qr.err;rw[hc1,hc2];rfl];(exact⟨[],aI⟩)
      ·refine G0 ?_;(exact⟨none,trivial,fun _=>⟨⟨k+1,by omega,hnx (hbl.trans g3)⟩,by show 4-(k+1)<4-k;omega,tI,tI,tI,tI⟩⟩)
     ·have he:em (q.all[k]'hlt)=true:=Bw g2;refine G0 ?_;(exact⟨none,trivial,fun _=>⟨⟨k+1,by omega,hnx (by unfold Gx;rw[he];rfl)⟩,by show 4-(k+1)<4-k;omega,tI,tI,tI,tI⟩⟩)
    ·have hge:¬k<4:=(by have:=ZW g1;omega);have hc2:q.c2=false:=Qr.c2_of fun j hj=>h0 j hj (by omega);refine G0 ?_;(refine⟨[],none,{k:Nat//k≤4∧∀j,(h:j<4)→j<k→Ee j (q.all[j]'h)=false},[3],fun⟨k,hk,h0⟩=>[(5,.v (.int .i64 k))],[672],fun⟨k,hk,h0⟩=>[],fun⟨k,hk,h0⟩=>4-k,trivial,fun _=>⟨trivial,fun _=>⟨⟨0,by omega,fun j _ h=>by omega⟩,tI,Af _ _,tI,Ae _ _⟩⟩,fun⟨k,hk,h0⟩=>?_⟩);refine G0 ?_;(refine Aa (fun g1=>?_) (fun g1=>?_)<;>rw[g1])
     ·have hlt:k<4:=(by have:=ZV g1;omega);have hbad:Ee k (q.all[k]'hlt)=true→q.err=7:=fun hb=>by unfold Qr.err;rw[hc1,hc2,Qr.c3_at hlt hb];rfl
      have hnx:Ee k (q.all[k]'hlt)=false→_:=fun hb=>up1 (n:=4) (p:=fun j h=>Ee j (q.all[j]'h)=false) h0 (fun _=>hb);refine G0 ?_;refine⟨k,_,rfl,C5 hlt,?_⟩;refine G0 ?_;refine⟨_,C5 hlt,?_⟩;refine G0 ?_;(refine Aa (fun g2=>?_) (fun g2=>?_)<;>rw[g2])
      ·refine G0 ?_;rw[hbad (by unfold Ee;rw[show((q.all[k]'hlt).toList==Br.toList)=true from g2];rfl)];(exact⟨[],aI⟩)
      ·refine G0 ?_;refine⟨k,_,rfl,C5 hlt,?_⟩;refine G0 ?_;refine⟨_,C5 hlt,?_⟩;refine G0 ?_;(refine Aa (fun g3=>?_) (fun g3=>?_)<;>rw[g3])
       ·refine G0 ?_;rw[hbad (by unfold Ee;rw[show((q.all[k]'hlt).toList==Br.toList)=false from g2,show((q.all[k]'hlt).toList==Cm.toList)=true from g3];rfl)];(exact⟨[],aI⟩)
       ·refine G0 ?_;(refine Aa (fun g4=>?_) (fun g4=>?_)<;>rw[g4])
        ·refine G0 ?_;refine⟨k,_,rfl,C5 hlt,?_⟩;refine G0 ?_;refine⟨_,C5 hlt,?_⟩;refine G0 ?_;have hkb:Ee k (q.all[k]'hlt)=((q.all[k]'hlt).toList==Bc.toList):=by unfold Ee;rw[show((q.all[k]'hlt).toList==Br.toList)=false from g2,show((q.all[k]'hlt).toList==Cm.toList)=false from g3,show((k:Int) !=2)=true from g4];rfl
         (refine Aa (fun g5=>?_) (fun g5=>?_)<;>rw[g5])
         ·refine G0 ?_;rw[hbad (hkb.trans g5)];(exact⟨[],aI⟩)
         ·refine G0 ?_;(exact⟨none,trivial,fun _=>⟨⟨k+1,by omega,hnx (hkb.trans g5)⟩,by show 4-(k+1)<4-k;omega,tI,tI,tI,tI⟩⟩)
        ·refine G0 ?_;(exact⟨none,trivial,fun _=>⟨⟨k+1,by omega,hnx (by unfold Ee;rw[show((q.all[k]'hlt).toList==Br.toList)=false from g2,show((q.all[k]'hlt).toList==Cm.toList)=false from g3,show((k:Int) !=2)=false from g4];rfl)⟩,by show 4-(k+1)<4-k;omega,tI,tI,tI,tI⟩⟩)
     ·have hge:¬k<4:=(by have:=ZW g1;omega);have hc3:q.c3=false:=Qr.c3_of fun j hj=>h0 j hj (by omega);refine G0 ?_;rw[show q.err=0 by unfold Qr.err;rw[hc1,hc2,hc3];rfl];(exact⟨[],aI⟩)
  |false=>
   have r2:(q.nd.toList==(⟨#[]⟩:ByteArray).toList)=false:=e2;have hc1:q.c1=true:=by unfold Qr.c1;rw[e1,e2];rfl
   refine Ar B5 rfl ?_;refine G1 ?_;intro gg;rw[r1];refine G0 ?_;rw[r1];refine G0 ?_;rw[r2];refine G0 ?_;rw[show q.err=1 by unfold Qr.err;rw[hc1];rfl];(exact⟨[],aI⟩)
theorem Uh(l:List ByteArray)(f:FuncId)(p:ByteArray→Bool)(hl:l.length≤1000)(hf:∀x∈l,Fun Tryz.prog f [.c (.v (.string x))] [.c (.v (.bool (p x)))]):
  Fun Tryz.prog 88 [.o 9 1 (l.map A1),.c (.v (.func (.func f) #[] #[]))] [.o 9 1 ((keep p l).map A1)]:=by
 refine Ar Hh rfl ?_;refine G0 ?_;(refine .inl ⟨_,_,true,[],aI,Abo false l f p (by omega) hf,(fun _=>fI),nI,?_⟩);rcases Ajp (p:=p) (l:=l)with⟨h1,h2⟩|⟨k,hk,h1,h2,h3⟩
 ·rw[h1,Pl.keep_all (p:=p) (l:=l) h2];refine G1 ?_;intro gg;(exact⟨[0],aI⟩)
 ·rw[h1];refine G1 ?_;intro gg;(refine⟨[],none,{q:List ByteArray×Nat×Nat//Ju p l q.1 q.2.1 q.2.2},[0,1,36,37,39,40,41],fun⟨⟨l',i,j⟩,hm⟩=>[(5,.v (.int .i64 i)),(6,.v (.int .i64 j))],[],fun⟨⟨l',i,j⟩,hm⟩=>[(0,⟨0,9,1,l'.map A1⟩)],fun⟨⟨l',i,j⟩,hm⟩=>l.length-j,trivial,fun _=>⟨trivial,fun _=>⟨⟨(l,k,k+1),Ju.start hk h2 h3⟩,tI,Af _ _,tI,Ae _ _⟩⟩,fun⟨⟨l',i,j⟩,hm⟩=>?_⟩);refine G0 ?_;have hm:Ju p l l' i j:=hm;have hlen:l'.length=l.length:=hm.len;(refine Aa (fun h=>?_) (fun h=>?_)<;>rw[h])
  ·have hlt:j<l'.length:=by have:=ZV h;simpa using this
   refine G0 ?_;refine⟨j,_,rfl,Ad hlt,?_⟩;refine G0 ?_;have hj:j<l.length:=by omega
   have hx:l'[j]=l[j]:=hm.behind j hj (ZT _);rw[hx];(refine .inl ⟨_,_,false,[],aI,hf _ (ZK hj),Ab,nI,?_⟩);refine G1 ?_;intro gg;(refine Aa (fun h4=>?_) (fun h4=>?_)<;>rw[h4])
   ·have h4':p l[j]=false:=Dr h4;have hi:i<l'.length:=by have:=hm.ij;omega
    refine G0 ?_;refine⟨i,_,rfl,Ad hi,?_⟩;refine G0 ?_;have e:(l'.map A1).set i (A1 l[j])=(l'.set i l[j]).map A1:=List.map_set.symm;exact⟨none,trivial,fun gr=>⟨⟨(l'.set i l[j],i+1,j+1),hm.stays hj h4'⟩,by show l.length-(j+1)<l.length-j;omega,tI,tI,⟨congrArg (fun r=>some (Ent.mk 0 9 1 r)) e,trivial⟩,tI⟩⟩
   ·have h4':p l[j]=true:=Bw h4;refine G0 ?_;(exact⟨none,trivial,fun _=>⟨⟨(l',i,j+1),hm.gone hj h4'⟩,by show l.length-(j+1)<l.length-j;omega,tI,tI,tI,tI⟩⟩)
  ·have hge:¬j<l'.length:=by have:=ZW h;simpa using this
   have hi:i≤l'.length:=by have:=hm.ij;have:=hm.jl;omega
   refine G0 ?_;refine⟨1,i,(l'.map A1).length,rfl,⟨_,rfl⟩,rfl,by simpa using hi,ZT _,?_⟩;refine G0 ?_;refine⟨by simpa using hi,ZT _,?_⟩;refine G0 ?_;refine⟨0,0,i,rfl,rfl,⟨_,rfl⟩,ZU _,?_,rfl,rfl,fun g=>?_⟩
   ·show i≤((l'.map A1).take i++List.replicate ((l'.map A1).length-i) _++(l'.map A1).drop (l'.map A1).length).length;simp only[ZF,ZM,ZE,List.length_replicate];omega
   refine G0 ?_;refine⟨[0],Afr rfl rfl rfl rfl rfl Dy ?_⟩;show((l'.map A1).take i++List.replicate ((l'.map A1).length-i) _++(l'.map A1).drop (l'.map A1).length).take i=(keep p l).map A1;rw[ZS,List.take_append_of_le_length (by simp;omega),List.take_take,Nat.min_self,←hm.fin (by omega),List.map_take]
section
open Go.Shelf
def Tryz.lays156_ren:Go.Shelf.Ren:=⟨fun|156=>87|165=>118|166=>110|169=>74|240=>130|241=>133|276=>142|277=>144|n=>n,fun|31=>67|9=>9|3=>3|4=>4|0=>0|20=>20|72=>118|76=>155|70=>115|37=>116|75=>153|127=>157|164=>173|5=>5|80=>110|n=>n,fun|n=>n⟩
theorem Tryz.lays156:Go.Proofs.Lays.n156 Tryz.prog Tryz.lays156_ren:={
 mixed:=by kernel_rfl
 f156:=Tryz.func87.trans (congrArg some (by kernel_rfl))
 f165:=Tryz.func118.trans (congrArg some (by kernel_rfl))
 f166:=Tryz.func110.trans (congrArg some (by kernel_rfl))
 f169:=Tryz.func74.trans (congrArg some (by kernel_rfl))
 f240:=Tryz.func130.trans (congrArg some (by kernel_rfl))
 f241:=Tryz.func133.trans (congrArg some (by kernel_rfl))
 f276:=Tryz.func142.trans (congrArg some (by kernel_rfl))
 f277:=Tryz.func144.trans (congrArg some (by kernel_rfl))
 t0:=Tryz.underlying0
 a0:=Tryz.isAgg0
 z0:=Tryz.sizeOf0
 v0:=Tryz.zeroValue0
 t3:=Tryz.underlying3
 a3:=Tryz.isAgg3
 z3:=Tryz.sizeOf3
 v3:=Tryz.zeroValue3
 t4:=Tryz.underlying4
 a4:=Tryz.isAgg4
 z4:=Tryz.sizeOf4
 v4:=Tryz.zeroValue4
 t9:=Tryz.underlying9
 a9:=Tryz.isAgg9
 z9:=Tryz.sizeOf9
 v9:=Tryz.zeroValue9
 t20:=Tryz.underlying20
 a20:=Tryz.isAgg20
 z20:=Tryz.sizeOf20
 v20:=Tryz.zeroValue20
 t31:=Tryz.underlying67
 a31:=Tryz.isAgg67
 z31:=Tryz.sizeOf67
 v31:=Tryz.zeroValue67
 t37:=Tryz.underlying116
 a37:=Tryz.isAgg116
 z37:=Tryz.sizeOf116
 v37:=Tryz.zeroValue116
 t70:=Tryz.underlying115
 a70:=Tryz.isAgg115
 z70:=Tryz.sizeOf115
 v70:=Tryz.zeroValue115
 t72:=Tryz.underlying118
 a72:=Tryz.isAgg118
 z72:=Tryz.sizeOf118
 v72:=Tryz.zeroValue118
 t75:=Tryz.underlying153
 a75:=Tryz.isAgg153
 z75:=Tryz.sizeOf153
 v75:=Tryz.zeroValue153
 t76:=Tryz.underlying155
 a76:=Tryz.isAgg155
 z76:=Tryz.sizeOf155
 v76:=Tryz.zeroValue155
 t127:=Tryz.underlying157
 a127:=Tryz.isAgg157
 z127:=Tryz.sizeOf157
 v127:=Tryz.zeroValue157
 t164:=Tryz.underlying173
 a164:=Tryz.isAgg173
 z164:=Tryz.sizeOf173
 v164:=Tryz.zeroValue173}
theorem Tryz.Builder_Extra_156:Builder.Extra Tryz.prog Tryz.lays156_ren:={
 sizeBuilder:=by kernel_rfl
 liesBuilder:=by kernel_rfl
 t5:=Tryz.underlying5
 a5:=Tryz.isAgg5
 z5:=Tryz.sizeOf5
 v5:=Tryz.zeroValue5
 infoByte:=by kernel_rfl
 cellsByte:=by kernel_rfl
 sizeByte:=by kernel_rfl
 neB5:=by decide}
end
def Df(sep:ByteArray)(xs:List ByteArray):ByteArray:=⟨(Lib.join (xs.map (·.data.toList)) sep.data.toList).toArray⟩
theorem Vf(cl:Bool)(xs:List ByteArray)(sep:ByteArray)(hN:xs.length≤140737488355328)(hlen:(Df sep xs).size≤140737488355328):
  Fun Tryz.prog 87 [.c (.sl cl (xs.map A1)),.c (.v (.string sep))] [.c (.v (.string (Df sep xs)))]:=by
 refine⟨Fb Tryz.func87 (by kernel_rfl) (by kernel_rfl),fun w R ys hlt hp=>?_⟩;have fin:∀w',Fr (A2 [.c (.sl cl (xs.map A1)),.c (.v (.string sep))] ys) w w'→∃(zs:List Value) (R':Nat→Prop),Ending.returned (Value.string (Df sep xs))=.returned (G7 zs)∧Fr (A2 [.c (.sl cl (xs.map A1)),.c (.v (.string sep))] ys) w w'∧(∀b,R b→R' b)∧
   (∀b,R' b→R b∨(b<w'.heap.size∧(A2 [.c (.sl cl (xs.map A1)),.c (.v (.string sep))] ys b∨w.heap.size≤b)))∧Kx w' R' [.c (.v (.string (Df sep xs)))] zs∧(∀b,A2 [.c (.v (.string (Df sep xs)))] zs b→A2 [.c (.sl cl (xs.map A1)),.c (.v (.string sep))] ys b∨w.heap.size≤b):=fun w' hfr=>by
  refine⟨[.string (Df sep xs)],R,rfl,hfr,fun _ h=>h,fun b h=>.inl h,⟨rfl,?_,?_,?_⟩,?_⟩
  ·intro i p x h1 h2;cases i with
   |zero=>simp at h1 h2;subst h1 h2;exact .v _
   |succ i=>simp at h1
  ·intro i j T sz rows T' sz' rows' x y b _ h1;cases i with
   |zero=>simp at h1
   |succ i=>simp at h1
  ·intro b hb;exact absurd hb (Mr fun p hp=>by simp at hp;exact⟨_,hp⟩)
  ·intro b hb;exact absurd hb (Mr fun p hp=>by simp at hp;exact⟨_,hp⟩)
 have hl:=hp.len
 match ys,hl,hp,fin with
 |[y0,y1],_,hp,fin=>
  have h0:RV w R noG (.sl cl (xs.map A1)) y0:=hp.ok 0 _ _ rfl rfl;have h1:RV w R noG (.v (.string sep)) y1:=hp.ok 1 _ _ rfl rfl;have e1:=Ce h1;subst e1;have hnone:∀(a:Option Addr) (cap:Nat),xs=[]→y0=.slice a 0 cap→Calls Tryz.prog 87 [y0,.string sep].toArray w fun e w'=>∃(zs:List Value) (R':Nat→Prop),e=.returned (G7 zs)∧Fr (A2 [.c (.sl cl (xs.map A1)),.c (.v (.string sep))] [y0,.string sep]) w w'∧(∀b,R b→R' b)∧
   (∀b,R' b→R b∨(b<w'.heap.size∧(A2 [.c (.sl cl (xs.map A1)),.c (.v (.string sep))] [y0,.string sep] b∨w.heap.size≤b)))∧Kx w' R' [.c (.v (.string (Df sep xs)))] zs∧(∀b,A2 [.c (.v (.string (Df sep xs)))] zs b→A2 [.c (.sl cl (xs.map A1)),.c (.v (.string sep))] [y0,.string sep] b∨w.heap.size≤b):=fun a cap hx hy=>by
   have h:=Any.strings_Join_none Tryz.lays156 Tryz.Builder_Extra_156 a cap sep w;change Calls Tryz.prog 87 _ w _ at h;rw[←hy]at h;refine h.mono ?_
   rintro e w' ⟨rfl,rfl⟩
   have e2:Df sep xs=⟨#[]⟩:=by rw[hx];rfl
   rw[←e2];exact fin w' (Fr.refl _ _)
  obtain⟨rows,hr'⟩:∃rows,rows=xs.map A1:=⟨_,rfl⟩;rw[←hr']at h0;have hr:=hr'.symm;clear hr';have hlen0:rows.length=xs.length:=by rw[←hr];simp
  cases h0 with
  |nil clip a cap hc=>
   exact hnone a cap (by simpa using hr) rfl
  |sl clip rows b off cap sz f hR hcap hclip hs hcell hh=>
   by_cases hx:xs=[]
   ·exact hnone _ cap hx (by rw[hlen0,hx];rfl)
   ·have hsz:sz=1:=by
     obtain⟨x,xs',rfl⟩:=List.exists_cons_of_ne_nil hx;exact(hs (A1 x) (by rw[←hr];simp)).symm
    subst hsz;have h:=Any.strings_Join Tryz.lays156 Tryz.Builder_Extra_156 b off cap xs sep w (fun j x hj=>by
     have hrow:rows[j]? =some (A1 x):=by rw[←hr,XJ,hj];rfl
     have h2:=hcell j 0 (A1 x) (.v (.string x)) hrow rfl;rw[Ce (hh j 0 (A1 x) (.v (.string x)) hrow rfl)]at h2;rw[←h2,Nat.mul_one,Nat.add_zero]) (hlt b hR) hN (by omega) (by
      have:(Df sep xs).size=(Lib.join (xs.map (·.data.toList)) sep.data.toList).length:=by
       show(Lib.join (xs.map (·.data.toList)) sep.data.toList).toArray.size=_;simp
      omega)
    change Calls Tryz.prog 87 _ w _ at h;rw[←hlen0]at h;refine h.mono ?_
    rintro e w' ⟨rfl,hb⟩
    exact fin w' (Xf hb)
namespace Pl
def dot:ByteArray:=⟨#[46]⟩
def Uj:ByteArray:=⟨#[46,110,111,100,101,46]⟩
def Jl:ByteArray:=⟨#[46,115,101,114,118,105,99,101,46]⟩
def Qr.base(q:Qr):ByteArray:=bif em q.nd then(bif em q.tg then q.sv++Jl else(q.tg++dot)++(q.sv++Jl))else q.nd++Uj
def Qr.pr(q:Qr):ByteArray:=(bif em q.ce then q.base else q.base++(q.ce++dot))++Bc
def Qr.words(q:Qr):List ByteArray:=bif em q.nd then [q.tg,q.sv,Br,q.ce,Bc]else [q.nd,Cm,q.ce,Bc]
theorem Sd{a b:ByteArray}(h:a.data.toList=b.data.toList):a=b:=by
 obtain⟨a⟩:=a;obtain⟨b⟩:=b;congr 1;exact Array.ext' h
theorem Abl(a b:ByteArray):(a++b).data.toList=a.data.toList++b.data.toList:=by simp[ByteArray.data_append]
theorem Jq{x:ByteArray}:em x=true↔x=⟨#[]⟩:=by
 unfold em;rw[ZR];exact⟨fun h=>toList_inj h,fun h=>by rw[h]⟩
theorem Y5{x:ByteArray}(h:x.size≠0):em x=false:=by
 cases q:em x with
 |false=>rfl
 |true=>rw[Jq]at q;exact absurd (congrArg ByteArray.size q) h
theorem Aqd{x:ByteArray}(h:lab x.data.toList=true):x.size≤30:=by
 unfold lab at h;simp at h;have:x.data.toList.length=x.size:=by rw[Array.length_toList];rfl
 omega
structure Qr.small(q:Qr):Prop where
 sv:q.sv.size≤30
 tg:q.tg.size≤30
 nd:q.nd.size≤30
 ce:q.ce.size≤30
theorem Qy{q:Qr}(h:q.err=0):q.small∧(em q.sv==em q.nd)=false∧(em q.sv=true→em q.tg=true):=by
 unfold Qr.err at h;cases h1:q.c1 with
 |true=>rw[h1]at h;cases h
 |false=>
  cases h2:q.c2 with
  |true=>rw[h1,h2]at h;cases h
  |false=>
   have key:∀x∈q.all,x.size≤30:=fun x hx=>by
    have:=List.any_eq_false.1 h2 x hx;unfold Gx at this;cases he:em x with
    |true=>rw[Jq.1 he];decide
    |false=>rw[he]at this;exact Aqd (by simpa using this)
   refine⟨⟨key _ (by simp[Qr.all]),key _ (by simp[Qr.all]),key _ (by simp[Qr.all]),key _ (by simp[Qr.all])⟩,?_,?_⟩
   ·unfold Qr.c1 at h1;cases q1:(em q.sv==em q.nd)with
    |true=>rw[q1]at h1;cases h1
    |false=>rfl
   ·intro q2;unfold Qr.c1 at h1;cases q1:(em q.sv==em q.nd)with
    |true=>rw[q1]at h1;cases h1
    |false=>rw[q1,q2]at h1;simpa using h1
theorem Ana{q:Qr}(h:q.err=0):Df dot (keep em q.words)=q.pr:=by
 obtain⟨_,h1,h2⟩:=Qy h;have es:em Br=false:=Y5 (by decide);have en:em Cm=false:=Y5 (by decide);have emm:em Bc=false:=Y5 (by decide);apply Sd;unfold Qr.words Qr.pr Qr.base Df keep;cases hn:em q.nd with
 |false=>
  cases hc:em q.ce<;>simp only[cond_false,cond_true,List.filter_cons,List.filter_nil,hn,hc,en,emm,Bool.not_false,Bool.not_true,if_true,Bool.false_eq_true,if_false]<;>simp[Lib.join,List.intercalate,Abl,dot,Uj,Cm,Bc]
 |true=>
  have hs:em q.sv=false:=by rw[hn]at h1;simpa using h1
  cases hc:em q.ce<;>cases ht:em q.tg<;>simp only[cond_false,cond_true,List.filter_cons,List.filter_nil,hs,hc,ht,es,emm,Bool.not_false,Bool.not_true,if_true,Bool.false_eq_true,if_false]<;>simp[Lib.join,List.intercalate,Abl,dot,Jl,Br,Bc]
theorem Ae9{q:Qr}(h:q.err=0):q.pr.size≤200:=by
 have hs:=(Qy h).1;have h1:=hs.sv;have h2:=hs.tg;have h3:=hs.nd;have h4:=hs.ce;have e1:dot.size=1:=rfl;have e2:Jl.size=9:=rfl;have e3:Uj.size=6:=rfl;have e4:Bc.size=4:=rfl;unfold Qr.pr Qr.base;cases em q.nd<;>cases em q.tg<;>cases em q.ce<;>simp only[cond_true,cond_false,XP,e1,e2,e3,e4]<;>omega
def Ah(q:Qr):ByteArray×Int:=if q.err≠0 then(⟨#[]⟩,q.err)else if Ao q.pr≠0 then(⟨#[]⟩,Ao q.pr)else(q.pr,0)
theorem Z3{q:Qr}(h:q.err≠0):Ah q=(⟨#[]⟩,q.err):=by simp[Ah,h]
theorem Ga{q:Qr}(h:q.err=0)(h2:Ao q.pr≠0):Ah q=(⟨#[]⟩,Ao q.pr):=by simp[Ah,h,h2]
theorem Hy{q:Qr}(h:q.err=0)(h2:Ao q.pr=0):Ah q=(q.pr,0):=by simp[Ah,h,h2]
end Pl
theorem An9(x:ByteArray):Fun Tryz.prog 89 [.c (.v (.string x))] [.c (.v (.bool (em x)))]:=by
 refine Ar Tr rfl ?_;refine G0 ?_;(exact⟨[],aI⟩)
def fP1:FuncId:=89
theorem Agb(q:Qr)(h:q.err=0):Fun Tryz.prog 48 [.c (.agg q.row)] [.c (.v (.string q.pr))]:=by
 have hj:=Ana h;have hsz:=Ae9 h;have hk:∀l:List ByteArray,l.length≤5→(keep em l).length≤140737488355328:=fun l hl=>XI (List.length_filter_le _ _) (by omega);rw[←hj]at hsz ⊢;refine Ar W3 rfl ?_;refine G1 ?_;intro gg;(refine Aa (fun h1=>?_) (fun h1=>?_)<;>rw[h1])
 ·have e:q.words=[q.nd,Cm,q.ce,Bc]:=by
   have:em q.nd=false:=Dr h1;unfold Qr.words;rw[this];rfl
  rw[e]at hsz ⊢;(refine goI ?_;repeat (intro gg;refine goI ?_));refine⟨by simp[maxLen],by simp,?_⟩;refine G1 ?_;intro gg;(refine .inl ⟨_,_,true,[144],aI,Uh [q.nd,Cm,q.ce,Bc] fP1 em (by simp) (fun x _=>An9 x),(fun _=>fI),nI,?_⟩);refine G1 ?_;intro gg;(refine .inl ⟨_,_,true,[],aI,Vf false (keep em [q.nd,Cm,q.ce,Bc]) dot (hk _ (by simp)) (by omega),(fun _=>fI),nI,?_⟩);refine G1 ?_;intro gg;(exact⟨[],aI⟩)
 ·have e:q.words=[q.tg,q.sv,Br,q.ce,Bc]:=by
   have:em q.nd=true:=Bw h1;unfold Qr.words;rw[this];rfl
  rw[e]at hsz ⊢;(refine goI ?_;repeat (intro gg;refine goI ?_));refine⟨by simp[maxLen],by simp,?_⟩;refine G1 ?_;intro gg;(refine .inl ⟨_,_,true,[224],aI,Uh [q.tg,q.sv,Br,q.ce,Bc] fP1 em (by simp) (fun x _=>An9 x),(fun _=>fI),nI,?_⟩);refine G1 ?_;intro gg;(refine .inl ⟨_,_,true,[],aI,Vf false (keep em [q.tg,q.sv,Br,q.ce,Bc]) dot (hk _ (by simp)) (by omega),(fun _=>fI),nI,?_⟩);refine G1 ?_;intro gg;(exact⟨[],aI⟩)
theorem Ev(q:Qr)(hq:q.ok):Fun Tryz.prog 21 [.c (.agg q.row)] [.c (.v (.string (Ah q).1)),.c (.v (.int .i64 (Ah q).2))]:=by
 refine Ar Abd rfl ?_;refine G1 ?_;intro gg;(refine .inl ⟨_,_,false,[],aI,Abb q hq,Ab,nI,?_⟩);refine G1 ?_;intro gg;(refine Aa (fun h1=>?_) (fun h1=>?_)<;>rw[h1])
 ·have h1':q.err≠0:=by simpa using h1
  rw[Z3 h1'];refine G0 ?_;(exact⟨[],aI⟩)
 ·have h1':q.err=0:=by simpa using h1
  have hsz:=Ae9 h1';refine G0 ?_;(refine .inl ⟨_,_,false,[],aI,Agb q h1',Ab,nI,?_⟩);refine G1 ?_;intro gg;(refine .inl ⟨_,_,false,[],aI,N9 q.pr (by omega),Ab,nI,?_⟩);refine G1 ?_;intro gg;(refine Aa (fun h2=>?_) (fun h2=>?_)<;>rw[h2])
  ·have h2':Ao q.pr≠0:=by simpa using h2
   rw[Ga h1' h2'];refine G0 ?_;(exact⟨[],aI⟩)
  ·have h2':Ao q.pr=0:=by simpa using h2
   rw[Hy h1' h2'];refine G0 ?_;(exact⟨[],aI⟩)
theorem Ks(q:Qr)(hq:q.ok):Fun Tryz.prog 27 [.c (.agg q.row)] [.c (.v (.string (Ah q).1)),.c (.v (.int .i64 (Ah q).2))]:=by
 refine Ar Pt rfl ?_;refine G1 ?_;intro gg;(refine .inl ⟨_,_,false,[],aI,Pd q hq,Ab,nI,?_⟩);refine G1 ?_;intro gg;(refine Aa (fun h1=>?_) (fun h1=>?_)<;>rw[h1])
 ·have h1':q.err≠0:=by simpa using h1
  rw[Z3 h1'];refine G0 ?_;(exact⟨[],aI⟩)
 ·have h1':q.err=0:=by simpa using h1
  have hsz:=Ae9 h1';have hs:=(Qy h1').1;have k1:=hs.sv;have k2:=hs.tg;have k3:=hs.nd;have k4:=hs.ce;have e1:dot.size=1:=rfl;have e2:Jl.size=9:=rfl;have e3:Uj.size=6:=rfl;have e4:Bc.size=4:=rfl;refine G0 ?_;refine⟨by show((q.nd.size+6:Nat):Int)≤_;omega,?_⟩;refine G0 ?_;(refine Aa (fun h2=>?_) (fun h2=>?_)<;>rw[h2])
  ·have h2':em q.nd=true:=h2;refine G0 ?_;refine⟨by show((q.sv.size+9:Nat):Int)≤_;omega,?_⟩;refine G0 ?_;(refine Aa (fun h3=>?_) (fun h3=>?_)<;>rw[h3])
   ·have h3':em q.tg=false:=Dr h3;refine G0 ?_;refine⟨by show((q.tg.size+1:Nat):Int)≤_;omega,?_⟩;refine G0 ?_;refine⟨by show(((q.tg++dot).size+(q.sv++Jl).size:Nat):Int)≤_;simp only[XP,e1,e2,e3];omega,?_⟩;refine G0 ?_;(refine Aa (fun h5=>?_) (fun h5=>?_)<;>rw[h5])
    ·have h5':em q.ce=false:=Dr h5;have e:q.pr=(((q.tg++dot)++(q.sv++Jl))++(q.ce++dot))++Bc:=by unfold Qr.pr Qr.base;rw[h5',h2',h3'];rfl
     refine G0 ?_;refine⟨by show((q.ce.size+1:Nat):Int)≤_;omega,?_⟩;refine G0 ?_;refine⟨by show((((q.tg++dot)++(q.sv++Jl)).size+(q.ce++dot).size:Nat):Int)≤_;simp only[XP,e1,e2,e3];omega,?_⟩;refine G0 ?_;refine⟨by show(((((q.tg++dot)++(q.sv++Jl))++(q.ce++dot)).size+4:Nat):Int)≤_;simp only[XP,e1,e2,e3];omega,?_⟩;have hc:=Ck q.pr (by omega);rw[e]at hc;refine G0 ?_;(refine .inl ⟨_,_,false,[],aI,hc,Ab,nI,?_⟩);rw[←e];refine G1 ?_;intro gg;(refine Aa (fun h6=>?_) (fun h6=>?_)<;>rw[h6])
     ·have h6':Ao q.pr≠0:=by simpa using h6
      rw[Ga h1' h6'];refine G0 ?_;(exact⟨[],aI⟩)
     ·have h6':Ao q.pr=0:=by simpa using h6
      rw[Hy h1' h6',e];refine G0 ?_;(exact⟨[],aI⟩)
    ·have h5':em q.ce=true:=Bw h5;have e:q.pr=((q.tg++dot)++(q.sv++Jl))++Bc:=by unfold Qr.pr Qr.base;rw[h5',h2',h3'];rfl
     refine G0 ?_;refine⟨by show((((q.tg++dot)++(q.sv++Jl)).size+4:Nat):Int)≤_;simp only[XP,e1,e2,e3];omega,?_⟩;have hc:=Ck q.pr (by omega);rw[e]at hc;refine G0 ?_;(refine .inl ⟨_,_,false,[],aI,hc,Ab,nI,?_⟩);rw[←e];refine G1 ?_;intro gg;(refine Aa (fun h6=>?_) (fun h6=>?_)<;>rw[h6])
     ·have h6':Ao q.pr≠0:=by simpa using h6
      rw[Ga h1' h6'];refine G0 ?_;(exact⟨[],aI⟩)
     ·have h6':Ao q.pr=0:=by simpa using h6
      rw[Hy h1' h6',e];refine G0 ?_;(exact⟨[],aI⟩)
   ·have h3':em q.tg=true:=Bw h3;refine G0 ?_;(refine Aa (fun h5=>?_) (fun h5=>?_)<;>rw[h5])
    ·have h5':em q.ce=false:=Dr h5;have e:q.pr=((q.sv++Jl)++(q.ce++dot))++Bc:=by unfold Qr.pr Qr.base;rw[h5',h2',h3'];rfl
     refine G0 ?_;refine⟨by show((q.ce.size+1:Nat):Int)≤_;omega,?_⟩;refine G0 ?_;refine⟨by show(((q.sv++Jl).size+(q.ce++dot).size:Nat):Int)≤_;simp only[XP,e1,e2,e3];omega,?_⟩;refine G0 ?_;refine⟨by show((((q.sv++Jl)++(q.ce++dot)).size+4:Nat):Int)≤_;simp only[XP,e1,e2,e3];omega,?_⟩;have hc:=Ck q.pr (by omega);rw[e]at hc;refine G0 ?_;(refine .inl ⟨_,_,false,[],aI,hc,Ab,nI,?_⟩);rw[←e];refine G1 ?_;intro gg;(refine Aa (fun h6=>?_) (fun h6=>?_)<;>rw[h6])
     ·have h6':Ao q.pr≠0:=by simpa using h6
      rw[Ga h1' h6'];refine G0 ?_;(exact⟨[],aI⟩)
     ·have h6':Ao q.pr=0:=by simpa using h6
      rw[Hy h1' h6',e];refine G0 ?_;(exact⟨[],aI⟩)
    ·have h5':em q.ce=true:=Bw h5;have e:q.pr=(q.sv++Jl)++Bc:=by unfold Qr.pr Qr.base;rw[h5',h2',h3'];rfl
     refine G0 ?_;refine⟨by show(((q.sv++Jl).size+4:Nat):Int)≤_;simp only[XP,e1,e2,e3];omega,?_⟩;have hc:=Ck q.pr (by omega);rw[e]at hc;refine G0 ?_;(refine .inl ⟨_,_,false,[],aI,hc,Ab,nI,?_⟩);rw[←e];refine G1 ?_;intro gg;(refine Aa (fun h6=>?_) (fun h6=>?_)<;>rw[h6])
     ·have h6':Ao q.pr≠0:=by simpa using h6
      rw[Ga h1' h6'];refine G0 ?_;(exact⟨[],aI⟩)
     ·have h6':Ao q.pr=0:=by simpa using h6
      rw[Hy h1' h6',e];refine G0 ?_;(exact⟨[],aI⟩)
  ·have h2':em q.nd=false:=h2;refine G0 ?_;(refine Aa (fun h5=>?_) (fun h5=>?_)<;>rw[h5])
   ·have h5':em q.ce=false:=Dr h5;have e:q.pr=((q.nd++Uj)++(q.ce++dot))++Bc:=by unfold Qr.pr Qr.base;rw[h5',h2'];rfl
    refine G0 ?_;refine⟨by show((q.ce.size+1:Nat):Int)≤_;omega,?_⟩;refine G0 ?_;refine⟨by show(((q.nd++Uj).size+(q.ce++dot).size:Nat):Int)≤_;simp only[XP,e1,e2,e3];omega,?_⟩;refine G0 ?_;refine⟨by show((((q.nd++Uj)++(q.ce++dot)).size+4:Nat):Int)≤_;simp only[XP,e1,e2,e3];omega,?_⟩;have hc:=Ck q.pr (by omega);rw[e]at hc;refine G0 ?_;(refine .inl ⟨_,_,false,[],aI,hc,Ab,nI,?_⟩);rw[←e];refine G1 ?_;intro gg;(refine Aa (fun h6=>?_) (fun h6=>?_)<;>rw[h6])
    ·have h6':Ao q.pr≠0:=by simpa using h6
     rw[Ga h1' h6'];refine G0 ?_;(exact⟨[],aI⟩)
    ·have h6':Ao q.pr=0:=by simpa using h6
     rw[Hy h1' h6',e];refine G0 ?_;(exact⟨[],aI⟩)
   ·have h5':em q.ce=true:=Bw h5;have e:q.pr=(q.nd++Uj)++Bc:=by unfold Qr.pr Qr.base;rw[h5',h2'];rfl
    refine G0 ?_;refine⟨by show(((q.nd++Uj).size+4:Nat):Int)≤_;simp only[XP,e1,e2,e3];omega,?_⟩;have hc:=Ck q.pr (by omega);rw[e]at hc;refine G0 ?_;(refine .inl ⟨_,_,false,[],aI,hc,Ab,nI,?_⟩);rw[←e];refine G1 ?_;intro gg;(refine Aa (fun h6=>?_) (fun h6=>?_)<;>rw[h6])
    ·have h6':Ao q.pr≠0:=by simpa using h6
     rw[Ga h1' h6'];refine G0 ?_;(exact⟨[],aI⟩)
    ·have h6':Ao q.pr=0:=by simpa using h6
     rw[Hy h1' h6',e];refine G0 ?_;(exact⟨[],aI⟩)
namespace Pl
def isW(x:ByteArray):Bool:=bif x.toList==Br.toList then true else x.toList==Cm.toList
structure Tk(l:List ByteArray)(k:Nat):Prop where
 lt:k<l.length
 near:l.length≤k+2
 w:isW (l.getD k ⟨#[]⟩)=true
 last:k+1<l.length→isW (l.getD (k+1) ⟨#[]⟩)=false
theorem Ix{q:Qr}{s:ByteArray}(h:Ah q=(s,0)):q.err=0∧Ao q.pr=0∧q.pr=s:=by
 unfold Ah at h;split at h
 ·rename_i h1;simp only[Prod.mk.injEq]at h;exact absurd h.2 h1
 ·rename_i h1;split at h
  ·rename_i h2;simp only[Prod.mk.injEq]at h;exact absurd h.2 h2
  ·rename_i h2;simp only[Prod.mk.injEq]at h;exact⟨Classical.byContradiction h1,Classical.byContradiction h2,h.1⟩
end Pl
namespace Pl
end Pl

section
variable {P:Program} {w w':World} {R:Nat→Prop}
end
structure Axc(T:TypeId):Prop where
 lies:liesAt Tryz.prog Tryz.prog.depth T (2/Tryz.prog.cellsOf T) 0 118 1=true
 ne:T≠5
namespace Pl
def Aqx(s:ByteArray):List UInt8:=UInt8.ofNat s.size::s.data.toList
def D7(l:List ByteArray):List UInt8:=l.flatMap Aqx
def Bv(s:ByteArray):List UInt8:=D7 (A5 s)++[0]
end Pl
def Aqi(n:Int):List V:=[.v (.int .i64 n)]
instance:FlatRow Aqi:=⟨fun x u hu=>by simp[Aqi]at hu;exact⟨_,hu⟩⟩
namespace Pl
structure Rr where
 nm:ByteArray
 ty:Int
 ls:Int
 ad:Int
 tx:ByteArray
 pt:Int
 tg:ByteArray
structure Ms where
 id:Int
 an:Bool
 ct:Bool
 co:Int
 qn:ByteArray
 qt:Int
 rs:List Rr
structure Rr.Good(r:Rr):Prop where
 nm:Ao r.nm=0
 nmz:r.nm.size≤120
 ty:r.ty=1∨r.ty=16∨r.ty=33
 ls:0≤r.ls∧r.ls≤2147483647
 ad:0≤r.ad∧r.ad≤4294967295
 pt:0≤r.pt∧r.pt≤65535
 tx:r.tx.size≤200
 tg:Ao r.tg=0
 tgz:r.tg.size≤120
structure Ms.Good(m:Ms):Prop where
 id:0≤m.id∧m.id≤65535
 co:0≤m.co∧m.co≤15
 qn:Ao m.qn=0
 qnz:m.qn.size≤120
 qt:m.qt=1∨m.qt=16∨m.qt=33
 len:m.rs.length≤20
 rs:∀r∈m.rs,r.Good
def Rr.row(r:Rr):List V:=[.v (.string r.nm),.v (.int .i64 r.ty),.v (.int .i64 r.ls),.v (.int .i64 r.ad),.v (.string r.tx),.v (.int .i64 r.pt),.v (.string r.tg)]
instance:FlatRow Rr.row:=⟨fun x u hu=>by simp[Rr.row]at hu;rcases hu with rfl|rfl|rfl|rfl|rfl|rfl|rfl<;>exact⟨_,rfl⟩⟩
instance:OneRow Rr.row 7:=⟨fun _=>rfl,fun x u hu=>by simp[Rr.row]at hu;rcases hu with rfl|rfl|rfl|rfl|rfl|rfl|rfl<;>exact⟨_,rfl,rfl⟩⟩
def Ms.row(m:Ms):List V:=[.v (.int .i64 m.id),.v (.bool m.an),.v (.bool m.ct),.v (.int .i64 m.co),.v (.string m.qn),.v (.int .i64 m.qt),.sl false (m.rs.map Rr.row)]
end Pl
namespace Pl
def wIn(n a b:Int):Bool:=bif decide (a≤n)then decide (n≤b)else false
def Fk(t:Int):Bool:=bif (t==1)then true else bif (t==16)then true else(t==33)
def Asz(l:List Int)(x:Int):Bool:=l.any fun w=>x==w
theorem Atx(t:Int):Asz [1,16,33] t=Fk t:=by
 unfold Asz Fk;simp only[List.any_cons,List.any_nil,Bool.or_false];cases (t==1)<;>cases (t==16)<;>rfl
def Rr.un(r:Rr):Bool:=bif (bif (r.ty==1)then true else(r.ad==0))then(bif (bif (r.ty==16)then true else em r.tx)then(bif (r.ty==33)then true else bif (r.pt==0)then em r.tg else false)else false)else false
def Cu(r:Rr):Int:=if Ao r.nm≠0 then Ao r.nm else bif !Fk r.ty then 7 else bif !wIn r.ls 0 2147483647 then 3 else bif !r.un then 1 else bif !wIn r.ad 0 4294967295 then 3 else bif !wIn r.pt 0 65535 then 3 else if 200<r.tx.size then 2 else Ao r.tg
end Pl
theorem Qg(t:Int):Fun Tryz.prog 25 [.c (.v (.int .i64 t))] [.c (.v (.bool (Fk t)))]:=by
 refine Ar Py rfl ?_;refine G0 ?_;(refine Aa (fun h=>?_) (fun h=>?_)<;>rw[h])
 ·refine G0 ?_;rw[show Fk t=true by unfold Fk;rw[show(t==1)=true from h];rfl];(exact⟨[],aI⟩)
 ·refine G0 ?_;(refine Aa (fun h2=>?_) (fun h2=>?_)<;>rw[h2])
  ·refine G0 ?_;rw[show Fk t=true by unfold Fk;rw[show(t==1)=false from h,show(t==16)=true from h2];rfl];(exact⟨[],aI⟩)
  ·refine G0 ?_;rw[show Fk t=(t==33)by unfold Fk;rw[show(t==1)=false from h,show(t==16)=false from h2];rfl];(exact⟨[],aI⟩)
theorem Akf(cl:Bool)(l:List Int)(v:Int)(hl:l.length≤9223372036854775807):
  Fun Tryz.prog 82 [.c (.sl cl (l.map Aqi)),.c (.v (.int .i64 v))] [.c (.v (.int .i64 (at_ (fun w=>v==w) l)))]:=by
 refine Ar Nh rfl ?_;refine G0 ?_;rw[ZE];(refine⟨[],none,{k:Nat//k≤l.length∧∀j,(h:j<l.length)→j<k→(v==l[j])=false},[0,1,7],fun⟨k,hk,h0⟩=>[(8,.v (.int .i64 k))],[],fun⟨k,hk,h0⟩=>[],fun⟨k,hk,h0⟩=>l.length-k,trivial,fun _=>⟨trivial,fun _=>⟨⟨0,by omega,fun j _ h=>by omega⟩,tI,Af _ _,tI,Ae _ _⟩⟩,fun⟨k,hk,h0⟩=>?_⟩);refine G0 ?_;(refine Aa (fun h=>?_) (fun h=>?_)<;>rw[h])
 ·have hlt:k<l.length:=(by have:=ZV h;omega);refine G0 ?_;refine⟨k,_,rfl,Ad hlt,?_⟩;refine G0 ?_;(refine Aa (fun h2=>?_) (fun h2=>?_)<;>rw[h2])
  ·refine G0 ?_;rw[Vq (p:=fun w=>v==w) hlt h0 h2];(exact⟨[],aI⟩)
  ·refine G0 ?_;(exact⟨none,trivial,fun _=>⟨⟨k+1,by omega,up1 (p:=fun j h=>(v==l[j])=false) h0 (fun _=>h2)⟩,by show l.length-(k+1)<l.length-k;omega,tI,tI,tI,tI⟩⟩)
 ·have hge:¬k<l.length:=(by have:=ZW h;omega);refine G0 ?_;rw[Ad9 (p:=fun w=>v==w) (l:=l) (fun i hi=>h0 i hi (by omega))];(exact⟨[],aI⟩)
theorem Ac3(cl:Bool)(l:List Int)(v:Int)(hl:l.length≤9223372036854775807):
  Fun Tryz.prog 44 [.c (.sl cl (l.map Aqi)),.c (.v (.int .i64 v))] [.c (.v (.bool (Asz l v)))]:=by
 refine Ar Kt rfl ?_;refine G0 ?_;(refine .inl ⟨_,_,false,[],aI,Akf cl l v hl,Ab,nI,?_⟩);refine G1 ?_;intro gg;rw[Ajo];(exact⟨[],aI⟩)
theorem Te(t:Int):Fun Tryz.prog 19 [.c (.v (.int .i64 t))] [.c (.v (.bool (Fk t)))]:=by
 have hC:=Ac3 false [1,16,33] t (by simp);rw[Atx]at hC;refine Ar Ace rfl ?_;refine G1 ?_;intro gg;(refine .inl ⟨_,_,true,[],aI,hC,(fun _=>fI),nI,?_⟩);refine G1 ?_;intro gg;(exact⟨[],aI⟩)
namespace Pl
def Cp(l:List Int):Int:=l.foldr (fun e k=>if e≠0 then e else k) 0
structure Ms.Sized(m:Ms):Prop where
 qn:m.qn.size≤1000000000000
 rs:∀r∈m.rs,r.nm.size≤1000000000000∧r.tx.size≤1000000000000∧r.tg.size≤1000000000000
end Pl
theorem M9{l:List Int}{k:Nat}(hk:k<l.length)(h0:∀j,(h:j<l.length)→j<k→l[j]=0)(h:l[k]≠0):Cp l=l[k]:=by
 induction l generalizing k with
 |nil=>simp at hk
 |cons e l ih=>
  cases k with
  |zero=>exact if_pos h
  |succ k=>
   have e0:e=0:=h0 0 (by simp) (by omega);subst e0;exact ih (by simpa using hk) (fun j hj hjk=>h0 (j+1) (by simpa using hj) (by omega)) h
theorem I1{l:List Int}(h0:∀j,(h:j<l.length)→l[j]=0):Cp l=0:=by
 induction l with
 |nil=>rfl
 |cons e l ih=>
  have e0:e=0:=h0 0 (by simp);subst e0;exact ih fun j hj=>h0 (j+1) (by simpa using hj)
namespace Pl
structure Kn where
 here:ByteArray
 l:List Sv
 ms:List Mb
 f:Pc
 wh:List Wh
def Kn.row(k:Kn):List V:=[.v (.string k.here),.sl false (k.l.map Sv.row),.sl false (k.ms.map Mb.row),.v (.int .i64 k.f.x),.v (.int .i64 k.f.y),.v (.int .i64 k.f.z),.v (.int .i64 k.f.h),.v (.int .i64 k.f.s),.sl false (k.wh.map Wh.row)]
structure Kn.In(k:Kn):Prop where
 here:k.here.size≤9223372036854775807
 ll:k.l.length≤9223372036854775807
 lo:∀x∈k.l,x.ok
 ml:k.ms.length≤9223372036854775807
 mo:∀x∈k.ms,x.ok
 wl:k.wh.length≤9223372036854775807
def Kn.err(k:Kn):Int:=bif !lab k.here.data.toList then 1 else if Ei k.l≠0 then Ei k.l else if F6 k.ms≠0 then F6 k.ms else if 20<k.wh.length then 2 else if k.f.err≠0 then k.f.err else Cp (k.wh.map fun w=>w.pl.err)
def Cc(ms:List Mb)(name:ByteArray):Bool:=bif hit (Mb.cf name) ms then(match ms[low (Mb.cf name) ms]? with
 |some m=>decide (3≤m.st)
 |none=>false)else false
def Kn.ask(k:Kn)(q:Qr)(t:Int)(name:ByteArray):List V:=[.v (.string q.sv),.v (.string q.tg),.v (.string q.nd),.v (.string q.ce),.v (.int .i64 t),.v (.string k.here),.sl false (k.l.map Sv.row),.sl false (k.ms.map Mb.row),.v (.int .i64 k.f.x),.v (.int .i64 k.f.y),.v (.int .i64 k.f.z),.v (.int .i64 k.f.h),.v (.int .i64 k.f.s),.sl false (k.wh.map Wh.row),.v (.string name)]
end Pl
end Go.Proofs.YtbnocibpoghfhaaGreatDoor
