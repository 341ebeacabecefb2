/- Texts of this claim, joined. -/
import Derived.Test.YteflnbjmjcbmmaaGreatDoorRows
import Derived.Lib.Walk
import Derived.Lib.SliceRun
import Derived.Lib.JoinLaws
import Derived.Lib.AppendZeros
import Derived.WalkSpells
import Derived.Lib.ItoaLen
import Derived.Test.YteflnbjmjcbmmaaGreatDoorWAbsK
import Derived.Test.YteflnbjmjcbmmaaGreatDoorProg
import Derived.Test.YteflnbjmjcbmmaaGreatDoorWAbsQ
import Derived.KernelRfl
import Derived.Test.YteflnbjmjcbmmaaGreatDoorYa
import Derived.Test.YteflnbjmjcbmmaaGreatDoorYb
set_option linter.unusedSimpArgs false
set_option linter.unusedVariables false
namespace Go.Proofs.YteflnbjmjcbmmaaGreatDoor
open Go.RowKit Pl
theorem Mh[Glob](n a b:Int):Fun Tryz.prog 81 [.c (.v (.int .i64 n)),.c (.v (.int .i64 a)),.c (.v (.int .i64 b))] [.c (.v (.bool (wi n a b)))]:=by
 refine A9 Rv rfl ?_;(refine goI ?_;repeat (intro gg;refine goI ?_));(refine Ab (fun h=>?_) (fun h=>?_)<;>rw[h])
 ·(refine goI ?_;repeat (intro gg;refine goI ?_));rw[Ae9 h];(exact⟨[],aI⟩)
 ·(refine goI ?_;repeat (intro gg;refine goI ?_));rw[Afd h];(exact⟨[],aI⟩)
theorem Te[Glob](n:Int):Fun Tryz.prog 80 [.c (.v (.int .i64 n))] [.c (.v (.bool (wi n (-10000000) 10000000)))]:=by
 refine A9 P1 rfl ?_;(refine goI ?_;repeat (intro gg;refine goI ?_));refine .inl (cX (Mh _ _ _) ?_);(refine goI ?_;repeat (intro gg;refine goI ?_));(exact⟨[],aI⟩)
theorem Afu{x y z h s:Int}(h1:wi x (-10000000) 10000000=true)(h2:wi y (-10000000) 10000000=true)(h3:wi z (-10000000) 10000000=true)(h4:wi h 0 1000000=true)(h5:wi s 0 1000=true):Zf x y z h s=0:=by simp[Zf,Aen,h1,h2,h3,h4,h5]
theorem J8{x y z h s:Int}(h1:wi x (-10000000) 10000000=false∨wi y (-10000000) 10000000=false∨wi z (-10000000) 10000000=false∨wi h 0 1000000=false∨wi s 0 1000=false):Zf x y z h s=3:=by
 rcases h1 with h|h|h|h|h<;>simp[Zf,Aen,h]
theorem Aa6[Glob](p:Pc):Fun Tryz.prog 62 [.c (.agg p.row)] [.c (.v (.int .i64 p.err))]:=by
 refine A9 Ss rfl ?_;(refine goI ?_;repeat (intro gg;refine goI ?_));refine .inl (cX (Te _) ?_);(refine goI ?_;repeat (intro gg;refine goI ?_));(refine Ab (fun h1=>?_) (fun h1=>?_)<;>rw[h1])
 ·(refine goI ?_;repeat (intro gg;refine goI ?_));rw[show p.err=3 from J8 (.inl (Ey h1))];(exact⟨[],aI⟩)
 ·(refine goI ?_;repeat (intro gg;refine goI ?_));refine .inl (cX (Te _) ?_);(refine goI ?_;repeat (intro gg;refine goI ?_));(refine Ab (fun h2=>?_) (fun h2=>?_)<;>rw[h2])
  ·(refine goI ?_;repeat (intro gg;refine goI ?_));rw[show p.err=3 from J8 (.inr (.inl (Ey h2)))];(exact⟨[],aI⟩)
  ·(refine goI ?_;repeat (intro gg;refine goI ?_));refine .inl (cX (Te _) ?_);(refine goI ?_;repeat (intro gg;refine goI ?_));(refine Ab (fun h3=>?_) (fun h3=>?_)<;>rw[h3])
   ·(refine goI ?_;repeat (intro gg;refine goI ?_));rw[show p.err=3 from J8 (.inr (.inr (.inl (Ey h3))))];(exact⟨[],aI⟩)
   ·(refine goI ?_;repeat (intro gg;refine goI ?_));refine .inl (cX (Mh _ _ _) ?_);(refine goI ?_;repeat (intro gg;refine goI ?_));(refine Ab (fun h4=>?_) (fun h4=>?_)<;>rw[h4])
    ·(refine goI ?_;repeat (intro gg;refine goI ?_));rw[show p.err=3 from J8 (.inr (.inr (.inr (.inl (Ey h4)))))];(exact⟨[],aI⟩)
    ·(refine goI ?_;repeat (intro gg;refine goI ?_));refine .inl (cX (Mh _ _ _) ?_);(refine goI ?_;repeat (intro gg;refine goI ?_));(refine Ab (fun h5=>?_) (fun h5=>?_)<;>rw[h5])
     ·(refine goI ?_;repeat (intro gg;refine goI ?_));rw[show p.err=3 from J8 (.inr (.inr (.inr (.inr (Ey h5)))))];(exact⟨[],aI⟩)
     ·(refine goI ?_;repeat (intro gg;refine goI ?_));rw[show p.err=0 from Afu (Eo h1) (Eo h2) (Eo h3) (Eo h4) (Eo h5)];(exact⟨[],aI⟩)
theorem Aa4[Glob](c:Bool)(l:List Wh)(hl:l.length≤9223372036854775807)(hw:∀x∈l,x.ok):Fun Tryz.prog 30 [.c (.sl c (l.map Wh.row))] [.c (.v (.int .i64 (I7 l)))]:=by
 refine A9 P2 rfl ?_;(refine goI ?_;repeat (intro gg;refine goI ?_));rw[ZE];(refine Ab (fun h1=>?_) (fun h1=>?_)<;>rw[h1])
 ·(refine goI ?_;repeat (intro gg;refine goI ?_));have e:I7 l=2:=Ge (by have:=ZV h1;omega);rw[e];(exact⟨[],aI⟩)
 ·have h1':¬20<l.length:=(by have:=ZW h1;omega);(refine goI ?_;repeat (intro gg;refine goI ?_));rw[ZE];(refine⟨[],none,{k:Nat//k≤l.length∧∀j,(h:j<l.length)→j<k→Wh.err l[j]=0},[0,10,11],fun⟨k,hk,h0⟩=>[(12,.v (.int .i64 k))],[],fun⟨k,hk,h0⟩=>[],fun⟨k,hk,h0⟩=>l.length-k,trivial,fun _=>⟨trivial,fun _=>⟨⟨0,ZU _,fun j _ h=>absurd h (Nat.not_lt_zero _)⟩,tI,Aj _ _,tI,Ai _ _⟩⟩,fun⟨k,hk,h0⟩=>?_⟩);(refine goI ?_;repeat (intro gg;refine goI ?_));(refine Ab (fun h2=>?_) (fun h2=>?_)<;>rw[h2])
  ·have hlt:k<l.length:=(by have:=ZV h2;omega);(refine goI ?_;repeat (intro gg;refine goI ?_));refine⟨k,_,rfl,Ap hlt,?_⟩;(refine goI ?_;repeat (intro gg;refine goI ?_));have hx:=hw _ (ZK hlt);refine .inl (cX (Ez (l[k]).nd hx) ?_);(refine goI ?_;repeat (intro gg;refine goI ?_));have HE:=Br (e:=Wh.err) hlt h0;(refine Ab (fun h3=>?_) (fun h3=>?_)<;>rw[h3])
   ·have h3':lab (l[k]).nd.data.toList=false:=Ey h3;(refine goI ?_;repeat (intro gg;refine goI ?_));have e1:Wh.err l[k]=1:=by unfold Wh.err;rw[h3'];rfl
    have e:I7 l=1:=by unfold I7;rw[Cx h1' (by rw[HE (by rw[e1];decide),e1];decide),HE (by rw[e1];decide),e1]
    rw[e];(exact⟨[],aI⟩)
   ·have h3':lab (l[k]).nd.data.toList=true:=Eo h3;have e1:Wh.err l[k]=(l[k]).pl.err:=by unfold Wh.err;rw[h3'];rfl
    (refine goI ?_;repeat (intro gg;refine goI ?_));refine .inl (cX (Aa6 (l[k]).pl) ?_);(refine goI ?_;repeat (intro gg;refine goI ?_));(refine Ab (fun h4=>?_) (fun h4=>?_)<;>rw[h4])
    ·have h4':(l[k]).pl.err≠0:=by simpa using h4
     (refine goI ?_;repeat (intro gg;refine goI ?_));have e:I7 l=(l[k]).pl.err:=by unfold I7;rw[Cx h1' (by rw[HE (by rw[e1];exact h4'),e1];exact h4'),HE (by rw[e1];exact h4'),e1]
     rw[e];(exact⟨[],aI⟩)
    ·have h4':(l[k]).pl.err=0:=by simpa using h4
     (refine goI ?_;repeat (intro gg;refine goI ?_));(exact⟨none,trivial,fun _=>⟨⟨k+1,by omega,up1 (p:=fun j h=>Wh.err l[j]=0) h0 (fun _=>e1.trans h4')⟩,by show l.length-(k+1)<l.length-k;omega,tI,tI,tI,tI⟩⟩)
  ·have hge:¬k<l.length:=(by have:=ZW h2;omega);have h2':Am Wh.err l=0:=Bc fun i hi=>h0 i hi (by omega);(refine goI ?_;repeat (intro gg;refine goI ?_));(refine⟨[],none,{q:Nat//(q<l.length∨q=0)∧∀i,(h:i+1<l.length)→i<q→Wh.lt l[i] l[i+1]=true},[0],fun⟨q,hq,g0⟩=>[(6,.v (.int .i64 ((q:Int)+1)))],[],fun⟨q,hq,g0⟩=>[],fun⟨q,hq,g0⟩=>l.length-q,trivial,fun _=>⟨trivial,fun _=>⟨⟨0,by omega,fun j _ h=>by omega⟩,tI,Aj _ _,tI,Ai _ _⟩⟩,fun⟨q,hq,g0⟩=>?_⟩);(refine goI ?_;repeat (intro gg;refine goI ?_));rw[ZE];(refine Ab (fun h3=>?_) (fun h3=>?_)<;>rw[h3])
   ·have hlt3:q+1<l.length:=(by have:=ZV h3;omega);(refine goI ?_;repeat (intro gg;refine goI ?_));refine⟨q+1,_,by omega,Ap hlt3,?_⟩;(refine goI ?_;repeat (intro gg;refine goI ?_));refine⟨q,_,by omega,Ap (by omega),?_⟩;(refine goI ?_;repeat (intro gg;refine goI ?_));rw[Qw];(refine Ab (fun h4=>?_) (fun h4=>?_)<;>rw[h4])
    ·(refine goI ?_;repeat (intro gg;refine goI ?_));have e:I7 l=4:=Ma h1' h2' (Dn hlt3 (by simpa[Wh.lt]using h4));rw[e];(exact⟨[],aI⟩)
    ·(refine goI ?_;repeat (intro gg;refine goI ?_));(exact⟨none,trivial,fun _=>⟨⟨q+1,by omega,up2 (p:=fun i h=>Wh.lt l[i] l[i+1]=true) g0 (fun _=>by simpa[Wh.lt]using h4)⟩,by show l.length-(q+1)<l.length-q;omega,tI,tI,tI,tI⟩⟩)
   ·have hge3:¬q+1<l.length:=(by have:=ZW h3;omega);(refine goI ?_;repeat (intro gg;refine goI ?_));have e:I7 l=0:=Jh h1' h2' (Dv fun i hi=>g0 i hi (by omega));rw[e];(exact⟨[],aI⟩)
def Aha(x:Int):List V:=[.v (.int .i64 x)]
instance:FlatRow Aha:=⟨fun x u hu=>by simp[Aha]at hu;subst hu;exact⟨_,rfl⟩⟩

namespace Pl
def Sv.at_(s:Sv)(v:Int):Sv:=⟨s.nd,s.id,s.nm,s.tg,s.ad,s.pt,s.ps,v,s.gn⟩
end Pl
theorem Adc [Glob] (c d : Bool) (a b : List Sv) (ha : a.length ≤ 9223372036854775807) : Fun Tryz.prog 38 [.c (.sl c (a.map Sv.row)), .c (.sl d (b.map Sv.row))] [.c (.v (.bool (L8 Sv.same a b)))] := by
  refine A9 Ik rfl ?_
  (refine goI ?_; repeat (intro gg; refine goI ?_))
  rw [ZE, ZE]
  (refine Ab (fun h => ?_) (fun h => ?_) <;> rw [h])
  · (refine goI ?_; repeat (intro gg; refine goI ?_))
    rw [Pp (fun e => by rw [e] at h; simp at h)]
    (exact ⟨[], aI⟩)
  · have hab : a.length = b.length := by have h' : ((a.length : Int) != (b.length : Int)) = false := h
                                         simp at h'; omega
    (refine goI ?_; repeat (intro gg; refine goI ?_))
    (refine ⟨[], none, {k : Nat // k ≤ a.length ∧ ∀ j, (h : j < a.length) → j < k → Sv.same a[j] (b[j]'(by omega)) = true}, [0, 1], fun ⟨k, hk, h0⟩ => [(5, .v (.int .i64 k))], [], fun ⟨k, hk, h0⟩ => [], fun ⟨k, hk, h0⟩ => a.length - k, trivial, fun _ => ⟨trivial, fun _ => ⟨⟨0, by omega, fun j _ h => by omega⟩, tI, Aj _ _, tI, Ai _ _⟩⟩, fun ⟨k, hk, h0⟩ => ?_⟩)
    (refine goI ?_; repeat (intro gg; refine goI ?_))
    rw [ZE]
    (refine Ab (fun h2 => ?_) (fun h2 => ?_) <;> rw [h2])
    · have hlt : k < a.length := (by have := ZV h2; omega)
      have hlt' : k < b.length := by omega
      (refine goI ?_; repeat (intro gg; refine goI ?_))
      refine ⟨k, _, rfl, Ap hlt, ?_⟩
      (refine goI ?_; repeat (intro gg; refine goI ?_))
      refine ⟨k, _, rfl, Ap hlt', ?_⟩
      (refine goI ?_; repeat (intro gg; refine goI ?_))
      (refine Ab (fun h3 => ?_) (fun h3 => ?_) <;> rw [h3])
      · (refine goI ?_; repeat (intro gg; refine goI ?_))
        rw [Ow hlt hlt' (Ey (b := Sv.same a[k] b[k]) h3)]
        (exact ⟨[], aI⟩)
      · (refine goI ?_; repeat (intro gg; refine goI ?_))
        (exact ⟨none, trivial, fun _ => ⟨⟨k + 1, by omega, up1 (p := fun j h => Sv.same a[j] (b[j]'(by omega)) = true) h0 (fun _ => Eo (b := Sv.same a[k] b[k]) h3)⟩, by show a.length - (k + 1) < a.length - k; omega, tI, tI, tI, tI⟩⟩)
    · have hge : ¬ k < a.length := (by have := ZW h2; omega)
      (refine goI ?_; repeat (intro gg; refine goI ?_))
      rw [K3 hab (fun i hi _ => h0 i hi (by omega))]
      (exact ⟨[], aI⟩)
theorem Ad9 [Glob] (c d : Bool) (a b : List Gw) (ha : a.length ≤ 9223372036854775807) : Fun Tryz.prog 39 [.c (.sl c (a.map Gw.row)), .c (.sl d (b.map Gw.row))] [.c (.v (.bool (L8 Gw.same a b)))] := by
  refine A9 Hr rfl ?_
  (refine goI ?_; repeat (intro gg; refine goI ?_))
  rw [ZE, ZE]
  (refine Ab (fun h => ?_) (fun h => ?_) <;> rw [h])
  · (refine goI ?_; repeat (intro gg; refine goI ?_))
    rw [Pp (fun e => by rw [e] at h; simp at h)]
    (exact ⟨[], aI⟩)
  · have hab : a.length = b.length := by have h' : ((a.length : Int) != (b.length : Int)) = false := h
                                         simp at h'; omega
    (refine goI ?_; repeat (intro gg; refine goI ?_))
    (refine ⟨[], none, {k : Nat // k ≤ a.length ∧ ∀ j, (h : j < a.length) → j < k → Gw.same a[j] (b[j]'(by omega)) = true}, [0, 1], fun ⟨k, hk, h0⟩ => [(5, .v (.int .i64 k))], [], fun ⟨k, hk, h0⟩ => [], fun ⟨k, hk, h0⟩ => a.length - k, trivial, fun _ => ⟨trivial, fun _ => ⟨⟨0, by omega, fun j _ h => by omega⟩, tI, Aj _ _, tI, Ai _ _⟩⟩, fun ⟨k, hk, h0⟩ => ?_⟩)
    (refine goI ?_; repeat (intro gg; refine goI ?_))
    rw [ZE]
    (refine Ab (fun h2 => ?_) (fun h2 => ?_) <;> rw [h2])
    · have hlt : k < a.length := (by have := ZV h2; omega)
      have hlt' : k < b.length := by omega
      (refine goI ?_; repeat (intro gg; refine goI ?_))
      refine ⟨k, _, rfl, Ap hlt, ?_⟩
      (refine goI ?_; repeat (intro gg; refine goI ?_))
      refine ⟨k, _, rfl, Ap hlt', ?_⟩
      (refine goI ?_; repeat (intro gg; refine goI ?_))
      (refine Ab (fun h3 => ?_) (fun h3 => ?_) <;> rw [h3])
      · (refine goI ?_; repeat (intro gg; refine goI ?_))
        rw [Ow hlt hlt' (Ey (b := Gw.same a[k] b[k]) h3)]
        (exact ⟨[], aI⟩)
      · (refine goI ?_; repeat (intro gg; refine goI ?_))
        (exact ⟨none, trivial, fun _ => ⟨⟨k + 1, by omega, up1 (p := fun j h => Gw.same a[j] (b[j]'(by omega)) = true) h0 (fun _ => Eo (b := Gw.same a[k] b[k]) h3)⟩, by show a.length - (k + 1) < a.length - k; omega, tI, tI, tI, tI⟩⟩)
    · have hge : ¬ k < a.length := (by have := ZW h2; omega)
      (refine goI ?_; repeat (intro gg; refine goI ?_))
      rw [K3 hab (fun i hi _ => h0 i hi (by omega))]
      (exact ⟨[], aI⟩)




namespace Pl
structure Pk where
 fr:ByteArray
 wo:Bool
 ms:List Mb
 sv:List Sv
 gs:List Gw
 wh:List Wh
def Pk.row(p:Pk):List V:=[.v (.string p.fr),.v (.bool p.wo),.sl false (p.ms.map Mb.row),.sl false (p.sv.map Sv.row),.sl false (p.gs.map Gw.row),.sl false (p.wh.map Wh.row)]
structure Pk.ok(p:Pk):Prop where
 fr:p.fr.size≤9223372036854775807
 msl:p.ms.length≤9223372036854775807
 ms:∀x∈p.ms,x.ok
 svl:p.sv.length≤1000000000000000
 sv:∀x∈p.sv,x.ok
 gsl:p.gs.length≤1000000000000000
 gs:∀x∈p.gs,x.ok
 whl:p.wh.length≤1000000000000000
 wh:∀x∈p.wh,x.ok
def pk0:Pk:=⟨⟨#[]⟩,false,[],[],[],[]⟩
end Pl
section
open Go Go.Lib
namespace Pl
def Fh(s:ByteArray):List UInt8:=A8 s.size++s.data.toList
def E5(b:Bool):List UInt8:=A8 (if b then 1 else 0)
def Fk(s:ByteArray):Option (ByteArray×ByteArray):=(Cd s).bind fun p=>if p.1<0∨(p.2.size:Int)<p.1 then none else some (p.2.extract 0 p.1.toNat,p.2.extract p.1.toNat p.2.size)
def Kg(s:ByteArray):Option (Bool×ByteArray):=(Cd s).bind fun p=>if p.1<0∨1<p.1 then none else some (decide (p.1=1),p.2)
def Ea{α:Type}(one:ByteArray→Option (α×ByteArray)):Nat→ByteArray→Option (List α×ByteArray)
 |0,s=>some ([],s)
 |k+1,s=>(one s).bind fun p=>(Ea one k p.2).bind fun q=>some (p.1::q.1,q.2)
def Hv(most:Int)(s:ByteArray):Option (Nat×ByteArray):=(Cd s).bind fun p=>if p.1<0∨most<p.1 then none else some (p.1.toNat,p.2)
def Ef{α:Type}(most:Int)(one:ByteArray→Option (α×ByteArray))(s:ByteArray):Option (List α×ByteArray):=(Hv most s).bind fun p=>Ea one p.1 p.2
def Tf{α:Type}(enc:α→List UInt8)(l:List α):List UInt8:=A8 l.length++l.flatMap enc
structure Fm{α:Type}(ok:α→Prop)(enc:α→List UInt8)(dec:ByteArray→Option (α×ByteArray)):Prop where
 back:∀x r,ok x→dec (bA (enc x++r))=some (x,bA r)
 some:∀s p,dec s=some p→ok p.1∧s.data.toList=enc p.1++p.2.data.toList
theorem Fy:Fm isI A8 Cd:=⟨fun x r h=>Hg h r,fun s p h=>F5 h⟩
theorem Li:Fm (fun s:ByteArray=>s.size≤9223372036854775807) Fh Fk:=by
 refine⟨fun x r h=>?_,fun s p h=>?_⟩
 ·unfold Fk Fh;rw[ZS,Hg (n:=(x.size:Int)) ⟨by omega,by omega⟩];simp only[ZA];have hl:x.data.toList.length=x.size:=by simp
  rw[if_neg (by rw[Ax,ZF,hl];omega),Int.toNat_natCast,Ek,Ek,Ax,XF,List.drop_zero,←hl,List.take_left,List.drop_left,Q3]
 ·unfold Fk at h;cases hn:Cd s with
  |none=>rw[hn]at h;cases h
  |some q=>
   rw[hn]at h;simp only[ZA]at h;split at h
   ·cases h
   ·rename_i hc;injection h with h
    subst h;obtain⟨⟨b0,b1⟩,hq⟩:=F5 hn;obtain⟨n,r⟩:=q;simp only at hc b0 b1 hq ⊢;obtain⟨k,rfl⟩:=Int.eq_ofNat_of_zero_le (show 0≤n by omega);have hr:r=bA r.data.toList:=(Q3 r).symm;generalize r.data.toList=l at *;subst hr;rw[Ax]at hc;have e1:(bA l).extract 0 k=bA (l.take k):=by rw[Ek,List.drop_zero]
    have e2:(bA l).extract k (bA l).size=bA (l.drop k):=by rw[Ek,Ax,XF]
    rw[Int.toNat_natCast,e1,e2];have hk:(bA (l.take k)).size=k:=by rw[Ax,ZM];omega
    refine⟨by rw[hk];omega,?_⟩;unfold Fh;rw[hk,Jl,Jl,hq,ZS,List.take_append_drop]
theorem Tm:Fm (fun _:Bool=>True) E5 Kg:=by
 refine⟨fun x r h=>?_,fun s p h=>⟨trivial,?_⟩⟩
 ·unfold Kg E5;cases x
  ·have h:=Hg (n:=0) (by unfold isI;omega) r;show(Cd (bA (A8 0++r))).bind _=_;rw[h];rfl
  ·have h:=Hg (n:=1) (by unfold isI;omega) r;show(Cd (bA (A8 1++r))).bind _=_;rw[h];rfl
 ·unfold Kg at h;cases hn:Cd s with
  |none=>rw[hn]at h;cases h
  |some q=>
   rw[hn]at h;simp only[ZA]at h;split at h
   ·cases h
   ·rename_i hc;injection h with h
    subst h;obtain⟨_,hq⟩:=F5 hn;rw[hq];unfold E5;by_cases h1:q.1=1
    ·simp[h1]
    ·have:q.1=0:=by omega
     simp[this]
def Gy{α β:Type}(f:ByteArray→Option (α×ByteArray))(g:ByteArray→Option (β×ByteArray))(s:ByteArray):Option ((α×β)×ByteArray):=(f s).bind fun p=>(g p.2).bind fun q=>some ((p.1,q.1),q.2)
theorem B6{α β:Type}{ok:α→Prop}{ok':β→Prop}{enc:α→List UInt8}{enc':β→List UInt8}{dec:ByteArray→Option (α×ByteArray)}{dec':ByteArray→Option (β×ByteArray)}(h:Fm ok enc dec)(h':Fm ok' enc' dec'):
  Fm (fun p:α×β=>ok p.1∧ok' p.2) (fun p=>enc p.1++enc' p.2) (Gy dec dec'):=by
 refine⟨fun x r hx=>?_,fun s p hp=>?_⟩
 ·unfold Gy;rw[ZS,h.back _ _ hx.1];simp only[ZA];rw[h'.back _ _ hx.2];rfl
 ·unfold Gy at hp;cases h1:dec s with
  |none=>rw[h1]at hp;cases hp
  |some q=>
   rw[h1]at hp;simp only[ZA]at hp;cases h2:dec' q.2 with
   |none=>rw[h2]at hp;cases hp
   |some u=>
    rw[h2]at hp;simp only[ZA,ZD]at hp;subst hp;obtain⟨a1,a2⟩:=h.some _ _ h1;obtain⟨b1,b2⟩:=h'.some _ _ h2;exact⟨⟨a1,b1⟩,by rw[a2,b2,ZS]⟩
theorem Uk{α β:Type}{ok:α→Prop}{ok':β→Prop}{enc:α→List UInt8}{enc':β→List UInt8}{dec:ByteArray→Option (α×ByteArray)}{dec':ByteArray→Option (β×ByteArray)}(h:Fm ok enc dec)(to:α→β)(of:β→α)(e1:∀x,to (of x)=x)(e2:∀x,of (to x)=x)(ho:∀x,ok' x↔ok (of x))(he:∀x,enc' x=enc (of x))(hd:∀s,dec' s=(dec s).map fun p=>(to p.1,p.2)):Fm ok' enc' dec':=by
 refine⟨fun x r hx=>?_,fun s p hp=>?_⟩
 ·rw[hd,he,h.back _ _ ((ho x).1 hx)];simp[e1]
 ·rw[hd]at hp;cases h1:dec s with
  |none=>rw[h1]at hp;cases hp
  |some q=>
   rw[h1]at hp;simp only[Option.map_some,ZD]at hp;subst hp;obtain⟨a1,a2⟩:=h.some _ _ h1;exact⟨(ho _).2 (by rw[e2];exact a1),by rw[he,e2];exact a2⟩
theorem Zu{α:Type}{ok:α→Prop}{enc:α→List UInt8}{dec:ByteArray→Option (α×ByteArray)}(h:Fm ok enc dec):∀(k:Nat),Fm (fun l:List α=>l.length=k∧∀x∈l,ok x) (fun l=>l.flatMap enc) (Ea dec k)
 |0=>⟨fun x r hx=>by
   obtain rfl:x=[]:=List.length_eq_zero_iff.1 hx.1;rfl,fun s p hp=>by
   simp only[Ea,ZD]at hp;subst hp;exact⟨⟨rfl,fun x hx=>by cases hx⟩,rfl⟩⟩
 |k+1=>by
  have ih:=Zu h k;refine⟨fun x r hx=>?_,fun s p hp=>?_⟩
  ·match x,hx with
   |a::l,hx=>
    show(dec (bA ((enc a++l.flatMap enc)++r))).bind _=_;rw[ZS,h.back _ _ (hx.2 a (XB ..))];simp only[ZA];rw[ih.back l r ⟨by simpa using hx.1,fun y hy=>hx.2 y (ZL _ hy)⟩];rfl
  ·have hp:(dec s).bind (fun p=>(Ea dec k p.2).bind fun q=>some (p.1::q.1,q.2))=some p:=hp;cases h1:dec s with
   |none=>rw[h1]at hp;cases hp
   |some q=>
    rw[h1]at hp;simp only[ZA]at hp;cases h2:Ea dec k q.2 with
    |none=>rw[h2]at hp;cases hp
    |some u=>
     rw[h2]at hp;simp only[ZA,ZD]at hp;subst hp;obtain⟨a1,a2⟩:=h.some _ _ h1;obtain⟨b1,b2⟩:=ih.some _ _ h2;refine⟨⟨by simp[b1.1],fun y hy=>?_⟩,?_⟩
     ·rcases XC.1 hy with rfl|hy
      ·exact a1
      ·exact b1.2 y hy
     ·show s.data.toList=(enc q.1++u.1.flatMap enc)++u.2.data.toList;rw[a2,b2,ZS]
theorem Wf{α:Type}{ok:α→Prop}{enc:α→List UInt8}{dec:ByteArray→Option (α×ByteArray)}(h:Fm ok enc dec)(most:Int)(hm:most≤1000000):Fm (fun l:List α=>(l.length:Int)≤most∧∀x∈l,ok x) (Tf enc) (Ef most dec):=by
 refine⟨fun l r hx=>?_,fun s p hp=>?_⟩
 ·unfold Ef Hv Tf;rw[ZS,Hg ⟨by omega,by omega⟩];simp only[ZA];rw[if_neg (by omega),Int.toNat_natCast];exact(Zu h l.length).back l r ⟨rfl,hx.2⟩
 ·unfold Ef Hv at hp;cases h1:Cd s with
  |none=>rw[h1]at hp;cases hp
  |some q=>
   rw[h1]at hp;simp only[ZA]at hp;obtain⟨hb,hq⟩:=F5 h1;split at hp
   ·cases hp
   ·rename_i hc;obtain⟨c1,c2⟩:=(Zu h q.1.toNat).some _ _ hp;have e:((q.1.toNat:Nat):Int)=q.1:=Int.toNat_of_nonneg (by omega);refine⟨⟨by omega,c1.2⟩,?_⟩;unfold Tf;rw[hq,c2,c1.1,e,ZS]
end Pl
end
open Go
abbrev pwT:TypeId:=83
theorem Ajv:Ak1 pwT:=⟨by kernel_rfl,by decide⟩
def Aaf(n:Int):List V:=[.v (.int .i64 n)]
instance:FlatRow Aaf:=⟨fun x u hu=>by simp[Aaf]at hu;exact⟨_,hu⟩⟩
def tRw(s:ByteArray):List V:=[.v (.string s)]
instance:FlatRow tRw:=⟨fun x u hu=>by simp[tRw]at hu;exact⟨_,hu⟩⟩
namespace Pl
def Az(ns:List Int):List UInt8:=ns.flatMap A8
def B4(l:List ByteArray):List UInt8:=l.flatMap Fh
theorem Du{α:Type}{f:α→List UInt8}{l:List α}{k:Nat}(hk:k<l.length):(l.take (k+1)).flatMap f=(l.take k).flatMap f++f l[k]:=by
 rw[XT,ZC hk,List.flatMap_append];simp
theorem Av{n:Int}(h:isI n):(A8 n).length≤22:=by
 have:=Lib.itoa_length_le n h.1 h.2;unfold A8;rw[ZF];simp only[ZJ,ZN];omega
theorem Ec{α:Type}{f:α→List UInt8}{m:Nat}:∀{l:List α},(∀x∈l,(f x).length≤m)→(l.flatMap f).length≤m*l.length
 |[],_=>by simp
 |x::l,h=>by
  have h1:=Ec (l:=l) fun y hy=>h y (ZL _ hy);have h2:=h x (XB ..);rw[List.flatMap_cons,ZF,ZJ,Nat.mul_add];omega
theorem Aev(l:List UInt8):((⟨l.toArray⟩:ByteArray)++⟨#[59]⟩).data.toList=l++[59]:=by simp
end Pl
theorem Cc[Glob][Tabs](l:List UInt8)(c:Bool)(ns:List Int)(h:∀n∈ns,isI n)(hn:ns.length≤100)(hl:l.length≤100000000000):E8 Tryz.prog 45 [.mo (Dg pwT l) (Dg pwT (l++Az ns)),.p (.c (.sl c (ns.map Aaf)))] []:=by
 refine L7 Jx rfl rfl (N3 rfl) ?_;(refine goI ?_;repeat (intro gg;refine goI ?_));rw[ZE];(refine⟨[],none,{k:Nat//k≤ns.length},[0,6,7],fun⟨k,hk⟩=>[(8,.v (.int .i64 k))],[],fun⟨k,hk⟩=>[(0,⟨0,.q (Dg pwT (l++Az (ns.take k))),0,[]⟩)],fun⟨k,hk⟩=>ns.length-k,trivial,fun _=>⟨trivial,fun _=>⟨⟨0,by omega⟩,tI,Aj _ _,?_,Ai _ _⟩⟩,fun⟨k,hk⟩=>?_⟩;focus (exact⟨congrArg (fun r=>some (Ent.mk 0 (.q (Dg pwT r)) 0 [])) (show l=l++Az (ns.take 0)by simp[Az]),trivial⟩));(refine goI ?_;repeat (intro gg;refine goI ?_));(refine Ab (fun h1=>?_) (fun h1=>?_)<;>rw[h1])
 ·have hlt:k<ns.length:=(by have:=ZV h1;omega);have hI:=h _ (ZK hlt);have hlen:(Az (ns.take k)).length≤22*100:=by
   have h1:=Ec (f:=A8) (m:=22) (l:=ns.take k) fun x hx=>Av (h x (List.mem_of_mem_take hx));rw[ZM]at h1;have:min k ns.length≤100:=by omega
   exact XI h1 (Nat.mul_le_mul_left 22 this)
  have hsz:=Lib.itoa_length_le ns[k] hI.1 hI.2;have e:l++Az (ns.take k)++(⟨(Lib.itoa ns[k]).toArray⟩++⟨#[59]⟩:ByteArray).data.toList=l++Az (ns.take (k+1)):=by unfold Az;rw[Du hlt,ZS,Aev];rfl
  (refine goI ?_;repeat (intro gg;refine goI ?_));refine⟨k,_,rfl,Ap hlt,?_⟩;(refine goI ?_;repeat (intro gg;refine goI ?_));(refine⟨_,_,false,aI,Ul ns[k] hI.1 hI.2,Ak,nI,?_⟩);(refine goI ?_;repeat (intro gg;refine goI ?_));refine⟨by show(((Lib.itoa ns[k]).toArray.size+1:Nat):Int)≤_;rw[List.size_toArray];omega,?_⟩;(refine goI ?_;repeat (intro gg;refine goI ?_));(refine .inr (.inl ⟨_,_,false,[0],aM,Yb Ajv (l++Az (ns.take k)) (⟨(Lib.itoa ns[k]).toArray⟩++⟨#[59]⟩) (by rw[ZF];show _+_+((⟨(Lib.itoa ns[k]).toArray⟩++⟨#[59]⟩:ByteArray)).size≤_;rw[XP];show _+_+((Lib.itoa ns[k]).toArray.size+1)≤_;rw[List.size_toArray];omega),Ak,oI,dI,?_⟩));(refine goI ?_;repeat (intro gg;refine goI ?_));(exact⟨none,trivial,fun gr=>⟨⟨k+1,by omega⟩,by show ns.length-(k+1)<ns.length-k;omega,tI,tI,⟨congrArg (fun r=>some (Ent.mk 0 (.q (Dg pwT r)) 0 [])) e,trivial⟩,tI⟩⟩)
 ·have hge:¬k<ns.length:=(by have:=ZW h1;omega);obtain rfl:k=ns.length:=by omega
  rw[show Az ns=Az (ns.take ns.length)by rw[XF]];(refine goI ?_;repeat (intro gg;refine goI ?_));(exact⟨[0],aM⟩)
theorem Kp[Glob][Tabs](l:List UInt8)(c:Bool)(ts:List ByteArray)(h:∀t∈ts,t.size≤100)(hn:ts.length≤10)(hl:l.length≤10000000000):E8 Tryz.prog 41 [.mo (Dg pwT l) (Dg pwT (l++B4 ts)),.p (.c (.sl c (ts.map tRw)))] []:=by
 refine L7 Lh rfl rfl (N3 rfl) ?_;(refine goI ?_;repeat (intro gg;refine goI ?_));rw[ZE];(refine⟨[],none,{k:Nat//k≤ts.length},[0,6,7],fun⟨k,hk⟩=>[(8,.v (.int .i64 k))],[],fun⟨k,hk⟩=>[(0,⟨0,.q (Dg pwT (l++B4 (ts.take k))),0,[]⟩)],fun⟨k,hk⟩=>ts.length-k,trivial,fun _=>⟨trivial,fun _=>⟨⟨0,by omega⟩,tI,Aj _ _,?_,Ai _ _⟩⟩,fun⟨k,hk⟩=>?_⟩;focus (exact⟨congrArg (fun r=>some (Ent.mk 0 (.q (Dg pwT r)) 0 [])) (show l=l++B4 (ts.take 0)by simp[B4]),trivial⟩));(refine goI ?_;repeat (intro gg;refine goI ?_));(refine Ab (fun h1=>?_) (fun h1=>?_)<;>rw[h1])
 ·have hlt:k<ts.length:=(by have:=ZV h1;omega);have hz:=h _ (ZK hlt);have hI:isI (ts[k].size:Int):=⟨by omega,by omega⟩;have hlen:(B4 (ts.take k)).length≤122*10:=by
   have h1:=Ec (f:=Fh) (m:=122) (l:=ts.take k) fun x hx=>by
    have hx:=h x (List.mem_of_mem_take hx);have:=Av (n:=(x.size:Int)) ⟨by omega,by omega⟩;unfold Fh;have hd:x.data.toList.length=x.size:=Array.length_toList;rw[ZF,hd];omega
   rw[ZM]at h1;have:min k ts.length≤10:=by omega
   exact XI h1 (Nat.mul_le_mul_left 122 this)
  have e:l++B4 (ts.take k)++Az [(ts[k].size:Int)]++ts[k].data.toList=l++B4 (ts.take (k+1)):=by unfold B4;rw[Du hlt];simp[Az,Fh]
  have hnl:=Av hI;have hn1:(Az [(ts[k].size:Int)]).length=(A8 (ts[k].size:Int)).length:=by simp[Az]
  (refine goI ?_;repeat (intro gg;refine goI ?_));refine⟨k,_,rfl,Ap hlt,?_⟩;(refine goI ?_;repeat (intro gg;refine goI ?_));(refine .inr (.inl ⟨_,_,true,[0],aM,Cc (l++B4 (ts.take k)) false [(ts[k].size:Int)] (by simpa using hI) (by simp) (by rw[ZF];omega),(fun _=>D9),oI,dI,?_⟩));(refine goI ?_;repeat (intro gg;refine goI ?_));(refine .inr (.inl ⟨_,_,false,[0],aM,Yb Ajv (l++B4 (ts.take k)++Az [(ts[k].size:Int)]) ts[k] (by rw[ZF,ZF,hn1];omega),Ak,oI,dI,?_⟩));(refine goI ?_;repeat (intro gg;refine goI ?_));(exact⟨none,trivial,fun gr=>⟨⟨k+1,by omega⟩,by show ts.length-(k+1)<ts.length-k;omega,tI,tI,⟨congrArg (fun r=>some (Ent.mk 0 (.q (Dg pwT r)) 0 [])) e,trivial⟩,tI⟩⟩)
 ·have hge:¬k<ts.length:=(by have:=ZW h1;omega);obtain rfl:k=ts.length:=by omega
  rw[show B4 ts=B4 (ts.take ts.length)by rw[XF]];(refine goI ?_;repeat (intro gg;refine goI ?_));(exact⟨[0],aM⟩)
theorem O4[Glob][Tabs](l:List UInt8)(b:Bool)(hl:l.length≤10000000000):E8 Tryz.prog 42 [.mo (Dg pwT l) (Dg pwT (l++E5 b)),.p (.c (.v (.bool b)))] []:=by
 refine L7 Mu rfl rfl (N3 rfl) ?_;cases b
 ·rw[show l++E5 false=l++Az [0]by simp[E5,Az]];(refine goI ?_;repeat (intro gg;refine goI ?_));(refine .inr (.inl ⟨_,_,true,[0],aM,Cc l false [0] (by intro n hn;simp at hn;subst hn;exact⟨by decide,by decide⟩) (by simp) (by omega),(fun _=>D9),oI,dI,?_⟩));(refine goI ?_;repeat (intro gg;refine goI ?_));(exact⟨[0],aM⟩)
 ·rw[show l++E5 true=l++Az [1]by simp[E5,Az]];(refine goI ?_;repeat (intro gg;refine goI ?_));(refine .inr (.inl ⟨_,_,true,[0],aM,Cc l false [1] (by intro n hn;simp at hn;subst hn;exact⟨by decide,by decide⟩) (by simp) (by omega),(fun _=>D9),oI,dI,?_⟩));(refine goI ?_;repeat (intro gg;refine goI ?_));(exact⟨[0],aM⟩)
section
open Go.Lib
namespace Pl
def mbB(m:Mb):List UInt8:=Fh m.n++A8 m.st++A8 m.lf++A8 m.ad++E5 m.sv
def svB(x:Sv):List UInt8:=Fh x.nd++Fh x.id++Fh x.nm++Fh x.tg++A8 x.ad++A8 x.pt++E5 x.ps++A8 x.vs++E5 x.gn
def gwB(g:Gw):List UInt8:=Fh g.c++A8 g.a++A8 g.v
def whB(x:Wh):List UInt8:=Fh x.nd++A8 x.pl.x++A8 x.pl.y++A8 x.pl.z++A8 x.pl.h++A8 x.pl.s
def pkB(p:Pk):List UInt8:=Fh p.fr++E5 p.wo++Tf mbB p.ms++Tf svB p.sv++Tf gwB p.gs++Tf whB p.wh
def mbR(s:ByteArray):Option (Mb×ByteArray):=(Fk s).bind fun a=>(Cd a.2).bind fun b=>(Cd b.2).bind fun c=>(Cd c.2).bind fun d=>(Kg d.2).bind fun e=>some (⟨a.1,b.1,c.1,d.1,e.1⟩,e.2)
def svR(s:ByteArray):Option (Sv×ByteArray):=(Fk s).bind fun a=>(Fk a.2).bind fun b=>(Fk b.2).bind fun c=>(Fk c.2).bind fun d=>(Cd d.2).bind fun e=>(Cd e.2).bind fun f=>(Kg f.2).bind fun g=>(Cd g.2).bind fun h=>(Kg h.2).bind fun i=>some (⟨a.1,b.1,c.1,d.1,e.1,f.1,g.1,h.1,i.1⟩,i.2)
def gwR(s:ByteArray):Option (Gw×ByteArray):=(Fk s).bind fun a=>(Cd a.2).bind fun b=>(Cd b.2).bind fun c=>some (⟨a.1,b.1,c.1⟩,c.2)
def whR(s:ByteArray):Option (Wh×ByteArray):=(Fk s).bind fun a=>(Cd a.2).bind fun b=>(Cd b.2).bind fun c=>(Cd c.2).bind fun d=>(Cd d.2).bind fun e=>(Cd e.2).bind fun f=>some (⟨a.1,⟨b.1,c.1,d.1,e.1,f.1⟩⟩,f.2)
def pkR(s:ByteArray):Option (Pk×ByteArray):=(Fk s).bind fun a=>(Kg a.2).bind fun b=>(Ef 20 mbR b.2).bind fun c=>(Ef 40 svR c.2).bind fun d=>(Ef 6 gwR d.2).bind fun e=>(Ef 20 whR e.2).bind fun f=>some (⟨a.1,b.1,c.1,d.1,e.1,f.1⟩,f.2)
def okT(s:ByteArray):Prop:=s.size≤9223372036854775807
def Mb.okB(m:Mb):Prop:=okT m.n∧isI m.st∧isI m.lf∧isI m.ad
def Sv.okB(x:Sv):Prop:=okT x.nd∧okT x.id∧okT x.nm∧okT x.tg∧isI x.ad∧isI x.pt∧isI x.vs
def Gw.okB(g:Gw):Prop:=okT g.c∧isI g.a∧isI g.v
def Wh.okB(x:Wh):Prop:=okT x.nd∧isI x.pl.x∧isI x.pl.y∧isI x.pl.z∧isI x.pl.h∧isI x.pl.s
def Pk.okB(p:Pk):Prop:=okT p.fr∧((p.ms.length:Int)≤20∧∀x∈p.ms,Mb.okB x)∧((p.sv.length:Int)≤40∧∀x∈p.sv,Sv.okB x)∧((p.gs.length:Int)≤6∧∀x∈p.gs,Gw.okB x)∧((p.wh.length:Int)≤20∧∀x∈p.wh,Wh.okB x)
theorem Akv:Fm Mb.okB mbB mbR:=
 Uk (B6 Li (B6 Fy (B6 Fy (B6 Fy Tm)))) (fun p=>⟨p.1,p.2.1,p.2.2.1,p.2.2.2.1,p.2.2.2.2⟩) (fun m=>(m.n,m.st,m.lf,m.ad,m.sv)) (fun _=>rfl) (fun _=>rfl)
  (fun m=>by simp[Mb.okB,okT]) (fun m=>by simp[mbB]) (fun s=>by simp[mbR,Gy,Option.bind_assoc,Option.map_bind,Function.comp_def])
theorem Ak7:Fm Sv.okB svB svR:=
 Uk (B6 Li (B6 Li (B6 Li (B6 Li (B6 Fy (B6 Fy (B6 Tm (B6 Fy Tm)))))))) (fun p=>⟨p.1,p.2.1,p.2.2.1,p.2.2.2.1,p.2.2.2.2.1,p.2.2.2.2.2.1,p.2.2.2.2.2.2.1,p.2.2.2.2.2.2.2.1,p.2.2.2.2.2.2.2.2⟩) (fun x=>(x.nd,x.id,x.nm,x.tg,x.ad,x.pt,x.ps,x.vs,x.gn)) (fun _=>rfl) (fun _=>rfl)
  (fun m=>by simp[Sv.okB,okT]) (fun m=>by simp[svB]) (fun s=>by simp[svR,Gy,Option.bind_assoc,Option.map_bind,Function.comp_def])
theorem Ajy:Fm Gw.okB gwB gwR:=
 Uk (B6 Li (B6 Fy Fy)) (fun p=>⟨p.1,p.2.1,p.2.2⟩) (fun x=>(x.c,x.a,x.v)) (fun _=>rfl) (fun _=>rfl)
  (fun m=>by simp[Gw.okB,okT]) (fun m=>by simp[gwB]) (fun s=>by simp[gwR,Gy,Option.bind_assoc,Option.map_bind,Function.comp_def])
theorem Al8:Fm Wh.okB whB whR:=
 Uk (B6 Li (B6 Fy (B6 Fy (B6 Fy (B6 Fy Fy))))) (fun p=>⟨p.1,⟨p.2.1,p.2.2.1,p.2.2.2.1,p.2.2.2.2.1,p.2.2.2.2.2⟩⟩) (fun x=>(x.nd,x.pl.x,x.pl.y,x.pl.z,x.pl.h,x.pl.s)) (fun _=>rfl) (fun _=>rfl)
  (fun m=>by simp[Wh.okB,okT]) (fun m=>by simp[whB]) (fun s=>by simp[whR,Gy,Option.bind_assoc,Option.map_bind,Function.comp_def])
theorem Adw:Fm Pk.okB pkB pkR:=
 Uk (B6 Li (B6 Tm (B6 (Wf Akv 20 (by decide)) (B6 (Wf Ak7 40 (by decide)) (B6 (Wf Ajy 6 (by decide)) (Wf Al8 20 (by decide))))))) (fun p=>⟨p.1,p.2.1,p.2.2.1,p.2.2.2.1,p.2.2.2.2.1,p.2.2.2.2.2⟩) (fun x=>(x.fr,x.wo,x.ms,x.sv,x.gs,x.wh)) (fun _=>rfl) (fun _=>rfl)
  (fun m=>by simp[Pk.okB,okT]) (fun m=>by simp[pkB]) (fun s=>by simp[pkR,Gy,Option.bind_assoc,Option.map_bind,Function.comp_def])
end Pl
end
section
open Go.Lib
namespace Pl
end Pl
end
section
open Go.Lib
namespace Pl
def T8(err:Pk→Int)(z:Pk)(s:ByteArray):Pk×Int:=match pkR s with
 |none=>(z,1)
 |some p=>if p.2.size≠0∨err p.1≠0 then(z,1)else(p.1,0)
end Pl
end
namespace Pl
open Classical in
noncomputable def Mn(l:List Mb):Int:=if 5<l.length then 2 else if Am Mb.err l≠0 then Am Mb.err l else if(l.map Mb.n).Nodup then 0 else 6
theorem Oe{l:List Mb}(h:5<l.length):Mn l=2:=by simp[Mn,h]
theorem N0{l:List Mb}(h:¬5<l.length)(h2:Am Mb.err l≠0):Mn l=Am Mb.err l:=by simp[Mn,h,h2]
theorem Vf{l:List Mb}(h:¬5<l.length)(h2:Am Mb.err l=0)(h4:¬(l.map Mb.n).Nodup):Mn l=6:=by simp only[Mn,h,h2,h4,if_false,ne_eq,not_true]
theorem Ub{l:List Mb}(h:¬5<l.length)(h2:Am Mb.err l=0)(h4:(l.map Mb.n).Nodup):Mn l=0:=by simp only[Mn,h,h2,h4,if_false,if_true,ne_eq,not_true]
noncomputable def Pk.cks(p:Pk):List Int:=[Ib p.ms,Im p.sv,Ih p.gs,I7 p.wh]
noncomputable def Pk.err(p:Pk):Int:=
 if lab p.fr.data.toList=false then 1 else if p.wo=false then(if p.sv.length+p.gs.length+p.wh.length=0 then Mn p.ms else 1)else Am (fun e=>e) p.cks
theorem Pk.err_form{p:Pk}(h:lab p.fr.data.toList=false):p.err=1:=if_pos h
theorem Pk.err_more{p:Pk}(h:lab p.fr.data.toList=true)(h2:p.wo=false)(h3:p.sv.length+p.gs.length+p.wh.length≠0):p.err=1:=by
 unfold Pk.err;rw[if_neg (by simp[h]),if_pos h2,if_neg h3]
theorem Pk.err_few{p:Pk}(h:lab p.fr.data.toList=true)(h2:p.wo=false)(h3:p.sv.length+p.gs.length+p.wh.length=0):p.err=Mn p.ms:=by
 unfold Pk.err;rw[if_neg (by simp[h]),if_pos h2,if_pos h3]
theorem Pk.err_all{p:Pk}(h:lab p.fr.data.toList=true)(h2:p.wo=true):p.err=Am (fun e=>e) p.cks:=by
 unfold Pk.err;rw[if_neg (by simp[h]),if_neg (by simp[h2])]
end Pl
theorem Ahg[Glob](c:Bool)(l:List Mb)(hl:l.length≤9223372036854775807)(hw:∀m∈l,m.ok):Fun Tryz.prog 26 [.c (.sl c (l.map Mb.row))] [.c (.v (.int .i64 (Mn l)))]:=by
 have hlm:(l.map Mb.row).length=l.length:=ZE ..;refine A9 U5 rfl ?_;(refine goI ?_;repeat (intro gg;refine goI ?_));(refine Ab (fun h=>?_) (fun h=>?_)<;>rw[h])
 ·have h1:5<l.length:=by have:=ZV h;omega
  (refine goI ?_;repeat (intro gg;refine goI ?_));rw[Oe h1];(exact⟨[],aI⟩)
 ·have h1:¬5<l.length:=by have:=ZW h;omega
  (refine goI ?_;repeat (intro gg;refine goI ?_));refine .inl (cX (V8 c l hl hw) ?_);(refine goI ?_;repeat (intro gg;refine goI ?_));(refine Ab (fun h2=>?_) (fun h2=>?_)<;>rw[h2])
  ·have h2':Am Mb.err l≠0:=by simpa using h2
   (refine goI ?_;repeat (intro gg;refine goI ?_));rw[N0 h1 h2'];(exact⟨[],aI⟩)
  ·have h2':Am Mb.err l=0:=by simpa using h2
   (refine goI ?_;repeat (intro gg;refine goI ?_))
   rename Nat=>g0
   (refine⟨[],none,{q:Nat×List (ByteArray×V)//q.1≤l.length∧O8 q.2 ((l.take q.1).map Mb.n)},[0,4,16,17],fun⟨⟨k,E⟩,hk,hE⟩=>[(18,.v (.int .i64 k))],[],fun⟨⟨k,E⟩,hk,hE⟩=>[(240,⟨g0,.q (Nm (Ah E)),0,[]⟩)],fun⟨⟨k,E⟩,hk,hE⟩=>l.length-k,trivial,fun _=>⟨trivial,fun _=>⟨⟨(0,[]),ZU _,O8.nil⟩,tI,Aj _ _,tI,Ai _ _⟩⟩,fun⟨⟨k,E⟩,hk,hE⟩=>?_⟩);(refine goI ?_;repeat (intro gg;refine goI ?_));(refine Ab (fun h3=>?_) (fun h3=>?_)<;>rw[h3])
   ·have hlt:k<l.length:=by have:=ZV h3;omega
    (refine goI ?_;repeat (intro gg;refine goI ?_));refine⟨k,_,rfl,Ap hlt,?_⟩;(refine goI ?_;repeat (intro gg;refine goI ?_));refine⟨_,_,rfl,De rfl,Vg _ _ _,?_⟩;(refine goI ?_;repeat (intro gg;refine goI ?_));have e:=Afz E l[k].n (.v (.bool true));have hE':O8 (put E l[k].n (.v (.bool true))) ((l.take (k+1)).map Mb.n):=by
     rw[XT,ZC hlt,ZI];exact hE.put _ _ (De rfl)
    (exact⟨none,trivial,fun gr=>⟨⟨(k+1,put E l[k].n (.v (.bool true))),by dsimp only;omega,hE'⟩,by show l.length-(k+1)<l.length-k;omega,tI,tI,⟨congrArg (fun x=>some (Ent.mk g0 (.q (Nm x)) 0 [])) e,trivial⟩,tI⟩⟩)
   ·have hge:¬k<l.length:=by have:=ZW h3;omega
    rw[List.take_of_length_le (by dsimp only;omega)]at hE;have hE:O8 E (l.map Mb.n):=hE;(refine goI ?_;repeat (intro gg;refine goI ?_))
    (try refine⟨_,rfl,?_⟩)
    (refine goI ?_;repeat (intro gg;refine goI ?_));rw[Ag4,ZE];have ha:=hE.all;have hle:=hE.le;rw[ZE]at ha hle;(refine Ab (fun h4=>?_) (fun h4=>?_)<;>rw[h4])
    ·have h4':E.length<l.length:=(by have:=ZV h4;omega);(refine goI ?_;repeat (intro gg;refine goI ?_));rw[Vf h1 h2' (fun q=>by have:=ha.2 q;omega)];(exact⟨[],aI⟩)
    ·have h4':¬E.length<l.length:=(by have:=ZW h4;omega);(refine goI ?_;repeat (intro gg;refine goI ?_));rw[Ub h1 h2' (ha.1 (by omega))];(exact⟨[],aI⟩)
theorem Mi[Glob](p:Pk)(h:p.ok):Fun Tryz.prog 10 [.c (.agg p.row)] [.c (.v (.int .i64 p.err))]:=by
 have l1:(p.sv.map Sv.row).length=p.sv.length:=ZE ..;have l2:(p.gs.map Gw.row).length=p.gs.length:=ZE ..;have l3:(p.wh.map Wh.row).length=p.wh.length:=ZE ..;have b1:=h.svl;have b2:=h.gsl;have b3:=h.whl;refine A9 Ry rfl ?_;(refine goI ?_;repeat (intro gg;refine goI ?_));refine .inl (cX (Ez p.fr h.fr) ?_);(refine goI ?_;repeat (intro gg;refine goI ?_));(refine Ab (fun h1=>?_) (fun h1=>?_)<;>rw[h1])
 ·rw[Pk.err_form (Ey h1)];(refine goI ?_;repeat (intro gg;refine goI ?_));(exact⟨[],aI⟩)
 ·have h1':=Eo h1;cases hwo:p.wo with
  |false=>
   (refine goI ?_;repeat (intro gg;refine goI ?_));(refine Ab (fun h2=>?_) (fun h2=>?_)<;>rw[h2])
   ·have h2':=ZV h2;rw[Pk.err_more h1' hwo (by omega)];(refine goI ?_;repeat (intro gg;refine goI ?_));(exact⟨[],aI⟩)
   ·have h2':=ZW h2;rw[Pk.err_few h1' hwo (by omega)];(refine goI ?_;repeat (intro gg;refine goI ?_));refine .inl (cX (Ahg false p.ms h.msl h.ms) ?_);(refine goI ?_;repeat (intro gg;refine goI ?_));(exact⟨[],aI⟩)
  |true=>
   rw[Pk.err_all h1' hwo];(refine goI ?_;repeat (intro gg;refine goI ?_));(refine⟨_,_,false,aI,Z8 p.ms h.msl h.ms,Ak,nI,?_⟩);(refine goI ?_;repeat (intro gg;refine goI ?_));(refine⟨_,_,false,aI,Aa0 p.sv (by omega) h.sv,Ak,nI,?_⟩);(refine goI ?_;repeat (intro gg;refine goI ?_));(refine⟨_,_,false,aI,Zo p.gs (by omega) h.gs,Ak,nI,?_⟩);(refine goI ?_;repeat (intro gg;refine goI ?_));(refine⟨_,_,false,aI,Aa4 false p.wh (by omega) h.wh,Ak,nI,?_⟩);(refine goI ?_;repeat (intro gg;refine goI ?_));(refine⟨[],none,{k:Nat//k≤4∧∀j,(h:j<p.cks.length)→j<k→p.cks[j]=0},[46,47],fun⟨k,hk,h0⟩=>[(48,.v (.int .i64 k))],[16,736],fun⟨k,hk,h0⟩=>[],fun⟨k,hk,h0⟩=>4-k,trivial,fun _=>⟨trivial,fun _=>⟨⟨0,ZU _,fun j _ h=>absurd h (Nat.not_lt_zero _)⟩,tI,Aj _ _,tI,Ai _ _⟩⟩,fun⟨k,hk,h0⟩=>?_⟩);(refine goI ?_;repeat (intro gg;refine goI ?_));have hk6:k≤4:=hk;(refine Ab (fun h3=>?_) (fun h3=>?_)<;>rw[h3])
   ·have hlt6:k<4:=by have h4:=ZV h3;have h5:(k:Int)<4:=h4;omega
    have hlt:k<p.cks.length:=hlt6;(refine goI ?_;repeat (intro gg;refine goI ?_));refine⟨k,_,rfl,Ap (f:=Aha) (l:=p.cks) hlt,?_⟩;(refine goI ?_;repeat (intro gg;refine goI ?_));refine⟨_,Ap (f:=Aha) (l:=p.cks) hlt,?_⟩;(refine goI ?_;repeat (intro gg;refine goI ?_));(refine Ab (fun h4=>?_) (fun h4=>?_)<;>rw[h4])
    ·have h4':p.cks[k]≠0:=by simpa using h4
     have e:Am (fun e=>e) p.cks=p.cks[k]:=Br (e:=fun e=>e) hlt h0 h4';(refine goI ?_;repeat (intro gg;refine goI ?_));rw[e];(exact⟨[],aI⟩)
    ·have h4':p.cks[k]=0:=by simpa using h4
     (refine goI ?_;repeat (intro gg;refine goI ?_));(exact⟨none,trivial,fun _=>⟨⟨k+1,by omega,up1 (p:=fun j h=>p.cks[j]=0) h0 (fun _=>h4')⟩,by show 4-(k+1)<4-k;omega,tI,tI,tI,tI⟩⟩)
   ·have hge:¬k<4:=by have h4:=ZW h3;have h5:¬(k:Int)<4:=h4;omega
    have hz:Am (fun e=>e) p.cks=0:=Bc (e:=fun e=>e) fun i hi=>h0 i hi (by have h6:i<4:=hi;omega);(refine goI ?_;repeat (intro gg;refine goI ?_));rw[hz];(exact⟨[],aI⟩)
section
open Go.Lib
namespace Pl
theorem Ov{x:ByteArray}(h:lab x.data.toList=true):x.size≤30:=by
 unfold lab at h;simp only[ZO,decide_eq_true_eq]at h;have:=h.2.2;rw[Array.length_toList]at this;exact this
theorem Aj4{x:ByteArray}(h:R5 x=true):x.size≤30:=by
 unfold R5 at h;cases h1:emp x with
 |false=>
  rw[h1]at h;exact Ov h
 |true=>
  unfold emp at h1;have h2:x.toList=(⟨#[]⟩:ByteArray).toList:=eq_of_beq h1;rw[Lib.toList_data,Lib.toList_data]at h2;have h3:x.data.toList.length=0:=by rw[h2];rfl
  rw[Array.length_toList]at h3;have h3:x.size=0:=h3;omega
theorem Nv{α:Type}{e:α→Int}{l:List α}(h:Am e l=0):∀x∈l,e x=0:=fun x hx=>by
 obtain⟨i,hi,rfl⟩:=List.mem_iff_getElem.1 hx;exact Lr h i hi
theorem Cx{α:Type}{mx:Nat}{e:α→Int}{lt:α→α→Bool}{l:List α}(h:ckL mx e lt l=0):l.length≤mx∧∀x∈l,e x=0:=by
 unfold ckL at h;split at h
 ·cases h
 ·split at h
  ·rename_i h1 h2;exact⟨by omega,Nv h2⟩
  ·rename_i h1 h2;exact absurd h h2
structure Mb.Sm(m:Mb):Prop where
 n:m.n.size≤30
 st:1≤m.st∧m.st≤4
 lf:1≤m.lf∧m.lf≤1000000
 ad:0≤m.ad∧m.ad≤4294967295
structure Sv.Sm(x:Sv):Prop where
 nd:x.nd.size≤30
 id:x.id.size≤30
 nm:x.nm.size≤30
 tg:x.tg.size≤30
 ad:0≤x.ad∧x.ad≤4294967295
 pt:0≤x.pt∧x.pt≤65535
 vs:1≤x.vs∧x.vs≤1000000
structure Gw.Sm(g:Gw):Prop where
 c:g.c.size≤30
 a:0≤g.a∧g.a≤4294967295
 v:1≤g.v∧g.v≤1000000
structure Wh.Sm(w:Wh):Prop where
 nd:w.nd.size≤30
 x: -10000000≤w.pl.x∧w.pl.x≤10000000
 y: -10000000≤w.pl.y∧w.pl.y≤10000000
 z: -10000000≤w.pl.z∧w.pl.z≤10000000
 h:0≤w.pl.h∧w.pl.h≤1000000
 s:0≤w.pl.s∧w.pl.s≤1000
structure Pk.Sm(p:Pk):Prop where
 fr:p.fr.size≤30
 msl:p.ms.length≤20
 ms:∀x∈p.ms,Mb.Sm x
 svl:p.sv.length≤40
 sv:∀x∈p.sv,Sv.Sm x
 gsl:p.gs.length≤6
 gs:∀x∈p.gs,Gw.Sm x
 whl:p.wh.length≤20
 wh:∀x∈p.wh,Wh.Sm x
theorem Mb.sm{m:Mb}(h:m.err=0):Mb.Sm m:=by
 obtain⟨h1,h2,h3,h4⟩:=Mb.err_inv h;exact⟨Ov h1,h2,h3,h4⟩
theorem Sv.sm{x:Sv}(h:x.err=0):Sv.Sm x:=by
 unfold Sv.err at h
 repeat' (split at h)
 all_goals first
  |(cases h;done)
  |skip
 rename_i h1 h2 h3 h4 h5 h6 h7;exact⟨Ov h1,Ov h2,Ov h3,Aj4 h4,F3.1 h5,F3.1 h6,F3.1 h7⟩
theorem Gw.sm{g:Gw}(h:g.err=0):Gw.Sm g:=by
 obtain⟨h1,h2,h3⟩:=Gw.err_inv h;exact⟨Ov h1,h2,h3⟩
theorem Wh.sm{w:Wh}(h:w.err=0):Wh.Sm w:=by
 unfold Wh.err at h;split at h
 ·rename_i h1;have h2:=Pc.err_iff.1 h;unfold Pc.okb Aen at h2;simp only[ZO]at h2;obtain⟨⟨⟨⟨a,b⟩,c⟩,d⟩,e⟩:=h2;exact⟨Ov h1,F3.1 a,F3.1 b,F3.1 c,F3.1 d,F3.1 e⟩
 ·cases h
theorem Pk.sm{p:Pk}(h:p.err=0):Pk.Sm p:=by
 cases h1:lab p.fr.data.toList with
 |false=>rw[Pk.err_form h1]at h;cases h
 |true=>
  cases h2:p.wo with
  |false=>
   by_cases h3:p.sv.length+p.gs.length+p.wh.length=0
   ·rw[Pk.err_few h1 h2 h3]at h;have e1:p.sv=[]:=List.length_eq_zero_iff.1 (by omega);have e2:p.gs=[]:=List.length_eq_zero_iff.1 (by omega);have e3:p.wh=[]:=List.length_eq_zero_iff.1 (by omega);have h4:p.ms.length≤5∧Am Mb.err p.ms=0:=by
     by_cases h5:5<p.ms.length
     ·rw[Oe h5]at h;cases h
     ·by_cases h6:Am Mb.err p.ms=0
      ·exact⟨by omega,h6⟩
      ·rw[N0 h5 h6]at h;exact absurd h h6
    exact⟨Ov h1,by omega,fun x hx=>Mb.sm (Nv h4.2 x hx),by rw[e1];simp,fun x hx=>(by rw[e1]at hx;cases hx),by rw[e2];simp,fun x hx=>(by rw[e2]at hx;cases hx),by rw[e3];simp,fun x hx=>(by rw[e3]at hx;cases hx)⟩
   ·rw[Pk.err_more h1 h2 h3]at h;cases h
  |true=>
   rw[Pk.err_all h1 h2]at h;have g:=Lr h;obtain⟨a1,a2⟩:=Cx (show Ib p.ms=0 from g 0 (by show 0<4;omega));obtain⟨b1,b2⟩:=Cx (show Im p.sv=0 from g 1 (by show 1<4;omega));obtain⟨c1,c2⟩:=Cx (show Ih p.gs=0 from g 2 (by show 2<4;omega));obtain⟨d1,d2⟩:=Cx (show I7 p.wh=0 from g 3 (by show 3<4;omega));exact⟨Ov h1,a1,fun x hx=>Mb.sm (a2 x hx),b1,fun x hx=>Sv.sm (b2 x hx),c1,fun x hx=>Gw.sm (c2 x hx),d1,fun x hx=>Wh.sm (d2 x hx)⟩
theorem Pk.Sm.okB{p:Pk}(h:Pk.Sm p):p.okB:=by
 have:=h.fr;have:=h.msl;have:=h.svl;have:=h.gsl;have:=h.whl;refine⟨by unfold okT;omega,⟨by omega,fun x hx=>?_⟩,⟨by omega,fun x hx=>?_⟩,⟨by omega,fun x hx=>?_⟩,⟨by omega,fun x hx=>?_⟩⟩
 ·obtain⟨h1,h2,h3,h4⟩:=h.ms x hx;unfold Mb.okB okT isI;omega
 ·obtain⟨h1,h2,h3,h4,h5,h6,h7⟩:=h.sv x hx;unfold Sv.okB okT isI;omega
 ·obtain⟨h1,h2,h3⟩:=h.gs x hx;unfold Gw.okB okT isI;omega
 ·obtain⟨h1,h2,h3,h4,h5,h6⟩:=h.wh x hx;unfold Wh.okB okT isI;omega
noncomputable def Km(s:ByteArray):Pk×Int:=T8 Pk.err pk0 s
theorem Vu{p:Pk}(h:p.err=0):Km (bA (pkB p))=(p,0):=by
 have:=Adw.back p [] (Pk.sm h).okB;rw[List.append_nil]at this;unfold Km T8;rw[this];simp only;rw[if_neg (by rw[Ax];simp[h])]
theorem Qg{s:ByteArray}{p:Pk}(h:Km s=(p,0)):p.err=0∧bA (pkB p)=s:=by
 unfold Km T8 at h;cases hr:pkR s with
 |none=>rw[hr]at h;cases h
 |some q=>
  rw[hr]at h;simp only at h;split at h
  ·cases h
  ·rename_i h1;injection h with h2 _
   subst h2;obtain⟨_,k⟩:=Adw.some _ _ hr;have h3:q.2.size=0:=Classical.byContradiction fun h=>h1 (.inl h);have h4:q.2.data.toList=[]:=List.length_eq_zero_iff.1 (by rw[Array.length_toList];exact h3);refine⟨Classical.byContradiction fun h=>h1 (.inr h),?_⟩;rw[h4,List.append_nil]at k;exact(Afx k).symm
theorem Ob(s:ByteArray):Km s=(pk0,1)∨∃p,Km s=(p,0):=by
 unfold Km T8;cases pkR s with
 |none=>exact .inl rfl
 |some q=>
  simp only;split
  ·exact .inl rfl
  ·exact .inr ⟨_,rfl⟩
end Pl
end
theorem Ahc:Yo pwT [.v (.pointer none),.v (.slice none 0 0)] (Dg pwT []):=by
 intro w R b xs hown hrv;rcases hown.2 with⟨q,_⟩|⟨g,cap,cur,q,_,hg,hnc,hcm,hcs,htake⟩
 ·cases q
 ·injection q with q1 q2 q3;injection q1 with q1
  injection q1 with q1;subst q1 q3;have hl:cur.toList.length=2:=by simpa using hcs
  have hx:cur.toList=xs:=by rw[←htake,List.take_of_length_le (by rw[hl];exact ZT _)]
  match xs,hx with
  |[x0,x1],hx=>
   have e0:x0=.pointer none:=B9 (hrv 0 _ x0 rfl rfl);have e1:x1=.slice none 0 0:=B9 (hrv 1 _ x1 rfl rfl);subst e0 e1;have hc:cur= #[.pointer none,.slice none 0 0]:=by apply Array.ext';rw[hx]
   subst hc;exact⟨b,.slice none 0 0,rfl,⟨⟨_,.inl rfl,hg⟩,World.ownsRow_nil _ _ _ _,by simp[Value.ownBlock]⟩,fun k=>by simp[Value.ownBlock]⟩
  |[],hx=>rw[hx]at hl;simp at hl
  |[_],hx=>rw[hx]at hl;simp at hl
  |_::_::_::_,hx=>rw[hx]at hl;simp at hl
namespace Pl
theorem Bk{t:ByteArray}(h:t.size≤30):(Fh t).length≤52:=by
 have:=Av (n:=(t.size:Int)) ⟨by omega,by omega⟩;have hd:t.data.toList.length=t.size:=Array.length_toList;unfold Fh;rw[ZF,hd];omega
theorem Ds(b:Bool):(E5 b).length≤22:=Av (by cases b<;>exact⟨by decide,by decide⟩)
theorem Mb.lenB{m:Mb}(h:Mb.Sm m):(mbB m).length≤140:=by
 obtain⟨h1,h2,h3,h4⟩:=h;have a1:=Bk h1;have a2:=Av (n:=m.st) ⟨by omega,by omega⟩;have a3:=Av (n:=m.lf) ⟨by omega,by omega⟩;have a4:=Av (n:=m.ad) ⟨by omega,by omega⟩;have a5:=Ds m.sv;unfold mbB;simp only[ZF];omega
theorem Sv.lenB{x:Sv}(h:Sv.Sm x):(svB x).length≤318:=by
 obtain⟨h1,h2,h3,h4,h5,h6,h7⟩:=h;have a1:=Bk h1;have a2:=Bk h2;have a3:=Bk h3;have a4:=Bk h4;have b2:=Av (n:=x.ad) ⟨by omega,by omega⟩;have b3:=Av (n:=x.pt) ⟨by omega,by omega⟩;have b4:=Av (n:=x.vs) ⟨by omega,by omega⟩;have a5:=Ds x.ps;have a6:=Ds x.gn;unfold svB;simp only[ZF];omega
theorem Gw.lenB{g:Gw}(h:Gw.Sm g):(gwB g).length≤96:=by
 obtain⟨h1,h2,h3⟩:=h;have a1:=Bk h1;have b2:=Av (n:=g.a) ⟨by omega,by omega⟩;have b3:=Av (n:=g.v) ⟨by omega,by omega⟩;unfold gwB;simp only[ZF];omega
theorem Wh.lenB{w:Wh}(h:Wh.Sm w):(whB w).length≤162:=by
 obtain⟨h1,h2,h3,h4,h5,h6⟩:=h;have a1:=Bk h1;have b2:=Av (n:=w.pl.x) ⟨by omega,by omega⟩;have b3:=Av (n:=w.pl.y) ⟨by omega,by omega⟩;have b4:=Av (n:=w.pl.z) ⟨by omega,by omega⟩;have b5:=Av (n:=w.pl.h) ⟨by omega,by omega⟩;have b6:=Av (n:=w.pl.s) ⟨by omega,by omega⟩;unfold whB;simp only[ZF];omega
theorem Cn{α:Type}{f:α→List UInt8}{m n:Nat}{l:List α}(h:∀x∈l,(f x).length≤m)(hl:l.length≤n)(k:Nat):((l.take k).flatMap f).length≤m*n:=by
 have h1:=Ec (f:=f) (m:=m) (l:=l.take k) fun x hx=>h x (List.mem_of_mem_take hx);rw[ZM]at h1;exact XI h1 (Nat.mul_le_mul_left m (by omega))
theorem Ee{ns:List Int}{k:Nat}(h:∀n∈ns,isI n)(hk:ns.length≤k):(Az ns).length≤22*k:=by
 have h1:=Ec (f:=A8) (m:=22) (l:=ns) fun x hx=>Av (h x hx);exact XI h1 (Nat.mul_le_mul_left 22 hk)
end Pl
set_option maxHeartbeats 4000000 in
theorem Acv[Glob][Tabs](p:Pk)(h:Pk.Sm p):Fun Tryz.prog 15 [.c (.agg p.row)] [.c (.v (.string (bA (pkB p))))]:=by
 obtain⟨fr,wo,ms,sv,gs,wh⟩:=p;obtain⟨h1,h2,h3,h4,h5,h6,h7,h8,h9⟩:=h;simp only at h1 h2 h3 h4 h5 h6 h7 h8 h9;show Fun _ _ [.c (.agg [.v (.string fr),.v (.bool wo),.sl false (ms.map Mb.row),.sl false (sv.map Sv.row),.sl false (gs.map Gw.row),.sl false (wh.map Wh.row)])] _;have t1:∀t∈[fr],t.size≤100:=fun t ht=>by simp at ht;subst ht;omega
 have k1:(B4 [fr]).length≤52:=by simpa[B4]using Bk h1
 have k2:=Ds wo;obtain⟨A0,hA0⟩:∃A,A=[]++B4 [fr]++E5 wo:=⟨_,rfl⟩;have l0:A0.length≤100:=by rw[hA0];simp only[ZF,ZN];omega
 have hY:E8 Tryz.prog 42 [.mo (Dg pwT ([]++B4 [fr])) (Dg pwT A0),.p (.c (.v (.bool wo)))] []:=by
  rw[hA0];exact O4 _ wo (by simp only[ZF,ZN];omega)
 have hN0:E8 Tryz.prog 45 [.mo (Dg pwT (A0)) (Dg pwT (A0++Az [(ms.length:Int)])),.p (.c (.sl false ([(ms.length:Int)].map Aaf)))] []:=by
  exact Cc A0 false [(ms.length:Int)] (by intro n hn;simp at hn;subst hn;exact⟨by omega,by omega⟩) (by simp) (by omega)
 have n0:(Az [(ms.length:Int)]).length≤22*1:=Ee (by intro n hn;simp at hn;subst hn;exact⟨by omega,by omega⟩) (by simp);obtain⟨A1,hA1⟩:∃A,A=A0++Az [(ms.length:Int)]++(ms.take ms.length).flatMap mbB:=⟨_,rfl⟩;have l1:A1.length≤2922:=by
  have n2:=Cn (f:=mbB) (m:=140) (n:=20) (l:=ms) (fun x hx=>Mb.lenB (h3 x hx)) h2 ms.length;rw[hA1];simp only[ZF];omega
 have hN1:E8 Tryz.prog 45 [.mo (Dg pwT (A0++Az [(ms.length:Int)]++(ms.take ms.length).flatMap mbB)) (Dg pwT (A1++Az [(sv.length:Int)])),.p (.c (.sl false ([(sv.length:Int)].map Aaf)))] []:=by
  rw[←hA1];exact Cc A1 false [(sv.length:Int)] (by intro n hn;simp at hn;subst hn;exact⟨by omega,by omega⟩) (by simp) (by omega)
 have n1:(Az [(sv.length:Int)]).length≤22*1:=Ee (by intro n hn;simp at hn;subst hn;exact⟨by omega,by omega⟩) (by simp);obtain⟨A2,hA2⟩:∃A,A=A1++Az [(sv.length:Int)]++(sv.take sv.length).flatMap svB:=⟨_,rfl⟩;have l2:A2.length≤15664:=by
  have n2:=Cn (f:=svB) (m:=318) (n:=40) (l:=sv) (fun x hx=>Sv.lenB (h5 x hx)) h4 sv.length;rw[hA2];simp only[ZF];omega
 have hN2:E8 Tryz.prog 45 [.mo (Dg pwT (A1++Az [(sv.length:Int)]++(sv.take sv.length).flatMap svB)) (Dg pwT (A2++Az [(gs.length:Int)])),.p (.c (.sl false ([(gs.length:Int)].map Aaf)))] []:=by
  rw[←hA2];exact Cc A2 false [(gs.length:Int)] (by intro n hn;simp at hn;subst hn;exact⟨by omega,by omega⟩) (by simp) (by omega)
 have n2:(Az [(gs.length:Int)]).length≤22*1:=Ee (by intro n hn;simp at hn;subst hn;exact⟨by omega,by omega⟩) (by simp);obtain⟨A3,hA3⟩:∃A,A=A2++Az [(gs.length:Int)]++(gs.take gs.length).flatMap gwB:=⟨_,rfl⟩;have l3:A3.length≤16262:=by
  have n2:=Cn (f:=gwB) (m:=96) (n:=6) (l:=gs) (fun x hx=>Gw.lenB (h7 x hx)) h6 gs.length;rw[hA3];simp only[ZF];omega
 have hN3:E8 Tryz.prog 45 [.mo (Dg pwT (A2++Az [(gs.length:Int)]++(gs.take gs.length).flatMap gwB)) (Dg pwT (A3++Az [(wh.length:Int)])),.p (.c (.sl false ([(wh.length:Int)].map Aaf)))] []:=by
  rw[←hA3];exact Cc A3 false [(wh.length:Int)] (by intro n hn;simp at hn;subst hn;exact⟨by omega,by omega⟩) (by simp) (by omega)
 have n3:(Az [(wh.length:Int)]).length≤22*1:=Ee (by intro n hn;simp at hn;subst hn;exact⟨by omega,by omega⟩) (by simp);have eP:bA (pkB ⟨fr,wo,ms,sv,gs,wh⟩)=⟨(A3++Az [(wh.length:Int)]++(wh.take wh.length).flatMap whB).toArray⟩:=by
  rw[hA3,hA2,hA1,hA0];simp only[XF];simp[bA,pkB,B4,Az,Tf]
 rw[eP];refine A9 R6 rfl ?_;(refine goI ?_;repeat (intro gg;refine goI ?_));refine .inr (.inl ⟨_,_,true,[80],Akx rfl (N6 rfl) Ahc (by decide) (by decide) aM,Kp [] false [fr] t1 (by simp) (by simp),(fun _=>D9),oI,dI,?_⟩);(refine goI ?_;repeat (intro gg;refine goI ?_));rename_i g1 gw g3;(refine .inr (.inl ⟨_,_,false,[80],aM,hY,Ak,oI,dI,?_⟩));(refine goI ?_;repeat (intro gg;refine goI ?_));refine .inr (.inr (.inr (Gv 1000 Iy rfl ?_)));(refine goI ?_;repeat (intro gg;refine goI ?_));rw[ZE];(refine .inr (.inl ⟨_,_,true,[80],aM,hN0,(fun _=>D9),oI,dI,?_⟩));(refine goI ?_;repeat (intro gg;refine goI ?_))
 try rw[ZE]
 (refine⟨[],none,{k:Nat//k≤ms.length},[0,1,2,13,14],fun⟨k,hk⟩=>[(15,.v (.int .i64 k))],[16,48],fun⟨k,hk⟩=>[(80,⟨g1,.q (Dg pwT (A0++Az [(ms.length:Int)]++(ms.take k).flatMap mbB)),0,[]⟩)],fun⟨k,hk⟩=>ms.length-k,trivial,fun _=>⟨trivial,fun _=>⟨⟨0,by omega⟩,tI,Aj _ _,?_,Ai _ _⟩⟩,fun⟨k,hk⟩=>?_⟩;focus (exact⟨congrArg (fun r=>some (Ent.mk g1 (.q (Dg pwT r)) 0 [])) (by simp),trivial⟩));(refine goI ?_;repeat (intro gg;refine goI ?_));(refine Ab (fun q0=>?_) (fun q0=>?_)<;>rw[q0])
 ·have hlt:k<ms.length:=(by have:=ZV q0;omega);have hm:=h3 _ (ZK hlt);have n2:=Cn (f:=mbB) (m:=140) (n:=20) (l:=ms) (fun x hx=>Mb.lenB (h3 x hx)) h2 k;(refine goI ?_;repeat (intro gg;refine goI ?_));refine⟨k,_,rfl,Ap hlt,?_⟩;(refine goI ?_;repeat (intro gg;refine goI ?_));refine .inr (.inr (.inr (Gv 2000 Po rfl ?_)));(refine goI ?_;repeat (intro gg;refine goI ?_));have c0:(B4 [ms[k].n]).length≤52:=by
   have z0:=Bk hm.n;simp only[B4,List.flatMap_cons,List.flatMap_nil,List.append_nil,ZF];omega
  (refine .inr (.inl ⟨_,_,true,[80],aM,Kp (A0++Az [(ms.length:Int)]++(ms.take k).flatMap mbB) false [ms[k].n] (by intro t ht;simp at ht;subst ht;first|exact XI hm.n (by decide)|exact XI hm.c (by decide)|exact XI hm.nd (by decide)) (by simp) (by simp only[ZF];omega),(fun _=>D9),oI,dI,?_⟩));(refine goI ?_;repeat (intro gg;refine goI ?_));have c1:(Az [ms[k].st,ms[k].lf,ms[k].ad]).length≤22*3:=Ee (by intro n hn;simp at hn;cases hm;rcases hn with rfl|rfl|rfl<;>exact⟨by omega,by omega⟩) (by simp);(refine .inr (.inl ⟨_,_,true,[80],aM,Cc (A0++Az [(ms.length:Int)]++(ms.take k).flatMap mbB++B4 [ms[k].n]) false [ms[k].st,ms[k].lf,ms[k].ad] (by intro n hn;simp at hn;cases hm;rcases hn with rfl|rfl|rfl<;>exact⟨by omega,by omega⟩) (by simp) (by simp only[ZF];omega),(fun _=>D9),oI,dI,?_⟩));(refine goI ?_;repeat (intro gg;refine goI ?_));have c2:=Ds ms[k].sv;(refine .inr (.inl ⟨_,_,false,[80],aM,O4 (A0++Az [(ms.length:Int)]++(ms.take k).flatMap mbB++B4 [ms[k].n]++Az [ms[k].st,ms[k].lf,ms[k].ad]) ms[k].sv (by simp only[ZF];omega),Ak,oI,dI,?_⟩));(refine goI ?_;repeat (intro gg;refine goI ?_));have e2:A0++Az [(ms.length:Int)]++(ms.take k).flatMap mbB++B4 [ms[k].n]++Az [ms[k].st,ms[k].lf,ms[k].ad]++E5 ms[k].sv=A0++Az [(ms.length:Int)]++(ms.take (k+1)).flatMap mbB:=by rw[Du hlt];simp[mbB,B4,Az]
  (exact⟨none,trivial,fun gr=>⟨⟨k+1,by omega⟩,by show ms.length-(k+1)<ms.length-k;omega,tI,tI,⟨congrArg (fun r=>some (Ent.mk g1 (.q (Dg pwT r)) 0 [])) e2,trivial⟩,tI⟩⟩)
 ·have hge:¬k<ms.length:=(by have:=ZW q0;omega);obtain rfl:k=ms.length:=by omega
  (refine goI ?_;repeat (intro gg;refine goI ?_));refine .inr (.inr (.inr (Gv 3000 H2 rfl ?_)));(refine goI ?_;repeat (intro gg;refine goI ?_));rw[ZE];(refine .inr (.inl ⟨_,_,true,[80],aM,hN1,(fun _=>D9),oI,dI,?_⟩));(refine goI ?_;repeat (intro gg;refine goI ?_))
  try rw[ZE]
  (refine⟨[],none,{k:Nat//k≤sv.length},[0,1,2,13,14],fun⟨k,hk⟩=>[(15,.v (.int .i64 k))],[16,48],fun⟨k,hk⟩=>[(80,⟨g1,.q (Dg pwT (A1++Az [(sv.length:Int)]++(sv.take k).flatMap svB)),0,[]⟩)],fun⟨k,hk⟩=>sv.length-k,trivial,fun _=>⟨trivial,fun _=>⟨⟨0,by omega⟩,tI,Aj _ _,?_,Ai _ _⟩⟩,fun⟨k,hk⟩=>?_⟩;focus (exact⟨congrArg (fun r=>some (Ent.mk g1 (.q (Dg pwT r)) 0 [])) (by simp),trivial⟩));(refine goI ?_;repeat (intro gg;refine goI ?_));(refine Ab (fun q1=>?_) (fun q1=>?_)<;>rw[q1])
  ·have hlt:k<sv.length:=(by have:=ZV q1;omega);have hm:=h5 _ (ZK hlt);have n2:=Cn (f:=svB) (m:=318) (n:=40) (l:=sv) (fun x hx=>Sv.lenB (h5 x hx)) h4 k;(refine goI ?_;repeat (intro gg;refine goI ?_));refine⟨k,_,rfl,Ap hlt,?_⟩;(refine goI ?_;repeat (intro gg;refine goI ?_));refine .inr (.inr (.inr (Gv 4000 Oo rfl ?_)));(refine goI ?_;repeat (intro gg;refine goI ?_));have c0:(B4 [sv[k].nd,sv[k].id,sv[k].nm,sv[k].tg]).length≤208:=by
    have z0:=Bk hm.nd;have z1:=Bk hm.id;have z2:=Bk hm.nm;have z3:=Bk hm.tg;simp only[B4,List.flatMap_cons,List.flatMap_nil,List.append_nil,ZF];omega
   (refine .inr (.inl ⟨_,_,true,[80],aM,Kp (A1++Az [(sv.length:Int)]++(sv.take k).flatMap svB) false [sv[k].nd,sv[k].id,sv[k].nm,sv[k].tg] (by intro t ht;simp at ht;rcases ht with rfl|rfl|rfl|rfl<;>(first|exact XI hm.nd (by decide)|exact XI hm.id (by decide)|exact XI hm.nm (by decide)|exact XI hm.tg (by decide))) (by simp) (by simp only[ZF];omega),(fun _=>D9),oI,dI,?_⟩));(refine goI ?_;repeat (intro gg;refine goI ?_));have c1:(Az [sv[k].ad,sv[k].pt]).length≤22*2:=Ee (by intro n hn;simp at hn;cases hm;rcases hn with rfl|rfl<;>exact⟨by omega,by omega⟩) (by simp);(refine .inr (.inl ⟨_,_,true,[80],aM,Cc (A1++Az [(sv.length:Int)]++(sv.take k).flatMap svB++B4 [sv[k].nd,sv[k].id,sv[k].nm,sv[k].tg]) false [sv[k].ad,sv[k].pt] (by intro n hn;simp at hn;cases hm;rcases hn with rfl|rfl<;>exact⟨by omega,by omega⟩) (by simp) (by simp only[ZF];omega),(fun _=>D9),oI,dI,?_⟩));(refine goI ?_;repeat (intro gg;refine goI ?_));have c2:=Ds sv[k].ps;(refine .inr (.inl ⟨_,_,false,[80],aM,O4 (A1++Az [(sv.length:Int)]++(sv.take k).flatMap svB++B4 [sv[k].nd,sv[k].id,sv[k].nm,sv[k].tg]++Az [sv[k].ad,sv[k].pt]) sv[k].ps (by simp only[ZF];omega),Ak,oI,dI,?_⟩));(refine goI ?_;repeat (intro gg;refine goI ?_));have c3:(Az [sv[k].vs]).length≤22*1:=Ee (by intro n hn;simp at hn;cases hm;subst hn<;>exact⟨by omega,by omega⟩) (by simp);(refine .inr (.inl ⟨_,_,true,[80],aM,Cc (A1++Az [(sv.length:Int)]++(sv.take k).flatMap svB++B4 [sv[k].nd,sv[k].id,sv[k].nm,sv[k].tg]++Az [sv[k].ad,sv[k].pt]++E5 sv[k].ps) false [sv[k].vs] (by intro n hn;simp at hn;cases hm;subst hn<;>exact⟨by omega,by omega⟩) (by simp) (by simp only[ZF];omega),(fun _=>D9),oI,dI,?_⟩));(refine goI ?_;repeat (intro gg;refine goI ?_));have c4:=Ds sv[k].gn;(refine .inr (.inl ⟨_,_,false,[80],aM,O4 (A1++Az [(sv.length:Int)]++(sv.take k).flatMap svB++B4 [sv[k].nd,sv[k].id,sv[k].nm,sv[k].tg]++Az [sv[k].ad,sv[k].pt]++E5 sv[k].ps++Az [sv[k].vs]) sv[k].gn (by simp only[ZF];omega),Ak,oI,dI,?_⟩));(refine goI ?_;repeat (intro gg;refine goI ?_));have e2:A1++Az [(sv.length:Int)]++(sv.take k).flatMap svB++B4 [sv[k].nd,sv[k].id,sv[k].nm,sv[k].tg]++Az [sv[k].ad,sv[k].pt]++E5 sv[k].ps++Az [sv[k].vs]++E5 sv[k].gn=A1++Az [(sv.length:Int)]++(sv.take (k+1)).flatMap svB:=by rw[Du hlt];simp[svB,B4,Az]
   (exact⟨none,trivial,fun gr=>⟨⟨k+1,by omega⟩,by show sv.length-(k+1)<sv.length-k;omega,tI,tI,⟨congrArg (fun r=>some (Ent.mk g1 (.q (Dg pwT r)) 0 [])) e2,trivial⟩,tI⟩⟩)
  ·have hge:¬k<sv.length:=(by have:=ZW q1;omega);obtain rfl:k=sv.length:=by omega
   (refine goI ?_;repeat (intro gg;refine goI ?_));refine .inr (.inr (.inr (Gv 5000 H4 rfl ?_)));(refine goI ?_;repeat (intro gg;refine goI ?_));rw[ZE];(refine .inr (.inl ⟨_,_,true,[80],aM,hN2,(fun _=>D9),oI,dI,?_⟩));(refine goI ?_;repeat (intro gg;refine goI ?_))
   try rw[ZE]
   (refine⟨[],none,{k:Nat//k≤gs.length},[0,1,2,13,14],fun⟨k,hk⟩=>[(15,.v (.int .i64 k))],[16,48],fun⟨k,hk⟩=>[(80,⟨g1,.q (Dg pwT (A2++Az [(gs.length:Int)]++(gs.take k).flatMap gwB)),0,[]⟩)],fun⟨k,hk⟩=>gs.length-k,trivial,fun _=>⟨trivial,fun _=>⟨⟨0,by omega⟩,tI,Aj _ _,?_,Ai _ _⟩⟩,fun⟨k,hk⟩=>?_⟩;focus (exact⟨congrArg (fun r=>some (Ent.mk g1 (.q (Dg pwT r)) 0 [])) (by simp),trivial⟩));(refine goI ?_;repeat (intro gg;refine goI ?_));(refine Ab (fun q2=>?_) (fun q2=>?_)<;>rw[q2])
   ·have hlt:k<gs.length:=(by have:=ZV q2;omega);have hm:=h7 _ (ZK hlt);have n2:=Cn (f:=gwB) (m:=96) (n:=6) (l:=gs) (fun x hx=>Gw.lenB (h7 x hx)) h6 k;(refine goI ?_;repeat (intro gg;refine goI ?_));refine⟨k,_,rfl,Ap hlt,?_⟩;(refine goI ?_;repeat (intro gg;refine goI ?_));refine .inr (.inr (.inr (Gv 6000 Pg rfl ?_)));(refine goI ?_;repeat (intro gg;refine goI ?_));have c0:(B4 [gs[k].c]).length≤52:=by
     have z0:=Bk hm.c;simp only[B4,List.flatMap_cons,List.flatMap_nil,List.append_nil,ZF];omega
    (refine .inr (.inl ⟨_,_,true,[80],aM,Kp (A2++Az [(gs.length:Int)]++(gs.take k).flatMap gwB) false [gs[k].c] (by intro t ht;simp at ht;subst ht;first|exact XI hm.n (by decide)|exact XI hm.c (by decide)|exact XI hm.nd (by decide)) (by simp) (by simp only[ZF];omega),(fun _=>D9),oI,dI,?_⟩));(refine goI ?_;repeat (intro gg;refine goI ?_));have c1:(Az [gs[k].a,gs[k].v]).length≤22*2:=Ee (by intro n hn;simp at hn;cases hm;rcases hn with rfl|rfl<;>exact⟨by omega,by omega⟩) (by simp);(refine .inr (.inl ⟨_,_,true,[80],aM,Cc (A2++Az [(gs.length:Int)]++(gs.take k).flatMap gwB++B4 [gs[k].c]) false [gs[k].a,gs[k].v] (by intro n hn;simp at hn;cases hm;rcases hn with rfl|rfl<;>exact⟨by omega,by omega⟩) (by simp) (by simp only[ZF];omega),(fun _=>D9),oI,dI,?_⟩));(refine goI ?_;repeat (intro gg;refine goI ?_));have e2:A2++Az [(gs.length:Int)]++(gs.take k).flatMap gwB++B4 [gs[k].c]++Az [gs[k].a,gs[k].v]=A2++Az [(gs.length:Int)]++(gs.take (k+1)).flatMap gwB:=by rw[Du hlt];simp[gwB,B4,Az]
    (exact⟨none,trivial,fun gr=>⟨⟨k+1,by omega⟩,by show gs.length-(k+1)<gs.length-k;omega,tI,tI,⟨congrArg (fun r=>some (Ent.mk g1 (.q (Dg pwT r)) 0 [])) e2,trivial⟩,tI⟩⟩)
   ·have hge:¬k<gs.length:=(by have:=ZW q2;omega);obtain rfl:k=gs.length:=by omega
    (refine goI ?_;repeat (intro gg;refine goI ?_));refine .inr (.inr (.inr (Gv 7000 J2 rfl ?_)));(refine goI ?_;repeat (intro gg;refine goI ?_));rw[ZE];(refine .inr (.inl ⟨_,_,true,[80],aM,hN3,(fun _=>D9),oI,dI,?_⟩));(refine goI ?_;repeat (intro gg;refine goI ?_))
    try rw[ZE]
    (refine⟨[],none,{k:Nat//k≤wh.length},[0,1,2,13,14],fun⟨k,hk⟩=>[(15,.v (.int .i64 k))],[16,48],fun⟨k,hk⟩=>[(80,⟨g1,.q (Dg pwT (A3++Az [(wh.length:Int)]++(wh.take k).flatMap whB)),0,[]⟩)],fun⟨k,hk⟩=>wh.length-k,trivial,fun _=>⟨trivial,fun _=>⟨⟨0,by omega⟩,tI,Aj _ _,?_,Ai _ _⟩⟩,fun⟨k,hk⟩=>?_⟩;focus (exact⟨congrArg (fun r=>some (Ent.mk g1 (.q (Dg pwT r)) 0 [])) (by simp),trivial⟩));(refine goI ?_;repeat (intro gg;refine goI ?_));(refine Ab (fun q3=>?_) (fun q3=>?_)<;>rw[q3])
    ·have hlt:k<wh.length:=(by have:=ZV q3;omega);have hm:=h9 _ (ZK hlt);have n2:=Cn (f:=whB) (m:=162) (n:=20) (l:=wh) (fun x hx=>Wh.lenB (h9 x hx)) h8 k;(refine goI ?_;repeat (intro gg;refine goI ?_));refine⟨k,_,rfl,Ap hlt,?_⟩;(refine goI ?_;repeat (intro gg;refine goI ?_));refine .inr (.inr (.inr (Gv 8000 Ou rfl ?_)));(refine goI ?_;repeat (intro gg;refine goI ?_));have c0:(B4 [wh[k].nd]).length≤52:=by
      have z0:=Bk hm.nd;simp only[B4,List.flatMap_cons,List.flatMap_nil,List.append_nil,ZF];omega
     (refine .inr (.inl ⟨_,_,true,[80],aM,Kp (A3++Az [(wh.length:Int)]++(wh.take k).flatMap whB) false [wh[k].nd] (by intro t ht;simp at ht;subst ht;first|exact XI hm.n (by decide)|exact XI hm.c (by decide)|exact XI hm.nd (by decide)) (by simp) (by simp only[ZF];omega),(fun _=>D9),oI,dI,?_⟩));(refine goI ?_;repeat (intro gg;refine goI ?_));have c1:(Az [wh[k].pl.x,wh[k].pl.y,wh[k].pl.z,wh[k].pl.h,wh[k].pl.s]).length≤22*5:=Ee (by intro n hn;simp at hn;cases hm;rcases hn with rfl|rfl|rfl|rfl|rfl<;>exact⟨by omega,by omega⟩) (by simp);(refine .inr (.inl ⟨_,_,true,[80],aM,Cc (A3++Az [(wh.length:Int)]++(wh.take k).flatMap whB++B4 [wh[k].nd]) false [wh[k].pl.x,wh[k].pl.y,wh[k].pl.z,wh[k].pl.h,wh[k].pl.s] (by intro n hn;simp at hn;cases hm;rcases hn with rfl|rfl|rfl|rfl|rfl<;>exact⟨by omega,by omega⟩) (by simp) (by simp only[ZF];omega),(fun _=>D9),oI,dI,?_⟩));(refine goI ?_;repeat (intro gg;refine goI ?_));have e2:A3++Az [(wh.length:Int)]++(wh.take k).flatMap whB++B4 [wh[k].nd]++Az [wh[k].pl.x,wh[k].pl.y,wh[k].pl.z,wh[k].pl.h,wh[k].pl.s]=A3++Az [(wh.length:Int)]++(wh.take (k+1)).flatMap whB:=by rw[Du hlt];simp[whB,B4,Az]
     (exact⟨none,trivial,fun gr=>⟨⟨k+1,by omega⟩,by show wh.length-(k+1)<wh.length-k;omega,tI,tI,⟨congrArg (fun r=>some (Ent.mk g1 (.q (Dg pwT r)) 0 [])) e2,trivial⟩,tI⟩⟩)
    ·have hge:¬k<wh.length:=(by have:=ZW q3;omega);obtain rfl:k=wh.length:=by omega
     (refine goI ?_;repeat (intro gg;refine goI ?_));(refine .inr (.inl ⟨_,_,false,[80],aM,X8 (T:=pwT) (A3++Az [(wh.length:Int)]++(wh.take wh.length).flatMap whB) (by intro q;have:=congrArg List.length q;simp[Az,A8]at this),Ak,oI,dI,?_⟩));(refine goI ?_;repeat (intro gg;refine goI ?_));(exact⟨[],aI⟩)
abbrev prT:TypeId:=65
def Do:Value:=.iface 61 (.agg #[])
section
variable {P:Program} {w:World} {R:Nat→Prop}
theorem Y4{p:Ba}{x:Value}{F':Nat→Prop}(hx:Hj w R p x F')(hd:∀b,F' b→¬R b):∀(zs:List Value),Ca w R ((zs.map fun z=>.p (.c (.v z)))++[p]) (zs++[x]) F'
 |[]=>⟨F',fun _=>False,hx,fun b h=>h,fun b hb=>⟨fun q=>q,hd b hb⟩,fun b=>by simp⟩
 |z::zs=>by
  refine⟨fun _=>False,F',⟨.v z,fun b=>⟨fun q=>q.elim,fun q=>Fa (fun p hp=>by simp at hp;exact⟨_,hp⟩) q⟩⟩,Y4 hx hd zs,fun b hb=>hb.elim,fun b=>by simp⟩
theorem Aa1{u:V}{x:Value}(h:RV w R noG u x):N7 w R [.c u] [x]:=by
 refine⟨rfl,fun i p y h1 h2=>?_,fun i j T sz rows T' sz' rows' x y b hij h1=>?_,fun b h=>absurd h (Fa (fun p hp=>by simp at hp;exact⟨_,hp⟩))⟩
 ·rcases i with _|i
  ·cases h1;cases h2;exact h
  ·simp at h1
 ·rcases i with _|i<;>simp at h1
theorem Ahs{T:TypeId}{y y':Value}{xs:List Value}{F:Nat→Prop}(hp:Ca w R [.mn T [.c (.v y)] [.c (.v y')]] xs F):∃b,xs=[.pointer (some ⟨b,0,none⟩)]∧w.heap[b]? =some (.cells #[y] T (0,0))∧(∀k,F k↔k=b)∧¬R b:=by
 match xs,hp with
 |[x],hp=>
  obtain⟨F1,F2,⟨b,ys,rfl,hpos,hown,hpars,hone,hnb,hF1⟩,h2,h3,h4⟩:=hp;have hl:ys.length=1:=by simpa using hpars.len.symm
  obtain⟨y0,rfl⟩:∃y0,ys=[y0]:=List.length_eq_one_iff.1 hl;obtain rfl:y0=y:=B9 (hpars.ok 0 _ _ rfl rfl);have hnb':∀k,¬A7 [.c (.v y0)] [y0] k:=fun k=>Fa (fun p hp=>by simp at hp;exact⟨_,hp⟩);have hF:∀k,F k↔k=b:=fun k=>by
   rw[h4,hF1];exact⟨fun q=>q.elim (fun q=>q.resolve_right (hnb' k)) (fun q=>absurd q (h2 k)),fun q=>.inl (.inl q)⟩
  refine⟨b,rfl,?_,hF,(h3 b ((hF1 b).2 (.inl rfl))).2⟩;rcases hown.2 with⟨q,_⟩|⟨g,cap,cur,q,_,hg,hnc,hcm,hcs,htake⟩
  ·cases q
  ·injection q with q1 q2 q3;injection q1 with q1
   injection q1 with q1;subst q1 q3;have hl:cur.toList.length=1:=by simpa using hcs
   have hx:cur.toList=[y0]:=by rw[←htake,List.take_of_length_le (by rw[hl];exact ZT _)]
   have hc:cur= #[y0]:=by apply Array.ext';rw[hx]
   rw[hc]at hg;exact hg
theorem Afo[Glob]{f:FuncId}{T:TypeId}{y y':Value}{zs:List Value}(hc:Dt P f)(hy':y'.oneCell'=true)(h:∀(w:World) (L:Nat→Prop) (b:Nat),Bz w L→w.heap[b]? =some (.cells #[y] T (0,0))→Calls P f #[.pointer (some ⟨b,0,none⟩)] w fun e w'=>e=.returned (Db zs)∧Fr (fun k=>k=b) w w'∧w'.heap[b]? =some (.cells #[y'] T (0,0))):
  E8 P f [.mn T [.c (.v y)] [.c (.v y')]] (zs.map fun z=>.p (.c (.v z))):=by
 refine⟨hc,fun w R xs F hlt hp hg=>?_⟩;obtain⟨b,rfl,hb,hF,hR⟩:=Ahs hp;refine(h w F b hg hb).mono ?_
 rintro e w' ⟨rfl,hfr,hb'⟩
 refine⟨zs,R,fun k=>k=b,rfl,by simp,C6 hfr fun k hk=>(hF k).2 hk,fun b hb=>hb,fun b hb=>.inl hb,?_,fun k hk=>.inl ((hF k).2 hk)⟩;have hnb':∀k,¬A7 [.c (.v y')] [y'] k:=fun k=>Fa (fun p hp=>by simp at hp;exact⟨_,hp⟩);refine Y4 (p:=.pn T [.c (.v y')]) ⟨b,[y'],rfl,by simp,⟨rfl,.inr ⟨b,1,_,rfl,ZU _,hb',by simp,by decide,rfl,rfl⟩⟩,Aa1 (.v _),by simp[hy'],hnb' b,fun k=>⟨.inl,fun h=>h.elim id (fun h=>absurd h (hnb' k))⟩⟩ (fun k hk=>by rw[hk];exact hR) zs
theorem Zs[Glob]{f:FuncId}{T:TypeId}{y v:Value}{y':Value}(hc:Dt P f)(h:∀(w:World) (L:Nat→Prop) (b:Nat),Bz w L→w.heap[b]? =some (.cells #[y] T (0,0))→Calls P f #[.pointer (some ⟨b,0,none⟩)] w fun e w'=>e=.panicked [{v:=v,recovered:=false}]∧Fr (fun k=>k=b) w w'):
  Gu P f [.mn T [.c (.v y)] [.c (.v y')]] v:=by
 refine⟨hc,fun w R xs F hlt hp hg=>?_⟩;obtain⟨b,rfl,hb,hF,hR⟩:=Ahs hp;exact(h w F b hg hb).mono fun e w' ⟨h1,h2⟩=>⟨h1,C6 h2 fun k hk=>(hF k).2 hk⟩
end
def G5:Ag:=
 .seq (.reg [Rq 4 (.mv (.const (.string ⟨#[]⟩))),Rq 5 (.mv (.const (.string ⟨#[]⟩))),Rq 6 (.mv (.const (.bool false)))]) (.seq (.seq (.reg [Mq 8 0,Mq 9 1,Cq 10 98 ([8,9]),Mq 7 10]) (.seq (.reg [Mq 11 7,Bq 12 .geq 11 (Kq 0)]) (.cond 12 (.seq (.dreg [[Mq 13 0,Mq 14 7,Rq 15 (.slcS 13 none (some 14)),Mq 16 0,Mq 17 7,Mq 18 1,Rq 19 (.len true 18),Bq 20 .add 17 19,Rq 21 (.slcS 16 (some 20) none),Mq 4 15],[Mq 5 21],[Rq 6 (.mv (.const (.bool true)))]]) (.ret)) (.skip)))) (.seq (.reg [Mq 22 0,Mq 4 22,Rq 5 (.mv (.const (.string ⟨#[]⟩))),Rq 6 (.mv (.const (.bool false)))]) (.ret)))
theorem Dy:Ao Tryz.prog 92 2=some (G5,[4,5,6]):=by kernel_rfl
namespace Pl
noncomputable def Ux(p:Pk):ByteArray:=if p.err=0 then bA (pkB p)else⟨#[]⟩
end Pl
theorem Gs[Glob][Tabs](p:Pk)(h:p.ok):Fun Tryz.prog 6 [.c (.agg p.row)] [.c (.v (.string (Ux p))),.c (.v (.int .i64 p.err))]:=by
 have hC:=Mi p h;by_cases h0:p.err=0
 ·have hW:=Acv p (Pk.sm h0);rw[h0]at hC ⊢;rw[show Ux p=bA (pkB p)from if_pos h0];refine A9 Lu rfl ?_;(refine goI ?_;repeat (intro gg;refine goI ?_));refine .inl (cX hC ?_);(refine goI ?_;repeat (intro gg;refine goI ?_));refine .inl (cX hW ?_);(refine goI ?_;repeat (intro gg;refine goI ?_));(exact⟨[],aI⟩)
 ·rw[show Ux p=⟨#[]⟩from if_neg h0];refine A9 Lu rfl ?_;(refine goI ?_;repeat (intro gg;refine goI ?_));refine .inl (cX hC ?_);(refine goI ?_;repeat (intro gg;refine goI ?_));(refine Ae5 ?_ ?_;focus (simpa using h0));(refine goI ?_;repeat (intro gg;refine goI ?_));(exact⟨[],aI⟩)
theorem Ns[Glob](s:ByteArray)(c:UInt8):Fun Tryz.prog 98 [.c (.v (.string s)),.c (.v (.string ⟨#[c]⟩))] [.c (.v (.int .i64 (ixb s c)))]:=
 Oi (xs:=[.string s,.string ⟨#[c]⟩]) (Ff Tryz.func98 (by kernel_rfl) (by kernel_rfl)) fun w=>(U7 s c w).mono fun e w' ⟨h1,h2⟩=>⟨h1,h2▸Below.refl _ _⟩
theorem Aci[Glob]{s:ByteArray}{k:Nat}(hk:ixb s 59=(k:Int))(hlt:k<s.size)(hs:s.size≤1000000000000):Fun Tryz.prog 92 [.c (.v (.string s)),.c (.v (.string ⟨#[59]⟩))] [.c (.v (.string (s.extract 0 k))),.c (.v (.string (s.extract (k+1) s.size))),.c (.v (.bool true))]:=by
 have hi:=Ns s 59;rw[hk]at hi;refine A9 Dy rfl ?_;(refine goI ?_;repeat (intro gg;refine goI ?_));refine .inl (cX hi ?_);(refine goI ?_;repeat (intro gg;refine goI ?_));refine⟨0,k,rfl,⟨_,rfl⟩,by omega,by omega,?_⟩;(refine goI ?_;repeat (intro gg;refine goI ?_));refine⟨(k:Int)+1,Jf (n:=(k:Int)+1) (by omega) (by omega),?_⟩;(refine goI ?_;repeat (intro gg;refine goI ?_));refine⟨k+1,s.size,⟨_,rfl⟩,rfl,by omega,ZT _,?_⟩;(refine goI ?_;repeat (intro gg;refine goI ?_));(exact⟨[],aI⟩)
theorem Acl[Glob]{s:ByteArray}(h:ixb s 59<0):Fun Tryz.prog 92 [.c (.v (.string s)),.c (.v (.string ⟨#[59]⟩))] [.c (.v (.string s)),.c (.v (.string ⟨#[]⟩)),.c (.v (.bool false))]:=by
 have hi:=Ns s 59;generalize ixb s 59=i at hi h;refine A9 Dy rfl ?_;(refine goI ?_;repeat (intro gg;refine goI ?_));refine .inl (cX hi ?_);(refine goI ?_;repeat (intro gg;refine goI ?_));(refine Vs ?_ ?_;focus (exact ZY (by omega)));(refine goI ?_;repeat (intro gg;refine goI ?_));(exact⟨[],aI⟩)
theorem O7[Glob]{s a b:ByteArray}(h:L1 s 59=some (a,b))(hs:s.size≤1000000000000):Fun Tryz.prog 82 [.c (.v (.string s)),.c (.v (.string ⟨#[59]⟩))] [.c (.v (.string a)),.c (.v (.string b)),.c (.v (.bool true))]:=by
 unfold L1 at h;split at h
 ·cases h
 ·rename_i h0;injection h with h
  injection h with ha hb;obtain⟨k,hk⟩:=Int.eq_ofNat_of_zero_le (show 0≤ixb s 59 by omega);have hlt:k<s.size:=by
   have h1:=(Lib.indexByte_some (show Lib.indexByte s.data.toList 59=(k:Int)from hk)).1;have:=(ZB.1 h1).1;rw[Array.length_toList]at this;exact this
  have hi:=Aci hk hlt hs;rw[hk,Int.toNat_natCast]at ha hb;rw[ha,hb]at hi;refine A9 Mt rfl ?_;(refine goI ?_;repeat (intro gg;refine goI ?_));refine .inl (cX hi ?_);(refine goI ?_;repeat (intro gg;refine goI ?_));(exact⟨[],aI⟩)
theorem Ts[Glob]{s:ByteArray}(h:L1 s 59=none):Fun Tryz.prog 82 [.c (.v (.string s)),.c (.v (.string ⟨#[59]⟩))] [.c (.v (.string s)),.c (.v (.string ⟨#[]⟩)),.c (.v (.bool false))]:=by
 unfold L1 at h;split at h
 ·rename_i h0;have hi:=Acl h0;refine A9 Mt rfl ?_;(refine goI ?_;repeat (intro gg;refine goI ?_));refine .inl (cX hi ?_);(refine goI ?_;repeat (intro gg;refine goI ?_));(exact⟨[],aI⟩)
 ·cases h
theorem Bz.none_[Glob]{w:World}{L:Nat→Prop}(h:Bz w L):Bz w (fun _=>False):=fun b o q=>⟨(h b o q).1,id⟩
theorem Bz.fr_[Glob]{w w':World}(h:Bz w (fun _=>False))(hf:Fr (fun _=>False) w w'):Bz w' (fun _=>False):=h.at_ hf fun b q=>q.elim
theorem Xe[Glob]{w w':World}(hf:Fr (fun _=>False) w w'){b:Nat}{o:Obj}(h:w.heap[b]? =some o):w'.heap[b]? =some o:=(hf.block b (XL.1 h).1 id).trans h
set_option maxRecDepth 100000 in
set_option maxHeartbeats 4000000 in
theorem Ad1[Glob][Tabs]{s r:ByteArray}{n:Int}(h:Cd s=some (n,r))(hs:s.size≤1000000000000)(w:World)(L:Nat→Prop)(b:Nat)(hg:Bz w L)(hb:w.heap[b]? =some (.cells #[.string s] prT (0,0))):
  Calls Tryz.prog 67 #[.pointer (some ⟨b,0,none⟩)] w fun e w'=>e=.returned (Db [.int .i64 n])∧Fr (fun k=>k=b) w w'∧w'.heap[b]? =some (.cells #[.string r] prT (0,0)):=by
 obtain⟨hI,_⟩:=F5 h;unfold Cd at h;rcases hc:L1 s 59 with _|⟨t,r'⟩
 ·rw[hc]at h;cases h
 rw[hc,ZA]at h;rcases hv:Zn t with _|n'
 ·simp only[hv]at h;cases h
 simp only[hv,Option.map_some,ZD,Prod.mk.injEq]at h;obtain⟨rfl,rfl⟩:=h;unfold Zn at hv;rcases hA:Lib.atoiAll t.data.toList with m|_|_
 rotate_left
 ·rw[hA]at hv;cases hv
 ·rw[hA]at hv;cases hv
 rw[hA]at hv;simp only at hv;split at hv;rotate_left
 ·cases hv
 rename_i hE;injection hv with hv
 subst hv;have hts:t.size≤1000000000000:=by
  unfold L1 at hc;split at hc
  ·cases hc
  ·injection hc with hc;injection hc with hc _
   subst hc;rw[ByteArray.size_extract];omega
 have hg0:=hg.none_;have c0:w.cell? ⟨b,0,none⟩=some (.string s):=by rw[Lib.cell_of_heap hb];rfl
 go_enter Tryz.func67,Tryz.ntmps67
 go_wp2_with (go_at_call 82;refine(G6 (xs:=[.string s,.string ⟨#[59]⟩]) (ys:=[.string t,.string r',.bool true]) (O7 hc hs) _ hg0).mono ?_;rintro e w1 ⟨rfl,hf1⟩;simp only[Db])
 have hg1:=hg0.fr_ hf1
 go_wp2_with (go_at_call 83;refine(Any.strconv_Atoi_ok Tryz.laysC172 t (by omega) m hA _).mono ?_;rintro e w2 ⟨rfl,hw2⟩)
 have hf2:Fr (fun _=>False) w1 w2:=by
  rcases hw2 with rfl|⟨q,rfl⟩
  ·exact Fr.refl _ _
  ·have hb:=Lib.bytesWorld_below w1 (Tryz.laysC172_ren.t 5) q;exact Dh hb
 have hg2:=hg1.fr_ hf2;clear hw2
 go_wp2_with (go_at_call 75;refine(G6 (xs:=[.int .i64 m]) (ys:=[.string ⟨(Lib.itoa m).toArray⟩]) (Ul m hI.1 hI.2) _ hg2).mono ?_;rintro e w3 ⟨rfl,hf3⟩;simp only[Db];have hb3:=Xe hf3 (Xe hf2 (Xe hf1 hb));have f3:=Lib.frozen_of_heap hb3 0;have c3:w3.cell? ⟨b,0,none⟩=some (.string s):=(by rw[Lib.cell_of_heap hb3];rfl))
 ·go_ret
  refine⟨rfl,?_,?_⟩
  ·exact(C6 ((hf1.trans hf2).trans hf3) (fun k q=>q.elim)).trans (Zp (L:=fun k=>k=b) rfl _ _)
  ·rw[heap_set hb3];rfl
theorem A5[Glob][Tabs]{s r:ByteArray}{n:Int}(h:Cd s=some (n,r))(hs:s.size≤1000000000000):E8 Tryz.prog 67 [.mn prT [.c (.v (.string s))] [.c (.v (.string r))]] [.p (.c (.v (.int .i64 n)))]:=
 Afo (zs:=[.int .i64 n]) (Ff Tryz.func67 (by kernel_rfl) (by kernel_rfl)) rfl fun w L b hg hb=>Ad1 h hs w L b hg hb
set_option maxRecDepth 100000 in
set_option maxHeartbeats 4000000 in
theorem Sw[Glob]{s:ByteArray}(hc:L1 s 59=none)(m:Int)(hA:Lib.atoiAll s.data.toList=.ok m)(hs:s.size≤1000000000000)(w:World)(L:Nat→Prop)(b:Nat)(hg:Bz w L)(hb:w.heap[b]? =some (.cells #[.string s] prT (0,0))):
  Calls Tryz.prog 67 #[.pointer (some ⟨b,0,none⟩)] w fun e w'=>e=.panicked [{v:=Do,recovered:=false}]∧Fr (fun k=>k=b) w w':=by
 have hg0:=hg.none_;have c0:w.cell? ⟨b,0,none⟩=some (.string s):=by rw[Lib.cell_of_heap hb];rfl
 go_enter Tryz.func67,Tryz.ntmps67
 go_wp2_with (go_at_call 82;refine(G6 (xs:=[.string s,.string ⟨#[59]⟩]) (ys:=[.string s,.string ⟨#[]⟩,.bool false]) (Ts hc) _ hg0).mono ?_;rintro e w1 ⟨rfl,hf1⟩;simp only[Db])
 have hg1:=hg0.fr_ hf1
 go_wp2_with (go_at_call 83;refine(Any.strconv_Atoi_ok Tryz.laysC172 s (by omega) m hA _).mono ?_;rintro e w2 ⟨rfl,hw2⟩)
 have hf2:Fr (fun _=>False) w1 w2:=by
  rcases hw2 with rfl|⟨q,rfl⟩
  ·exact Fr.refl _ _
  ·have hb:=Lib.bytesWorld_below w1 (Tryz.laysC172_ren.t 5) q;exact Dh hb
 have hg2:=hg1.fr_ hf2;clear hw2
 go_wp2
 refine⟨rfl,?_⟩;exact⟨rfl,C6 (hf1.trans hf2) (fun k q=>q.elim)⟩
set_option maxRecDepth 100000 in
set_option maxHeartbeats 4000000 in
theorem N8[Glob][Tabs]{s:ByteArray}(hc:L1 s 59=none)(hA:Lib.atoiAll s.data.toList=Lib.atoiAll [])(hs:s.size≤1000000000000)(w:World)(L:Nat→Prop)(b:Nat)(hg:Bz w L)(hb:w.heap[b]? =some (.cells #[.string s] prT (0,0))):
  Calls Tryz.prog 67 #[.pointer (some ⟨b,0,none⟩)] w fun e w'=>e=.panicked [{v:=Do,recovered:=false}]∧Fr (fun k=>k=b) w w':=by
 have hg0:=hg.none_;have c0:w.cell? ⟨b,0,none⟩=some (.string s):=by rw[Lib.cell_of_heap hb];rfl
 go_enter Tryz.func67,Tryz.ntmps67
 go_wp2_with (go_at_call 82;refine(G6 (xs:=[.string s,.string ⟨#[59]⟩]) (ys:=[.string s,.string ⟨#[]⟩,.bool false]) (Ts hc) _ hg0).mono ?_;rintro e w1 ⟨rfl,hf1⟩;simp only[Db])
 have hg1:=hg0.fr_ hf1;obtain⟨ev,hev1,hev2⟩:=Tabs.syn w1 _ hg1
 go_wp2_with (go_at_call 83;refine(Any.strconv_Atoi_syntax Tryz.laysC172 s (by omega) hA ev _ hev1 hev2).mono ?_;rintro e w2 ⟨N,rfl,hN1,hN2,hw2⟩)
 have hf2:Fr (fun _=>False) w1 w2:=Dh hw2
 go_wp2
 refine⟨rfl,?_⟩;exact⟨rfl,C6 (hf1.trans hf2) (fun k q=>q.elim)⟩
set_option maxRecDepth 100000 in
set_option maxHeartbeats 4000000 in
theorem Ok[Glob][Tabs]{s:ByteArray}(hc:L1 s 59=none)(hA:Lib.atoiAll s.data.toList=.range)(hs:s.size≤1000000000000)(w:World)(L:Nat→Prop)(b:Nat)(hg:Bz w L)(hb:w.heap[b]? =some (.cells #[.string s] prT (0,0))):
  Calls Tryz.prog 67 #[.pointer (some ⟨b,0,none⟩)] w fun e w'=>e=.panicked [{v:=Do,recovered:=false}]∧Fr (fun k=>k=b) w w':=by
 have hg0:=hg.none_;have c0:w.cell? ⟨b,0,none⟩=some (.string s):=by rw[Lib.cell_of_heap hb];rfl
 go_enter Tryz.func67,Tryz.ntmps67
 go_wp2_with (go_at_call 82;refine(G6 (xs:=[.string s,.string ⟨#[59]⟩]) (ys:=[.string s,.string ⟨#[]⟩,.bool false]) (Ts hc) _ hg0).mono ?_;rintro e w1 ⟨rfl,hf1⟩;simp only[Db])
 have hg1:=hg0.fr_ hf1;obtain⟨ev,hev1,hev2⟩:=Tabs.ran w1 _ hg1
 go_wp2_with (go_at_call 83;refine(Any.strconv_Atoi_range Tryz.laysC172 s (by omega) hA ev _ hev1 hev2).mono ?_;rintro e w2 ⟨N,rfl,hN1,hN2,hw2⟩)
 have hf2:Fr (fun _=>False) w1 w2:=Dh hw2
 go_wp2
 refine⟨rfl,?_⟩;exact⟨rfl,C6 (hf1.trans hf2) (fun k q=>q.elim)⟩
set_option maxRecDepth 100000 in
set_option maxHeartbeats 4000000 in
theorem O5[Glob][Tabs]{s t r:ByteArray}(hc:L1 s 59=some (t,r))(hA:Lib.atoiAll t.data.toList=Lib.atoiAll [])(hs:s.size≤1000000000000)(ht:t.size≤1000000000000)(w:World)(L:Nat→Prop)(b:Nat)(hg:Bz w L)(hb:w.heap[b]? =some (.cells #[.string s] prT (0,0))):
  Calls Tryz.prog 67 #[.pointer (some ⟨b,0,none⟩)] w fun e w'=>e=.panicked [{v:=Do,recovered:=false}]∧Fr (fun k=>k=b) w w':=by
 have hg0:=hg.none_;have c0:w.cell? ⟨b,0,none⟩=some (.string s):=by rw[Lib.cell_of_heap hb];rfl
 go_enter Tryz.func67,Tryz.ntmps67
 go_wp2_with (go_at_call 82;refine(G6 (xs:=[.string s,.string ⟨#[59]⟩]) (ys:=[.string t,.string r,.bool true]) (O7 hc hs) _ hg0).mono ?_;rintro e w1 ⟨rfl,hf1⟩;simp only[Db])
 have hg1:=hg0.fr_ hf1;obtain⟨ev,hev1,hev2⟩:=Tabs.syn w1 _ hg1
 go_wp2_with (go_at_call 83;refine(Any.strconv_Atoi_syntax Tryz.laysC172 t (by omega) hA ev _ hev1 hev2).mono ?_;rintro e w2 ⟨N,rfl,hN1,hN2,hw2⟩)
 have hf2:Fr (fun _=>False) w1 w2:=Dh hw2
 go_wp2
 refine⟨rfl,?_⟩;exact⟨rfl,C6 (hf1.trans hf2) (fun k q=>q.elim)⟩
set_option maxRecDepth 100000 in
set_option maxHeartbeats 4000000 in
theorem Pw[Glob][Tabs]{s t r:ByteArray}(hc:L1 s 59=some (t,r))(hA:Lib.atoiAll t.data.toList=.range)(hs:s.size≤1000000000000)(ht:t.size≤1000000000000)(w:World)(L:Nat→Prop)(b:Nat)(hg:Bz w L)(hb:w.heap[b]? =some (.cells #[.string s] prT (0,0))):
  Calls Tryz.prog 67 #[.pointer (some ⟨b,0,none⟩)] w fun e w'=>e=.panicked [{v:=Do,recovered:=false}]∧Fr (fun k=>k=b) w w':=by
 have hg0:=hg.none_;have c0:w.cell? ⟨b,0,none⟩=some (.string s):=by rw[Lib.cell_of_heap hb];rfl
 go_enter Tryz.func67,Tryz.ntmps67
 go_wp2_with (go_at_call 82;refine(G6 (xs:=[.string s,.string ⟨#[59]⟩]) (ys:=[.string t,.string r,.bool true]) (O7 hc hs) _ hg0).mono ?_;rintro e w1 ⟨rfl,hf1⟩;simp only[Db])
 have hg1:=hg0.fr_ hf1;obtain⟨ev,hev1,hev2⟩:=Tabs.ran w1 _ hg1
 go_wp2_with (go_at_call 83;refine(Any.strconv_Atoi_range Tryz.laysC172 t (by omega) hA ev _ hev1 hev2).mono ?_;rintro e w2 ⟨N,rfl,hN1,hN2,hw2⟩)
 have hf2:Fr (fun _=>False) w1 w2:=Dh hw2
 go_wp2
 refine⟨rfl,?_⟩;exact⟨rfl,C6 (hf1.trans hf2) (fun k q=>q.elim)⟩
set_option maxRecDepth 100000 in
set_option maxHeartbeats 4000000 in
theorem U8[Glob][Tabs]{s t r:ByteArray}(hc:L1 s 59=some (t,r))(m:Int)(hA:Lib.atoiAll t.data.toList=.ok m)(hE:¬Lib.itoa m=t.data.toList)(hs:s.size≤1000000000000)(ht:t.size≤1000000000000)(w:World)(L:Nat→Prop)(b:Nat)(hg:Bz w L)(hb:w.heap[b]? =some (.cells #[.string s] prT (0,0))):
  Calls Tryz.prog 67 #[.pointer (some ⟨b,0,none⟩)] w fun e w'=>e=.panicked [{v:=Do,recovered:=false}]∧Fr (fun k=>k=b) w w':=by
 have hg0:=hg.none_;have c0:w.cell? ⟨b,0,none⟩=some (.string s):=by rw[Lib.cell_of_heap hb];rfl
 obtain⟨hI1,hI2⟩:=Lib.atoiAll_bounds hA;have hE2:(⟨(Lib.itoa m).toArray⟩:ByteArray)≠t:=fun q=>hE (by rw[←q])
 go_enter Tryz.func67,Tryz.ntmps67
 go_wp2_with (go_at_call 82;refine(G6 (xs:=[.string s,.string ⟨#[59]⟩]) (ys:=[.string t,.string r,.bool true]) (O7 hc hs) _ hg0).mono ?_;rintro e w1 ⟨rfl,hf1⟩;simp only[Db])
 have hg1:=hg0.fr_ hf1
 go_wp2_with (go_at_call 83;refine(Any.strconv_Atoi_ok Tryz.laysC172 t (by omega) m hA _).mono ?_;rintro e w2 ⟨rfl,hw2⟩)
 have hf2:Fr (fun _=>False) w1 w2:=by
  rcases hw2 with rfl|⟨q,rfl⟩
  ·exact Fr.refl _ _
  ·have hb:=Lib.bytesWorld_below w1 (Tryz.laysC172_ren.t 5) q;exact Dh hb
 have hg2:=hg1.fr_ hf2;clear hw2
 go_wp2_with (go_at_call 75;refine(G6 (xs:=[.int .i64 m]) (ys:=[.string ⟨(Lib.itoa m).toArray⟩]) (Ul m hI1 hI2) _ hg2).mono ?_;rintro e w3 ⟨rfl,hf3⟩;simp only[Db];have hE3:((Lib.itoa m)==t.toList)=false:=(by rw[Lib.toList_data];simpa using hE))
 go_wp2
 refine⟨rfl,?_⟩;exact⟨rfl,C6 ((hf1.trans hf2).trans hf3) (fun k q=>q.elim)⟩
theorem Bd[Glob][Tabs]{s:ByteArray}{y':Value}(h:Cd s=none)(hs:s.size≤1000000000000):Gu Tryz.prog 67 [.mn prT [.c (.v (.string s))] [.c (.v y')]] Do:=by
 refine Zs (Ff Tryz.func67 (by kernel_rfl) (by kernel_rfl)) fun w L b hg hb=>?_;unfold Cd at h;rcases hc:L1 s 59 with _|⟨t,r⟩
 ·rcases hA:Lib.atoiAll s.data.toList with m|_|_
  ·exact Sw hc m hA hs w L b hg hb
  ·exact N8 hc hA hs w L b hg hb
  ·exact Ok hc hA hs w L b hg hb
 ·rw[hc,ZA,Option.map_eq_none_iff]at h;have ht:t.size≤1000000000000:=by
   unfold L1 at hc;split at hc
   ·cases hc
   ·injection hc with hc;injection hc with hc _
    subst hc;rw[ByteArray.size_extract];omega
  unfold Zn at h;simp only at h;rcases hA:Lib.atoiAll t.data.toList with m|_|_
  ·rw[hA]at h;simp only at h;split at h
   ·cases h
   ·rename_i hE;exact U8 hc m hA hE hs ht w L b hg hb
  ·exact O5 hc hA hs ht w L b hg hb
  ·exact Pw hc hA hs ht w L b hg hb
theorem Bt[Glob]{s:ByteArray}{p:Int×ByteArray}(h:Cd s=some p):p.2.size≤s.size:=by
 obtain⟨_,h⟩:=F5 h;have h1:s.data.toList.length=s.size:=Array.length_toList;have h2:p.2.data.toList.length=p.2.size:=Array.length_toList;rw[h,ZF]at h1;omega
theorem D5[Glob][Tabs]{s t r:ByteArray}(h:Fk s=some (t,r))(hs:s.size≤1000000000000):E8 Tryz.prog 63 [.mn prT [.c (.v (.string s))] [.c (.v (.string r))]] [.p (.c (.v (.string t)))]:=by
 unfold Fk at h;rcases e:Cd s with _|⟨n,r1⟩
 ·rw[e]at h;cases h
 rw[e,ZA]at h;simp only at h;split at h
 ·cases h
 rename_i hc;have hz:=Bt e;simp only at hz;obtain⟨k,rfl⟩:=Int.eq_ofNat_of_zero_le (show 0≤n by omega);have hk:k≤r1.size:=by omega
 rw[Int.toNat_natCast]at h;injection h with h
 injection h with h1 h2;subst h1 h2;refine L7 Fs rfl rfl (N3 rfl) ?_;(refine goI ?_;repeat (intro gg;refine goI ?_));(refine .inr (.inl ⟨_,_,false,0::([]++[]),?_,A5 e hs,Ak,oI,dI,?_⟩);focus (exact wI));(refine goI ?_;repeat (intro gg;refine goI ?_));(refine Vs ?_ ?_;focus (exact ZY (by omega)));(refine goI ?_;repeat (intro gg;refine goI ?_));refine⟨0,k,rfl,⟨_,rfl⟩,by omega,by omega,?_⟩;(refine goI ?_;repeat (intro gg;refine goI ?_));refine⟨k,r1.size,⟨_,rfl⟩,rfl,by omega,ZT _,?_⟩;(refine goI ?_;repeat (intro gg;refine goI ?_));(exact⟨0::([]++[]),B7 (by first|exact De rfl|assumption) (D7 (gone:=[]) (gone1:=[]) rfl aI (by decide) (by decide) (by decide) (.nil _))⟩)
theorem Fg[Glob][Tabs]{s:ByteArray}{y':Value}(h:Fk s=none)(hs:s.size≤1000000000000):Gu Tryz.prog 63 [.mn prT [.c (.v (.string s))] [.c (.v y')]] Do:=by
 unfold Fk at h;refine Xw Fs rfl (N3 rfl) ?_;(refine goI ?_;repeat (intro gg;refine goI ?_));rcases e:Cd s with _|⟨n,r1⟩
 ·(refine .inr (.inr (.inl ⟨_,false,0::([]++[]),_,?_,Bd (y':=.nilIface) e hs,rfl⟩));focus (exact wI))
 ·rw[e,ZA]at h;simp only at h;split at h;rotate_left
  ·cases h
  rename_i hc;(refine .inr (.inl ⟨_,_,false,0::([]++[]),?_,A5 e hs,Ak,oI,dI,?_⟩);focus (exact wI));(refine goI ?_;repeat (intro gg;refine goI ?_));by_cases hn:n<0
  ·rw[ZX hn];(refine goI ?_;repeat (intro gg;refine goI ?_));rfl
  ·rw[ZY hn];(refine goI ?_;repeat (intro gg;refine goI ?_));rw[ZX (show(r1.size:Int)<n by omega)];(refine goI ?_;repeat (intro gg;refine goI ?_));rfl
theorem K2[Glob][Tabs]{s r:ByteArray}{b:Bool}(h:Kg s=some (b,r))(hs:s.size≤1000000000000):E8 Tryz.prog 64 [.mn prT [.c (.v (.string s))] [.c (.v (.string r))]] [.p (.c (.v (.bool b)))]:=by
 unfold Kg at h;rcases e:Cd s with _|⟨n,r1⟩
 ·rw[e]at h;cases h
 rw[e,ZA]at h;simp only at h;split at h
 ·cases h
 rename_i hc;injection h with h
 injection h with h1 h2;subst h2;refine L7 Gp rfl rfl (N3 rfl) ?_;(refine goI ?_;repeat (intro gg;refine goI ?_));rcases(show n=0∨n=1 by omega)with rfl|rfl
 ·obtain rfl:b=false:=h1.symm;(refine .inr (.inl ⟨_,_,false,0::([]++[]),?_,A5 e hs,Ak,oI,dI,?_⟩);focus (exact wI));(refine goI ?_;repeat (intro gg;refine goI ?_));(exact⟨0::([]++[]),B7 (by first|exact De rfl|assumption) (D7 (gone:=[]) (gone1:=[]) rfl aI (by decide) (by decide) (by decide) (.nil _))⟩)
 ·obtain rfl:b=true:=h1.symm;(refine .inr (.inl ⟨_,_,false,0::([]++[]),?_,A5 e hs,Ak,oI,dI,?_⟩);focus (exact wI));(refine goI ?_;repeat (intro gg;refine goI ?_));(exact⟨0::([]++[]),B7 (by first|exact De rfl|assumption) (D7 (gone:=[]) (gone1:=[]) rfl aI (by decide) (by decide) (by decide) (.nil _))⟩)
theorem Ky[Glob][Tabs]{s:ByteArray}{y':Value}(h:Kg s=none)(hs:s.size≤1000000000000):Gu Tryz.prog 64 [.mn prT [.c (.v (.string s))] [.c (.v y')]] Do:=by
 unfold Kg at h;refine Xw Gp rfl (N3 rfl) ?_;(refine goI ?_;repeat (intro gg;refine goI ?_));rcases e:Cd s with _|⟨n,r1⟩
 ·(refine .inr (.inr (.inl ⟨_,false,0::([]++[]),_,?_,Bd (y':=.nilIface) e hs,rfl⟩));focus (exact wI))
 ·rw[e,ZA]at h;simp only at h;split at h;rotate_left
  ·cases h
  rename_i hc;(refine .inr (.inl ⟨_,_,false,0::([]++[]),?_,A5 e hs,Ak,oI,dI,?_⟩);focus (exact wI));(refine goI ?_;repeat (intro gg;refine goI ?_));by_cases hn:n<0
  ·rw[ZX hn];(refine goI ?_;repeat (intro gg;refine goI ?_));rfl
  ·rw[ZY hn];(refine goI ?_;repeat (intro gg;refine goI ?_));rw[ZX (show(1:Int)<n by omega)];(refine goI ?_;repeat (intro gg;refine goI ?_));rfl
end Go.Proofs.YteflnbjmjcbmmaaGreatDoor
