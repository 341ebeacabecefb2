/- Texts of this claim, joined. -/
import Derived.WalkKit
import Derived.Test.YtbnocibpoghfhaaGreatDoorProg
import Derived.Test.YtbnocibpoghfhaaGreatDoorWAbsQ
import Derived.KernelRfl
import Derived.Test.YtbnocibpoghfhaaGreatDoorRows
import Derived.ProofKit
import Derived.OpenShut
import Derived.Below
import Derived.ChangeSame
import Derived.Test.YtbnocibpoghfhaaGreatDoorWAbsG
import Derived.Deep.Slices
import Derived.Deep.Fields
import Derived.Lib.SmallJoins
import Derived.WalkSmall
import Derived.WalkLawsBesides
import Derived.BigGuardPart
import Derived.Deep.Light
import Derived.Laws.IdiomStrings
import Derived.Laws.CopyRow
import Derived.Laws.CopyOwn
import Derived.Deep.RegionLaw
import Derived.Lib.AppendZerosOnto
import Derived.Lib.Overlaps
import Derived.Laws.Externs
import Derived.OwnWalk
import Derived.Maps.AppendAt
import Derived.Deep.AppendLies
set_option linter.unusedSimpArgs false
set_option linter.unusedVariables false
namespace Go.Proofs.YtbnocibpoghfhaaGreatDoor
namespace Pl
theorem Adb:∀x:List UInt8,Op.bytesLess x x=false
 |[]=>rfl
 |a::x=>by simp[Op.bytesLess,Adb x,UInt8.lt_irrefl]
theorem Aim:∀{x y z:List UInt8},Op.bytesLess x y=true→Op.bytesLess y z=true→Op.bytesLess x z=true
 |[],_::_,[],_,h=>by simp[Op.bytesLess]at h
 |_,[],_,h,_=>by cases ‹List UInt8› <;>simp[Op.bytesLess]at h
 |[],b::y,c::z,_,_=>rfl
 |a::x,b::y,[],_,h=>by simp[Op.bytesLess]at h
 |a::x,b::y,c::z,h1,h2=>by
  simp only[Op.bytesLess,Bool.or_eq_true,decide_eq_true_eq,ZO,ZR]at h1 h2 ⊢;rcases h1 with h1|⟨rfl,h1⟩
  ·rcases h2 with h2|⟨rfl,h2⟩
   ·exact .inl (UInt8.lt_trans h1 h2)
   ·exact .inl h1
  ·rcases h2 with h2|⟨rfl,h2⟩
   ·exact .inl h2
   ·exact .inr ⟨rfl,Aim h1 h2⟩
theorem Aq2:∀{x y:List UInt8},Op.bytesLess x y=false→Op.bytesLess y x=false→x=y
 |[],[],_,_=>rfl
 |[],b::y,h,_=>by simp[Op.bytesLess]at h
 |a::x,[],_,h=>by simp[Op.bytesLess]at h
 |a::x,b::y,h1,h2=>by
  simp only[Op.bytesLess,Bool.or_eq_false_iff,decide_eq_false_iff_not,Bool.and_eq_false_iff]at h1 h2;have hab:a=b:=by
   have g1:¬a.toNat<b.toNat:=h1.1;have g2:¬b.toNat<a.toNat:=h2.1;exact UInt8.toNat_inj.1 (by omega)
  subst hab;have e1:Op.bytesLess x y=false:=by rcases h1.2 with h|h<;>simp_all
  have e2:Op.bytesLess y x=false:=by rcases h2.2 with h|h<;>simp_all
  rw[Aq2 e1 e2]
def slt(a b:ByteArray):Bool:=Op.bytesLess a.toList b.toList
theorem toList_inj{a b:ByteArray}(h:a.toList=b.toList):a=b:=by
 rw[ByteArray.toList_eq,ByteArray.toList_eq]at h;cases a;cases b;congr;exact Array.toList_inj.1 h
theorem Fj(a:ByteArray):slt a a=false:=Adb _
theorem Kj{a b c:ByteArray}(h1:slt a b=true)(h2:slt b c=true):slt a c=true:=Aim h1 h2
theorem Ry{a b:ByteArray}(h1:slt a b=false)(h2:slt b a=false):a=b:=toList_inj (Aq2 h1 h2)
theorem W6{a b:ByteArray}(h1:slt a b=true):slt b a=false:=by
 rcases Bool.eq_false_or_eq_true (slt b a)with h|h
 ·have:=Kj h1 h;rw[Fj]at this;cases this
 ·exact h
theorem Yw{a b:ByteArray}:(a.toList==b.toList)=true↔a=b:=by
 rw[ZR];exact⟨toList_inj,fun h=>by rw[h]⟩
theorem V2{a b:ByteArray}(h:a≠b):(a.toList==b.toList)=false:=by
 rcases Bool.eq_false_or_eq_true (a.toList==b.toList)with g|g
 ·exact absurd (Yw.1 g) h
 ·exact g
theorem Afe(a b:ByteArray):(Op.bytesLess a.toList b.toList||a.toList==b.toList)= !(slt b a):=by
 rcases Bool.eq_false_or_eq_true (slt b a)with h|h
 ·rw[h];have h1:=W6 h;unfold slt at h1;rw[h1,V2 (fun e=>by subst e;rw[Fj]at h;cases h)];rfl
 ·rw[h];rcases Bool.eq_false_or_eq_true (slt a b)with g|g
  ·unfold slt at g;rw[g];rfl
  ·have:=Ry g h;subst this;simp
end Pl
namespace Pl
def Ey(a b:ByteArray):Int:=if slt a b then -1 else if slt b a then 1 else 0
theorem Y0{a b:ByteArray}(h:slt a b=true):Ey a b= -1:=by simp[Ey,h]
theorem Yz{a b:ByteArray}(h:slt b a=true):Ey a b=1:=by simp[Ey,W6 h,h]
theorem Uw(a:ByteArray):Ey a a=0:=by simp[Ey,Fj]
theorem Qu{a b:ByteArray}:Ey a b<0↔slt a b=true:=by
 unfold Ey;split
 ·simp_all
 ·split<;>simp_all
theorem Gk{a b:ByteArray}:Ey a b=0↔a=b:=by
 unfold Ey;split
 ·rename_i h;exact⟨fun e=>by omega,fun e=>by subst e;rw[Fj]at h;cases h⟩
 ·split
  ·rename_i h;exact⟨fun e=>by omega,fun e=>by subst e;rw[Fj]at h;cases h⟩
  ·rename_i h1 h2;exact⟨fun _=>Ry (by simpa using h1) (by simpa using h2),fun _=>rfl⟩
section
variable {α:Type} {cf:α→Int} {l:List α}
def low(cf:α→Int):List α→Nat
 |[]=>0
 |x::r=>if cf x<0 then low cf r+1 else 0
def Aj9(cf:α→Int)(l:List α):Prop:=∀i j,(hi:i<l.length)→(hj:j<l.length)→i≤j→cf l[j]<0→cf l[i]<0
theorem Ar7:∀l:List α,low cf l≤l.length
 |[]=>ZT _
 |x::r=>by simp only[low,ZJ];split<;>have:=Ar7 r<;>omega
theorem Ab2:∀{l:List α} {i:Nat} (hi:i<l.length),i<low cf l→cf l[i]<0
 |x::r,0,_,h=>by
  simp only[low]at h;split at h
  ·assumption
  ·omega
 |x::r,i+1,hi,h=>by
  simp only[low]at h;split at h
  ·exact Ab2 (l:=r) (by simpa using hi) (by omega)
  ·omega
theorem Ajv:∀{l:List α} (h:low cf l<l.length),0≤cf l[low cf l]
 |[],h=>by simp at h
 |x::r,h=>by
  by_cases hx:cf x<0
  ·have e:low cf (x::r)=low cf r+1:=by simp[low,hx]
   have h':low cf r<r.length:=by rw[e]at h;simpa using h
   have:=Ajv h';simp only[e,List.getElem_cons_succ];exact this
  ·have e:low cf (x::r)=0:=by simp[low,hx]
   simp only[e,List.getElem_cons_zero];omega
theorem Apw{a:Nat}(ha:a≤l.length)(h1:∀i,(hi:i<l.length)→i<a→cf l[i]<0)(h2:∀i,(hi:i<l.length)→a≤i→0≤cf l[i]):a=low cf l:=by
 have hl:=Ar7 (cf:=cf) l;rcases Nat.lt_trichotomy a (low cf l)with h|h|h
 ·have:=Ab2 (cf:=cf) (l:=l) (i:=a) (by omega) h;have:=h2 a (by omega) (ZT _);omega
 ·exact h
 ·have:=Ajv (cf:=cf) (l:=l) (by omega);have:=h1 (low cf l) (by omega) h;omega
def hit(cf:α→Int)(l:List α):Bool:=match l[low cf l]? with
 |some x=>decide (cf x=0)
 |none=>false
theorem Aja(h:low cf l<l.length):hit cf l=decide (cf l[low cf l]=0):=by simp[hit,h]
theorem Ale(h:¬low cf l<l.length):hit cf l=false:=by
 have:l[low cf l]? =none:=XK (by omega);simp[hit,this]
end
end Pl
namespace Pl
section
variable {α:Type}
def Bm(e:α→Int):List α→Int
 |[]=>0
 |x::r=>if e x=0 then Bm e r else e x
def Cz(lt:α→α→Bool):List α→Bool
 |[]=>true
 |[_]=>true
 |x::y::r=>lt x y&&Cz lt (y::r)
def ckL(mx:Nat)(e:α→Int)(lt:α→α→Bool)(l:List α):Int:=
 if mx<l.length then 2 else if Bm e l=0 then(if Cz lt l then 0 else 4)else Bm e l
theorem Dm{e:α→Int}:∀{l:List α},(∀i,(h:i<l.length)→e l[i]=0)→Bm e l=0
 |[],_=>rfl
 |x::r,h=>by
  have h0:e x=0:=h 0 (by simp);simp only[Bm,h0,if_true];exact Dm fun i hi=>h (i+1) (by simpa using hi)
theorem Ff{e:α→Int}:∀{l:List α} {k:Nat} (hk:k<l.length),(∀i,(h:i<l.length)→i<k→e l[i]=0)→e l[k]≠0→Bm e l=e l[k]
 |x::r,0,_,_,hne=>by
  simp only[List.getElem_cons_zero]at hne ⊢;simp[Bm,hne]
 |x::r,k+1,hk,h,hne=>by
  have h0:e x=0:=h 0 (by simp) (by omega);simp only[Bm,h0,if_true,List.getElem_cons_succ]at hne ⊢;exact Ff (by simpa using hk) (fun i hi hik=>h (i+1) (by simpa using hi) (by omega)) hne
theorem Kd{lt:α→α→Bool}:∀{l:List α},(∀i,(h:i+1<l.length)→lt l[i] l[i+1]=true)→Cz lt l=true
 |[],_=>rfl
 |[_],_=>rfl
 |x::y::r,h=>by
  simp only[Cz,Bool.and_eq_true_iff];exact⟨h 0 (by simp),Kd fun i hi=>h (i+1) (by simpa using hi)⟩
theorem K0{lt:α→α→Bool}:∀{l:List α} {k:Nat} (hk:k+1<l.length),lt l[k] l[k+1]=false→Cz lt l=false
 |[_],k,hk,_=>by simp at hk
 |x::y::r,0,_,h=>by
  simp only[List.getElem_cons_zero,List.getElem_cons_succ]at h;simp[Cz,h]
 |x::y::r,k+1,hk,h=>by
  have:Cz lt (y::r)=false:=K0 (k:=k) (by simpa using hk) (by simpa using h);simp[Cz,this]
theorem Aau{lt:α→α→Bool}:∀{l:List α},Cz lt l=true→∀i,(h:i+1<l.length)→lt l[i] l[i+1]=true
 |[],_,i,h=>by simp at h
 |[_],_,i,h=>by simp at h
 |x::y::r,hs,0,_=>by
  simp only[Cz,Bool.and_eq_true_iff]at hs;exact hs.1
 |x::y::r,hs,i+1,h=>by
  simp only[Cz,Bool.and_eq_true_iff]at hs;exact Aau hs.2 i (by simpa using h)
theorem Ud{e:α→Int}:∀{l:List α},Bm e l=0→∀i,(h:i<l.length)→e l[i]=0
 |[],_,i,h=>by simp at h
 |x::r,hs,i,h=>by
  by_cases h0:e x=0
  ·simp only[Bm,h0,if_true]at hs;cases i with
   |zero=>exact h0
   |succ i=>exact Ud hs i (by simpa using h)
  ·simp[Bm,h0]at hs
variable {mx:Nat} {e:α→Int} {lt:α→α→Bool} {l:List α}
theorem T6(h:mx<l.length):ckL mx e lt l=2:=by simp[ckL,h]
theorem Ama(he:∀x,e x=0∨e x=1∨e x=3∨e x=7)(h:ckL mx e lt l=0):l.length≤mx∧(∀i,(hi:i<l.length)→e l[i]=0)∧Cz lt l=true:=by
 unfold ckL at h;split at h
 ·omega
 ·split at h
  ·rename_i h1 h2;split at h
   ·rename_i h3;exact⟨by omega,Ud h2,h3⟩
   ·omega
  ·rename_i h1 h2;exact absurd h h2
end
end Pl
namespace Pl
section
variable {α:Type}
def at_(p:α→Bool)(l:List α):Int:=match l.findIdx? p with
 |some i=>(i:Int)
 |none=> -1
theorem Vq{p:α→Bool}{l:List α}{k:Nat}(hk:k<l.length)(h0:∀i,(h:i<l.length)→i<k→p l[i]=false)(h1:p l[k]=true):at_ p l=k:=by
 have:l.findIdx? p=some k:=by
  rw[List.findIdx?_eq_some_iff_getElem];exact⟨hk,h1,fun j hj=>by simp[h0 j (by omega) hj]⟩
 simp[at_,this]
theorem Ad9{p:α→Bool}{l:List α}(h0:∀i,(h:i<l.length)→p l[i]=false):at_ p l= -1:=by
 have:l.findIdx? p=none:=by
  rw[List.findIdx?_eq_none_iff];intro x hx;obtain⟨i,hi,rfl⟩:=List.getElem_of_mem hx;exact h0 i hi
 simp[at_,this]
theorem Ajp{p:α→Bool}{l:List α}:(at_ p l= -1∧∀i,(h:i<l.length)→p l[i]=false)∨∃k,∃hk:k<l.length,at_ p l=(k:Int)∧p l[k]=true∧∀i,(h:i<l.length)→i<k→p l[i]=false:=by
 cases h:l.findIdx? p with
 |none=>
  left;refine⟨by simp[at_,h],fun i hi=>?_⟩;rw[List.findIdx?_eq_none_iff]at h;exact h _ (ZK hi)
 |some k=>
  right;rw[List.findIdx?_eq_some_iff_getElem]at h;obtain⟨hk,h1,h2⟩:=h;refine⟨k,hk,?_,h1,fun i hi hik=>by simpa using h2 i hik⟩;have:l.findIdx? p=some k:=by
   rw[List.findIdx?_eq_some_iff_getElem];exact⟨hk,h1,h2⟩
  simp[at_,this]
theorem Ajb{l:List α}{k:Nat}(hk:k<l.length):l.take (k+1)=l.take k++[l[k]]:=by
 rw[List.take_succ_eq_append_getElem hk]
end
end Pl
namespace Pl
section
variable {α:Type} {lt:α→α→Bool} {cf:α→Int} {l:List α}
theorem Ra(htr:∀x y z,lt x y=true→lt y z=true→lt x z=true)(hs:Cz lt l=true):∀j i,(hj:j<l.length)→(hij:i<j)→lt (l[i]'(by omega)) l[j]=true:=by
 intro j
 induction j with
 |zero=>intro i _ h;omega
 |succ j ih=>
  intro i hj hij;have h1:=Aau hs j hj;rcases(by omega:i<j∨i=j)with g|rfl
  ·exact htr _ _ _ (ih i (by omega) g) h1
  ·exact h1
def Aaj(cf:α→Int)(l:List α):Prop:=∀i j,(hj:j<l.length)→(hij:i<j)→cf l[j]≤0→cf (l[i]'(by omega))<0
theorem Ahm(htr:∀x y z,lt x y=true→lt y z=true→lt x z=true)(hcf:∀x y,lt x y=true→cf y≤0→cf x<0)(hs:Cz lt l=true):Aaj cf l:=
 fun i j hj hij h=>hcf _ _ (Ra htr hs j i hj hij) h
theorem Aaj.mono(h:Aaj cf l):Aj9 cf l:=fun i j hi hj hij hc=>by
 rcases(by omega:i<j∨i=j)with g|rfl
 ·exact h i j hj g (by omega)
 ·exact hc
theorem Mx(h:hit cf l=true):low cf l<l.length:=by
 rcases Nat.lt_or_ge (low cf l) l.length with g|g
 ·exact g
 ·rw[Ale (by omega)]at h;cases h
theorem Ais(h:hit cf l=true):cf (l[low cf l]'(Mx h))=0:=by
 have:=Aja (Mx h);rw[this]at h;simpa using h
theorem Apc{x:α}(hx:x∈l.take (low cf l)):cf x<0:=by
 obtain⟨i,hi,rfl⟩:=List.getElem_of_mem hx;rw[ZM]at hi;rw[List.getElem_take];exact Ab2 (by omega) (by omega)
theorem Aa3(hm:Aaj cf l)(h:hit cf l=false){x:α}(hx:x∈l.drop (low cf l)):0<cf x:=by
 obtain⟨i,hi,rfl⟩:=List.getElem_of_mem hx;rw[List.length_drop]at hi;rw[List.getElem_drop];have hlo:low cf l<l.length:=by omega
 have h0:=Ajv hlo;have h1:cf l[low cf l]≠0:=by
  rw[Aja hlo]at h;simpa using h
 rcases Nat.eq_zero_or_pos i with rfl|hp
 ·simp only[Nat.add_zero];omega
 ·have:=hm (low cf l) (low cf l+i) (by omega) (by omega);omega
theorem As6{k:Nat}(hk:k<l.length):l=l.take k++l[k]::l.drop (k+1):=by
 rw[←List.drop_eq_getElem_cons hk,List.take_append_drop]
def Ahu(cf:α→Int)(g:α)(l:List α):List α:=if hit cf l=true then l.set (low cf l) g else l.take (low cf l)++[g]++l.drop (low cf l)
end
end Pl
namespace Pl
structure Ord{α:Type}(lt:α→α→Bool)(cf:α→α→Int):Prop where
 neg:∀g x,cf g x<0↔lt x g=true
 pos:∀g x,0<cf g x↔lt g x=true
 trans:∀x y z,lt x y=true→lt y z=true→lt x z=true
 left:∀g x y,cf g x=0→lt x y=lt g y
 right:∀g x y,cf g x=0→lt y x=lt y g
section
variable {α:Type} {lt:α→α→Bool} {cf:α→α→Int} {l:List α}
theorem Ord.smono(o:Ord lt cf)(hs:Cz lt l=true)(g:α):Aaj (cf g) l:=
 Ahm o.trans (fun x y h hy=>by
  rw[o.neg];rcases(by omega:cf g y<0∨cf g y=0)with q|q
  ·exact o.trans _ _ _ h ((o.neg g y).1 q)
  ·rw[←o.right g y x q];exact h) hs
theorem Aa6(h:∀j i,(hj:j<l.length)→(hij:i<j)→lt (l[i]'(by omega)) l[j]=true):Cz lt l=true:=
 Kd fun i hi=>h (i+1) i hi (by omega)
theorem Al1(ht:∀x y z,lt x y=true→lt y z=true→lt x z=true):Cz lt l=true↔l.Pairwise (fun x y=>lt x y=true):=by
 constructor
 ·intro h;rw[List.pairwise_iff_getElem];intro i j hi hj hij;exact Ra ht h j i hj hij
 ·intro h;rw[List.pairwise_iff_getElem]at h;exact Aa6 fun j i hj hij=>h i j (by omega) hj hij
theorem Ord.put(o:Ord lt cf)(hs:Cz lt l=true)(g:α):Cz lt (Ahu (cf g) g l)=true:=by
 have hm:=o.smono hs g;rw[Al1 o.trans]at hs ⊢;unfold Ahu;split
 ·rename_i h;have hl:=Mx h;have h0:=Ais h;rw[List.set_eq_take_append_cons_drop,if_pos hl];have e:=As6 hl;rw[e]at hs;rw[List.pairwise_append,List.pairwise_cons]at hs ⊢;refine⟨hs.1,⟨fun y hy=>?_,hs.2.1.2⟩,fun x hx y hy=>?_⟩
  ·rw[←o.left g _ y h0];exact hs.2.1.1 y hy
  ·rcases XC.1 hy with rfl|hy
   ·rw[←o.right _ _ x h0];exact hs.2.2 x hx _ (XB ..)
   ·exact hs.2.2 x hx y (ZL _ hy)
 ·rename_i h;have hf:hit (cf g) l=false:=by simpa using h
  have e:l=l.take (low (cf g) l)++l.drop (low (cf g) l):=(List.take_append_drop _ _).symm;rw[e,List.pairwise_append]at hs;rw[ZS,List.pairwise_append,List.singleton_append,List.pairwise_cons];refine⟨hs.1,⟨fun y hy=>(o.pos g y).1 (Aa3 hm hf hy),hs.2.1⟩,fun x hx y hy=>?_⟩;rcases XC.1 hy with rfl|hy
  ·exact(o.neg _ x).1 (Apc hx)
  ·exact hs.2.2 x hx y hy
def upd(cf:α→α→Int)(nw:α→α→Bool)(l:List α)(g:α):List α:=
 match l[low (cf g) l]? with
 |some x=>if hit (cf g) l=true∧nw g x=false then l else Ahu (cf g) g l
 |none=>Ahu (cf g) g l
theorem Anl(nw:α→α→Bool)(g:α):upd cf nw l g=l∨upd cf nw l g=Ahu (cf g) g l:=by
 unfold upd;split
 ·split
  ·exact .inl rfl
  ·exact .inr rfl
 ·exact .inr rfl
def Ayc(cf:α→α→Int)(nw:α→α→Bool)(a b:List α):List α:=b.foldl (upd cf nw) a
theorem Ord.upd(o:Ord lt cf)(nw:α→α→Bool)(hs:Cz lt l=true)(g:α):Cz lt (upd cf nw l g)=true:=by
 rcases Anl (cf:=cf) (l:=l) nw g with h|h
 ·rw[h];exact hs
 ·rw[h];exact o.put hs g
theorem Ord.join(o:Ord lt cf)(nw:α→α→Bool):∀(b:List α) {a:List α},Cz lt a=true→Cz lt (Ayc cf nw a b)=true
 |[],a,h=>h
 |g::b,a,h=>o.join nw b (o.upd nw h g)
end
end Pl
namespace Pl
section
variable {α:Type} {cf:α→α→Int} {nw:α→α→Bool} {l:List α} {g:α}
end
end Pl
namespace Pl

end Pl
namespace Pl
def okB(n:Int):Bool:=decide ((97≤n∧n≤122)∨(48≤n∧n≤57)∨n=45∨n=95)
def lab(s:List UInt8):Bool:=s.all (fun c=>okB c.toNat)&&decide (1≤s.length∧s.length≤30)
theorem Al9{s:List UInt8}(h:∀i,(hi:i<s.length)→okB (s[i]).toNat=true)(h1:1≤s.length)(h2:s.length≤30):lab s=true:=by
 unfold lab;rw[Bool.and_eq_true_iff];refine⟨List.all_eq_true.2 fun c hc=>?_,by simp;omega⟩;obtain⟨i,hi,rfl⟩:=List.getElem_of_mem hc;exact h i hi
theorem lab_bad{s:List UInt8}{i:Nat}(hi:i<s.length)(h:okB (s[i]).toNat=false):lab s=false:=by
 unfold lab;rw[Bool.and_eq_false_iff];left;rw[List.all_eq_false];exact⟨s[i],ZK hi,by simp[h]⟩
theorem Aga{s:List UInt8}(h:¬(1≤s.length∧s.length≤30)):lab s=false:=by
 unfold lab;simp only[h,decide_false,Bool.and_false]
theorem Apz{n:Int}(h:¬((97≤n∧n≤122)∨(48≤n∧n≤57)∨n=45∨n=95)):okB n=false:=by
 unfold okB;simpa using h
theorem Aml{n:Int}(h:(97≤n∧n≤122)∨(48≤n∧n≤57)∨n=45∨n=95):okB n=true:=by
 unfold okB;simpa using h
end Pl
namespace Pl
def wi(n a b:Int):Bool:=decide (a≤n)&&decide (n≤b)
theorem Ae2{n a b:Int}:wi n a b=true↔a≤n∧n≤b:=by simp[wi]
def Agm(x y z h s:Int):Bool:=wi x (-10000000) 10000000&&wi y (-10000000) 10000000&&wi z (-10000000) 10000000&&wi h 0 1000000&&wi s 0 1000
def Ajt(x y z h s:Int):Int:=if Agm x y z h s then 0 else 3
end Pl
abbrev zq0:List Value:=[(.int .i64 0),(.bool false),(.bool false),(.int .i64 0),(.string ⟨#[]⟩),(.int .i64 0),(.slice none 0 0)]
abbrev zq3:List Value:=[(.string ⟨#[]⟩),(.int .i64 0),(.int .i64 0),(.int .i64 0),(.int .i64 0),(.int .i64 0)]
abbrev zq4:List Value:=[(.string ⟨#[]⟩),(.int .i64 0),(.int .i64 0),(.int .i64 0),(.string ⟨#[]⟩),(.int .i64 0),(.string ⟨#[]⟩)]
abbrev zq5:List Value:=[(.string ⟨#[]⟩),(.string ⟨#[]⟩),(.string ⟨#[]⟩),(.string ⟨#[]⟩),(.int .i64 0),(.int .i64 0),(.bool false),(.int .i64 0),(.bool false)]
abbrev zq7:List Value:=[(.string ⟨#[]⟩),(.string ⟨#[]⟩),(.string ⟨#[]⟩),(.string ⟨#[]⟩)]
def Ls:Ai:=
 .seq (.reg [Rq 3 (.box 30 9 1),Rq 4 (.mv (.const (.bool false)))]) (.seq (.seq (.reg [Cq 10 10 ([]),Rq 11 (.not 10),Mq 12 11,Gq 13 12 false (.call (.func 15) []),Gq 14 12 false (.not 13),Rq 15 (.pick 12 (.const (.bool true)) 14)]) (.cond 15 (.seq (.reg [Rq 4 (.mv (.const (.bool false)))]) (.ret)) (.skip))) (.seq (.reg [Mq 17 0,Fq 18 0 3,Lq 19 18,Fq 20 1 3,Lq 21 20,Fq 22 2 3,Lq 23 22,Fq 24 3 3,Rq 25 (.load true 5 24),Fq 26 8 3,Lq 27 26,Cq 28 13 ([17,19,21,23,25,27]),Mq 16 28,Eq1 29 16 0,Eq1 30 16 1,Eq1 31 16 2,Mq 5 29,Mq 6 30,Mq 7 31]) (.seq (.seq (.reg [Mq 32 7,Bq 33 .neq 32 (Kq 0),Mq 34 33,Hq 35 34 false 6,Gq 36 34 false (.not 35),Rq 37 (.pick 34 (.const (.bool true)) 36)]) (.cond 37 (.seq (.reg [Mq 38 5,Rq 39 (.bin .eql 38 (.const (.string ⟨#[]⟩))),Mq 40 39,Hq 41 40 true 6,Gq 42 40 true (.not 41),Rq 43 (.pick 40 42 (.const (.bool false))),Mq 4 43]) (.ret)) (.skip))) (.seq (.reg [Mq 45 5,Cq 46 17 ([45]),Mq 44 46,Eq1 47 44 0,Eq1 48 44 1,Rq 8 (.zbox 52 zq0),Sq 7 8 47,Mq 7 48]) (.seq (.seq (.dreg [[Mq 49 7],[Bq 50 .neq 49 (Kq 0)],[Mq 51 50],[Gq 52 51 false (.fldA 1 8)],[Gq 53 51 false (.load false 1 52)],[Gq 54 51 false (.not 53)],[Rq 55 (.pick 51 (.const (.bool true)) 54)],[Mq 56 55],[Hq 57 56 false 0],[Gq 58 56 false (.len true 57)],[Gq 59 56 false (.bin .lss 58 (Kq 12))],[Rq 60 (.pick 56 (.const (.bool true)) 59)],[Mq 61 60],[Gq 62 61 false (.fldA 0 8),Gq 63 61 false (.load false 1 62),Hq 64 61 false 0,Gq 65 61 false (.idxS 64 (Kq 0)),Gq 66 61 false (.conv .i64 65),Gq 67 61 false (.bin .mul (Kq 256) 66),Hq 68 61 false 0,Gq 69 61 false (.idxS 68 (Kq 1)),Gq 70 61 false (.conv .i64 69),Gq 71 61 false (.bin .add 67 70)],[Gq 72 61 false (.bin .neq 63 71)],[Rq 73 (.pick 61 (.const (.bool true)) 72)],[Mq 74 73],[Hq 75 74 false 5],[Gq 76 74 false (.len true 75)],[Gq 77 74 false (.bin .gtr 76 (Kq 512))],[Rq 78 (.pick 74 (.const (.bool true)) 77)]]) (.cond 78 (.seq (.reg [Rq 4 (.mv (.const (.bool false)))]) (.ret)) (.skip))) (.seq (.reg [Mq 80 0,Cq 81 17 ([80]),Mq 79 81,Eq1 82 79 0,Eq1 83 79 1,Rq 9 (.zbox 52 zq0),Sq 7 9 82,Mq 7 83]) (.seq (.seq (.reg [Mq 84 7,Bq 85 .neq 84 (Kq 0)]) (.cond 85 (.seq (.reg [Fq 86 3 8,Lq 87 86,Bq 88 .eql 87 (Kq 1),Mq 89 88,Gq 90 89 true (.fldA 6 8),Gq 91 89 true (.load false 1 90),Gq 92 89 true (.len false 91),Gq 93 89 true (.bin .eql 92 (Kq 0)),Rq 94 (.pick 89 93 (.const (.bool false))),Mq 4 94]) (.ret)) (.skip))) (.seq (.reg [Fq 95 3 8,Lq 96 95,Bq 97 .eql 96 (Kq 1),Mq 98 97,Gq 99 98 true (.fldA 6 9),Gq 100 98 true (.load false 1 99),Gq 101 98 true (.len false 100),Gq 102 98 true (.bin .gtr 101 (Kq 0)),Rq 103 (.pick 98 102 (.const (.bool false))),Mq 104 103,Gq 105 104 false (.fldA 4 8),Gq 106 104 false (.load true 2 105),Gq 107 104 false (.fldA 4 9),Gq 108 104 false (.load true 2 107),Gq 109 104 false (.eqS false [1,0] 106 108),Rq 110 (.pick 104 (.const (.bool true)) 109),Mq 4 110]) (.ret)))))))))
theorem Lw:Aj Tryz.prog 7 2=some (Ls,[4]):=by kernel_rfl
def Ua:Ai:=
 .seq (.reg [Rq 7 (.box 23 4 0),Rq 12 (.box 27 5 5),Rq 14 (.mv (.const (.slice none 0 0))),Nq 15 0,Nq 16 0]) (.seq (.reg [Rq 19 (.load true 4 7),Cq 20 18 ([19]),Mq 17 20]) (.seq (.seq (.reg [Mq 21 17,Bq 22 .eql 21 (Kq 0),Mq 23 22,Hq 24 23 true 1,Gq 25 23 true (.call (.func 19) [24]),Gq 26 23 true (.not 25),Rq 27 (.pick 23 26 (.const (.bool false)))]) (.cond 27 (.reg [Nq 17 7]) (.skip))) (.seq (.seq (.reg [Mq 28 17,Bq 29 .eql 28 (Kq 0)]) (.cond 29 (.reg [Mq 30 2,Mq 31 3,Mq 32 4,Rq 33 (.load true 5 12),Mq 34 6,Cq 35 20 ([30,31,32,33,34]),Mq 17 35]) (.skip))) (.seq (.seq (.reg [Mq 36 17,Bq 37 .neq 36 (Kq 0)]) (.cond 37 (.seq (.reg [Mq 38 17,Rq 14 (.mv (.const (.slice none 0 0))),Nq 15 0,Mq 16 38]) (.ret)) (.skip))) (.seq (.reg [Rq 39 (.load true 4 7),Mq 40 1,Mq 41 2,Mq 42 3,Mq 43 4,Rq 44 (.load true 5 12),Mq 45 6,Rq 46 (.build [(.string ⟨#[]⟩),(.string ⟨#[]⟩),(.string ⟨#[]⟩),(.string ⟨#[]⟩),(.int .i64 0),(.string ⟨#[]⟩),(.slice none 0 0),(.slice none 0 0),(.int .i64 0),(.int .i64 0),(.int .i64 0),(.int .i64 0),(.int .i64 0),(.slice none 0 0),(.string ⟨#[]⟩)] [(0,4,39),(4,1,40),(5,1,41),(6,1,42),(7,1,43),(8,5,44),(13,1,45),(14,1,(.const (.string ⟨#[]⟩)))]),Rq 47 (.box 63 15 46),Mq 18 47]) (.seq (.seq (.reg [Mq 49 18,Rq 50 (.load true 4 7),Cq 51 21 ([50]),Mq 48 51,Eq1 52 48 0,Eq1 53 48 1,Fq 54 0 49,Fq 55 14 54,Sq 1 55 52,Mq 17 53]) (.seq (.reg [Mq 56 17,Bq 57 .neq 56 (Kq 0)]) (.cond 57 (.seq (.reg [Mq 58 17,Rq 14 (.mv (.const (.slice none 0 0))),Nq 15 0,Mq 16 58]) (.ret)) (.skip)))) (.seq (.block 0 (.seq (.reg [Fq 60 3 7,Lq 61 60,Rq 62 (.bin .neq 61 (.const (.string ⟨#[]⟩))),Mq 63 62,Gq 64 63 true (.fldA 3 7),Gq 65 63 true (.load false 1 64),Hq 66 63 true 2,Gq 67 63 true (.bin .neq 65 66),Rq 68 (.pick 63 67 (.const (.bool false))),Mq 59 68]) (.cond 59 (.seq (.reg [Rq 14 (.mv (.const (.slice none 0 0))),Nq 15 3,Nq 16 0]) (.ret)) (.seq (.reg [Fq 70 2 7,Lq 71 70,Rq 72 (.bin .neq 71 (.const (.string ⟨#[]⟩))),Mq 69 72]) (.cond 69 (.seq (.reg [Mq 73 18,Cq 74 22 ([73]),Eq1 75 74 0,Eq1 76 74 1,Eq1 77 74 2,Mq 14 75,Mq 15 76,Mq 16 77]) (.ret)) (.skip)))))) (.seq (.reg [Mq 78 18,Cq 79 23 ([78]),Eq1 80 79 0,Eq1 81 79 1,Eq1 82 79 2,Mq 14 80,Mq 15 81,Mq 16 82]) (.ret)))))))))
theorem Vd:Aj Tryz.prog 8 7=some (Ua,[14,15,16]):=by kernel_rfl
def Lo:Ai:=
 .seq (.reg [Rq 0 (.mv (.const (.bool false)))]) (.seq (.reg [Rq 5 (.build zq7 [(0,1,(.const (.string ⟨#[115]⟩)))]),Rq 6 (.build zq5 [(0,1,(.const (.string ⟨#[110]⟩))),(1,1,(.const (.string ⟨#[105]⟩))),(2,1,(.const (.string ⟨#[115]⟩))),(4,1,(Kq 9)),(6,1,(.const (.bool true))),(7,1,(Kq 1))]),Rq 7 (.mks 39 9 1 zq5 [(0,6)]),Rq 8 (.build [(.int .i64 0),(.int .i64 0),(.int .i64 0),(.int .i64 0),(.int .i64 0)] []),Cq 9 8 ([5,(Kq 1),(.const (.string ⟨#[99]⟩)),7,(.const (.slice none 0 0)),8,(.const (.slice none 0 0))]),Mq 4 9,Eq1 10 4 0,Eq1 11 4 1,Eq1 12 4 2,Mq 1 10,Mq 2 11,Mq 3 12]) (.seq (.reg [Mq 13 3,Bq 14 .eql 13 (Kq 0),Mq 15 14,Hq 16 15 true 2,Gq 17 15 true (.bin .eql 16 (Kq 0)),Rq 18 (.pick 15 17 (.const (.bool false))),Mq 19 18,Hq 20 19 true 1,Gq 21 19 true (.len false 20),Gq 22 19 true (.bin .eql 21 (Kq 1)),Rq 23 (.pick 19 22 (.const (.bool false))),Mq 24 23,Hq 25 24 true 1,Gq 26 24 true (.idxA 7 25 (Kq 0)),Gq 27 24 true (.fldA 3 26),Gq 28 24 true (.load false 1 27),Gq 29 24 true (.bin .eql 28 (Kq 9)),Rq 30 (.pick 24 29 (.const (.bool false))),Mq 31 30,Hq 32 31 true 1,Gq 33 31 true (.idxA 7 32 (Kq 0)),Gq 34 31 true (.fldA 0 33),Gq 35 31 true (.load false 1 34),Gq 36 31 true (.bin .eql 35 (.const (.string ⟨#[115,46,115,101,114,118,105,99,101,46,109,101,115,104]⟩))),Rq 37 (.pick 31 36 (.const (.bool false))),Mq 0 37]) (.ret)))
theorem Lu:Aj Tryz.prog 10 0=some (Lo,[0]):=by kernel_rfl
def X8:Ai:=
 .seq (.reg [Rq 10 (.box 27 5 4),Rq 12 (.mv (.const (.string ⟨#[]⟩))),Rq 13 (.mv (.const (.bool false))),Nq 14 0]) (.seq (.seq (.reg [Mq 20 1,Mq 21 2,Mq 22 3,Rq 23 (.load true 5 10),Mq 24 5,Cq 25 20 ([20,21,22,23,24]),Mq 15 25]) (.seq (.reg [Mq 26 15,Bq 27 .neq 26 (Kq 0)]) (.cond 27 (.seq (.reg [Mq 28 15,Rq 12 (.mv (.const (.string ⟨#[]⟩))),Rq 13 (.mv (.const (.bool false))),Mq 14 28]) (.ret)) (.skip)))) (.seq (.seq (.reg [Mq 29 0,Rq 30 (.len true 29),Bq 31 .lss 30 (Kq 12),Mq 32 31,Hq 33 32 false 0,Gq 34 32 false (.idxS 33 (Kq 2)),Gq 35 32 false (.bin .geq 34 (.const (.int .u8 128))),Rq 36 (.pick 32 (.const (.bool true)) 35)]) (.cond 36 (.seq (.reg [Rq 12 (.mv (.const (.string ⟨#[]⟩))),Rq 13 (.mv (.const (.bool false))),Nq 14 0]) (.ret)) (.skip))) (.seq (.reg [Mq 38 0,Cq 39 17 ([38]),Mq 37 39,Eq1 40 37 0,Eq1 41 37 1,Rq 16 (.zbox 52 zq0),Sq 7 16 40,Mq 17 41]) (.seq (.dreg [[Mq 42 0,Rq 43 (.idxS 42 (Kq 0)),Rq 44 (.conv .i64 43),Rq 45 (.bin .shl 44 (.const (.int .u64 8))),Mq 46 0,Rq 47 (.idxS 46 (Kq 1)),Rq 48 (.conv .i64 47),Bq 49 .or 45 48,Rq 50 (.build [(.string ⟨#[]⟩),(.int .i64 0)] [(1,1,(Kq 1))]),Rq 51 (.build zq0 [(0,1,49),(1,1,(.const (.bool true))),(3,1,(Kq 1)),(4,2,50)]),Rq 18 (.zbox 52 zq0)],[Sq 7 18 51]]) (.seq (.seq (.reg [Mq 52 17,Bq 53 .eql 52 (Kq 0),Mq 54 53,Gq 55 54 true (.fldA 6 16),Gq 56 54 true (.load false 1 55),Gq 57 54 true (.len false 56),Gq 58 54 true (.bin .eql 57 (Kq 0)),Rq 59 (.pick 54 58 (.const (.bool false)))]) (.cond 59 (.reg [Rq 60 (.load true 7 16),Mq 61 1,Mq 62 2,Mq 63 3,Rq 64 (.load true 5 10),Mq 65 5,Cq 66 30 ([60,61,62,63,64,65]),Sq 7 18 66]) (.skip))) (.seq (.reg [Rq 68 (.load true 7 18),Cq 69 31 ([68,(Kq 512)]),Mq 67 69,Eq1 70 67 0,Eq1 71 67 1,Mq 19 70,Mq 17 71]) (.seq (.reg [Mq 72 19,Mq 73 17,Bq 74 .eql 73 (Kq 0),Mq 75 17,Mq 12 72,Mq 13 74,Mq 14 75]) (.ret))))))))
theorem Yl:Aj Tryz.prog 13 6=some (X8,[12,13,14]):=by kernel_rfl
def O4:Ai:=
 .seq (.reg [Rq 0 (.mv (.const (.bool false)))]) (.seq (.reg [Rq 6 (.build [(.string ⟨#[]⟩),(.int .i64 0)] [(0,1,(.const (.string ⟨#[97,46,98]⟩))),(1,1,(Kq 1))]),Rq 7 (.build zq0 [(0,1,(Kq 258)),(4,2,6)]),Cq 8 16 ([7]),Mq 5 8,Eq1 9 5 0,Eq1 10 5 1,Mq 1 9,Mq 2 10]) (.seq (.reg [Mq 12 1,Cq 13 17 ([12]),Mq 11 13,Eq1 14 11 0,Eq1 15 11 1,Rq 3 (.zbox 52 zq0),Sq 7 3 14,Mq 4 15]) (.seq (.reg [Mq 16 2,Bq 17 .eql 16 (Kq 0),Mq 18 17,Hq 19 18 true 4,Gq 20 18 true (.bin .eql 19 (Kq 0)),Rq 21 (.pick 18 20 (.const (.bool false))),Mq 22 21,Hq 23 22 true 1,Gq 24 22 true (.len true 23),Gq 25 22 true (.bin .eql 24 (Kq 21)),Rq 26 (.pick 22 25 (.const (.bool false))),Mq 27 26,Gq 28 27 true (.fldA 0 3),Gq 29 27 true (.load false 1 28),Gq 30 27 true (.bin .eql 29 (Kq 258)),Rq 31 (.pick 27 30 (.const (.bool false))),Mq 32 31,Gq 33 32 true (.fldA 4 3),Gq 34 32 true (.fldA 0 33),Gq 35 32 true (.load false 1 34),Gq 36 32 true (.bin .eql 35 (.const (.string ⟨#[97,46,98]⟩))),Rq 37 (.pick 32 36 (.const (.bool false))),Mq 0 37]) (.ret))))
theorem O9:Aj Tryz.prog 15 0=some (O4,[0]):=by kernel_rfl
def Aed:Ai:=
 .seq (.reg [Rq 1 (.box 52 7 0),Rq 2 (.mv (.const (.string ⟨#[]⟩))),Nq 3 0]) (.seq (.seq (.reg [Rq 6 (.load true 7 1),Cq 7 35 ([6]),Mq 4 7]) (.seq (.reg [Mq 8 4,Bq 9 .neq 8 (Kq 0)]) (.cond 9 (.seq (.reg [Mq 10 4,Rq 2 (.mv (.const (.string ⟨#[]⟩))),Mq 3 10]) (.ret)) (.skip)))) (.seq (.reg [Rq 11 (.load true 7 1),Cq 12 36 ([11]),Mq 5 12]) (.seq (.seq (.reg [Mq 13 5,Rq 14 (.len true 13),Bq 15 .gtr 14 (Kq 512)]) (.cond 15 (.seq (.reg [Rq 2 (.mv (.const (.string ⟨#[]⟩))),Nq 3 2]) (.ret)) (.skip))) (.seq (.reg [Mq 16 5,Mq 2 16,Nq 3 0]) (.ret)))))
theorem Ui:Aj Tryz.prog 16 1=some (Aed,[2,3]):=by kernel_rfl
def Zk:Ai:=
 .seq (.reg [Rq 1 (.box 23 4 0),Nq 2 0]) (.seq (.seq (.reg [Fq 5 0 1,Lq 6 5,Rq 7 (.bin .eql 6 (.const (.string ⟨#[]⟩))),Fq 8 2 1,Lq 9 8,Rq 10 (.bin .eql 9 (.const (.string ⟨#[]⟩))),Rq 11 (.eqb false 7 10),Mq 12 11,Gq 13 12 false (.fldA 0 1),Gq 14 12 false (.load false 1 13),Gq 15 12 false (.bin .eql 14 (.const (.string ⟨#[]⟩))),Hq 16 12 false 15,Gq 17 16 true (.fldA 1 1),Gq 18 16 true (.load false 1 17),Gq 19 16 true (.bin .neq 18 (.const (.string ⟨#[]⟩))),Gq 20 12 false (.pick 16 19 (.const (.bool false))),Rq 21 (.pick 12 (.const (.bool true)) 20)]) (.cond 21 (.seq (.reg [Nq 2 1]) (.ret)) (.skip))) (.seq (.reg [Fq 22 0 1,Lq 23 22,Fq 24 1 1,Lq 25 24,Fq 26 2 1,Lq 27 26,Fq 28 3 1,Lq 29 28,Rq 30 (.mks 9 1 4 [(.string ⟨#[]⟩)] [(0,23),(1,25),(2,27),(3,29)]),Mq 3 30]) (.seq (.seq (.reg [Mq 31 3,Cq 32 39 ([31,(.func 40)])]) (.cond 32 (.seq (.reg [Nq 2 1]) (.ret)) (.skip))) (.seq (.reg [Rq 4 (.mv (.func 42))]) (.seq (.seq (.reg [Mq 33 4,Fq 34 3 1,Lq 35 34,Rq 36 (.mks 9 1 3 [(.string ⟨#[]⟩)] [(0,(.const (.string ⟨#[115,101,114,118,105,99,101]⟩))),(1,(.const (.string ⟨#[110,111,100,101]⟩))),(2,(.const (.string ⟨#[109,101,115,104]⟩)))]),Rq 37 (.call 33 [35,36]),Mq 38 37,Hq 39 38 false 4,Gq 40 38 false (.fldA 0 1),Gq 41 38 false (.load false 1 40),Gq 42 38 false (.mks 9 1 3 [(.string ⟨#[]⟩)] [(0,(.const (.string ⟨#[115,101,114,118,105,99,101]⟩))),(1,(.const (.string ⟨#[110,111,100,101]⟩))),(2,(.const (.string ⟨#[109,101,115,104]⟩)))]),Gq 43 38 false (.call 39 [41,42]),Rq 44 (.pick 38 (.const (.bool true)) 43),Mq 45 44,Hq 46 45 false 4,Gq 47 45 false (.fldA 1 1),Gq 48 45 false (.load false 1 47),Gq 49 45 false (.mks 9 1 3 [(.string ⟨#[]⟩)] [(0,(.const (.string ⟨#[115,101,114,118,105,99,101]⟩))),(1,(.const (.string ⟨#[110,111,100,101]⟩))),(2,(.const (.string ⟨#[109,101,115,104]⟩)))]),Gq 50 45 false (.call 46 [48,49]),Rq 51 (.pick 45 (.const (.bool true)) 50),Mq 52 51,Hq 53 52 false 4,Gq 54 52 false (.fldA 2 1),Gq 55 52 false (.load false 1 54),Gq 56 52 false (.mks 9 1 2 [(.string ⟨#[]⟩)] [(0,(.const (.string ⟨#[115,101,114,118,105,99,101]⟩))),(1,(.const (.string ⟨#[110,111,100,101]⟩)))]),Gq 57 52 false (.call 53 [55,56]),Rq 58 (.pick 52 (.const (.bool true)) 57)]) (.cond 58 (.seq (.reg [Nq 2 7]) (.ret)) (.skip))) (.seq (.reg [Nq 2 0]) (.ret)))))))
theorem Z5:Aj Tryz.prog 18 1=some (Zk,[2]):=by kernel_rfl
def Acg:Ai:=
 .seq (.reg [Rq 2 (.mv (.const (.bool false)))]) (.seq (.reg [Rq 3 (.mks 3 1 3 [(.int .i64 0)] [(0,(Kq 1)),(1,(Kq 16)),(2,(Kq 33))]),Mq 4 0,Cq 5 44 ([3,4]),Mq 2 5]) (.ret))
theorem Ace:Aj Tryz.prog 19 1=some (Acg,[2]):=by kernel_rfl
def Ya:Ai:=
 .seq (.reg [Rq 8 (.box 27 5 3),Nq 10 0]) (.seq (.seq (.reg [Mq 17 0,Cq 18 41 ([17]),Rq 19 (.not 18)]) (.cond 19 (.seq (.reg [Nq 10 1]) (.ret)) (.skip))) (.seq (.seq (.reg [Mq 20 1,Cq 21 45 ([20]),Mq 11 21]) (.seq (.reg [Mq 22 11,Bq 23 .neq 22 (Kq 0)]) (.cond 23 (.seq (.reg [Mq 24 11,Mq 10 24]) (.ret)) (.skip)))) (.seq (.seq (.reg [Mq 25 2,Cq 26 46 ([25]),Mq 12 26]) (.seq (.reg [Mq 27 12,Bq 28 .neq 27 (Kq 0)]) (.cond 28 (.seq (.reg [Mq 29 12,Mq 10 29]) (.ret)) (.skip)))) (.seq (.seq (.reg [Mq 30 4,Rq 31 (.len false 30),Bq 32 .gtr 31 (Kq 20)]) (.cond 32 (.seq (.reg [Nq 10 2]) (.ret)) (.skip))) (.seq (.seq (.reg [Rq 33 (.load true 5 8),Cq 34 47 ([33]),Mq 13 34]) (.seq (.reg [Mq 35 13,Bq 36 .neq 35 (Kq 0)]) (.cond 36 (.seq (.reg [Mq 37 13,Mq 10 37]) (.ret)) (.skip)))) (.seq (.seq (.reg [Mq 38 4,Rq 39 (.len false 38),Nq 40 0]) (.block 0 (.loop (.seq (.reg [Bq 41 .lss 40 39]) (.seq (.cond 41 (.skip) (.exit 0)) (.seq (.block 1 (.seq (.reg [Iq 42 6 38 40,Rq 43 (.load true 6 42),Rq 15 (.zbox 93 zq3),Sq 6 15 43]) (.seq (.reg [Fq 44 1 15,Rq 45 (.load true 5 44),Cq 46 47 ([45]),Mq 16 46]) (.seq (.reg [Mq 47 16,Bq 48 .neq 47 (Kq 0)]) (.cond 48 (.seq (.reg [Mq 49 16,Mq 10 49]) (.ret)) (.skip)))))) (.reg [Bq 50 .add 40 (Kq 1),Mq 40 50]))))))) (.seq (.reg [Nq 10 0]) (.ret))))))))
theorem Yb:Aj Tryz.prog 20 5=some (Ya,[10]):=by kernel_rfl
def Y6:Ai:=
 .seq (.reg [Rq 1 (.box 23 4 0),Rq 2 (.mv (.const (.string ⟨#[]⟩))),Nq 3 0]) (.seq (.seq (.reg [Rq 7 (.load true 4 1),Cq 8 18 ([7]),Mq 4 8]) (.seq (.reg [Mq 9 4,Bq 10 .neq 9 (Kq 0)]) (.cond 10 (.seq (.reg [Mq 11 4,Rq 2 (.mv (.const (.string ⟨#[]⟩))),Mq 3 11]) (.ret)) (.skip)))) (.seq (.reg [Rq 12 (.load true 4 1),Cq 13 48 ([12]),Mq 5 13]) (.seq (.seq (.reg [Mq 14 5,Cq 15 49 ([14]),Mq 6 15]) (.seq (.reg [Mq 16 6,Bq 17 .neq 16 (Kq 0)]) (.cond 17 (.seq (.reg [Mq 18 6,Rq 2 (.mv (.const (.string ⟨#[]⟩))),Mq 3 18]) (.ret)) (.skip)))) (.seq (.reg [Mq 19 5,Mq 2 19,Nq 3 0]) (.ret)))))
theorem Abd:Aj Tryz.prog 21 1=some (Y6,[2,3]):=by kernel_rfl
def Q3:Ai:=
 .seq (.reg [Rq 2 (.mv (.const (.slice none 0 0))),Nq 3 0,Nq 4 0]) (.seq (.dreg [[Mq 8 0,Fq 9 0 8,Fq 10 7 9,Lq 11 10,Mq 12 0,Fq 13 0 12,Fq 14 0 13,Fq 15 2 14,Lq 16 15],[Cq 17 50 ([11,16])],[Mq 7 17],[Eq1 18 7 0,Eq1 19 7 1,Mq 5 18],[Mq 6 19]]) (.seq (.seq (.reg [Mq 20 6,Rq 21 (.not 20),Mq 22 21,Hq 23 22 false 0,Hq 24 22 false 0,Gq 25 22 false (.fldA 0 24),Gq 26 22 false (.fldA 0 25),Gq 27 22 false (.fldA 2 26),Gq 28 22 false (.load false 1 27),Gq 29 22 false (.call (.func 51) [23,28]),Rq 30 (.pick 22 (.const (.bool true)) 29)]) (.cond 30 (.seq (.reg [Rq 2 (.mv (.const (.slice none 0 0))),Nq 3 3,Nq 4 0]) (.ret)) (.skip))) (.seq (.seq (.reg [Mq 31 0,Fq 32 0 31,Fq 33 4 32,Lq 34 33,Bq 35 .neq 34 (Kq 1)]) (.cond 35 (.seq (.reg [Rq 2 (.mv (.const (.slice none 0 0))),Nq 3 0,Nq 4 0]) (.ret)) (.skip))) (.seq (.dreg [[Mq 36 0,Fq 37 0 36,Fq 38 14 37,Lq 39 38,Mq 40 0,Fq 41 0 40,Fq 42 4 41,Lq 43 42,Mq 44 0,Fq 45 0 44,Fq 46 7 45,Lq 47 46,Mq 48 5,Iq 49 5 47 48,Fq 50 3 49,Lq 51 50],[Rq 52 (.build zq4 [(0,1,39),(1,1,43),(3,1,51)])],[Rq 53 (.mks 42 7 1 zq4 [(0,52)])],[Mq 2 53],[Nq 3 0],[Nq 4 0]]) (.ret)))))
theorem P7:Aj Tryz.prog 22 1=some (Q3,[2,3,4]):=by kernel_rfl
def Ni:Ai:=
 .seq (.reg [Rq 2 (.mv (.const (.slice none 0 0))),Nq 3 0,Nq 4 0]) (.seq (.reg [Rq 5 (.mv (.const (.slice none 0 0)))]) (.seq (.seq (.reg [Mq 12 0,Cq 13 52 ([12]),Rq 14 (.len false 13),Nq 15 0]) (.block 0 (.loop (.seq (.reg [Bq 16 .lss 15 14]) (.seq (.cond 16 (.skip) (.exit 0)) (.seq (.block 1 (.seq (.reg [Iq 17 9 13 15,Rq 18 (.load true 9 17),Rq 7 (.zbox 39 zq5),Sq 9 7 18]) (.seq (.reg [Mq 20 0,Rq 21 (.load true 9 7),Cq 22 53 ([20,21]),Mq 19 22,Eq1 23 19 0,Eq1 24 19 1,Rq 8 (.zbox 42 zq4),Sq 7 8 23,Mq 9 24]) (.seq (.seq (.reg [Mq 25 9,Bq 26 .neq 25 (Kq 0)]) (.cond 26 (.seq (.reg [Mq 27 9,Rq 2 (.mv (.const (.slice none 0 0))),Nq 3 0,Mq 4 27]) (.ret)) (.skip))) (.reg [Mq 28 5,Rq 29 (.load true 7 8),Rq 30 (.mks 42 7 1 zq4 [(0,29)]),Rq 31 (.app 42 7 80 (.agg #[(.string ⟨#[]⟩),(.int .i64 0),(.int .i64 0),(.int .i64 0),(.string ⟨#[]⟩),(.int .i64 0),(.string ⟨#[]⟩)]) 28 30),Mq 5 31]))))) (.reg [Bq 32 .add 15 (Kq 1),Mq 15 32]))))))) (.seq (.seq (.dreg [[Mq 34 0,Fq 35 0 34,Fq 36 6 35,Lq 37 36,Mq 38 0,Fq 39 0 38,Fq 40 0 39,Fq 41 0 40,Lq 42 41],[Cq 43 54 ([37,42,(.const (.string ⟨#[]⟩))])],[Mq 33 43],[Eq1 44 33 0,Eq1 45 33 1,Mq 10 44],[Mq 11 45]]) (.seq (.reg [Mq 46 10,Rq 47 (.len false 46),Bq 48 .eql 47 (Kq 0)]) (.cond 48 (.seq (.reg [Rq 2 (.mv (.const (.slice none 0 0))),Nq 3 3,Nq 4 0]) (.ret)) (.skip)))) (.seq (.reg [Mq 49 5,Mq 2 49,Nq 3 0,Nq 4 0]) (.ret)))))
theorem N7:Aj Tryz.prog 23 1=some (Ni,[2,3,4]):=by kernel_rfl
def Ye:Ai:=
 .seq (.reg [Rq 6 (.box 52 7 0),Rq 10 (.box 27 5 4),Rq 12 (.zbox 52 zq0)]) (.seq (.reg [Fq 18 0 6,Lq 19 18,Fq 20 4 6,Rq 21 (.load true 2 20),Rq 22 (.build zq0 [(0,1,19),(1,1,(.const (.bool true))),(4,2,21)]),Rq 13 (.zbox 52 zq0),Sq 7 13 22]) (.seq (.reg [Fq 24 4 6,Fq 25 0 24,Lq 26 25,Cq 27 61 ([26]),Mq 23 27,Eq1 28 23 0,Eq1 29 23 1,Rq 14 (.zbox 23 zq7),Sq 4 14 28,Mq 15 29]) (.seq (.seq (.reg [Mq 30 15,Bq 31 .neq 30 (Kq 0)]) (.cond 31 (.seq (.seq (.reg [Mq 32 15,Cq 33 62 ([32]),Fq 34 3 13,Sq 1 34 33]) (.seq (.reg [Fq 35 3 13,Lq 36 35,Bq 37 .eql 36 (Kq 0)]) (.cond 37 (.reg [Fq 38 3 13,Sq 1 38 (Kq 3)]) (.skip)))) (.seq (.reg [Rq 39 (.load true 7 13),Sq 7 12 39]) (.ret))) (.skip))) (.seq (.reg [Rq 41 (.load true 4 14),Fq 42 4 6,Fq 43 1 42,Lq 44 43,Mq 45 1,Mq 46 2,Mq 47 3,Rq 48 (.load true 5 10),Mq 49 5,Cq 50 8 ([41,44,45,46,47,48,49]),Mq 40 50,Eq1 51 40 0,Eq1 52 40 1,Eq1 53 40 2,Mq 16 51,Mq 17 52,Mq 15 53]) (.seq (.seq (.reg [Mq 54 15,Bq 55 .neq 54 (Kq 0)]) (.cond 55 (.seq (.reg [Fq 56 3 13,Sq 1 56 (Kq 2)]) (.seq (.reg [Rq 57 (.load true 7 13),Sq 7 12 57]) (.ret))) (.skip))) (.seq (.reg [Mq 58 17,Mq 59 16,Fq 60 3 13,Sq 1 60 58,Fq 61 6 13,Sq 1 61 59]) (.seq (.reg [Rq 62 (.load true 7 13),Sq 7 12 62]) (.ret))))))))
theorem X7:Ep Tryz.prog 30 6=some (Ye,[(12,some (true,7))]):=by kernel_rfl
def Ajq:Ai:=
 .seq (.reg [Rq 2 (.box 52 7 0),Rq 4 (.mv (.const (.string ⟨#[]⟩))),Nq 5 0]) (.seq (.seq (.reg [Mq 8 1,Cq 9 63 ([8,(Kq 12),(Kq 512)]),Rq 10 (.not 9)]) (.cond 10 (.seq (.reg [Rq 4 (.mv (.const (.string ⟨#[]⟩))),Nq 5 3]) (.ret)) (.skip))) (.seq (.seq (.reg [Rq 11 (.load true 7 2),Cq 12 35 ([11]),Mq 6 12]) (.seq (.reg [Mq 13 6,Bq 14 .neq 13 (Kq 0)]) (.cond 14 (.seq (.reg [Mq 15 6,Rq 4 (.mv (.const (.string ⟨#[]⟩))),Mq 5 15]) (.ret)) (.skip)))) (.block 0 (.loop (.block 1 (.seq (.reg [Rq 16 (.load true 7 2),Cq 17 36 ([16]),Mq 7 17]) (.seq (.block 2 (.seq (.reg [Mq 19 7,Rq 20 (.len true 19),Mq 21 1,Bq 22 .leq 20 21,Mq 18 22]) (.cond 18 (.seq (.reg [Mq 23 7,Mq 4 23,Nq 5 0]) (.ret)) (.seq (.reg [Fq 25 6 2,Lq 26 25,Rq 27 (.len false 26),Bq 28 .eql 27 (Kq 0),Mq 24 28]) (.cond 24 (.seq (.reg [Rq 4 (.mv (.const (.string ⟨#[]⟩))),Nq 5 2]) (.ret)) (.skip)))))) (.reg [Fq 29 6 2,Lq 30 29,Fq 31 6 2,Lq 32 31,Rq 33 (.len false 32),Bq 34 .sub 33 (Kq 1),Rq 35 (.slcL 7 30 none (some 34) none),Fq 36 6 2,Sq 1 36 35,Fq 37 2 2,Sq 1 37 (.const (.bool true))]))))))))
theorem Ak1:Aj Tryz.prog 31 2=some (Ajq,[4,5]):=by kernel_rfl
def Aef:Ai:=
 .seq (.reg [Rq 1 (.box 52 7 0),Nq 2 0]) (.seq (.block 0 (.seq (.reg [Fq 8 0 1,Lq 9 8,Cq 10 63 ([9,(Kq 0),(Kq 65535)]),Rq 11 (.not 10),Mq 12 11,Gq 13 12 false (.fldA 3 1),Gq 14 12 false (.load false 1 13),Gq 15 12 false (.call (.func 63) [14,(Kq 0),(Kq 15)]),Gq 16 12 false (.not 15),Rq 17 (.pick 12 (.const (.bool true)) 16),Mq 7 17]) (.cond 7 (.seq (.reg [Nq 2 3]) (.ret)) (.seq (.reg [Fq 19 6 1,Lq 20 19,Rq 21 (.len false 20),Bq 22 .gtr 21 (Kq 20),Mq 18 22]) (.cond 18 (.seq (.reg [Nq 2 2]) (.ret)) (.skip)))))) (.seq (.seq (.reg [Fq 23 4 1,Fq 24 0 23,Lq 25 24,Cq 26 49 ([25]),Mq 3 26]) (.seq (.reg [Mq 27 3,Bq 28 .neq 27 (Kq 0)]) (.cond 28 (.seq (.reg [Mq 29 3,Mq 2 29]) (.ret)) (.skip)))) (.seq (.seq (.reg [Fq 30 4 1,Fq 31 1 30,Lq 32 31,Cq 33 19 ([32]),Rq 34 (.not 33)]) (.cond 34 (.seq (.reg [Nq 2 7]) (.ret)) (.skip))) (.seq (.seq (.reg [Fq 35 6 1,Lq 36 35,Rq 37 (.len false 36),Nq 38 0]) (.block 1 (.loop (.seq (.reg [Bq 39 .lss 38 37]) (.seq (.cond 39 (.skip) (.exit 1)) (.seq (.block 2 (.seq (.reg [Iq 40 7 36 38,Rq 41 (.load true 7 40),Rq 5 (.zbox 42 zq4),Sq 7 5 41]) (.seq (.reg [Rq 42 (.load true 7 5),Cq 43 70 ([42]),Mq 6 43]) (.seq (.reg [Mq 44 6,Bq 45 .neq 44 (Kq 0)]) (.cond 45 (.seq (.reg [Mq 46 6,Mq 2 46]) (.ret)) (.skip)))))) (.reg [Bq 47 .add 38 (Kq 1),Mq 38 47]))))))) (.seq (.reg [Nq 2 0]) (.ret))))))
theorem Af9:Aj Tryz.prog 35 1=some (Aef,[2]):=by kernel_rfl
def Afq:Ai:=
 .seq (.reg [Rq 1 (.box 52 7 0),Rq 2 (.mv (.const (.string ⟨#[]⟩)))]) (.seq (.reg [Rq 7 (.build [(.pointer none),(.slice none 0 0)] []),Rq 8 (.box 120 2 7),Mq 3 8]) (.seq (.reg [Fq 9 3 1,Lq 10 9,Mq 4 10]) (.seq (.seq (.reg [Fq 11 1 1,Lq 12 11]) (.cond 12 (.reg [Mq 13 4,Bq 14 .or 13 (Kq 32768),Mq 4 14]) (.skip))) (.seq (.seq (.reg [Fq 15 2 1,Lq 16 15]) (.cond 16 (.reg [Mq 17 4,Bq 18 .or 17 (Kq 512),Mq 4 18]) (.skip))) (.seq (.reg [Mq 19 3,Fq 20 0 1,Lq 21 20,Mq 22 4,Fq 23 6 1,Lq 24 23,Rq 25 (.len false 24),Rq 26 (.mks 3 1 6 [(.int .i64 0)] [(0,21),(1,22),(2,(Kq 1)),(3,25),(4,(Kq 0)),(5,(Kq 0))]),Cq 27 71 ([19,26])]) (.seq (.reg [Mq 28 3,Fq 29 4 1,Fq 30 0 29,Lq 31 30,Cq 32 72 ([28,31])]) (.seq (.reg [Mq 33 3,Fq 34 4 1,Fq 35 1 34,Lq 36 35,Rq 37 (.mks 3 1 2 [(.int .i64 0)] [(0,36),(1,(Kq 1))]),Cq 38 71 ([33,37])]) (.seq (.seq (.reg [Fq 39 6 1,Lq 40 39,Rq 41 (.len false 40),Nq 42 0]) (.block 0 (.loop (.seq (.reg [Bq 43 .lss 42 41]) (.seq (.cond 43 (.skip) (.exit 0)) (.seq (.block 1 (.seq (.reg [Iq 44 7 40 42,Rq 45 (.load true 7 44),Rq 6 (.zbox 42 zq4),Sq 7 6 45]) (.reg [Mq 46 3,Rq 47 (.load true 7 6),Cq 48 73 ([46,47])]))) (.reg [Bq 49 .add 42 (Kq 1),Mq 42 49]))))))) (.seq (.reg [Mq 50 3,Fq 51 0 50,Fq 52 0 51,Cq 53 74 ([52]),Mq 2 53]) (.ret))))))))))
theorem J7:Aj Tryz.prog 36 1=some (Afq,[2]):=by kernel_rfl
def Pk:Ai:=
 .seq (.reg [Rq 2 (.zbox 52 zq0)]) (.seq (.reg [Mq 7 0,Cq 8 75 ([7]),Rq 9 (.build zq0 [(0,1,8)]),Rq 3 (.zbox 52 zq0),Sq 7 3 9]) (.seq (.reg [Mq 10 0,Cq 11 76 ([10]),Mq 12 0,Cq 13 76 ([12]),Mq 4 11,Mq 5 13]) (.seq (.reg [Mq 14 0,Mq 15 4,Bq 16 .andNot 15 (Kq 130),Bq 17 .eql 16 (Kq 0),Mq 18 17,Hq 19 18 true 5,Gq 20 18 true (.bin .lss 19 (Kq 16)),Rq 21 (.pick 18 20 (.const (.bool false))),Cq 22 77 ([14,21])]) (.seq (.reg [Mq 23 4,Bq 24 .and 23 (Kq 128),Bq 25 .gtr 24 (Kq 0),Mq 26 4,Bq 27 .and 26 (Kq 2),Bq 28 .gtr 27 (Kq 0),Mq 29 5,Fq 30 1 3,Sq 1 30 25,Fq 31 2 3,Sq 1 31 28,Fq 32 3 3,Sq 1 32 29]) (.seq (.reg [Mq 33 0,Mq 34 0,Cq 35 75 ([34]),Bq 36 .eql 35 (Kq 1),Cq 37 77 ([33,36])]) (.seq (.reg [Mq 38 0,Cq 39 75 ([38]),Mq 6 39]) (.seq (.reg [Mq 40 0,Mq 41 6,Bq 42 .leq 41 (Kq 20),Mq 43 42,Hq 44 43 true 0,Gq 45 43 true (.call (.func 75) [44]),Gq 46 43 true (.bin .eql 45 (Kq 0)),Rq 47 (.pick 43 46 (.const (.bool false))),Mq 48 47,Hq 49 48 true 0,Gq 50 48 true (.call (.func 75) [49]),Gq 51 48 true (.bin .eql 50 (Kq 0)),Rq 52 (.pick 48 51 (.const (.bool false))),Cq 53 77 ([40,52])]) (.seq (.reg [Mq 54 0,Cq 55 78 ([54]),Mq 56 0,Cq 57 75 ([56]),Rq 58 (.build [(.string ⟨#[]⟩),(.int .i64 0)] [(0,1,55),(1,1,57)]),Fq 59 4 3,Sq 2 59 58]) (.seq (.reg [Mq 60 0,Mq 61 0,Cq 62 75 ([61]),Bq 63 .eql 62 (Kq 1),Cq 64 77 ([60,63])]) (.seq (.seq (.reg [Mq 65 6,Nq 66 0]) (.block 0 (.loop (.seq (.reg [Bq 67 .lss 66 65]) (.seq (.cond 67 (.skip) (.exit 0)) (.seq (.block 1 (.dreg [[],[⟨none,none,.mkm⟩],[Fq 68 6 3,Lq 69 68,Mq 70 0,Cq 71 79 ([70]),Rq 72 (.mks 42 7 1 zq4 [(0,71)])],[Rq 73 (.app 42 7 80 (.agg #[(.string ⟨#[]⟩),(.int .i64 0),(.int .i64 0),(.int .i64 0),(.string ⟨#[]⟩),(.int .i64 0),(.string ⟨#[]⟩)]) 69 72)],[Fq 74 6 3],[Sq 1 74 73]])) (.reg [Bq 75 .add 66 (Kq 1),Mq 66 75]))))))) (.seq (.dreg [[Mq 76 0,Mq 77 0,Fq 78 0 77,Fq 79 1 78,Lq 80 79,Mq 81 0,Fq 82 0 81,Fq 83 0 82,Lq 84 83,Rq 85 (.len true 84),Bq 86 .eql 80 85],[Cq 87 77 ([76,86])]]) (.seq (.reg [Rq 88 (.load true 7 3),Sq 7 2 88]) (.ret)))))))))))))
theorem Im:Ep Tryz.prog 38 1=some (Pk,[(2,some (true,7))]):=by kernel_rfl
def Gs:Ai:=
 .seq (.reg [Rq 4 (.mv (.const (.bool false)))]) (.seq (.reg [Mq 5 0,Mq 6 1,Cq 7 80 ([5,6]),Bq 8 .geq 7 (Kq 0),Mq 4 8]) (.ret))
theorem Gt:Aj Tryz.prog 39 2=some (Gs,[4]):=by kernel_rfl
def Vo:Ai:=
 .seq (.reg [Rq 2 (.mv (.const (.bool false)))]) (.seq (.reg [Mq 3 0,Rq 4 (.bin .neq 3 (.const (.string ⟨#[]⟩))),Mq 5 4,Hq 6 5 true 0,Gq 7 5 true (.call (.func 41) [6]),Gq 8 5 true (.not 7),Rq 9 (.pick 5 8 (.const (.bool false))),Mq 2 9]) (.ret))
theorem Wk:Aj Tryz.prog 40 1=some (Vo,[2]):=by kernel_rfl
def V1:Ai:=
 .seq (.reg [Rq 4 (.mv (.const (.bool false)))]) (.seq (.reg [Mq 5 1,Mq 6 0,Cq 7 43 ([5,6]),Mq 4 7]) (.ret))
theorem Vu:Aj Tryz.prog 42 2=some (V1,[4]):=by kernel_rfl
def H9:Ai:=
 .seq (.reg [Rq 4 (.mv (.const (.bool false)))]) (.seq (.reg [Mq 5 0,Mq 6 1,Cq 7 81 ([5,6]),Bq 8 .geq 7 (Kq 0),Mq 4 8]) (.ret))
theorem Ie:Aj Tryz.prog 43 2=some (H9,[4]):=by kernel_rfl
def La:Ai:=
 .seq (.reg [Rq 4 (.mv (.const (.bool false)))]) (.seq (.reg [Mq 5 0,Mq 6 1,Cq 7 82 ([5,6]),Bq 8 .geq 7 (Kq 0),Mq 4 8]) (.ret))
theorem Kt:Aj Tryz.prog 44 2=some (La,[4]):=by kernel_rfl
def Vr:Ai:=
 .seq (.reg [Nq 2 0]) (.seq (.reg [Mq 3 0,Rq 4 (.mks 24 1 1 [(.slice none 0 0)] [(0,3)]),Cq 5 83 ([4]),Mq 2 5]) (.ret))
theorem V6:Aj Tryz.prog 45 1=some (Vr,[2]):=by kernel_rfl
def Yn:Ai:=
 .seq (.reg [Nq 2 0]) (.seq (.reg [Mq 3 0,Rq 4 (.mks 25 1 1 [(.slice none 0 0)] [(0,3)]),Cq 5 84 ([4]),Mq 2 5]) (.ret))
theorem Yk:Aj Tryz.prog 46 1=some (Yn,[2]):=by kernel_rfl
def Zg:Ai:=
 .seq (.reg [Rq 1 (.box 27 5 0),Nq 2 0]) (.seq (.reg [Rq 3 (.mv (.func 85))]) (.seq (.seq (.reg [Mq 4 3,Fq 5 0 1,Lq 6 5,Rq 7 (.call 4 [6]),Rq 8 (.not 7),Mq 9 8,Hq 10 9 false 3,Gq 11 9 false (.fldA 1 1),Gq 12 9 false (.load false 1 11),Gq 13 9 false (.call 10 [12]),Gq 14 9 false (.not 13),Rq 15 (.pick 9 (.const (.bool true)) 14),Mq 16 15,Hq 17 16 false 3,Gq 18 16 false (.fldA 2 1),Gq 19 16 false (.load false 1 18),Gq 20 16 false (.call 17 [19]),Gq 21 16 false (.not 20),Rq 22 (.pick 16 (.const (.bool true)) 21),Mq 23 22,Gq 24 23 false (.fldA 3 1),Gq 25 23 false (.load false 1 24),Gq 26 23 false (.call (.func 86) [25,(Kq 0),(Kq 1000000)]),Gq 27 23 false (.not 26),Rq 28 (.pick 23 (.const (.bool true)) 27),Mq 29 28,Gq 30 29 false (.fldA 4 1),Gq 31 29 false (.load false 1 30),Gq 32 29 false (.call (.func 86) [31,(Kq 0),(Kq 1000)]),Gq 33 29 false (.not 32),Rq 34 (.pick 29 (.const (.bool true)) 33)]) (.cond 34 (.seq (.reg [Nq 2 3]) (.ret)) (.skip))) (.seq (.reg [Nq 2 0]) (.ret))))
theorem Zd:Aj Tryz.prog 47 1=some (Zg,[2]):=by kernel_rfl
def Ws:Ai:=
 .seq (.reg [Rq 1 (.box 23 4 0),Rq 2 (.mv (.const (.string ⟨#[]⟩)))]) (.seq (.reg [Rq 3 (.mv (.const (.slice none 0 0)))]) (.seq (.seq (.reg [Fq 4 2 1,Lq 5 4,Rq 6 (.bin .neq 5 (.const (.string ⟨#[]⟩)))]) (.cond 6 (.reg [Fq 7 2 1,Lq 8 7,Rq 9 (.mks 9 1 2 [(.string ⟨#[]⟩)] [(0,8),(1,(.const (.string ⟨#[110,111,100,101]⟩)))]),Mq 3 9]) (.reg [Fq 10 1 1,Lq 11 10,Fq 12 0 1,Lq 13 12,Rq 14 (.mks 9 1 3 [(.string ⟨#[]⟩)] [(0,11),(1,13),(2,(.const (.string ⟨#[115,101,114,118,105,99,101]⟩)))]),Mq 3 14]))) (.seq (.reg [Mq 15 3,Fq 16 3 1,Lq 17 16,Rq 18 (.mks 9 1 2 [(.string ⟨#[]⟩)] [(0,17),(1,(.const (.string ⟨#[109,101,115,104]⟩)))]),Rq 19 (.app 9 1 16 (.string ⟨#[]⟩) 15 18),Mq 3 19]) (.seq (.reg [Mq 20 3,Cq 21 88 ([20,(.func 89)]),Cq 22 87 ([21,(.const (.string ⟨#[46]⟩))]),Mq 2 22]) (.ret)))))
theorem W3:Aj Tryz.prog 48 1=some (Ws,[2]):=by kernel_rfl
def Ae4:Ai:=
 .seq (.reg [Nq 2 0]) (.seq (.reg [Mq 4 0,Cq 5 90 ([4]),Mq 3 5]) (.seq (.block 0 (.seq (.reg [Mq 7 3,Cq 8 39 ([7,(.func 91)]),Mq 6 8]) (.cond 6 (.seq (.reg [Nq 2 1]) (.ret)) (.seq (.reg [Mq 10 3,Rq 11 (.len false 10),Bq 12 .gtr 11 (Kq 8),Mq 13 12,Hq 14 13 false 0,Gq 15 13 false (.len true 14),Gq 16 13 false (.bin .gtr 15 (Kq 120)),Rq 17 (.pick 13 (.const (.bool true)) 16),Mq 9 17]) (.cond 9 (.seq (.reg [Nq 2 2]) (.ret)) (.skip)))))) (.seq (.reg [Nq 2 0]) (.ret))))
theorem Afi:Aj Tryz.prog 49 1=some (Ae4,[2]):=by kernel_rfl
def Zo:Ai:=
 .seq (.reg [Nq 4 0,Rq 5 (.mv (.const (.bool false)))]) (.seq (.reg [Mq 6 0,Mq 7 1,Cq 8 92 ([6,7,(.func 93)]),Eq1 9 8 0,Eq1 10 8 1,Mq 4 9,Mq 5 10]) (.ret))
theorem Zc:Aj Tryz.prog 50 2=some (Zo,[4,5]):=by kernel_rfl
def Qd:Ai:=
 .seq (.reg [Rq 4 (.mv (.const (.bool false)))]) (.seq (.reg [Mq 8 0,Fq 9 0 8,Fq 10 7 9,Lq 11 10,Mq 12 1,Cq 13 50 ([11,12]),Mq 7 13,Eq1 14 7 0,Eq1 15 7 1,Mq 5 14,Mq 6 15]) (.seq (.reg [Mq 16 6,Mq 17 16,Hq 18 17 true 0,Gq 19 17 true (.fldA 0 18),Gq 20 17 true (.fldA 7 19),Gq 21 17 true (.load false 1 20),Hq 22 17 true 5,Gq 23 17 true (.idxA 5 21 22),Gq 24 17 true (.fldA 1 23),Gq 25 17 true (.load false 1 24),Gq 26 17 true (.bin .geq 25 (Kq 3)),Rq 27 (.pick 17 26 (.const (.bool false))),Mq 4 27]) (.ret)))
theorem Q2:Aj Tryz.prog 51 2=some (Qd,[4]):=by kernel_rfl
def Pj:Ai:=
 .seq (.reg [Rq 1 (.box 61 1 0),Rq 2 (.mv (.const (.slice none 0 0)))]) (.seq (.dreg [[Lq 13 1,Fq 14 0 13,Fq 15 6 14,Lq 16 15,Lq 17 1,Fq 18 0 17,Fq 19 0 18,Fq 20 0 19,Lq 21 20,Lq 22 1,Fq 23 0 22,Fq 24 0 23,Fq 25 1 24,Lq 26 25],[Cq 27 54 ([16,21,26])],[Mq 12 27],[Eq1 28 12 0,Eq1 29 12 1,Mq 3 28],[Mq 4 29]]) (.seq (.reg [Mq 30 3,Rq 31 (.mkfn 96 [1]),Cq 32 95 ([30,31]),Mq 3 32]) (.seq (.reg [Rq 33 (.mkm),Mq 5 33]) (.seq (.reg [Rq 6 (.mv (.const (.slice none 0 0)))]) (.seq (.seq (.reg [Mq 34 3,Rq 35 (.len false 34),Nq 36 0]) (.block 0 (.loop (.seq (.reg [Bq 37 .lss 36 35]) (.seq (.cond 37 (.skip) (.exit 0)) (.seq (.block 1 (.seq (.reg [Iq 38 9 34 36,Rq 39 (.load true 9 38),Rq 8 (.zbox 39 zq5),Sq 9 8 39]) (.seq (.seq (.reg [Mq 40 5,Fq 41 0 8,Lq 42 41,Rq 43 (.mlook .string false (.slice none 0 0) 40 42),Rq 44 (.len false 43),Bq 45 .eql 44 (Kq 0)]) (.cond 45 (.reg [Mq 46 6,Fq 47 0 8,Lq 48 47,Rq 49 (.mks 9 1 1 [(.string ⟨#[]⟩)] [(0,48)]),Rq 50 (.app 9 1 16 (.string ⟨#[]⟩) 46 49),Mq 6 50]) (.skip))) (.dreg [[],[Rq 60 (.app 39 9 104 (.agg #[(.string ⟨#[]⟩),(.string ⟨#[]⟩),(.string ⟨#[]⟩),(.string ⟨#[]⟩),(.int .i64 0),(.int .i64 0),(.bool false),(.int .i64 0),(.bool false)]) 57 59),Rq 52 (.mkm),Rq 53 (.mkm)],[Mq 51 5,Fq 52 0 8,Lq 53 52,Mq 54 5,Fq 55 0 8,Lq 56 55,Rq 57 (.mlook .string false (.slice none 0 0) 54 56),Rq 58 (.load true 9 8),Rq 59 (.mks 39 9 1 zq5 [(0,58)])],[⟨none,none,.mupd .string 51 53 60⟩]])))) (.reg [Bq 61 .add 36 (Kq 1),Mq 36 61]))))))) (.seq (.dreg [[Lq 63 1,Fq 64 0 63,Fq 65 8 64,Rq 66 (.load true 5 65),Lq 67 1,Fq 68 0 67,Fq 69 13 68,Lq 70 69,Mq 71 6],[Cq 72 97 ([66,70,71])],[Mq 62 72],[Eq1 73 62 0,Eq1 74 62 1,Mq 6 73]]) (.seq (.reg [Rq 9 (.mv (.const (.slice none 0 0)))]) (.seq (.seq (.reg [Mq 75 6,Rq 76 (.len false 75),Nq 77 0]) (.block 2 (.loop (.seq (.reg [Bq 78 .lss 77 76]) (.seq (.cond 78 (.skip) (.exit 2)) (.seq (.block 3 (.seq (.reg [Iq 79 1 75 77,Lq 80 79,Mq 11 80]) (.reg [Mq 81 9,Mq 82 5,Mq 83 11,Rq 84 (.mlook .string false (.slice none 0 0) 82 83),Rq 85 (.app 39 9 104 (.agg #[(.string ⟨#[]⟩),(.string ⟨#[]⟩),(.string ⟨#[]⟩),(.string ⟨#[]⟩),(.int .i64 0),(.int .i64 0),(.bool false),(.int .i64 0),(.bool false)]) 81 84),Mq 9 85]))) (.reg [Bq 86 .add 77 (Kq 1),Mq 77 86]))))))) (.seq (.reg [Mq 87 9,Mq 88 9,Rq 89 (.len false 88),Rq 90 (.mm false 89 (Kq 20)),Rq 91 (.slcL 9 87 none (some 90) none),Mq 2 91]) (.ret))))))))))
theorem Pm:Aj Tryz.prog 52 1=some (Pj,[2]):=by kernel_rfl
def O2:Ai:=
 .seq (.reg [Rq 3 (.box 39 9 1),Rq 4 (.zbox 42 zq4),Nq 5 0]) (.seq (.dreg [[Mq 9 0,Fq 10 0 9,Fq 11 14 10,Lq 12 11,Mq 13 0,Fq 14 0 13,Fq 15 4 14,Lq 16 15,Rq 17 (.build zq4 [(0,1,12),(1,1,16)]),Rq 6 (.zbox 42 zq4)],[Sq 7 6 17]]) (.seq (.seq (.reg [Mq 18 0,Fq 19 0 18,Fq 20 4 19,Lq 21 20]) (.block 0 (.seq (.reg [Bq 23 .eql 21 (Kq 1),Mq 22 23]) (.cond 22 (.reg [Fq 24 4 3,Lq 25 24,Fq 26 3 6,Sq 1 26 25]) (.seq (.reg [Bq 28 .eql 21 (Kq 16),Mq 27 28]) (.cond 27 (.reg [Fq 29 1 3,Lq 30 29,Fq 31 4 6,Sq 1 31 30]) (.seq (.reg [Bq 33 .eql 21 (Kq 33),Mq 32 33]) (.cond 32 (.seq (.dreg [[Fq 35 0 3,Lq 36 35,Mq 37 0,Fq 38 0 37,Fq 39 5 38,Lq 40 39],[Rq 41 (.build zq7 [(2,1,36),(3,1,40)])],[Cq 42 21 ([41])],[Mq 34 42],[Eq1 43 34 0,Eq1 44 34 1,Mq 7 43],[Mq 8 44]]) (.seq (.seq (.reg [Mq 45 8,Bq 46 .neq 45 (Kq 0)]) (.cond 46 (.seq (.reg [Rq 47 (.load true 7 6),Mq 48 8,Sq 7 4 47,Mq 5 48]) (.ret)) (.skip))) (.reg [Fq 49 5 3,Lq 50 49,Mq 51 7,Fq 52 5 6,Sq 1 52 50,Fq 53 6 6,Sq 1 53 51]))) (.skip))))))))) (.seq (.reg [Rq 54 (.load true 7 6),Sq 7 4 54,Nq 5 0]) (.ret))))
theorem Ox:Ep Tryz.prog 53 2=some (O2,[(4,some (true,7)),(5,none)]):=by kernel_rfl
def Yo:Ai:=
 .seq (.reg [Rq 6 (.mv (.const (.slice none 0 0))),Nq 7 0]) (.seq (.seq (.reg [Mq 12 0,Rq 13 (.mks 24 1 1 [(.slice none 0 0)] [(0,12)]),Cq 14 83 ([13]),Mq 8 14]) (.seq (.reg [Mq 15 8,Bq 16 .neq 15 (Kq 0)]) (.cond 16 (.seq (.reg [Mq 17 8,Rq 6 (.mv (.const (.slice none 0 0))),Mq 7 17]) (.ret)) (.skip)))) (.seq (.seq (.reg [Mq 18 1,Cq 19 41 ([18]),Rq 20 (.not 19),Mq 21 20,Hq 22 21 false 2,Gq 23 21 false (.call (.func 98) [22]),Gq 24 21 false (.not 23),Rq 25 (.pick 21 (.const (.bool true)) 24)]) (.cond 25 (.seq (.reg [Rq 6 (.mv (.const (.slice none 0 0))),Nq 7 1]) (.ret)) (.skip))) (.seq (.reg [Rq 9 (.mv (.const (.slice none 0 0)))]) (.seq (.seq (.reg [Mq 26 0,Rq 27 (.len false 26),Nq 28 0]) (.block 0 (.loop (.seq (.reg [Bq 29 .lss 28 27]) (.seq (.cond 29 (.skip) (.exit 0)) (.seq (.block 1 (.seq (.reg [Iq 30 9 26 28,Rq 31 (.load true 9 30),Rq 11 (.zbox 39 zq5),Sq 9 11 31]) (.seq (.reg [Fq 32 2 11,Lq 33 32,Mq 34 1,Bq 35 .eql 33 34,Mq 36 35,Hq 37 36 true 2,Gq 38 36 true (.bin .eql 37 (.const (.string ⟨#[]⟩))),Hq 39 36 true 38,Gq 40 39 false (.fldA 3 11),Gq 41 39 false (.load false 1 40),Hq 42 39 false 2,Gq 43 39 false (.bin .eql 41 42),Gq 44 36 true (.pick 39 (.const (.bool true)) 43),Rq 45 (.pick 36 44 (.const (.bool false))),Mq 46 45,Gq 47 46 true (.fldA 6 11),Gq 48 46 true (.load false 1 47),Rq 49 (.pick 46 48 (.const (.bool false))),Mq 50 49,Gq 51 50 true (.fldA 8 11),Gq 52 50 true (.load false 1 51),Gq 53 50 true (.not 52),Rq 54 (.pick 50 53 (.const (.bool false)))]) (.cond 54 (.reg [Mq 55 9,Rq 56 (.load true 9 11),Rq 57 (.mks 39 9 1 zq5 [(0,56)]),Rq 58 (.app 39 9 104 (.agg #[(.string ⟨#[]⟩),(.string ⟨#[]⟩),(.string ⟨#[]⟩),(.string ⟨#[]⟩),(.int .i64 0),(.int .i64 0),(.bool false),(.int .i64 0),(.bool false)]) 55 57),Mq 9 58]) (.skip))))) (.reg [Bq 59 .add 28 (Kq 1),Mq 28 59]))))))) (.seq (.reg [Mq 60 9,Mq 6 60,Nq 7 0]) (.ret))))))
theorem Pb:Aj Tryz.prog 54 3=some (Yo,[6,7]):=by kernel_rfl
def Aam:Ai:=
 .seq (.reg [Rq 2 (.zbox 23 zq7),Nq 3 0]) (.seq (.seq (.reg [Mq 11 0,Cq 12 49 ([11]),Mq 4 12]) (.seq (.reg [Mq 13 4,Bq 14 .neq 13 (Kq 0)]) (.cond 14 (.seq (.reg [Rq 15 (.build zq7 []),Mq 16 4,Sq 4 2 15,Mq 3 16]) (.ret)) (.skip)))) (.seq (.reg [Mq 17 0,Cq 18 103 ([17,(.const (.string ⟨#[46]⟩))]),Mq 5 18]) (.seq (.seq (.reg [Mq 19 5,Mq 20 5,Rq 21 (.len false 20),Bq 22 .sub 21 (Kq 1),Iq 23 1 19 22,Lq 24 23,Rq 25 (.bin .neq 24 (.const (.string ⟨#[109,101,115,104]⟩)))]) (.cond 25 (.seq (.reg [Rq 26 (.build zq7 []),Sq 4 2 26,Nq 3 8]) (.ret)) (.skip))) (.seq (.reg [Mq 27 5,Mq 28 5,Rq 29 (.len false 28),Bq 30 .sub 29 (Kq 1),Rq 31 (.slcL 1 27 none (some 30) none),Mq 5 31]) (.seq (.reg [Rq 6 (.zbox 23 zq7)]) (.seq (.reg [Rq 7 (.mv (.const (.int .i64 (-1))))]) (.seq (.seq (.reg [Mq 32 5,Rq 33 (.len false 32),Bq 34 .sub 33 (Kq 2),Rq 35 (.mm true (Kq 0) 34),Mq 8 35]) (.block 0 (.loop (.seq (.seq (.reg [Mq 36 8,Mq 37 5,Rq 38 (.len false 37),Bq 39 .lss 36 38]) (.cond 39 (.skip) (.exit 0))) (.seq (.block 1 (.seq (.reg [Mq 42 5,Mq 43 8,Iq 44 1 42 43,Lq 45 44,Rq 46 (.bin .eql 45 (.const (.string ⟨#[115,101,114,118,105,99,101]⟩))),Mq 47 46,Hq 48 47 false 5,Hq 49 47 false 8,Gq 50 47 false (.idxA 1 48 49),Gq 51 47 false (.load false 1 50),Gq 52 47 false (.bin .eql 51 (.const (.string ⟨#[110,111,100,101]⟩))),Rq 53 (.pick 47 (.const (.bool true)) 52)]) (.cond 53 (.reg [Mq 54 8,Mq 7 54]) (.skip)))) (.reg [Mq 40 8,Bq 41 .add 40 (Kq 1),Mq 8 41])))))) (.seq (.seq (.reg [Mq 55 7,Bq 56 .lss 55 (Kq 1),Mq 57 56,Hq 58 57 false 7,Gq 59 57 false (.bin .gtr 58 (Kq 2)),Rq 60 (.pick 57 (.const (.bool true)) 59)]) (.cond 60 (.seq (.reg [Rq 61 (.build zq7 []),Sq 4 2 61,Nq 3 1]) (.ret)) (.skip))) (.seq (.seq (.reg [Mq 62 7,Mq 63 5,Rq 64 (.len false 63),Bq 65 .sub 64 (Kq 1),Bq 66 .lss 62 65]) (.cond 66 (.reg [Mq 67 5,Mq 68 7,Bq 69 .add 68 (Kq 1),Iq 70 1 67 69,Lq 71 70,Fq 72 3 6,Sq 1 72 71]) (.skip))) (.seq (.block 2 (.seq (.reg [Mq 74 5,Mq 75 7,Iq 76 1 74 75,Lq 77 76,Rq 78 (.bin .eql 77 (.const (.string ⟨#[110,111,100,101]⟩))),Mq 79 78,Hq 80 79 true 7,Gq 81 79 true (.bin .eql 80 (Kq 1)),Rq 82 (.pick 79 81 (.const (.bool false))),Mq 73 82]) (.cond 73 (.reg [Mq 83 5,Rq 84 (.idxA 1 83 (Kq 0)),Lq 85 84,Fq 86 2 6,Sq 1 86 85]) (.seq (.reg [Mq 88 5,Mq 89 7,Iq 90 1 88 89,Lq 91 90,Rq 92 (.bin .eql 91 (.const (.string ⟨#[115,101,114,118,105,99,101]⟩))),Mq 87 92]) (.cond 87 (.seq (.reg [Mq 93 5,Mq 94 7,Bq 95 .sub 94 (Kq 1),Iq 96 1 93 95,Lq 97 96,Fq 98 0 6,Sq 1 98 97]) (.seq (.reg [Mq 99 7,Bq 100 .eql 99 (Kq 2)]) (.cond 100 (.reg [Mq 101 5,Rq 102 (.idxA 1 101 (Kq 0)),Lq 103 102,Fq 104 1 6,Sq 1 104 103]) (.skip)))) (.skip)))))) (.seq (.seq (.reg [Rq 106 (.load true 4 6),Cq 107 21 ([106]),Mq 105 107,Eq1 108 105 0,Eq1 109 105 1,Mq 9 108,Mq 10 109]) (.seq (.reg [Mq 110 10,Bq 111 .neq 110 (Kq 0),Mq 112 111,Hq 113 112 false 9,Hq 114 112 false 0,Gq 115 112 false (.bin .neq 113 114),Rq 116 (.pick 112 (.const (.bool true)) 115)]) (.cond 116 (.seq (.reg [Rq 117 (.build zq7 []),Sq 4 2 117,Nq 3 1]) (.ret)) (.skip)))) (.seq (.reg [Rq 118 (.load true 4 6),Sq 4 2 118,Nq 3 0]) (.ret)))))))))))))
theorem Abe:Ep Tryz.prog 61 1=some (Aam,[(2,some (true,4)),(3,none)]):=by kernel_rfl
def Zl:Ai:=
 .seq (.reg [Nq 2 0]) (.seq (.reg [Rq 3 (.mkm),⟨none,none,.mupd (.int .i64) 3 (Kq 8) (Kq 4)⟩,Mq 4 3,Mq 5 0,Rq 6 (.mlook (.int .i64) false (.int .i64 0) 4 5),Mq 2 6]) (.ret))
theorem Y9:Aj Tryz.prog 62 1=some (Zl,[2]):=by kernel_rfl
def Ac9:Ai:=
 .seq (.reg [Rq 6 (.mv (.const (.bool false)))]) (.seq (.reg [Mq 7 0,Mq 8 1,Bq 9 .geq 7 8,Mq 10 9,Hq 11 10 true 0,Hq 12 10 true 2,Gq 13 10 true (.bin .leq 11 12),Rq 14 (.pick 10 13 (.const (.bool false))),Mq 6 14]) (.ret))
theorem Abw:Aj Tryz.prog 63 3=some (Ac9,[6]):=by kernel_rfl
def Tx:Ai:=
 .seq (.reg [Rq 1 (.box 42 7 0),Nq 2 0]) (.seq (.seq (.reg [Fq 4 0 1,Lq 5 4,Cq 6 49 ([5]),Mq 3 6]) (.seq (.reg [Mq 7 3,Bq 8 .neq 7 (Kq 0)]) (.cond 8 (.seq (.reg [Mq 9 3,Mq 2 9]) (.ret)) (.skip)))) (.seq (.block 0 (.seq (.reg [Fq 11 1 1,Lq 12 11,Cq 13 19 ([12]),Rq 14 (.not 13),Mq 10 14]) (.cond 10 (.seq (.reg [Nq 2 7]) (.ret)) (.seq (.reg [Fq 16 2 1,Lq 17 16,Cq 18 63 ([17,(Kq 0),(Kq 2147483647)]),Rq 19 (.not 18),Mq 15 19]) (.cond 15 (.seq (.reg [Nq 2 3]) (.ret)) (.seq (.reg [Rq 21 (.load true 7 1),Cq 22 108 ([21]),Rq 23 (.not 22),Mq 20 23]) (.cond 20 (.seq (.reg [Nq 2 1]) (.ret)) (.seq (.reg [Fq 25 3 1,Lq 26 25,Cq 27 63 ([26,(Kq 0),(Kq 4294967295)]),Rq 28 (.not 27),Mq 29 28,Gq 30 29 false (.fldA 5 1),Gq 31 29 false (.load false 1 30),Gq 32 29 false (.call (.func 63) [31,(Kq 0),(Kq 65535)]),Gq 33 29 false (.not 32),Rq 34 (.pick 29 (.const (.bool true)) 33),Mq 24 34]) (.cond 24 (.seq (.reg [Nq 2 3]) (.ret)) (.seq (.reg [Fq 36 4 1,Lq 37 36,Rq 38 (.len true 37),Bq 39 .gtr 38 (Kq 200),Mq 35 39]) (.cond 35 (.seq (.reg [Nq 2 2]) (.ret)) (.skip)))))))))))) (.seq (.reg [Fq 40 6 1,Lq 41 40,Cq 42 49 ([41]),Mq 2 42]) (.ret))))
theorem Tf:Aj Tryz.prog 70 1=some (Tx,[2]):=by kernel_rfl
def T9:Ai:=
 .seq (.reg [Mq 6 1,Rq 7 (.len false 6),Nq 8 0]) (.block 0 (.loop (.seq (.reg [Bq 9 .lss 8 7]) (.seq (.cond 9 (.skip) (.exit 0)) (.seq (.block 1 (.seq (.reg [Iq 10 1 6 8,Lq 11 10,Mq 5 11]) (.seq (.reg [Mq 12 0,Fq 13 0 12,Fq 14 0 13,Mq 15 5,Rq 16 (.bin .shr 15 (.const (.int .u64 8))),Rq 17 (.conv .u8 16),Cq 18 109 ([14,17])]) (.reg [Mq 19 0,Fq 20 0 19,Fq 21 0 20,Mq 22 5,Rq 23 (.conv .u8 22),Cq 24 109 ([21,23])])))) (.reg [Bq 25 .add 8 (Kq 1),Mq 8 25]))))))
theorem Um:Aj Tryz.prog 71 2=some (T9,[]):=by kernel_rfl
def Tz:Ai:=
 .seq (.seq (.reg [Mq 6 1,Cq 7 90 ([6]),Rq 8 (.len false 7),Nq 9 0]) (.block 0 (.loop (.seq (.reg [Bq 10 .lss 9 8]) (.seq (.cond 10 (.skip) (.exit 0)) (.seq (.block 1 (.seq (.reg [Iq 11 1 7 9,Lq 12 11,Mq 5 12]) (.seq (.reg [Mq 13 0,Fq 14 0 13,Fq 15 0 14,Mq 16 5,Rq 17 (.len true 16),Rq 18 (.conv .u8 17),Cq 19 109 ([15,18])]) (.reg [Mq 20 0,Fq 21 0 20,Fq 22 0 21,Mq 23 5,Cq 24 110 ([22,23])])))) (.reg [Bq 25 .add 9 (Kq 1),Mq 9 25]))))))) (.reg [Mq 26 0,Fq 27 0 26,Fq 28 0 27,Cq 29 109 ([28,(.const (.int .u8 0))])])
theorem Tu:Aj Tryz.prog 72 2=some (Tz,[]):=by kernel_rfl
def Qe:Ai:=
 .seq (.reg [Rq 3 (.box 42 7 1)]) (.seq (.reg [Mq 5 0,Fq 6 0 3,Lq 7 6,Cq 8 72 ([5,7])]) (.seq (.reg [Mq 9 0,Fq 10 1 3,Lq 11 10,Fq 12 2 3,Lq 13 12,Rq 14 (.bin .shr 13 (.const (.int .u64 16))),Fq 15 2 3,Lq 16 15,Bq 17 .and 16 (Kq 65535),Rq 18 (.mks 3 1 4 [(.int .i64 0)] [(0,11),(1,(Kq 1)),(2,14),(3,17)]),Cq 19 71 ([9,18])]) (.seq (.reg [Rq 20 (.build [(.pointer none),(.slice none 0 0)] []),Rq 21 (.box 120 2 20),Mq 4 21]) (.seq (.seq (.reg [Fq 22 1 3,Lq 23 22]) (.block 0 (.seq (.reg [Bq 25 .eql 23 (Kq 1),Mq 24 25]) (.cond 24 (.reg [Mq 26 4,Fq 27 3 3,Lq 28 27,Rq 29 (.bin .shr 28 (.const (.int .u64 16))),Fq 30 3 3,Lq 31 30,Bq 32 .and 31 (Kq 65535),Rq 33 (.mks 3 1 2 [(.int .i64 0)] [(0,29),(1,32)]),Cq 34 71 ([26,33])]) (.seq (.reg [Bq 36 .eql 23 (Kq 16),Mq 35 36]) (.cond 35 (.seq (.dreg [[Mq 37 4,Fq 38 0 37,Fq 39 0 38,Fq 40 4 3,Lq 41 40,Rq 42 (.len true 41),Rq 43 (.conv .u8 42)],[Cq 44 109 ([39,43])]]) (.dreg [[Mq 45 4,Fq 46 0 45,Fq 47 0 46,Fq 48 4 3,Lq 49 48],[Cq 50 110 ([47,49])]])) (.seq (.reg [Bq 52 .eql 23 (Kq 33),Mq 51 52]) (.cond 51 (.seq (.reg [Mq 53 4,Fq 54 5 3,Lq 55 54,Rq 56 (.mks 3 1 3 [(.int .i64 0)] [(0,(Kq 0)),(1,(Kq 0)),(2,55)]),Cq 57 71 ([53,56])]) (.reg [Mq 58 4,Fq 59 6 3,Lq 60 59,Cq 61 72 ([58,60])])) (.skip))))))))) (.seq (.reg [Mq 62 0,Mq 63 4,Fq 64 0 63,Fq 65 0 64,Cq 66 111 ([65]),Rq 67 (.mks 3 1 1 [(.int .i64 0)] [(0,66)]),Cq 68 71 ([62,67])]) (.dreg [[],[Cq 75 74 ([74]),Rq 70 (.mkm),Rq 71 (.mkm)],[Mq 69 0,Fq 70 0 69,Fq 71 0 70,Mq 72 4,Fq 73 0 72,Fq 74 0 73],[Cq 76 110 ([71,75])]]))))))
theorem Gj:Aj Tryz.prog 73 2=some (Qe,[]):=by kernel_rfl
def Va:Ai:=
 .seq (.reg [Nq 2 0]) (.seq (.reg [Mq 3 0,Cq 4 76 ([3]),Rq 5 (.bin .shl 4 (.const (.int .u64 8))),Mq 6 0,Cq 7 76 ([6]),Bq 8 .or 5 7,Mq 2 8]) (.ret))
theorem L6:Aj Tryz.prog 75 1=some (Va,[2]):=by kernel_rfl
def Tn:Ai:=
 .seq (.reg [Nq 2 0]) (.seq (.dreg [[Mq 3 0,Mq 4 0,Fq 5 0 4,Fq 6 1 5,Lq 7 6,Mq 8 0,Fq 9 0 8,Fq 10 0 9,Lq 11 10,Rq 12 (.len true 11),Bq 13 .lss 7 12],[Cq 14 77 ([3,13])]]) (.seq (.reg [Mq 15 0,Fq 16 0 15,Fq 17 1 16,Lq 18 17,Bq 19 .add 18 (Kq 1),Fq 20 0 15,Fq 21 1 20,Sq 1 21 19]) (.seq (.dreg [[Mq 22 0,Fq 23 0 22,Fq 24 0 23,Lq 25 24,Mq 26 0,Fq 27 0 26,Fq 28 1 27,Lq 29 28,Bq 30 .sub 29 (Kq 1)],[Rq 31 (.idxS 25 30)],[Rq 32 (.conv .i64 31)],[Mq 2 32]]) (.ret))))
theorem Li:Aj Tryz.prog 76 1=some (Tn,[2]):=by kernel_rfl
def Ta:Ai:=
 .seq (.reg [Mq 4 1,Rq 5 (.not 4)]) (.cond 5 (.reg [Rq 6 (.build [] []),Rq 7 (.mki 77 6),⟨none,none,.die 7⟩]) (.skip))
theorem Le:Aj Tryz.prog 77 2=some (Ta,[]):=by kernel_rfl
def Tv:Ai:=
 .seq (.reg [Rq 2 (.mv (.const (.string ⟨#[]⟩)))]) (.seq (.reg [Rq 3 (.mv (.const (.slice none 0 0)))]) (.seq (.dreg [[Mq 9 0,Fq 10 0 9,Fq 11 1 10,Lq 12 11,Rq 4 (.mv (.const (.int .i64 (-1))))],[Mq 5 12]]) (.block 0 (.loop (.block 1 (.seq (.reg [Mq 13 0,Mq 14 3,Rq 15 (.len false 14),Bq 16 .leq 15 (Kq 8),Cq 17 77 ([13,16])]) (.seq (.reg [Mq 18 0,Cq 19 76 ([18]),Mq 6 19]) (.block 2 (.seq (.reg [Mq 33 6,Bq 34 .eql 33 (Kq 0),Mq 32 34]) (.cond 32 (.seq (.seq (.reg [Mq 35 4,Bq 36 .geq 35 (Kq 0)]) (.cond 36 (.reg [Mq 37 0,Mq 38 4,Fq 39 0 37,Fq 40 1 39,Sq 1 40 38]) (.skip))) (.seq (.reg [Mq 41 3,Cq 42 87 ([41,(.const (.string ⟨#[46]⟩))]),Mq 2 42]) (.ret))) (.seq (.reg [Mq 44 6,Bq 45 .geq 44 (Kq 192),Mq 43 45]) (.cond 43 (.seq (.reg [Mq 46 6,Bq 47 .and 46 (Kq 63),Rq 48 (.bin .shl 47 (.const (.int .u64 8))),Mq 49 0,Cq 50 76 ([49]),Bq 51 .or 48 50,Mq 7 51]) (.seq (.seq (.reg [Mq 52 4,Bq 53 .lss 52 (Kq 0)]) (.cond 53 (.reg [Mq 54 0,Fq 55 0 54,Fq 56 1 55,Lq 57 56,Mq 4 57]) (.skip))) (.seq (.reg [Mq 58 0,Mq 59 7,Mq 60 5,Bq 61 .lss 59 60,Cq 62 77 ([58,61])]) (.reg [Mq 63 0,Mq 64 7,Mq 65 7,Fq 66 0 63,Fq 67 1 66,Sq 1 67 64,Mq 5 65])))) (.seq (.reg [Mq 20 0,Mq 21 6,Cq 22 113 ([20,21]),Cq 23 112 ([22]),Mq 8 23]) (.seq (.reg [Mq 24 0,Mq 25 8,Cq 26 41 ([25]),Cq 27 77 ([24,26])]) (.reg [Mq 28 3,Mq 29 8,Rq 30 (.mks 9 1 1 [(.string ⟨#[]⟩)] [(0,29)]),Rq 31 (.app 9 1 16 (.string ⟨#[]⟩) 28 30),Mq 3 31])))))))))))))))
theorem Lc:Aj Tryz.prog 78 1=some (Tv,[2]):=by kernel_rfl
def Ql:Ai:=
 .seq (.reg [Rq 2 (.zbox 42 zq4)]) (.seq (.reg [Mq 6 0,Cq 7 78 ([6]),Mq 8 0,Cq 9 75 ([8]),Rq 10 (.build zq4 [(0,1,7),(1,1,9)]),Rq 3 (.zbox 42 zq4),Sq 7 3 10]) (.seq (.reg [Mq 11 0,Mq 12 0,Cq 13 75 ([12]),Bq 14 .eql 13 (Kq 1),Cq 15 77 ([11,14])]) (.seq (.reg [Mq 16 0,Cq 17 114 ([16]),Fq 18 2 3,Sq 1 18 17]) (.seq (.reg [Mq 19 0,Cq 20 75 ([19]),Mq 4 20]) (.seq (.reg [Mq 21 0,Fq 22 0 21,Fq 23 1 22,Lq 24 23,Mq 25 4,Bq 26 .add 24 25,Mq 5 26]) (.seq (.reg [Mq 27 0,Mq 28 5,Mq 29 0,Fq 30 0 29,Fq 31 0 30,Lq 32 31,Rq 33 (.len true 32),Bq 34 .leq 28 33,Cq 35 77 ([27,34])]) (.seq (.seq (.reg [Fq 36 1 3,Lq 37 36]) (.block 0 (.seq (.reg [Bq 41 .eql 37 (Kq 1),Mq 40 41]) (.cond 40 (.reg [Mq 42 0,Cq 43 114 ([42]),Fq 44 3 3,Sq 1 44 43]) (.seq (.reg [Bq 46 .eql 37 (Kq 16),Mq 45 46]) (.cond 45 (.reg [Mq 47 0,Mq 48 0,Cq 49 76 ([48]),Cq 50 113 ([47,49]),Fq 51 4 3,Sq 1 51 50]) (.seq (.reg [Bq 53 .eql 37 (Kq 33),Mq 52 53]) (.cond 52 (.seq (.reg [Mq 54 0,Mq 55 0,Cq 56 75 ([55]),Bq 57 .eql 56 (Kq 0),Mq 58 57,Hq 59 58 true 0,Gq 60 58 true (.call (.func 75) [59]),Gq 61 58 true (.bin .eql 60 (Kq 0)),Rq 62 (.pick 58 61 (.const (.bool false))),Cq 63 77 ([54,62])]) (.seq (.reg [Mq 64 0,Cq 65 75 ([64]),Fq 66 5 3,Sq 1 66 65]) (.reg [Mq 67 0,Cq 68 78 ([67]),Fq 69 6 3,Sq 1 69 68]))) (.reg [Mq 38 0,Cq 39 77 ([38,(.const (.bool false))])]))))))))) (.seq (.reg [Mq 70 0,Mq 71 0,Fq 72 0 71,Fq 73 1 72,Lq 74 73,Mq 75 5,Bq 76 .eql 74 75,Cq 77 77 ([70,76])]) (.seq (.reg [Rq 78 (.load true 7 3),Sq 7 2 78]) (.ret))))))))))
theorem Jb:Ep Tryz.prog 79 1=some (Ql,[(2,some (true,7))]):=by kernel_rfl
def H4:Ai:=
 .seq (.reg [Nq 4 0]) (.seq (.seq (.reg [Mq 6 0,Rq 7 (.len false 6),Nq 8 0]) (.block 0 (.loop (.seq (.reg [Bq 9 .lss 8 7]) (.seq (.cond 9 (.skip) (.exit 0)) (.seq (.block 1 (.seq (.reg [Mq 10 8,Mq 5 10]) (.seq (.reg [Mq 11 1,Mq 12 0,Mq 13 5,Iq 14 1 12 13,Lq 15 14,Rq 16 (.call 11 [15])]) (.cond 16 (.seq (.reg [Mq 17 5,Mq 4 17]) (.ret)) (.skip))))) (.reg [Bq 18 .add 8 (Kq 1),Mq 8 18]))))))) (.seq (.reg [Rq 4 (.mv (.const (.int .i64 (-1))))]) (.ret)))
theorem H2:Aj Tryz.prog 80 2=some (H4,[4]):=by kernel_rfl
def I4:Ai:=
 .seq (.reg [Nq 4 0]) (.seq (.seq (.reg [Mq 6 0,Rq 7 (.len false 6),Nq 8 0]) (.block 0 (.loop (.seq (.reg [Bq 9 .lss 8 7]) (.seq (.cond 9 (.skip) (.exit 0)) (.seq (.block 1 (.seq (.reg [Mq 10 8,Mq 5 10]) (.seq (.reg [Mq 11 1,Mq 12 0,Mq 13 5,Iq 14 1 12 13,Lq 15 14,Bq 16 .eql 11 15]) (.cond 16 (.seq (.reg [Mq 17 5,Mq 4 17]) (.ret)) (.skip))))) (.reg [Bq 18 .add 8 (Kq 1),Mq 8 18]))))))) (.seq (.reg [Rq 4 (.mv (.const (.int .i64 (-1))))]) (.ret)))
theorem Jg:Aj Tryz.prog 81 2=some (I4,[4]):=by kernel_rfl
def Nr:Ai:=
 .seq (.reg [Nq 4 0]) (.seq (.seq (.reg [Mq 6 0,Rq 7 (.len false 6),Nq 8 0]) (.block 0 (.loop (.seq (.reg [Bq 9 .lss 8 7]) (.seq (.cond 9 (.skip) (.exit 0)) (.seq (.block 1 (.seq (.reg [Mq 10 8,Mq 5 10]) (.seq (.reg [Mq 11 1,Mq 12 0,Mq 13 5,Iq 14 1 12 13,Lq 15 14,Bq 16 .eql 11 15]) (.cond 16 (.seq (.reg [Mq 17 5,Mq 4 17]) (.ret)) (.skip))))) (.reg [Bq 18 .add 8 (Kq 1),Mq 8 18]))))))) (.seq (.reg [Rq 4 (.mv (.const (.int .i64 (-1))))]) (.ret)))
theorem Nh:Aj Tryz.prog 82 2=some (Nr,[4]):=by kernel_rfl
def V8:Ai:=
 .seq (.reg [Nq 2 0]) (.seq (.seq (.reg [Mq 9 0,Rq 10 (.len false 9),Nq 11 0]) (.block 0 (.loop (.seq (.reg [Bq 12 .lss 11 10]) (.seq (.cond 12 (.skip) (.exit 0)) (.seq (.block 1 (.seq (.reg [Iq 13 1 9 11,Lq 14 13,Mq 4 14]) (.seq (.seq (.reg [Mq 15 4,Rq 16 (.len false 15),Bq 17 .gtr 16 (Kq 40)]) (.cond 17 (.seq (.reg [Nq 2 2]) (.ret)) (.skip))) (.seq (.seq (.reg [Mq 18 4,Rq 19 (.len false 18),Nq 20 0]) (.block 2 (.loop (.seq (.reg [Bq 21 .lss 20 19]) (.seq (.cond 21 (.skip) (.exit 2)) (.seq (.block 3 (.seq (.reg [Iq 22 9 18 20,Rq 23 (.load true 9 22),Rq 6 (.zbox 39 zq5),Sq 9 6 23]) (.seq (.reg [Rq 24 (.load true 9 6),Cq 25 115 ([24]),Mq 7 25]) (.seq (.reg [Mq 26 7,Bq 27 .neq 26 (Kq 0)]) (.cond 27 (.seq (.reg [Mq 28 7,Mq 2 28]) (.ret)) (.skip)))))) (.reg [Bq 29 .add 20 (Kq 1),Mq 20 29]))))))) (.seq (.reg [Nq 8 1]) (.block 4 (.loop (.seq (.seq (.reg [Mq 30 8,Mq 31 4,Rq 32 (.len false 31),Bq 33 .lss 30 32]) (.cond 33 (.skip) (.exit 4))) (.seq (.block 5 (.seq (.dreg [[Mq 36 4,Mq 37 8,Bq 38 .sub 37 (Kq 1),Iq 39 9 36 38,Rq 40 (.load true 9 39),Mq 41 4,Mq 42 8,Iq 43 9 41 42,Rq 44 (.load true 9 43)],[Cq 45 116 ([40,44])],[Bq 46 .geq 45 (Kq 0)]]) (.cond 46 (.seq (.reg [Nq 2 4]) (.ret)) (.skip)))) (.reg [Mq 34 8,Bq 35 .add 34 (Kq 1),Mq 8 35])))))))))) (.reg [Bq 47 .add 11 (Kq 1),Mq 11 47]))))))) (.seq (.reg [Nq 2 0]) (.ret)))
theorem W4:Aj Tryz.prog 83 1=some (V8,[2]):=by kernel_rfl
def Ym:Ai:=
 .seq (.reg [Nq 2 0]) (.seq (.seq (.reg [Mq 7 0,Rq 8 (.len false 7),Nq 9 0]) (.block 0 (.loop (.seq (.reg [Bq 10 .lss 9 8]) (.seq (.cond 10 (.skip) (.exit 0)) (.seq (.block 1 (.seq (.reg [Iq 11 1 7 9,Lq 12 11,Mq 4 12]) (.seq (.seq (.reg [Mq 13 4,Rq 14 (.len false 13),Bq 15 .gtr 14 (Kq 20)]) (.cond 15 (.seq (.reg [Nq 2 2]) (.ret)) (.skip))) (.seq (.seq (.reg [Mq 16 4,Cq 17 117 ([16]),Mq 5 17]) (.seq (.reg [Mq 18 5,Bq 19 .neq 18 (Kq 0)]) (.cond 19 (.seq (.reg [Mq 20 5,Mq 2 20]) (.ret)) (.skip)))) (.seq (.reg [Nq 6 1]) (.block 2 (.loop (.seq (.seq (.reg [Mq 21 6,Mq 22 4,Rq 23 (.len false 22),Bq 24 .lss 21 23]) (.cond 24 (.skip) (.exit 2))) (.seq (.block 3 (.seq (.dreg [[Mq 27 4,Mq 28 6,Iq 29 5 27 28,Fq 30 0 29,Lq 31 30,Mq 32 4,Mq 33 6,Bq 34 .sub 33 (Kq 1),Iq 35 5 32 34,Fq 36 0 35,Lq 37 36],[Bq 38 .leq 31 37]]) (.cond 38 (.seq (.reg [Nq 2 4]) (.ret)) (.skip)))) (.reg [Mq 25 6,Bq 26 .add 25 (Kq 1),Mq 6 26])))))))))) (.reg [Bq 39 .add 9 (Kq 1),Mq 9 39]))))))) (.seq (.reg [Nq 2 0]) (.ret)))
theorem Yc:Aj Tryz.prog 84 1=some (Ym,[2]):=by kernel_rfl
def Wg:Ai:=
 .seq (.reg [Rq 2 (.mv (.const (.bool false)))]) (.seq (.reg [Mq 3 0,Cq 4 86 ([3,(.const (.int .i64 (-10000000))),(Kq 10000000)]),Mq 2 4]) (.ret))
theorem Wt:Aj Tryz.prog 85 1=some (Wg,[2]):=by kernel_rfl
def Yj:Ai:=
 .seq (.reg [Rq 6 (.mv (.const (.bool false)))]) (.seq (.reg [Mq 7 0,Mq 8 1,Bq 9 .geq 7 8,Mq 10 9,Hq 11 10 true 0,Hq 12 10 true 2,Gq 13 10 true (.bin .leq 11 12),Rq 14 (.pick 10 13 (.const (.bool false))),Mq 6 14]) (.ret))
theorem Yg:Aj Tryz.prog 86 3=some (Yj,[6]):=by kernel_rfl
def Hk:Ai:=
 .seq (.reg [Rq 4 (.mv (.const (.slice none 0 0)))]) (.seq (.reg [Mq 8 0,Mq 9 1,Cq 10 80 ([8,9]),Mq 5 10]) (.seq (.seq (.reg [Mq 11 5,Rq 12 (.bin .eql 11 (.const (.int .i64 (-1))))]) (.cond 12 (.seq (.reg [Mq 13 0,Mq 4 13]) (.ret)) (.skip))) (.seq (.seq (.reg [Mq 14 5,Bq 15 .add 14 (Kq 1),Mq 6 15]) (.block 0 (.loop (.seq (.seq (.reg [Mq 16 6,Mq 17 0,Rq 18 (.len false 17),Bq 19 .lss 16 18]) (.cond 19 (.skip) (.exit 0))) (.seq (.block 1 (.seq (.reg [Mq 22 0,Mq 23 6,Iq 24 1 22 23,Lq 25 24,Mq 7 25]) (.seq (.reg [Mq 26 1,Mq 27 7,Rq 28 (.call 26 [27]),Rq 29 (.not 28)]) (.cond 29 (.seq (.reg [Mq 30 0,Mq 31 5,Mq 32 7,Iq 33 1 30 31,Sq 1 33 32]) (.reg [Mq 34 5,Bq 35 .add 34 (Kq 1),Mq 5 35])) (.skip))))) (.reg [Mq 20 6,Bq 21 .add 20 (Kq 1),Mq 6 21])))))) (.seq (.reg [Mq 36 0,Mq 37 5,Rq 38 (.slcL 1 36 (some 37) none none),⟨none,none,.clr 1 [(.string ⟨#[]⟩)] 38⟩]) (.seq (.reg [Mq 39 0,Mq 40 5,Rq 41 (.slcL 1 39 none (some 40) none),Mq 4 41]) (.ret))))))
theorem Hh:Aj Tryz.prog 88 2=some (Hk,[4]):=by kernel_rfl
def Ti:Ai:=
 .seq (.reg [Rq 2 (.mv (.const (.bool false)))]) (.seq (.reg [Mq 3 0,Rq 4 (.bin .eql 3 (.const (.string ⟨#[]⟩))),Mq 2 4]) (.ret))
theorem Tr:Aj Tryz.prog 89 1=some (Ti,[2]):=by kernel_rfl
def Abz:Ai:=
 .seq (.reg [Rq 2 (.mv (.const (.slice none 0 0)))]) (.seq (.seq (.reg [Mq 3 0,Rq 4 (.bin .eql 3 (.const (.string ⟨#[]⟩)))]) (.cond 4 (.seq (.reg [Rq 2 (.mv (.const (.slice none 0 0)))]) (.ret)) (.skip))) (.seq (.reg [Mq 5 0,Cq 6 103 ([5,(.const (.string ⟨#[46]⟩))]),Mq 2 6]) (.ret)))
theorem Ac0:Aj Tryz.prog 90 1=some (Abz,[2]):=by kernel_rfl
def Y7:Ai:=
 .seq (.reg [Rq 2 (.mv (.const (.bool false)))]) (.seq (.reg [Mq 3 0,Cq 4 41 ([3]),Rq 5 (.not 4),Mq 2 5]) (.ret))
theorem Zx:Aj Tryz.prog 91 1=some (Y7,[2]):=by kernel_rfl
def Dv:Ai:=
 .seq (.reg [Nq 6 0,Rq 7 (.mv (.const (.bool false)))]) (.seq (.reg [Mq 12 0,Rq 13 (.len false 12),Mq 8 13]) (.seq (.reg [Mq 14 8,Nq 9 0,Mq 10 14]) (.seq (.block 0 (.loop (.seq (.seq (.reg [Mq 15 9,Mq 16 10,Bq 17 .lss 15 16]) (.cond 17 (.skip) (.exit 0))) (.block 1 (.seq (.reg [Mq 18 9,Mq 19 10,Bq 20 .add 18 19,Rq 21 (.conv .u64 20),Rq 22 (.bin .shr 21 (.const (.int .u64 1))),Rq 23 (.conv .i64 22),Mq 11 23]) (.seq (.reg [Mq 24 2,Mq 25 0,Mq 26 11,Iq 27 5 25 26,Rq 28 (.load true 5 27),Mq 29 1,Rq 30 (.call 24 [28,29]),Bq 31 .lss 30 (Kq 0)]) (.cond 31 (.reg [Mq 32 11,Bq 33 .add 32 (Kq 1),Mq 9 33]) (.reg [Mq 34 11,Mq 10 34])))))))) (.seq (.reg [Mq 35 9,Mq 36 9,Mq 37 8,Bq 38 .lss 36 37,Mq 39 38,Hq 40 39 true 2,Hq 41 39 true 0,Hq 42 39 true 9,Gq 43 39 true (.idxA 5 41 42),Gq 44 39 true (.load true 5 43),Hq 45 39 true 1,Gq 46 39 true (.call 40 [44,45]),Gq 47 39 true (.bin .eql 46 (Kq 0)),Rq 48 (.pick 39 47 (.const (.bool false))),Mq 6 35,Mq 7 48]) (.ret)))))
theorem Dw:Aj Tryz.prog 92 3=some (Dv,[6,7]):=by kernel_rfl
def W0:Ai:=
 .seq (.reg [Rq 2 (.box 44 5 0),Nq 4 0]) (.seq (.reg [Fq 5 0 2,Lq 6 5,Mq 7 1,Cq 8 94 ([6,7]),Mq 4 8]) (.ret))
theorem W1:Aj Tryz.prog 93 2=some (W0,[4]):=by kernel_rfl
def Fa:Ai:=
 .seq (.reg [Rq 4 (.mv (.const (.slice none 0 0)))]) (.seq (.reg [Mq 8 0,Mq 9 1,Cq 10 120 ([8,9]),Mq 5 10]) (.seq (.seq (.reg [Mq 11 5,Rq 12 (.bin .eql 11 (.const (.int .i64 (-1))))]) (.cond 12 (.seq (.reg [Mq 13 0,Mq 4 13]) (.ret)) (.skip))) (.seq (.seq (.reg [Mq 14 5,Bq 15 .add 14 (Kq 1),Mq 6 15]) (.block 0 (.loop (.seq (.seq (.reg [Mq 16 6,Mq 17 0,Rq 18 (.len false 17),Bq 19 .lss 16 18]) (.cond 19 (.skip) (.exit 0))) (.seq (.block 1 (.seq (.reg [Mq 22 0,Mq 23 6,Iq 24 9 22 23,Rq 25 (.load true 9 24),Rq 7 (.zbox 39 zq5),Sq 9 7 25]) (.seq (.reg [Mq 26 1,Rq 27 (.load true 9 7),Rq 28 (.call 26 [27]),Rq 29 (.not 28)]) (.cond 29 (.seq (.reg [Mq 30 0,Mq 31 5,Rq 32 (.load true 9 7),Iq 33 9 30 31,Sq 9 33 32]) (.reg [Mq 34 5,Bq 35 .add 34 (Kq 1),Mq 5 35])) (.skip))))) (.reg [Mq 20 6,Bq 21 .add 20 (Kq 1),Mq 6 21])))))) (.seq (.reg [Mq 36 0,Mq 37 5,Rq 38 (.slcL 9 36 (some 37) none none),⟨none,none,.clr 9 zq5 38⟩]) (.seq (.reg [Mq 39 0,Mq 40 5,Rq 41 (.slcL 9 39 none (some 40) none),Mq 4 41]) (.ret))))))
theorem E8:Aj Tryz.prog 95 2=some (Fa,[4]):=by kernel_rfl
def Nk:Ai:=
 .seq (.reg [Rq 2 (.box 39 9 0),Rq 3 (.mv (.const (.bool false)))]) (.seq (.reg [Lq 4 1,Fq 5 0 2,Lq 6 5,Cq 7 51 ([4,6]),Mq 3 7]) (.ret))
theorem Of:Aj Tryz.prog 96 2=some (Nk,[3]):=by kernel_rfl
def Acb:Ai:=
 .seq (.reg [Rq 3 (.box 27 5 0),Rq 6 (.mv (.const (.slice none 0 0))),Nq 7 0]) (.seq (.seq (.reg [Mq 16 1,Rq 17 (.len false 16),Bq 18 .gtr 17 (Kq 100),Mq 19 18,Hq 20 19 false 2,Gq 21 19 false (.len false 20),Gq 22 19 false (.bin .gtr 21 (Kq 100)),Rq 23 (.pick 19 (.const (.bool true)) 22)]) (.cond 23 (.seq (.reg [Rq 6 (.mv (.const (.slice none 0 0))),Nq 7 2]) (.ret)) (.skip))) (.seq (.seq (.reg [Rq 24 (.load true 5 3),Cq 25 47 ([24]),Mq 8 25]) (.seq (.reg [Mq 26 8,Bq 27 .neq 26 (Kq 0)]) (.cond 27 (.seq (.reg [Mq 28 8,Rq 6 (.mv (.const (.slice none 0 0))),Mq 7 28]) (.ret)) (.skip)))) (.seq (.reg [Rq 29 (.mkm),Rq 9 (.zbox 164 [(.map none)]),Sq 1 9 29]) (.seq (.seq (.reg [Mq 30 1,Rq 31 (.len false 30),Nq 32 0]) (.block 0 (.loop (.seq (.reg [Bq 33 .lss 32 31]) (.seq (.cond 33 (.skip) (.exit 0)) (.seq (.block 1 (.seq (.reg [Iq 34 6 30 32,Rq 35 (.load true 6 34),Rq 11 (.zbox 93 zq3),Sq 6 11 35]) (.seq (.seq (.reg [Fq 36 1 11,Rq 37 (.load true 5 36),Cq 38 47 ([37]),Mq 12 38]) (.seq (.reg [Mq 39 12,Bq 40 .neq 39 (Kq 0)]) (.cond 40 (.seq (.reg [Mq 41 12,Rq 6 (.mv (.const (.slice none 0 0))),Mq 7 41]) (.ret)) (.skip)))) (.seq (.reg [Lq 43 9,Fq 44 0 11,Lq 45 44,Rq 46 (.mlook .string true (.int .i64 0) 43 45),Mq 42 46,Eq1 47 42 0,Eq1 48 42 1,Mq 13 47,Mq 14 48]) (.seq (.reg [Mq 49 14,Rq 50 (.not 49)]) (.cond 50 (.dreg [[Lq 51 9,Fq 52 0 11,Lq 53 52,Rq 54 (.load true 5 3),Fq 55 1 11,Rq 56 (.load true 5 55),Cq 57 121 ([54,56])],[⟨none,none,.mupd .string 51 53 57⟩]]) (.skip))))))) (.reg [Bq 58 .add 32 (Kq 1),Mq 32 58]))))))) (.seq (.reg [Mq 59 2,Cq 60 122 ([59]),Mq 15 60]) (.seq (.reg [Mq 61 15,Rq 62 (.mkfn 124 [9]),Cq 63 123 ([61,62])]) (.seq (.reg [Mq 64 15,Mq 6 64,Nq 7 0]) (.ret))))))))
theorem Ac8:Aj Tryz.prog 97 3=some (Acb,[6,7]):=by kernel_rfl
def V7:Ai:=
 .seq (.reg [Rq 2 (.mv (.const (.bool false)))]) (.seq (.reg [Mq 3 0,Rq 4 (.bin .eql 3 (.const (.string ⟨#[]⟩))),Mq 5 4,Hq 6 5 false 0,Gq 7 5 false (.call (.func 41) [6]),Rq 8 (.pick 5 (.const (.bool true)) 7),Mq 2 8]) (.ret))
theorem Vs:Aj Tryz.prog 98 1=some (V7,[2]):=by kernel_rfl
def Wl:Ai:=
 .seq (.reg [Rq 4 (.mv (.const (.slice none 0 0)))]) (.seq (.reg [Mq 5 0,Mq 6 1,Cq 7 129 ([5,6,(Kq 0),(.const (.int .i64 (-1)))]),Mq 4 7]) (.ret))
theorem W5:Aj Tryz.prog 103 2=some (Wl,[4]):=by kernel_rfl
def Ac1:Ai:=
 .seq (.reg [Rq 1 (.box 42 7 0),Rq 2 (.mv (.const (.bool false)))]) (.seq (.reg [Fq 3 1 1,Lq 4 3,Bq 5 .eql 4 (Kq 1),Mq 6 5,Gq 7 6 false (.fldA 3 1),Gq 8 6 false (.load false 1 7),Gq 9 6 false (.bin .eql 8 (Kq 0)),Rq 10 (.pick 6 (.const (.bool true)) 9),Mq 11 10,Gq 12 11 true (.fldA 1 1),Gq 13 11 true (.load false 1 12),Gq 14 11 true (.bin .eql 13 (Kq 16)),Hq 15 11 true 14,Gq 16 15 false (.fldA 4 1),Gq 17 15 false (.load false 1 16),Gq 18 15 false (.bin .eql 17 (.const (.string ⟨#[]⟩))),Gq 19 11 true (.pick 15 (.const (.bool true)) 18),Rq 20 (.pick 11 19 (.const (.bool false))),Mq 21 20,Gq 22 21 true (.fldA 1 1),Gq 23 21 true (.load false 1 22),Gq 24 21 true (.bin .eql 23 (Kq 33)),Hq 25 21 true 24,Gq 26 25 false (.fldA 5 1),Gq 27 25 false (.load false 1 26),Gq 28 25 false (.bin .eql 27 (Kq 0)),Hq 29 25 false 28,Gq 30 29 true (.fldA 6 1),Gq 31 29 true (.load false 1 30),Gq 32 29 true (.bin .eql 31 (.const (.string ⟨#[]⟩))),Gq 33 25 false (.pick 29 32 (.const (.bool false))),Gq 34 21 true (.pick 25 (.const (.bool true)) 33),Rq 35 (.pick 21 34 (.const (.bool false))),Mq 2 35]) (.ret))
theorem Acd:Aj Tryz.prog 108 1=some (Ac1,[2]):=by kernel_rfl
def So:Ai:=
 .seq (.reg [Rq 4 (.mv (.const (.string ⟨#[]⟩)))]) (.seq (.dreg [[Mq 5 0,Mq 6 1,Mq 7 0,Fq 8 0 7,Fq 9 0 8,Lq 10 9,Rq 11 (.len true 10),Mq 12 0,Fq 13 0 12,Fq 14 1 13,Lq 15 14,Bq 16 .sub 11 15,Bq 17 .leq 6 16],[Cq 18 77 ([5,17])]]) (.seq (.reg [Mq 19 0,Fq 20 0 19,Fq 21 1 20,Lq 22 21,Mq 23 1,Bq 24 .add 22 23,Fq 25 0 19,Fq 26 1 25,Sq 1 26 24]) (.seq (.dreg [[Mq 27 0,Fq 28 0 27,Fq 29 0 28,Lq 30 29,Mq 31 0,Fq 32 0 31,Fq 33 1 32,Lq 34 33,Mq 35 1,Bq 36 .sub 34 35,Mq 37 0,Fq 38 0 37,Fq 39 1 38,Lq 40 39],[Rq 41 (.slcS 30 (some 36) (some 40))],[Mq 4 41]]) (.ret))))
theorem Jv:Aj Tryz.prog 113 2=some (So,[4]):=by kernel_rfl
def S8:Ai:=
 .seq (.reg [Nq 2 0]) (.seq (.reg [Mq 3 0,Cq 4 75 ([3]),Rq 5 (.bin .shl 4 (.const (.int .u64 16))),Mq 6 0,Cq 7 75 ([6]),Bq 8 .or 5 7,Mq 2 8]) (.ret))
theorem Kl:Aj Tryz.prog 114 1=some (S8,[2]):=by kernel_rfl
def Abp:Ai:=
 .seq (.reg [Rq 1 (.box 39 9 0),Nq 2 0]) (.seq (.block 0 (.seq (.reg [Fq 4 0 1,Lq 5 4,Cq 6 41 ([5]),Rq 7 (.not 6),Mq 8 7,Gq 9 8 false (.fldA 1 1),Gq 10 8 false (.load false 1 9),Gq 11 8 false (.call (.func 41) [10]),Gq 12 8 false (.not 11),Rq 13 (.pick 8 (.const (.bool true)) 12),Mq 14 13,Gq 15 14 false (.fldA 2 1),Gq 16 14 false (.load false 1 15),Gq 17 14 false (.call (.func 41) [16]),Gq 18 14 false (.not 17),Rq 19 (.pick 14 (.const (.bool true)) 18),Mq 20 19,Gq 21 20 false (.fldA 3 1),Gq 22 20 false (.load false 1 21),Gq 23 20 false (.call (.func 98) [22]),Gq 24 20 false (.not 23),Rq 25 (.pick 20 (.const (.bool true)) 24),Mq 3 25]) (.cond 3 (.seq (.reg [Nq 2 1]) (.ret)) (.seq (.reg [Fq 27 4 1,Lq 28 27,Cq 29 131 ([28,(Kq 0),(Kq 4294967295)]),Rq 30 (.not 29),Mq 31 30,Gq 32 31 false (.fldA 5 1),Gq 33 31 false (.load false 1 32),Gq 34 31 false (.call (.func 131) [33,(Kq 0),(Kq 65535)]),Gq 35 31 false (.not 34),Rq 36 (.pick 31 (.const (.bool true)) 35),Mq 37 36,Gq 38 37 false (.fldA 7 1),Gq 39 37 false (.load false 1 38),Gq 40 37 false (.call (.func 131) [39,(Kq 1),(Kq 1000000)]),Gq 41 37 false (.not 40),Rq 42 (.pick 37 (.const (.bool true)) 41),Mq 26 42]) (.cond 26 (.seq (.reg [Nq 2 3]) (.ret)) (.skip)))))) (.seq (.reg [Nq 2 0]) (.ret)))
theorem Zr:Aj Tryz.prog 115 1=some (Abp,[2]):=by kernel_rfl
def Wa:Ai:=
 .seq (.reg [Rq 2 (.box 39 9 0),Rq 3 (.box 39 9 1),Nq 4 0]) (.seq (.dreg [[Fq 5 0 2,Lq 6 5,Fq 7 0 3,Lq 8 7,Cq 9 94 ([6,8]),Fq 10 1 2,Lq 11 10,Fq 12 1 3,Lq 13 12],[Cq 14 94 ([11,13])],[Rq 15 (.mks 3 1 2 [(.int .i64 0)] [(0,9),(1,14)])],[Cq 16 125 ([15])],[Mq 4 16]]) (.ret))
theorem Vv:Aj Tryz.prog 116 2=some (Wa,[4]):=by kernel_rfl
def Zf:Ai:=
 .seq (.reg [Nq 2 0]) (.seq (.seq (.reg [Mq 6 0,Rq 7 (.len false 6),Nq 8 0]) (.block 0 (.loop (.seq (.reg [Bq 9 .lss 8 7]) (.seq (.cond 9 (.skip) (.exit 0)) (.seq (.block 1 (.seq (.reg [Iq 10 5 6 8,Rq 11 (.load true 5 10),Rq 4 (.zbox 44 [(.string ⟨#[]⟩),(.int .i64 0),(.int .i64 0),(.int .i64 0),(.bool false)]),Sq 5 4 11]) (.seq (.reg [Rq 12 (.load true 5 4),Cq 13 132 ([12]),Mq 5 13]) (.seq (.reg [Mq 14 5,Bq 15 .neq 14 (Kq 0)]) (.cond 15 (.seq (.reg [Mq 16 5,Mq 2 16]) (.ret)) (.skip)))))) (.reg [Bq 17 .add 8 (Kq 1),Mq 8 17]))))))) (.seq (.reg [Nq 2 0]) (.ret)))
theorem Abh:Aj Tryz.prog 117 1=some (Zf,[2]):=by kernel_rfl
def Fc:Ai:=
 .seq (.reg [Nq 4 0]) (.seq (.seq (.reg [Mq 6 0,Rq 7 (.len false 6),Nq 8 0]) (.block 0 (.loop (.seq (.reg [Bq 9 .lss 8 7]) (.seq (.cond 9 (.skip) (.exit 0)) (.seq (.block 1 (.seq (.reg [Mq 10 8,Mq 5 10]) (.seq (.reg [Mq 11 1,Mq 12 0,Mq 13 5,Iq 14 9 12 13,Rq 15 (.load true 9 14),Rq 16 (.call 11 [15])]) (.cond 16 (.seq (.reg [Mq 17 5,Mq 4 17]) (.ret)) (.skip))))) (.reg [Bq 18 .add 8 (Kq 1),Mq 8 18]))))))) (.seq (.reg [Rq 4 (.mv (.const (.int .i64 (-1))))]) (.ret)))
theorem Fd:Aj Tryz.prog 120 2=some (Fc,[4]):=by kernel_rfl
def Yi:Ai:=
 .seq (.reg [Rq 2 (.box 27 5 0),Rq 3 (.box 27 5 1),Nq 4 0]) (.seq (.dreg [[Rq 5 (.load true 5 2),Rq 6 (.load true 5 3),Cq 7 134 ([5,6]),Fq 8 3 2,Lq 9 8,Bq 10 .add 7 9,Fq 11 3 3,Lq 12 11],[Bq 13 .add 10 12],[Mq 4 13]]) (.ret))
theorem Yd:Aj Tryz.prog 121 2=some (Yi,[4]):=by kernel_rfl
def Jj:Ai:=
 .seq (.reg [Rq 2 (.mv (.const (.slice none 0 0)))]) (.seq (.seq (.reg [Mq 3 0,Rq 4 (.isnil false 3)]) (.cond 4 (.seq (.reg [Rq 2 (.mv (.const (.slice none 0 0)))]) (.ret)) (.skip))) (.seq (.reg [Rq 5 (.mks 9 1 0 [(.string ⟨#[]⟩)] []),Mq 6 0,Rq 7 (.app 9 1 16 (.string ⟨#[]⟩) 5 6),Mq 2 7]) (.ret)))
theorem I5:Aj Tryz.prog 122 1=some (Jj,[2]):=by kernel_rfl
def Ach:Ai:=
 .seq (.reg [Nq 2 0]) (.seq (.reg [Nq 3 0]) (.seq (.seq (.reg [Mq 6 0,Rq 7 (.len false 6),Nq 8 0]) (.block 0 (.loop (.seq (.reg [Bq 9 .lss 8 7]) (.seq (.cond 9 (.skip) (.exit 0)) (.seq (.block 1 (.seq (.reg [Iq 10 1 6 8,Lq 11 10,Mq 5 11]) (.seq (.reg [Mq 12 5,Mq 13 3,Bq 14 .neq 12 13]) (.cond 14 (.seq (.reg [Mq 15 5,Mq 2 15]) (.ret)) (.skip))))) (.reg [Bq 16 .add 8 (Kq 1),Mq 8 16]))))))) (.seq (.reg [Mq 17 3,Mq 2 17]) (.ret))))
theorem Ac6:Aj Tryz.prog 125 1=some (Ach,[2]):=by kernel_rfl
def Si:Ai:=
 .seq (.reg [Rq 8 (.mv (.const (.slice none 0 0)))]) (.seq (.seq (.reg [Mq 12 3,Bq 13 .eql 12 (Kq 0)]) (.cond 13 (.seq (.reg [Rq 8 (.mv (.const (.slice none 0 0)))]) (.ret)) (.skip))) (.seq (.seq (.reg [Mq 14 1,Rq 15 (.bin .eql 14 (.const (.string ⟨#[]⟩)))]) (.cond 15 (.seq (.reg [Mq 16 0,Mq 17 3,Cq 18 139 ([16,17]),Mq 8 18]) (.ret)) (.skip))) (.seq (.seq (.reg [Mq 19 3,Bq 20 .lss 19 (Kq 0)]) (.cond 20 (.reg [Mq 21 0,Mq 22 1,Cq 23 140 ([21,22]),Bq 24 .add 23 (Kq 1),Mq 3 24]) (.skip))) (.seq (.reg [Mq 25 3,Mq 26 0,Rq 27 (.len true 26),Bq 28 .add 27 (Kq 1),Rq 29 (.mm false 25 28),Mq 3 29]) (.seq (.reg [Mq 30 3,Rq 31 (.mkn 9 1 16 [(.string ⟨#[]⟩)] 30 30),Mq 9 31]) (.seq (.reg [Mq 32 3,Bq 33 .sub 32 (Kq 1),Mq 3 33]) (.seq (.reg [Nq 10 0]) (.seq (.block 0 (.loop (.seq (.seq (.reg [Mq 34 10,Mq 35 3,Bq 36 .lss 34 35]) (.cond 36 (.skip) (.exit 0))) (.block 1 (.seq (.reg [Mq 37 0,Mq 38 1,Cq 39 141 ([37,38]),Mq 11 39]) (.seq (.seq (.reg [Mq 40 11,Bq 41 .lss 40 (Kq 0)]) (.cond 41 (.exit 0) (.skip))) (.seq (.reg [Mq 42 9,Mq 43 10,Mq 44 0,Mq 45 11,Mq 46 2,Bq 47 .add 45 46,Rq 48 (.slcS 44 none (some 47)),Iq 49 1 42 43,Sq 1 49 48]) (.seq (.reg [Mq 50 0,Mq 51 11,Mq 52 1,Rq 53 (.len true 52),Bq 54 .add 51 53,Rq 55 (.slcS 50 (some 54) none),Mq 0 55]) (.reg [Mq 56 10,Bq 57 .add 56 (Kq 1),Mq 10 57]))))))))) (.seq (.reg [Mq 58 9,Mq 59 10,Mq 60 0,Iq 61 1 58 59,Sq 1 61 60]) (.seq (.reg [Mq 62 9,Mq 63 10,Bq 64 .add 63 (Kq 1),Rq 65 (.slcL 1 62 none (some 64) none),Mq 8 65]) (.ret)))))))))))
theorem Sk:Aj Tryz.prog 129 4=some (Si,[8]):=by kernel_rfl
def Uo:Ai:=
 .seq (.reg [Rq 6 (.mv (.const (.bool false)))]) (.seq (.reg [Mq 7 0,Mq 8 1,Bq 9 .geq 7 8,Mq 10 9,Hq 11 10 true 0,Hq 12 10 true 2,Gq 13 10 true (.bin .leq 11 12),Rq 14 (.pick 10 13 (.const (.bool false))),Mq 6 14]) (.ret))
theorem Vb:Aj Tryz.prog 131 3=some (Uo,[6]):=by kernel_rfl
def Abx:Ai:=
 .seq (.reg [Rq 1 (.box 44 5 0),Nq 2 0]) (.seq (.block 0 (.seq (.reg [Fq 4 0 1,Lq 5 4,Cq 6 41 ([5]),Rq 7 (.not 6),Mq 3 7]) (.cond 3 (.seq (.reg [Nq 2 1]) (.ret)) (.seq (.reg [Fq 9 1 1,Lq 10 9,Cq 11 143 ([10,(Kq 1),(Kq 4)]),Rq 12 (.not 11),Mq 8 12]) (.cond 8 (.seq (.reg [Nq 2 7]) (.ret)) (.seq (.reg [Fq 14 2 1,Lq 15 14,Cq 16 143 ([15,(Kq 1),(Kq 1000000)]),Rq 17 (.not 16),Mq 18 17,Gq 19 18 false (.fldA 3 1),Gq 20 18 false (.load false 1 19),Gq 21 18 false (.call (.func 143) [20,(Kq 0),(Kq 4294967295)]),Gq 22 18 false (.not 21),Rq 23 (.pick 18 (.const (.bool true)) 22),Mq 13 23]) (.cond 13 (.seq (.reg [Nq 2 3]) (.ret)) (.skip)))))))) (.seq (.reg [Nq 2 0]) (.ret)))
theorem Ac4:Aj Tryz.prog 132 1=some (Abx,[2]):=by kernel_rfl
def Aas:Ai:=
 .seq (.reg [Rq 2 (.box 27 5 0),Rq 3 (.box 27 5 1),Nq 4 0]) (.seq (.dreg [[Fq 8 0 2,Lq 9 8,Fq 10 0 3,Lq 11 10,Bq 12 .sub 9 11,Fq 13 1 2,Lq 14 13,Fq 15 1 3,Lq 16 15,Bq 17 .sub 14 16,Fq 18 2 2,Lq 19 18,Fq 20 2 3,Lq 21 20,Bq 22 .sub 19 21,Mq 5 12,Mq 6 17],[Mq 7 22]]) (.seq (.reg [Mq 23 5,Mq 24 5,Bq 25 .mul 23 24,Mq 26 6,Mq 27 6,Bq 28 .mul 26 27,Bq 29 .add 25 28,Mq 30 7,Mq 31 7,Bq 32 .mul 30 31,Bq 33 .add 29 32,Cq 34 145 ([33]),Mq 4 34]) (.ret)))
theorem Aaf:Aj Tryz.prog 134 2=some (Aas,[4]):=by kernel_rfl
def Wu:Ai:=
 .seq (.reg [Rq 6 (.mv (.const (.bool false)))]) (.seq (.reg [Mq 7 0,Mq 8 1,Bq 9 .geq 7 8,Mq 10 9,Hq 11 10 true 0,Hq 12 10 true 2,Gq 13 10 true (.bin .leq 11 12),Rq 14 (.pick 10 13 (.const (.bool false))),Mq 6 14]) (.ret))
theorem Xd:Aj Tryz.prog 143 3=some (Wu,[6]):=by kernel_rfl
def Aby:Ai:=
 .seq (.reg [Nq 2 0]) (.seq (.seq (.reg [Mq 5 0,Bq 6 .lss 5 (Kq 2)]) (.cond 6 (.seq (.reg [Mq 7 0,Mq 2 7]) (.ret)) (.skip))) (.seq (.reg [Nq 3 1]) (.seq (.block 0 (.loop (.seq (.seq (.reg [Mq 8 3,Mq 9 0,Mq 10 3,Bq 11 .quo 9 10,Bq 12 .leq 8 11]) (.cond 12 (.skip) (.exit 0))) (.block 1 (.reg [Mq 13 3,Bq 14 .mul 13 (Kq 2),Mq 3 14]))))) (.block 2 (.loop (.block 3 (.seq (.reg [Mq 15 3,Mq 16 0,Mq 17 3,Bq 18 .quo 16 17,Bq 19 .add 15 18,Bq 20 .quo 19 (Kq 2),Mq 4 20]) (.seq (.seq (.reg [Mq 21 4,Mq 22 3,Bq 23 .geq 21 22]) (.cond 23 (.seq (.reg [Mq 24 3,Mq 2 24]) (.ret)) (.skip))) (.reg [Mq 25 4,Mq 3 25])))))))))
theorem Ac5:Aj Tryz.prog 145 1=some (Aby,[2]):=by kernel_rfl
section
open Go.ChangeShapes Go.WideShapes Go.ChangeAt Go.RowKit
section
variable {H:Type} {enc:TypeId×Value→H} {P:Program}
theorem Sw(hl:laidOutB P=true){W W':World}{B:Nat}(hb:Below B W W')(sp:Nat→Bool):
  ∀{ts:List TypeId} {vs:List Value} {ds:List (DataW H)} {p:List MemPlace},(∀t∈ts,P.readableRec t=true∧t<P.types.size)→
   DataW.TrodAll enc P W 0 (fun _=>true) true ts vs ds p→(∀x∈p,sp x.block=true)→(∀x∈p,x.block<B)→B=W.heap.size→DataW.TrodAll enc P W' 0 sp true ts vs ds p
 |[],_,_,_,_,h,_,_,_=>by
  obtain⟨rfl,rfl,rfl⟩:=trodAll_nil h;exact trodAll_mk0
 |t::ts,_,_,_,ht,h,hs,hlt,hB=>by
  obtain⟨v,vs1,d,ds1,a,b,rfl,rfl,rfl,h1,h2⟩:=trodAll_cons h;obtain⟨hr,hrow⟩:=ht t (by simp);subst hB;refine⟨a,b,WideElems.Trod_stays hl hr hrow h1 (fun x hx=>hb.same (hlt x (by simp[hx]))) (fun x hx=>hs x (by simp[hx])),?_,rfl⟩;exact Sw hl hb sp (fun t h=>ht t (by simp[h])) h2 (fun x hx=>hs x (by simp[hx])) (fun x hx=>hlt x (by simp[hx])) rfl
theorem Qt{f:Func}{s:ChangeSpec}{apart fresh handsOn again:Bool}{W W':World}{args:Array Value}{ds gs:List (DataW H)}{before:List MemPlace}{tb:TypeId}(hW:DataW.Whole enc P f.params.toList s.vars apart W args.toList ds gs before)(hl:laidOutB P=true)(hr:∀t∈f.params.toList,P.readableRec t=true∧t<P.types.size)(hv:s.vars=[])(hf:s.fn H (ds++gs)={results:=[.lit (.bool true)],args:=ds})(hres:f.resultTypes= #[tb])(hbool:P.underlying tb=some .bool)(hb:Below W.heap.size W W'):s.post enc P f apart fresh handsOn again W args (.bool true) W':=by
 have hW0:=hW;have hlt:∀p∈before,p.block<W.heap.size:=fun p hp=>hW.lt p hp;obtain⟨p,q,hA,hV,rfl,hz,hn⟩:=hW;rw[hv]at hV;obtain⟨rfl,rfl⟩:=trodVars_none hV;simp only[List.append_nil]at *;have hst:∀sp:Nat→Bool,(∀x∈p,sp x.block=true)→DataW.TrodAll enc P W' 0 sp true f.params.toList args.toList ds p:=fun sp hs=>Sw hl hb sp hr hA hs hlt rfl;have hold:∀x∈p,(fun b=>decide (b<W.heap.size)) x.block=true:=fun x hx=>by simpa using hlt x hx
 have hR:∀(b:Nat) (sp:Nat→Bool) (hd:Bool),DataW.TrodAll enc P W' b sp hd f.resultTypes.toList ((Value.bool true).resultList f.resultTypes.size) [.lit (.bool true)] []:=fun b sp hd=>by
  rw[hres];exact trodAll_cons_mk (shut_bool hbool _) trodAll_mk0
 refine⟨ds,[],p,[],p,[],hW0,?_,?_,?_,?_,fun _=>?_⟩
 ·rw[List.append_nil,hf];exact hR _ _ _
 ·rw[List.append_nil,hf];exact hst _ hold
 ·rw[List.append_nil,hv,hf];rfl
 ·exact World.keptBut_mono (fun x hx=>⟨hx,by simp[hx]⟩) (hb.frame (·∈p))
 ·obtain⟨_,_,_,_,_,hz',hn'⟩:=hW0;refine⟨ok_one hres rfl (okWide_bool_mk hbool _),_,[],([]++p)++[],⟨[]++p,[],trodAll_append (hst _ (fun _ _=>rfl)) (hR _ _ _),?_,rfl,?_,?_⟩,?_⟩
  ·rw[hv];rfl
  ·intro b off hp;rw[hb.frozen (hlt _ (by simpa using hp))];exact hz b off (by simpa using hp)
  ·intro ha;simpa using hn ha
  ·intro x hx _;simpa using hx
end
end
section
open Go.Joins Go.ChangeShapes Go.WideShapes Go.RowKit Go.Deep
inductive Ty where
 |i
 |s
 |b
 |l (row:List Ty)
inductive Wj:Ty→V→Prop where
 |i (n:Int) (h1: -9223372036854775808≤n) (h2:n≤9223372036854775807):Wj .i (.v (.int .i64 n))
 |s (x:ByteArray) (h:x.size≤9223372036854775807):Wj .s (.v (.string x))
 |b (x:Bool):Wj .b (.v (.bool x))
 |l (tys:List Ty) (rows:List (List V)) (hl:rows.length≤9223372036854775807) (hr:∀row∈rows,tys.length=row.length) (h:∀row∈rows,∀(j:Nat) (t:Ty) (u:V),tys[j]? =some t→row[j]? =some u→Wj t u):Wj (.l tys) (.sl false rows)
def Qp(tys:List Ty)(us:List V):Prop:=tys.length=us.length∧∀(j:Nat) (t:Ty) (u:V),tys[j]? =some t→us[j]? =some u→Wj t u
def Agk(P:Program)(rc:TypeId→Option (List Ty)):List Field→Nat→Option (List Ty)
 |[],_=>some []
 |f::fs,off=>match rc f.type with
  |some ts=>if f.offset==off&&P.cellsOf f.type==ts.length then(match Agk P rc fs (off+ts.length)with
   |some r=>some (ts++r)
   |none=>none)else none
  |none=>none
def Yh(P:Program):Nat→TypeId→Option (List Ty)
 |0,_=>none
 |d+1,t=>match P.underlying t with
  |some (.int .i64)=>some [.i]
  |some .string=>some [.s]
  |some .bool=>some [.b]
  |some (.struct fs)=>match Agk P (Yh P d) fs.toList 0 with
   |some ts=>if P.cellsOf t==ts.length then some ts else none
   |none=>none
  |some (.slice e)=>match Yh P d e with
   |some ts=>if P.cellsOf e==ts.length&&0<ts.length then some [.l ts]else none
   |none=>none
  |_=>none
section
variable {H:Type} {enc:TypeId×Value→H} {P:Program} {w:World} {base:Nat} {spare:Nat→Bool} {held:Bool}
def L7(w:World)(tys:List Ty)(cs:List Value)(us:List V):Prop:=
 Qp tys us∧cs.length=us.length∧∀(j:Nat) (u:V) (x:Value),us[j]? =some u→cs[j]? =some x→RV w (fun b=>b<w.heap.size) noG u x
theorem L7.app{t1 t2:List Ty}{c1 c2:List Value}{u1 u2:List V}(h1:L7 w t1 c1 u1)(h2:L7 w t2 c2 u2):L7 w (t1++t2) (c1++c2) (u1++u2):=by
 obtain⟨⟨a1,a2⟩,a3,a4⟩:=h1;obtain⟨⟨b1,b2⟩,b3,b4⟩:=h2;refine⟨⟨by simp[a1,b1],fun j t u g1 g2=>?_⟩,by simp[a3,b3],fun j u x g1 g2=>?_⟩
 ·by_cases hj:j<t1.length
  ·rw[ZQ hj]at g1;rw[ZQ (by omega)]at g2;exact a2 j t u g1 g2
  ·rw[ZP (by omega)]at g1 g2;rw[←a1]at g2;exact b2 _ t u g1 g2
 ·by_cases hj:j<u1.length
  ·rw[ZQ hj]at g1;rw[ZQ (by omega)]at g2;exact a4 j u x g1 g2
  ·rw[ZP (by omega)]at g1 g2;rw[a3]at g2;exact b4 _ u x g1 g2
theorem Fv{t:Ty}{x:Value}{u:V}(h:Wj t u)(hr:RV w (fun b=>b<w.heap.size) noG u x):L7 w [t] [x] [u]:=by
 refine⟨⟨rfl,fun j t' u' g1 g2=>?_⟩,rfl,fun j u' x' g1 g2=>?_⟩
 ·cases j with
  |zero=>simp at g1 g2;subst g1 g2;exact h
  |succ j=>simp at g1
 ·cases j with
  |zero=>simp at g1 g2;subst g1 g2;exact hr
  |succ j=>simp at g1
theorem Afx(a:Addr)(n:Nat)(h:a.spot=none):a.add n=⟨a.block,a.off+n,none⟩:=by
 obtain⟨b,o,sp⟩:=a;simp only at h;subst h;unfold Addr.add;split<;>simp_all
theorem Afb{d fuel:Nat}{cs:List Value}(rc:∀(t:TypeId) (tys:List Ty) (cs:List Value) (x:DataW H×List MemPlace),Yh P d t=some tys→DataW.trod enc P w base spare held fuel t cs=some x→∃us,L7 w tys cs us):
  ∀(fs:List Field) (off:Nat) (tys:List Ty) (xs:List (DataW H×List MemPlace)),Agk P (Yh P d) fs off=some tys→(∀(i:Nat) (f:Field),fs[i]? =some f→∃x,DataW.trod enc P w base spare held fuel f.type ((cs.drop f.offset).take (P.cellsOf f.type))=some x)→
   ∃us,L7 w tys ((cs.drop off).take tys.length) us:=by
 intro fs
 induction fs with
 |nil=>
  intro off tys xs h _;simp only[Agk,ZD]at h;subst h;exact⟨[],⟨rfl,by simp⟩,by simp,by simp⟩
 |cons f fs ih=>
  intro off tys xs h hf;simp only[Agk]at h;split at h
  ·rename_i ts hts;split at h
   ·rename_i hc;simp only[ZO,ZR]at hc;split at h
    ·rename_i r hr;injection h with h;subst h
     obtain⟨x0,hx0⟩:=hf 0 f rfl;obtain⟨us1,h1⟩:=rc _ _ _ _ hts hx0;obtain⟨us2,h2⟩:=ih _ _ xs hr (fun i g hg=>hf (i+1) g (by simpa using hg));rw[hc.1,hc.2]at h1;have hlen:((cs.drop off).take ts.length).length=ts.length:=by rw[h1.2.1,←h1.1.1]
     refine⟨us1++us2,?_⟩;have e:(cs.drop off).take (ts++r).length=(cs.drop off).take ts.length++(cs.drop (off+ts.length)).take r.length:=by
      rw[ZF,List.take_add,List.drop_drop]
     rw[e];exact h1.app h2
    ·cases h
   ·cases h
  ·cases h
theorem Aq1:∀(d fuel:Nat) (t:TypeId) (tys:List Ty) (cs:List Value) (x:DataW H×List MemPlace),Yh P d t=some tys→DataW.trod enc P w base spare held fuel t cs=some x→∃us,L7 w tys cs us:=by
 intro d
 induction d with
 |zero=>intro fuel t tys cs x h;cases h
 |succ d ih=>
  intro fuel t tys cs x h hd;simp only[Yh]at h;split at h
  ·rename_i hu;injection h with h;subst h
   obtain⟨n,rfl,_,hw⟩:=DataW.trod_int hu hd;have hb: -9223372036854775808≤n∧n≤9223372036854775807:=by simpa[Lit.wf,IntKind.min,IntKind.max,IntKind.signed,IntKind.bits]using hw
   exact⟨_,Fv (.i n hb.1 hb.2) (.v _)⟩
  ·rename_i hu;injection h with h;subst h
   obtain⟨s,rfl,_,hs⟩:=DataW.trod_string hu hd;exact⟨_,Fv (.s s (by simpa[maxLen]using hs)) (.v _)⟩
  ·rename_i hu;injection h with h;subst h
   obtain⟨s,rfl,_⟩:=DataW.trod_bool hu hd;exact⟨_,Fv (.b s) (.v _)⟩
  ·rename_i fs hu;split at h
   ·rename_i ts hts;split at h
    ·rename_i hc;simp only[ZR]at hc;injection h with h;subst h
     obtain⟨xs,n,rfl,_,hcl,hxl,hf⟩:=DataW.trod_struct hu hd;obtain⟨us,hus⟩:=Afb (cs:=cs) (fun t tys cs x h1 h2=>ih n t tys cs x h1 h2) fs.toList 0 ts xs hts (fun i f hi=>by
      have hi':fs[i]? =some f:=by simpa using hi
      have hlt:i<xs.length:=by rw[hxl];exact(XL.1 hi').1
      exact⟨_,(hf i f hi').trans (ZC hlt)⟩)
     refine⟨us,?_⟩
     rwa[List.drop_zero,←hc,←hcl,XF]at hus
    ·cases h
   ·cases h
  ·rename_i e hu;split at h
   ·rename_i ts hts;split at h
    ·rename_i hc;simp only[ZO,ZR,decide_eq_true_eq]at hc;injection h with h;subst h
     rcases open_slice hu hd with⟨rfl,_⟩|⟨a,len,cap,m,n,D,Pl,rfl,hb,hl,hm,hmm,_,hi⟩
     ·exact⟨[.sl false []],Fv (.l _ [] (by simp) (by simp) (by simp)) (.nil _ _ _ (by simp))⟩
     ·have hlm:len≤m:=by rw[hmm];split<;>omega
      have hall:∀i:Nat,∃p:List Value×List V,i<len→L7 w ts p.1 p.2∧∀j,j<ts.length→w.cell? (a.add (i*ts.length+j))=p.1[j]? :=fun i=>by
       by_cases hil:i<len
       ·obtain⟨cs',h1,h2⟩:=hi i (by omega);obtain⟨us,hus⟩:=ih n e ts cs' _ hts h2;obtain⟨_,h3,h4⟩:=World.cells?_some h1;rw[hc.1]at h3 h4;exact⟨(cs',us),fun _=>⟨hus,fun j hj=>by rw[←Go.Deep.add_add];exact h4 j hj⟩⟩
       ·exact⟨([],[]),fun h=>absurd h hil⟩
      obtain⟨f,hf⟩:=Classical.axiomOfChoice hall;have hsp:0<len→a.spot=none∧a.block<w.heap.size:=fun h0=>by
       obtain⟨h1,h2⟩:=hf 0 h0;have hx:=h2 0 hc.2;have hlt:0<(f 0).1.length:=by rw[h1.2.1,←h1.1.1];exact hc.2
       rw[ZC hlt]at hx;have e:a.add (0*ts.length+0)=a:=by simp[Addr.add]
       rw[e]at hx;refine⟨?_,World.block_lt_of_cell? w _ hx⟩;unfold World.cell? at hx;split at hx
       ·cases hq:a.spot with
        |none=>rfl
        |some k=>simp[hq]at hx
       ·cases hx
      refine⟨[.sl false ((List.range len).map fun i=>(f i).2)],Fv (.l _ _ (by simp only[ZE,List.length_range];simp only[maxLen]at hm;omega) ?_ ?_) ?_⟩
      ·intro row hrow;simp only[XO,List.mem_range]at hrow;obtain⟨i,hil,rfl⟩:=hrow;exact(hf i hil).1.1.1
      ·intro row hrow j t u g1 g2;simp only[XO,List.mem_range]at hrow;obtain⟨i,hil,rfl⟩:=hrow;exact(hf i hil).1.1.2 j t u g1 g2
      ·rcases Nat.eq_zero_or_pos len with h0|h0
       ·subst h0;exact .nil _ _ _ (by simp)
       ·obtain⟨h1,h2⟩:=hsp h0;obtain⟨b,off,sp⟩:=a;simp only at h1 h2;subst h1;have hrows:∀(i:Nat) (row:List V),((List.range len).map fun i=>(f i).2)[i]? =some row→i<len∧row=(f i).2:=fun i row h=>by
         have hlt:=(ZB.1 h).1;simp only[ZE,List.length_range]at hlt;simp[hlt]at h;exact⟨hlt,h.symm⟩
        have e:=RV.sl (w:=w) (R:=fun b=>b<w.heap.size) (G:=noG) false ((List.range len).map fun i=>(f i).2) b off cap ts.length (fun i j=>((f i).1[j]?).getD undef) h2 (by simpa using hl) (by simp) (by
          intro row hrow;simp only[XO,List.mem_range]at hrow;obtain⟨i,hil,rfl⟩:=hrow;exact(hf i hil).1.1.1.symm) (by
          intro i j row u g1 g2;obtain⟨hil,rfl⟩:=hrows i row g1;have hj:j<ts.length:=by have:=(ZB.1 g2).1;rw[(hf i hil).1.1.1];exact this
          have hjl:j<(f i).1.length:=by rw[(hf i hil).1.2.1,←(hf i hil).1.1.1];exact hj
          have hx:=(hf i hil).2 j hj;rw[Afx _ _ rfl,ZC hjl]at hx;rw[ZC hjl];simp only[Option.getD_some];rw[Nat.add_assoc];exact hx) (by
          intro i j row u g1 g2;obtain⟨hil,rfl⟩:=hrows i row g1;have hj:j<ts.length:=by have:=(ZB.1 g2).1;rw[(hf i hil).1.1.1];exact this
          have hjl:j<(f i).1.length:=by rw[(hf i hil).1.2.1,←(hf i hil).1.1.1];exact hj
          rw[ZC hjl];exact(hf i hil).1.2.2 j u _ g2 (ZC hjl))
        have e2:((List.range len).map fun i=>(f i).2).length=len:=by simp
        rw[e2]at e;exact e
    ·cases h
   ·cases h
  ·cases h
theorem Gf{t:TypeId}{tys:List Ty}{r:Reach}{b0:Nat}{v:Value}{fs:Array Field}{d:DataW H}{p:List MemPlace}{dp:Nat}(hs:P.underlying t=some (.struct fs))(ht:Yh P dp t=some tys)(hv:Value.okWide P w r b0 t v)(h:DataW.Trod enc P w base spare held t v d p):
  ∃us,Qp tys us∧RV w (fun b=>b<w.heap.size) noG (.agg us) v:=by
 obtain⟨cs,rfl,hsz⟩:=okWide_struct hs hv;obtain⟨fuel,hf⟩:=h;obtain⟨us,h1,h3,h4⟩:=Aq1 dp fuel t _ _ _ ht hf;obtain⟨cs⟩:=cs;exact⟨us,h1,.agg us cs h3.symm h4⟩
end
theorem Ap{t:Ty}{ts:List Ty}{us:List V}(h:Qp (t::ts) us):∃u us',us=u::us'∧Wj t u∧Qp ts us':=by
 obtain⟨h1,h2⟩:=h
 match us,h1 with
 |u::us',h1=>exact⟨u,us',rfl,h2 0 _ _ rfl rfl,by simpa using h1,fun j t' u' g1 g2=>h2 (j+1) t' u' (by simpa using g1) (by simpa using g2)⟩
theorem Ln{us:List V}(h:Qp [] us):us=[]:=XR h.1.symm
theorem Ge{u:V}(h:Wj .i u):∃n:Int,u=.v (.int .i64 n)∧-9223372036854775808≤n∧n≤9223372036854775807:=by cases h with|i n h1 h2=>exact⟨n,rfl,h1,h2⟩
theorem K3{u:V}(h:Wj .s u):∃x:ByteArray,u=.v (.string x)∧x.size≤9223372036854775807:=by cases h with|s x h=>exact⟨x,rfl,h⟩
theorem Ahf{u:V}(h:Wj .b u):∃x:Bool,u=.v (.bool x):=by cases h with|b x=>exact⟨x,rfl⟩
theorem Ay8{tys:List Ty}{u:V}(h:Wj (.l tys) u):∃rows,u=.sl false rows∧rows.length≤9223372036854775807∧∀row∈rows,Qp tys row:=by
 cases h with|l tys rows hl hr h=>exact⟨rows,rfl,hl,fun row hm=>⟨hr row hm,h row hm⟩⟩
theorem Ahz{α:Type}{enc:α→List V}{p:α→Prop}{tys:List Ty}(hd:∀row,Qp tys row→∃x:α,row=enc x∧p x):∀(rows:List (List V)),(∀row∈rows,Qp tys row)→∃l:List α,rows=l.map enc∧∀x∈l,p x
 |[],_=>⟨[],rfl,by simp⟩
 |row::rows,h=>by
  obtain⟨x,hx,px⟩:=hd row (h row (by simp));obtain⟨l,hl,pl⟩:=Ahz hd rows fun r hr=>h r (by simp[hr]);exact⟨x::l,by simp[hx,hl],by simpa using⟨px,pl⟩⟩
theorem Vh{α:Type}{enc:α→List V}{p:α→Prop}{tys:List Ty}{u:V}(hd:∀row,Qp tys row→∃x:α,row=enc x∧p x)(h:Wj (.l tys) u):∃l:List α,u=.sl false (l.map enc)∧l.length≤9223372036854775807∧∀x∈l,p x:=by
 obtain⟨rows,rfl,hl,hr⟩:=Ay8 h;obtain⟨l,rfl,hp⟩:=Ahz hd rows hr;exact⟨l,rfl,by simpa using hl,hp⟩
theorem Awm{w:World}{R:Nat→Prop}:∀{xs ys:List Value},Kx w R (xs.map fun x=>.c (.v x)) ys→ys=xs
 |xs,ys,h=>by
  apply List.ext_getElem?;intro i;have hl:=h.len;rw[ZE]at hl;by_cases hi:i<xs.length
  ·have h1:xs[i]? =some xs[i]:=ZC hi;have h2:ys[i]? =some (ys[i]'(by omega)):=ZC (by omega);have h3:Sy w R (.c (.v xs[i])) (ys[i]'(by omega)):=h.ok i _ _ (by rw[XJ,h1];rfl) h2;have h4:RV w R noG (.v xs[i]) (ys[i]'(by omega)):=h3;rw[h1,h2,Ce h4]
  ·rw[XK (by omega),XK (by omega)]
theorem Mr{ps:List Par}{xs:List Value}{b:Nat}(h:∀p∈ps,∃u,p=.c u):¬A2 ps xs b:=by
 rintro ⟨i,T,sz,rows,x,h1,_⟩
 obtain⟨u,hu⟩:=h _ (ZH h1);cases hu
theorem Xf{L:Nat→Prop}{w w':World}(h:Below w.heap.size w w'):Fr L w w':=⟨h.os,h.tape,h.output,h.size,fun k hk _=>h.block k hk⟩
theorem Nx{P:Program}{f:FuncId}{xs:List Value}{v:Value}(hc:Gc P f)(h:∀w,Calls P f xs.toArray w fun e w'=>e=.returned v∧Below w.heap.size w w'):Fun P f (xs.map fun x=>.c (.v x)) [.c (.v v)]:=by
 refine⟨hc,fun w R ys hlt hp=>?_⟩;obtain rfl:=Awm hp;refine(h w).mono fun e w' ⟨he,hb⟩=>⟨[v],R,by rw[he];rfl,Xf hb,fun _ h=>h,fun b h=>.inl h,⟨rfl,?_,?_,?_⟩,?_⟩
 ·intro i p x h1 h2;cases i with
  |zero=>simp at h1 h2;subst h1 h2;exact .v _
  |succ i=>simp at h1
 ·intro i j T sz rows T' sz' rows' x y b _ h1;cases i with
  |zero=>simp at h1
  |succ i=>simp at h1
 ·intro b hb';exact absurd hb' (Mr (by simp))
 ·intro b hb';exact absurd hb' (Mr (by simp))
theorem Fb {P : Program} {f : FuncId} {fn : Func} (h1 : P.funcs[f]? = some fn) (h2 : (fn.name == "runtime.NumGoroutine") = false) (h3 : fn.body.isNone = false) : Gc P f := ⟨fn, h1, h2, h3⟩
theorem Ba7{P:Program}{f:FuncId}{ps:List Par}{xs:List Value}{v:Value}{w:World}(hF:Fun P f ps [.c (.v v)])(hc:∀p∈ps,∃u,p=.c u)(hl:ps.length=xs.length)(hp:∀(i:Nat) (u:V) (x:Value),ps[i]? =some (.c u)→xs[i]? =some x→RV w (fun b=>b<w.heap.size) noG u x):Calls P f xs.toArray w fun e w'=>e=.returned v∧Below w.heap.size w w':=by
 refine(hF.2 w (fun b=>b<w.heap.size) xs (fun _ h=>h) ⟨hl,?_,?_,?_⟩).mono ?_
 ·intro i p x h1 h2;obtain⟨u,rfl⟩:=hc p (ZH h1);exact hp i u x h1 h2
 ·intro i j T sz rows T' sz' rows' x y b _ h1;obtain⟨u,hu⟩:=hc _ (ZH h1);cases hu
 ·intro b hb;exact absurd hb (Mr hc)
 ·rintro e w' ⟨ys,R',rfl,hfr,_,_,hpr,_⟩
  have hy:ys.length=1:=hpr.len.symm
  match ys,hy with
  |[y],_=>
   have:RV w' R' noG (.v v) y:=hpr.ok 0 _ y rfl rfl;obtain rfl:=Ce this;exact⟨rfl,hfr.os,hfr.tape,hfr.output,hfr.size,fun k hk=>hfr.block k hk (Mr hc)⟩
def RVL(w:World):List V→List Value→Prop
 |[],[]=>True
 |u::us,x::xs=>RV w (fun b=>b<w.heap.size) noG u x∧RVL w us xs
 |_,_=>False
theorem Alc{w:World}:∀{us:List V} {xs:List Value},RVL w us xs→us.length=xs.length
 |[],[],_=>rfl
 |u::us,x::xs,h=>by simp[Alc h.2]
 |[],_::_,h=>h.elim
 |_::_,[],h=>h.elim
theorem Aqn{w:World}:∀{us:List V} {xs:List Value},RVL w us xs→∀(i:Nat) (u:V) (x:Value),us[i]? =some u→xs[i]? =some x→RV w (fun b=>b<w.heap.size) noG u x
 |[],[],_,i,u,x,h1,_=>by simp at h1
 |u'::us,x'::xs,h,0,u,x,h1,h2=>by simp at h1 h2;subst h1 h2;exact h.1
 |u'::us,x'::xs,h,i+1,u,x,h1,h2=>Aqn h.2 i u x (by simpa using h1) (by simpa using h2)
 |[],_::_,h,_,_,_,_,_=>h.elim
 |_::_,[],h,_,_,_,_,_=>h.elim
theorem Are{P:Program}{f:FuncId}{us:List V}{xs:List Value}{v:Value}{w:World}(hF:Fun P f (us.map .c) [.c (.v v)])(h:RVL w us xs):Calls P f xs.toArray w fun e w'=>e=.returned v∧Below w.heap.size w w':=
 Ba7 hF (by simp) (by rw[ZE];exact Alc h) (fun i u x h1 h2=>by
  rw[XJ]at h1;cases hq:us[i]? with
  |none=>rw[hq]at h1;cases h1
  |some u'=>rw[hq]at h1;simp at h1;subst h1;exact Aqn h i u' x hq h2)
end
open Go.RowKit
theorem hid{p:Prop}(h:p):Hid p:=h
theorem Mk{k:IntKind}{a b:Int}(h:a=b):Ending.returned (.int k a)=.returned (.int k b):=by rw[h]
theorem K5{a b:Bool}(h:a=b):Ending.returned (.bool a)=.returned (.bool b):=by rw[h]
theorem keep_all{W w1:World}{g:Nat}{f:Nat→Option Value}(hb:Below W.heap.size W w1)(hlt:g<W.heap.size)(h:∀i,W.cell? ⟨g,i,none⟩=f i):∀i,w1.cell? ⟨g,i,none⟩=f i:=
 fun i=>(hb.cell (p:=⟨g,i,none⟩) hlt).trans (h i)
def Blk(w:World)(g:Nat)(t:TypeId)(cs:Array Value):Prop:=w.heap[g]? =some (.cells cs t (0,0))
section
variable {w w':World} {g:Nat} {t:TypeId} {cs:Array Value}
theorem Blk.lt(h:Blk w g t cs):g<w.heap.size:=by
 rcases Nat.lt_or_ge g w.heap.size with hlt|hge
 ·exact hlt
 ·unfold Blk at h;rw[Array.getElem?_eq_none hge]at h;cases h
theorem Blk.cell(h:Blk w g t cs)(i:Nat):w.cell? ⟨g,i,none⟩=cs[i]? :=by
 unfold Blk at h;simp[World.cell?,h]
theorem Blk.frozen(h:Blk w g t cs)(i:Nat):w.frozen? ⟨g,i,none⟩=false:=by
 unfold Blk at h;simp[World.frozen?,h]
theorem Blk.new(w:World)(t:TypeId)(cs:Array Value):Blk (w.alloc (.cells cs t)) w.heap.size t cs:=heap_alloc_new w _
theorem Blk.new_(w:World)(t:TypeId)(cs:Array Value){g:Nat}(h:g=w.heap.size):Blk (w.alloc (.cells cs t)) g t cs:=h▸heap_alloc_new w _
theorem Blk.drewN(h:Blk w g t cs)(n:Nat):Blk (w.drewN n) g t cs:=h
theorem Blk.alloc(h:Blk w g t cs)(o:Obj):Blk (w.alloc o) g t cs:=(Below.heap_alloc w o g h.lt).trans h
theorem Blk.set_(h:Blk w g t cs)(i:Nat)(u:Value):Blk (w.setCell ⟨g,i,none⟩ u) g t (cs.setIfInBounds i u):=by
 unfold Blk at h ⊢;simp[World.setCell,Array.getElem?_modify,h]
theorem Blk.far(h:Blk w g t cs){p:Addr}(hp:g≠p.block)(u:Value):Blk (w.setCell p u) g t cs:=(Below.heap_setCell w p u g hp).trans h
end
open Pl
theorem Tl(a:ByteArray)(w:World):Calls Tryz.prog 119 #[.string a] w fun e w'=>e=.returned (.bool false)∧w=w':=by
 have h:(a.toList==a.toList)=true:=by simp
 go_enter Tryz.func119,Tryz.ntmps119
 go_wp2
 go_ret
 exact⟨K5 (by simp),rfl⟩
theorem Ahs(a b:ByteArray)(w:World):Calls Tryz.prog 94 #[.string a,.string b] w fun e w'=>e=.returned (.int .i64 (Ey a b))∧w=w':=by
 rcases Bool.eq_false_or_eq_true (slt a b)with h|h
 ·have HE:=hid (Y0 h);unfold slt at h
  go_enter Tryz.func94,Tryz.ntmps94
  go_wp2_with (go_at_call 119;refine(Tl _ _).mono ?_;rintro e w' ⟨rfl,rfl⟩)
  go_ret
  exact⟨Mk HE.out.symm,rfl⟩
 ·rcases Bool.eq_false_or_eq_true (slt b a)with g|g
  ·have HE:=hid (Yz g);have h2:(a.toList==b.toList)=false:=V2 (fun e=>by subst e;rw[Fj]at g;cases g);unfold slt at h;clear g
   go_enter Tryz.func94,Tryz.ntmps94
   go_wp2_with (go_at_call 119;refine(Tl _ _).mono ?_;rintro e w' ⟨rfl,rfl⟩)
   go_ret
   exact⟨Mk HE.out.symm,rfl⟩
  ·obtain rfl:=Ry h g;have HE:=hid (Uw a);have h2:(a.toList==a.toList)=true:=by simp
   unfold slt at h;clear g
   go_enter Tryz.func94,Tryz.ntmps94
   go_wp2_with (go_at_call 119;refine(Tl _ _).mono ?_;rintro e w' ⟨rfl,rfl⟩)
   go_ret
   exact⟨Mk HE.out.symm,rfl⟩
def E9(a b:Int):Int:=if a<b then -1 else if b<a then 1 else 0
theorem Tg(a:Int)(w:World):Calls Tryz.prog 137 #[.int .i64 a] w fun e w'=>e=.returned (.bool false)∧w=w':=by
 have h:(a==a)=true:=by simp
 go_enter Tryz.func137,Tryz.ntmps137
 go_wp2
 go_ret
 exact⟨K5 (by simp),rfl⟩
theorem Arr(a b:Int)(w:World):Calls Tryz.prog 126 #[.int .i64 a,.int .i64 b] w fun e w'=>e=.returned (.int .i64 (E9 a b))∧w=w':=by
 by_cases h:a<b
 ·have HE:Hid (E9 a b= -1):=hid (by simp[E9,h])
  go_enter Tryz.func126,Tryz.ntmps126
  go_wp2_with (go_at_call 137;refine(Tg _ _).mono ?_;rintro e w' ⟨rfl,rfl⟩)
  go_ret
  exact⟨Mk HE.out.symm,rfl⟩
 ·by_cases g:b<a
  ·have HE:Hid (E9 a b=1):=hid (by simp[E9,h,g])
   go_enter Tryz.func126,Tryz.ntmps126
   go_wp2_with (go_at_call 137;refine(Tg _ _).mono ?_;rintro e w' ⟨rfl,rfl⟩)
   go_ret
   exact⟨Mk HE.out.symm,rfl⟩
  ·have HE:Hid (E9 a b=0):=hid (by simp[E9,h,g])
   go_enter Tryz.func126,Tryz.ntmps126
   go_wp2_with (go_at_call 137;refine(Tg _ _).mono ?_;rintro e w' ⟨rfl,rfl⟩)
   go_ret
   exact⟨Mk HE.out.symm,rfl⟩
def B3:List Int→Int
 |[]=>0
 |x::r=>if x=0 then B3 r else x
theorem Tp:∀{l:List Int} {k:Nat} (hk:k<l.length),(∀i,(h:i<l.length)→i<k→l[i]=0)→l[k]≠0→B3 l=l[k]
 |x::r,0,_,_,hne=>by
  simp only[List.getElem_cons_zero]at hne ⊢;simp[B3,hne]
 |x::r,k+1,hk,h,hne=>by
  have h0:x=0:=h 0 (by simp) (by omega);subst h0;simp only[B3,if_true,List.getElem_cons_succ]at hne ⊢;exact Tp (by simpa using hk) (fun i hi hik=>h (i+1) (by simpa using hi) (by omega)) hne
theorem O3:∀{l:List Int},(∀i,(h:i<l.length)→l[i]=0)→B3 l=0
 |[],_=>rfl
 |x::r,h=>by
  have h0:x=0:=h 0 (by simp);subst h0;simp only[B3,if_true];exact O3 fun i hi=>h (i+1) (by simpa using hi)
def Ayy(l:List Int)(i:Value):Prop:=∃k:Nat,k≤l.length∧i=.int .i64 k∧∀j,(h:j<l.length)→j<k→l[j]=0
set_option maxRecDepth 100000 in
theorem Axs(g:Nat)(vs:List Int)(w:World)(hg:Blk w g 3 (vs.map (Value.int .i64)).toArray)(hn:vs.length≤1000):
  Calls Tryz.prog 125 #[.slice (some ⟨g,0,none⟩) vs.length vs.length] w fun e w'=>e=.returned (.int .i64 (B3 vs))∧w=w':=by
 have HG:=hid hg;clear hg
 go_enter Tryz.func125,Tryz.ntmps125
 go_wp2
 go_loop [8] (fun i=>Ayy vs i) (fun i=>vs.length-(intOf i).toNat)
 case atStart=>exact⟨0,ZU _,rfl,fun j _ h=>absurd h (by omega)⟩
 case round=>
  obtain⟨k,hk,rfl,h0⟩:=hrel;have H0:=hid h0;clear h0;by_cases hlt:k<vs.length
  ·have g0:w.cell? ⟨g,k,none⟩=some (.int .i64 vs[k]):=by
    rw[HG.out.cell];simp[hlt]
   by_cases hz:vs[k]=0
   ·have hb:(vs[k]==0)=true:=by simpa using hz
    have HN:Hid (∀j,(h:j<vs.length)→j<k+1→vs[j]=0):=hid (fun j hj hjk=>by
     rcases(by omega:j<k∨j=k)with q|rfl
     ·exact H0.out j hj q
     ·exact hz)
    clear hz;generalize vs[k]=x at *
    go_wp2
    go_round
    case rel=>exact⟨k+1,by omega,by go_num,HN.out⟩
    case measure=>simp[intOf];omega
   ·have hb:(vs[k]==0)=false:=by simpa using hz
    have HE:=hid (Tp hlt H0.out hz);clear hz;generalize vs[k]=x at *
    go_wp2
    go_ret
    exact⟨Mk HE.out.symm,rfl⟩
  ·have HE:=hid (O3 (l:=vs) (fun j h=>H0.out j h (by omega)))
   go_wp2
   go_ret
   exact⟨Mk HE.out.symm,rfl⟩
theorem Bn{n:Int}(h1:0≤n)(h2:n≤18446744073709551615):IntKind.u64.wrap n=n:=IntWalk.u64_in n ⟨h1,h2⟩
theorem Bf{n:Int}(h:0≤n):n.fdiv (2^(min (1:Int).toNat IntKind.u64.bits))=n/2:=by
 have e:(2:Int)^(min (1:Int).toNat IntKind.u64.bits)=2:=by decide
 rw[e,Int.fdiv_eq_ediv_of_nonneg _ (by decide)]
class FlatRow {α:Type} (enc:α→List V):Prop where
 flat:∀x,∀u∈enc x,∃v,u=.v v
theorem Ad{α:Type}{f:α→List V}{l:List α}{k:Nat}(h:k<l.length):(l.map f)[k]? =some (f l[k]):=by simp[h]
theorem Aws{α:Type}{enc:α→List V}[hf:FlatRow enc]{x:α}:∀u∈enc x,Fl u:=fun u hu=>by
 obtain⟨v,rfl⟩:=hf.flat x u hu;exact Awp v
theorem Ady{α:Type}{enc:α→List V}[FlatRow enc]{l:List α}:∀row∈l.map enc,∀u∈row,Fl u:=fun row hr u hu=>by
 obtain⟨x,_,rfl⟩:=XO.1 hr;exact Aws u hu
theorem Dy{α:Type}{enc:α→List V}[FlatRow enc]{l:List α}:∀row∈l.map enc,∀u∈row,Cl u:=fun row hr u hu=>(Ady row hr u hu).cl
theorem He{α:Type}{enc:α→List V}[FlatRow enc]{c:Bool}{l:List α}:Cl (.sl c (l.map enc)):=Ayi Dy
def vB:V→Bool
 |.v _=>true
 |_=>false
def vsB:List V→Bool
 |[]=>true
 |u::us=>bif vB u then vsB us else false
def clB:V→Bool
 |.v _=>true
 |.agg cs=>vsB cs
 |.tup cs=>vsB cs
 |.clo _ cs=>vsB cs
 |.sl false []=>true
 |_=>false
def Aqu:List (List V)→Bool
 |[]=>true
 |r::rs=>bif vsB r then Aqu rs else false
theorem Ays{u:V}(h:vB u=true):Fl u:=by
 cases u<;>first|exact Awp _|cases h
theorem Aak:∀{us:List V},vsB us=true→∀u∈us,Fl u
 |[],_,u,hu=>by cases hu
 |v::us,h,u,hu=>by
  unfold vsB at h;cases hv:vB v with
  |false=>rw[hv]at h;cases h
  |true=>
   rw[hv]at h;rcases XC.1 hu with rfl|hu
   ·exact Ays hv
   ·exact Aak h u hu
theorem Amt:∀{rs:List (List V)},Aqu rs=true→∀r∈rs,∀u∈r,Fl u
 |[],_,r,hr=>by cases hr
 |r'::rs,h,r,hr=>by
  unfold Aqu at h;cases hv:vsB r' with
  |false=>rw[hv]at h;cases h
  |true=>
   rw[hv]at h;rcases XC.1 hr with rfl|hr
   ·exact Aak hv
   ·exact Amt h r hr
theorem Axj{f:FuncId}{cs:List V}(h:∀u∈cs,Fl u):Fl (.clo f cs):=fun w w' R R' G G' x hx=>by
 cases hx with
 |clo f cs xs hl hh=>exact .clo f cs xs hl fun i u x h1 h2=>h u (ZH h1) _ _ _ _ _ _ _ (hh i u x h1 h2)
theorem Ayp{u:V}(h:clB u=true):Fl u:=by
 cases u with
 |v x=>exact Awp x
 |agg cs=>exact Awd (Aak h)
 |tup cs=>exact Ay1 (Aak h)
 |clo f cs=>exact Axj (Aak h)
 |sl c rows=>cases c<;>cases rows<;>first|exact Awv|cases h
 |_=>cases h
theorem As{u:V}(h:clB u=true):Cl u:=(Ayp h).cl
theorem K1{rs:List (List V)}(h:Aqu rs=true):∀r∈rs,∀u∈r,Cl u:=fun r hr u hu=>(Amt h r hr u hu).cl
theorem W2{α:Type}{enc:α→List V}[FlatRow enc]{c:Bool}{l:List α}:∀row∈[[V.sl c (l.map enc)]],∀u∈row,Cl u:=by
 intro row hr u hu;simp only[XC,XD,or_false]at hr;subst hr;simp only[XC,XD,or_false]at hu;subst hu;exact He
def flB:List Par→Bool
 |[]=>true
 |.c u::ps=>bif clB u then flB ps else false
 |_=>false
theorem Afa:∀{rs:List Par},flB rs=true→Fs rs
 |[],_=>fun r hr=>by cases hr
 |.c u::ps,h=>by
  unfold flB at h;cases hv:clB u with
  |false=>rw[hv]at h;cases h
  |true=>
   rw[hv]at h;intro r hr;rcases XC.1 hr with rfl|hr
   ·exact Ayp hv
   ·exact Afa h r hr
 |.o _ _ _::_,h=>by cases h
theorem Aik{α:Type}{enc:α→List V}[FlatRow enc]{T:TypeId}{sz:Nat}{l:List α}:Fs [.o T sz (l.map enc)]:=by
 intro r hr;simp only[XC,XD,or_false]at hr;subst hr;exact Ady
theorem Anq{α:Type}{enc:α→List V}[FlatRow enc]{T:TypeId}{sz:Nat}{l:List α}{ps:List Par}(h:flB ps=true):Fs (.o T sz (l.map enc)::ps):=by
 intro r hr;rcases XC.1 hr with rfl|hr
 ·exact Ady
 ·exact Afa h r hr
theorem Oi{rs rs':List (List V)}(h:∀r∈rs,∀u∈r,Cl u)(h':∀r∈rs',∀u∈r,Cl u):∀r∈rs++rs',∀u∈r,Cl u:=fun r hr u hu=>by
 rcases XM.1 hr with h1|h1
 ·exact h r h1 u hu
 ·exact h' r h1 u hu
theorem Avj{H:Nat→Option Ent}{all:List Nat}{bor:Bool}{gone:List Nat}{id g:Nat}{T:TypeId}{sz:Nat}{rows:List (List V)}{us:List V}{ps:List Par}(he:H id=some ⟨g,.t T,sz,rows⟩)(hr:∀row∈rows,∀u∈row,Cl u)(hn:id∉gone)(ha:id∈all)(h:A7 H all bor gone us ps):A7 H all bor (id::gone) (.own id g::us) (.o T sz rows::ps):=
 A7.give (e:=⟨g,.t T,sz,rows⟩) he rfl rfl hr hn ha h
theorem Dr{b:Bool}(h:(!b)=true):b=false:=by cases b;rfl;cases h
theorem Bw{b:Bool}(h:(!b)=false):b=true:=by cases b;cases h;rfl
theorem Ab{p:Prop}:false=true→p:=by simp
theorem Aur{n a b:Int}(h:decide (a≤n)=true):wi n a b=decide (n≤b):=by simp[wi,h]
theorem Av8{n a b:Int}(h:decide (a≤n)=false):wi n a b=false:=by simp[wi,h]
theorem up1{n k:Nat}{p:(j:Nat)→(j<n)→Prop}(h0:∀j (h:j<n),j<k→p j h)(hk:∀h:k<n,p k h):∀j (h:j<n),j<k+1→p j h:=fun j h hj=>by
 rcases(by omega:j<k∨j=k)with g|rfl
 ·exact h0 j h g
 ·exact hk h
theorem up2{n k:Nat}{p:(j:Nat)→(j+1<n)→Prop}(h0:∀j (h:j+1<n),j<k→p j h)(hk:∀h:k+1<n,p k h):∀j (h:j+1<n),j<k+1→p j h:=fun j h hj=>by
 rcases(by omega:j<k∨j=k)with g|rfl
 ·exact h0 j h g
 ·exact hk h
theorem Iy{row:List V}(h:Aqu [row]=true):∀u∈row,Cl u:=fun u hu=>K1 h row (by simp) u hu
theorem Jp.cell1{env:Nat→V}{H:Nat→Option Ent}{a id gen k off sz:Nat}{agg:Bool}{e:Ent}{row:List V}{r:List RT}{u:V}{us:List V}(h1:env a=.ptr id gen k off)(h2:H id=some e)(h3:e.gen=gen)(h4:e.rows[k]? =some row)(h5:Nat.ble (off+sz) row.length=true)(hu:u=mkV agg ((row.drop off).take sz))(h:Jp env H r us):
  Jp env H ((a,some (agg,sz))::r) (u::us):=by rw[hu];exact .cell h1 h2 h3 h4 (Nat.le_of_ble_eq_true h5) h
theorem Jp.tmp1{env:Nat→V}{H:Nat→Option Ent}{t:Nat}{r:List RT}{u:V}{us:List V}(hu:u=env t)(h:Jp env H r us):Jp env H ((t,none)::r) (u::us):=by rw[hu];exact .tmp h
theorem Cn{env:Nat→V}{H:Nat→Option Ent}{ts:List RT}{u v:V}(h1:Cl u)(h2:Cl v)(hG:Jp env H ts [u,v]):∃us gone,Jp env H ts us∧A7 H gone true gone us [.c u,.c v]:=⟨_,[],hG,.same h1 (.same h2 (.nil _))⟩
class OneRow {α:Type} (enc:α→List V) (sz:outParam Nat):Prop where
 len:∀x,(enc x).length=sz
 one:∀x,∀u∈enc x,∃v,u=.v v∧v.oneCell'=true
theorem Amm{H:Nat→Option Ent}:∀{us:List V},(∀u∈us,∃v,u=.v v∧v.oneCell'=true)→I9 H us
 |[],_=>trivial
 |u::us,h=>by
  obtain⟨v,rfl,hv⟩:=h u (XB ..);exact⟨hv,Amm fun w hw=>h w (ZL _ hw)⟩
theorem Ap7{α:Type}{enc:α→List V}{sz:Nat}[OneRow enc sz]{H:Nat→Option Ent}{l:List α}:∀row∈l.map enc,row.length=sz∧I9 H row:=fun row hr=>by
 obtain⟨x,_,rfl⟩:=XO.1 hr;exact⟨OneRow.len x,Amm (OneRow.one x)⟩
theorem Axu{rs:List Bp}(h:rs.all Adz=true):∀p∈rs,Adz p=true:=List.all_eq_true.1 h
theorem Afr{H:Nat→Option Ent}{id g sz:Nat}{e:Ent}{T:TypeId}{rows:List (List V)}{us:List V}(hu:us=[.own id g])(he:H id=some e)(hg:e.gen=g)(hT:e.T=.t T)(hs:e.sz=sz)(hr:∀row∈rows,∀u∈row,Cl u)(hq:e.rows=rows):A7 H [id] true [id] us [.o T sz rows]:=by
 subst hq;rw[hu,←hs];exact .give he hg hT hr (by simp) (by simp) (.nil _)
theorem nI{a b:Nat}(h:Nat.ble a b=true:=by exact rfl):a≤b:=Nat.le_of_ble_eq_true h
theorem oI{rs:List Bp}(h:rs.all Adz=true:=by exact rfl):∀p∈rs,Adz p=true:=Axu h
theorem dI{l:List Nat}(h:ndB l=true:=by exact rfl):l.Nodup:=Ka h
theorem tI{p:Prop}(h:p:=by(repeat' (first|exact trivial|refine⟨rfl,?_⟩))):p:=h
theorem lI{p:Prop}(h:p:=by(simp only[ZE,ZF,ZJ,ZN,List.length_set,List.length_replicate,maxLen];omega)):p:=h
theorem fI{rs:List Par}(h:Fs rs:=by(first|exact Afa rfl|exact Aik|exact Anq rfl|exact flat_own2 rfl)):Fs rs:=h
theorem mfI{rs:List Bp}(h:∀p∈rs,Xu p:=by(intro p hp;simp only[Cd,List.nil_append,List.append_nil,XC,XD,or_false]at hp;subst hp;first|exact Aik|exact Afa rfl)):∀p∈rs,Xu p:=h
theorem cBI{H:Nat→Option Ent}{all:List Nat}{cs cs':List V}(h:Ek H all cs cs':=by(repeat' (first|exact Ek.nil|refine Ek.same (by first|exact As rfl|exact He|exact cl_nil|assumption) ?_|refine Ek.nilsl _ ?_|refine Ax5 rfl rfl (by first|exact K1 rfl|exact Dy|exact cl_setB rfl|exact cl_setG (cl_setB rfl) rfl|exact Oi Dy (K1 rfl)|exact W2|exact cl_rl2) (by decide) ?_))):Ek H all cs cs':=h
theorem aI{H:Nat→Option Ent}{all gone:List Nat}{bor:Bool}{us:List V}{ps:List Par}(h:A7 H all bor gone us ps:=by(repeat' (first|exact A7.nil _|exact Uz (by assumption)|refine A7.same (by first|exact As rfl|exact He|exact cl_nil|exact cl_one|exact cl_ll1|exact cl_ll2|exact Aew (by assumption)|exact Yu (by repeat' (first|exact U0|refine Rj (by first|exact As rfl|exact He|exact cl_nil|assumption) ?_))) ?_|refine A7.nilsl _ ?_|refine A7.nilown _ _ (by decide) ?_|refine A7.borp rfl rfl rfl (Iy rfl) (by decide) ?_|refine A7.borc (by(repeat' (first|exact Alq|refine Asa rfl rfl rfl (by first|exact Iy rfl|exact cl_r1 rfl|exact cl_r1b) ?_ ?_|refine cap_m rfl (by decide) ?_|refine cap_c (by first|exact As rfl|exact He|exact cl_nil|exact cl_one|exact cl_ll1|exact cl_ll2|exact Aew (by assumption)|exact Yu (by repeat' (first|exact U0|refine Rj (by first|exact As rfl|exact He|exact cl_nil|assumption) ?_))) ?_|decide))) ?_|refine A7.bora cBI ?_|refine A7.bor rfl rfl (Zb (by first|exact K1 rfl|exact Dy|exact cl_setB rfl|exact cl_setG (cl_setB rfl) rfl|exact Oi Dy (K1 rfl)|exact W2|exact cl_rl2)) (by decide) ?_|refine Avj rfl (by first|exact K1 rfl|exact Dy|exact cl_setB rfl|exact cl_setG (cl_setB rfl) rfl|exact Oi Dy (K1 rfl)|exact W2|exact cl_rl2) (by decide) (by decide) ?_))):A7 H all bor gone us ps:=h
theorem aM{H:Nat→Option Ent}{all gone:List Nat}{bor:Bool}{us:List V}{ps:List Bp}(h:Bu H all bor gone us ps:=by(repeat' (first|exact Bu.nil _|refine Ez (by first|exact As rfl|exact He|exact cl_nil|exact cl_one|exact cl_ll1|exact cl_ll2|exact Aew (by assumption)|exact Yu (by repeat' (first|exact U0|refine Rj (by first|exact As rfl|exact He|exact cl_nil|assumption) ?_))) ?_|refine aM_nilsl _ ?_|refine aM_nilown _ _ (by decide) ?_|refine aM_mf rfl (Iy rfl) (by decide) (by decide) rfl ?_|refine aM_pf rfl (Iy rfl) (by decide) (by decide) ?_|refine Az1 rfl (by decide) (by decide) ?_|refine Azv rfl (by decide) (by decide) ?_|refine Atq rfl rfl rfl (Iy rfl) (by decide) ?_|refine Amw (by(repeat' (first|exact Alq|refine Asa rfl rfl rfl (by first|exact Iy rfl|exact cl_r1 rfl|exact cl_r1b) ?_ ?_|refine cap_m rfl (by decide) ?_|refine cap_c (by first|exact As rfl|exact He|exact cl_nil|exact cl_one|exact cl_ll1|exact cl_ll2|exact Aew (by assumption)|exact Yu (by repeat' (first|exact U0|refine Rj (by first|exact As rfl|exact He|exact cl_nil|assumption) ?_))) ?_|decide))) ?_|refine Aei cBI ?_|refine Aw5 rfl rfl (Zb (by first|exact K1 rfl|exact Dy|exact cl_setB rfl|exact cl_setG (cl_setB rfl) rfl|exact Oi Dy (K1 rfl)|exact W2|exact cl_rl2)) (by decide) ?_|refine aM_give rfl (by first|exact K1 rfl|exact Dy|exact cl_setB rfl|exact cl_setG (cl_setB rfl) rfl|exact Oi Dy (K1 rfl)|exact W2|exact cl_rl2) (by decide) (by decide) ?_|refine Ava rfl (by first|exact K1 rfl|exact Dy|exact cl_setB rfl|exact cl_setG (cl_setB rfl) rfl|exact Oi Dy (K1 rfl)|exact W2|exact cl_rl2) (by decide) (by decide) (by simp) ?_))):Bu H all bor gone us ps:=h
theorem hxI{α:Type}{a b:α}{p:Prop}(hn:a=b)(h:a=b→p:=by(intro hq;(repeat' (first|exact trivial|refine⟨rfl,?_⟩|refine⟨(by show some (Ent.mk _ _ _ _)=some (Ent.mk _ _ _ _);(first|(rw[hq];done)|(rw[hq];rfl)|(rw[hq,ZI];done)|(rw[hq,ZI];rfl)|(rw[hq,ZI,ZI];done)|(rw[hq,ZI,ZI];rfl))),?_⟩|refine⟨(by show V.v _=V.v _;(first|(rw[hq];done)|(rw[hq];rfl)|(rw[hq,ZI];done)|(rw[hq,ZI];rfl)|(rw[hq,ZI,ZI];done)|(rw[hq,ZI,ZI];rfl))),?_⟩|refine⟨(by show V.sl _ _=V.sl _ _;(first|(rw[hq];done)|(rw[hq];rfl)|(rw[hq,ZI];done)|(rw[hq,ZI];rfl)|(rw[hq,ZI,ZI];done)|(rw[hq,ZI,ZI];rfl))),?_⟩)))):p:=h hn
structure Air(q:Prop):Prop where
 out:q
theorem goI{p q:Prop}(h:q)(e:Air q→p:=by(intro hq;(conv=>whnf);(repeat' ((first|refine⟨rfl,?_⟩|refine⟨_,Ad (by assumption),?_⟩|refine⟨_,(by exact Bo),?_⟩|refine⟨_,A6 (by omega) (by omega),?_⟩|refine⟨_,Bn (by omega) (by omega),?_⟩|refine⟨by decide,_,Bf (by omega),?_⟩);(conv=>whnf)));exact hq.out)):p:=e ⟨h⟩
theorem G0{p q:Prop}(h:q)(e:Air q→p:=by(intro hq;(conv=>whnf);(repeat' ((first|refine⟨rfl,?_⟩|refine⟨_,Ad (by assumption),?_⟩|refine⟨_,(by exact Bo),?_⟩|refine⟨_,A6 (by omega) (by omega),?_⟩|refine⟨_,Bn (by omega) (by omega),?_⟩|refine⟨by decide,_,Bf (by omega),?_⟩);(conv=>whnf)));exact hq.out)):p:=e ⟨h⟩
theorem G1{α0:Type}{p:Prop}{q:α0→Prop}(h:∀a0,q a0)(e:(∀a0,Air (q a0))→p:=by(intro hq;(conv=>whnf);(repeat' ((first|refine⟨rfl,?_⟩|refine⟨_,Ad (by assumption),?_⟩|refine⟨_,(by exact Bo),?_⟩|refine⟨_,A6 (by omega) (by omega),?_⟩|refine⟨_,Bn (by omega) (by omega),?_⟩|refine⟨by decide,_,Bf (by omega),?_⟩);(conv=>whnf)));intro g0;(conv=>whnf);(repeat' ((first|refine⟨rfl,?_⟩|refine⟨_,Ad (by assumption),?_⟩|refine⟨_,(by exact Bo),?_⟩|refine⟨_,A6 (by omega) (by omega),?_⟩|refine⟨_,Bn (by omega) (by omega),?_⟩|refine⟨by decide,_,Bf (by omega),?_⟩);(conv=>whnf)));exact(hq g0).out)):p:=e fun a0=>⟨h a0⟩
theorem G2{α0 α1:Type}{p:Prop}{q:α0→α1→Prop}(h:∀a0 a1,q a0 a1)(e:(∀a0 a1,Air (q a0 a1))→p:=by(intro hq;(conv=>whnf);(repeat' ((first|refine⟨rfl,?_⟩|refine⟨_,Ad (by assumption),?_⟩|refine⟨_,(by exact Bo),?_⟩|refine⟨_,A6 (by omega) (by omega),?_⟩|refine⟨_,Bn (by omega) (by omega),?_⟩|refine⟨by decide,_,Bf (by omega),?_⟩);(conv=>whnf)));intro g0;(conv=>whnf);(repeat' ((first|refine⟨rfl,?_⟩|refine⟨_,Ad (by assumption),?_⟩|refine⟨_,(by exact Bo),?_⟩|refine⟨_,A6 (by omega) (by omega),?_⟩|refine⟨_,Bn (by omega) (by omega),?_⟩|refine⟨by decide,_,Bf (by omega),?_⟩);(conv=>whnf)));intro g1;(conv=>whnf);(repeat' ((first|refine⟨rfl,?_⟩|refine⟨_,Ad (by assumption),?_⟩|refine⟨_,(by exact Bo),?_⟩|refine⟨_,A6 (by omega) (by omega),?_⟩|refine⟨_,Bn (by omega) (by omega),?_⟩|refine⟨by decide,_,Bf (by omega),?_⟩);(conv=>whnf)));exact(hq g0 g1).out)):p:=e fun a0 a1=>⟨h a0 a1⟩
theorem G3{α0 α1 α2:Type}{p:Prop}{q:α0→α1→α2→Prop}(h:∀a0 a1 a2,q a0 a1 a2)(e:(∀a0 a1 a2,Air (q a0 a1 a2))→p:=by(intro hq;(conv=>whnf);(repeat' ((first|refine⟨rfl,?_⟩|refine⟨_,Ad (by assumption),?_⟩|refine⟨_,(by exact Bo),?_⟩|refine⟨_,A6 (by omega) (by omega),?_⟩|refine⟨_,Bn (by omega) (by omega),?_⟩|refine⟨by decide,_,Bf (by omega),?_⟩);(conv=>whnf)));intro g0;(conv=>whnf);(repeat' ((first|refine⟨rfl,?_⟩|refine⟨_,Ad (by assumption),?_⟩|refine⟨_,(by exact Bo),?_⟩|refine⟨_,A6 (by omega) (by omega),?_⟩|refine⟨_,Bn (by omega) (by omega),?_⟩|refine⟨by decide,_,Bf (by omega),?_⟩);(conv=>whnf)));intro g1;(conv=>whnf);(repeat' ((first|refine⟨rfl,?_⟩|refine⟨_,Ad (by assumption),?_⟩|refine⟨_,(by exact Bo),?_⟩|refine⟨_,A6 (by omega) (by omega),?_⟩|refine⟨_,Bn (by omega) (by omega),?_⟩|refine⟨by decide,_,Bf (by omega),?_⟩);(conv=>whnf)));intro g2;(conv=>whnf);(repeat' ((first|refine⟨rfl,?_⟩|refine⟨_,Ad (by assumption),?_⟩|refine⟨_,(by exact Bo),?_⟩|refine⟨_,A6 (by omega) (by omega),?_⟩|refine⟨_,Bn (by omega) (by omega),?_⟩|refine⟨by decide,_,Bf (by omega),?_⟩);(conv=>whnf)));exact(hq g0 g1 g2).out)):p:=e fun a0 a1 a2=>⟨h a0 a1 a2⟩
theorem G4{α0 α1 α2 α3:Type}{p:Prop}{q:α0→α1→α2→α3→Prop}(h:∀a0 a1 a2 a3,q a0 a1 a2 a3)(e:(∀a0 a1 a2 a3,Air (q a0 a1 a2 a3))→p:=by(intro hq;(conv=>whnf);(repeat' ((first|refine⟨rfl,?_⟩|refine⟨_,Ad (by assumption),?_⟩|refine⟨_,(by exact Bo),?_⟩|refine⟨_,A6 (by omega) (by omega),?_⟩|refine⟨_,Bn (by omega) (by omega),?_⟩|refine⟨by decide,_,Bf (by omega),?_⟩);(conv=>whnf)));intro g0;(conv=>whnf);(repeat' ((first|refine⟨rfl,?_⟩|refine⟨_,Ad (by assumption),?_⟩|refine⟨_,(by exact Bo),?_⟩|refine⟨_,A6 (by omega) (by omega),?_⟩|refine⟨_,Bn (by omega) (by omega),?_⟩|refine⟨by decide,_,Bf (by omega),?_⟩);(conv=>whnf)));intro g1;(conv=>whnf);(repeat' ((first|refine⟨rfl,?_⟩|refine⟨_,Ad (by assumption),?_⟩|refine⟨_,(by exact Bo),?_⟩|refine⟨_,A6 (by omega) (by omega),?_⟩|refine⟨_,Bn (by omega) (by omega),?_⟩|refine⟨by decide,_,Bf (by omega),?_⟩);(conv=>whnf)));intro g2;(conv=>whnf);(repeat' ((first|refine⟨rfl,?_⟩|refine⟨_,Ad (by assumption),?_⟩|refine⟨_,(by exact Bo),?_⟩|refine⟨_,A6 (by omega) (by omega),?_⟩|refine⟨_,Bn (by omega) (by omega),?_⟩|refine⟨by decide,_,Bf (by omega),?_⟩);(conv=>whnf)));intro g3;(conv=>whnf);(repeat' ((first|refine⟨rfl,?_⟩|refine⟨_,Ad (by assumption),?_⟩|refine⟨_,(by exact Bo),?_⟩|refine⟨_,A6 (by omega) (by omega),?_⟩|refine⟨_,Bn (by omega) (by omega),?_⟩|refine⟨by decide,_,Bf (by omega),?_⟩);(conv=>whnf)));exact(hq g0 g1 g2 g3).out)):p:=e fun a0 a1 a2 a3=>⟨h a0 a1 a2 a3⟩
theorem G5{α0 α1 α2 α3 α4:Type}{p:Prop}{q:α0→α1→α2→α3→α4→Prop}(h:∀a0 a1 a2 a3 a4,q a0 a1 a2 a3 a4)(e:(∀a0 a1 a2 a3 a4,Air (q a0 a1 a2 a3 a4))→p:=by(intro hq;(conv=>whnf);(repeat' ((first|refine⟨rfl,?_⟩|refine⟨_,Ad (by assumption),?_⟩|refine⟨_,(by exact Bo),?_⟩|refine⟨_,A6 (by omega) (by omega),?_⟩|refine⟨_,Bn (by omega) (by omega),?_⟩|refine⟨by decide,_,Bf (by omega),?_⟩);(conv=>whnf)));intro g0;(conv=>whnf);(repeat' ((first|refine⟨rfl,?_⟩|refine⟨_,Ad (by assumption),?_⟩|refine⟨_,(by exact Bo),?_⟩|refine⟨_,A6 (by omega) (by omega),?_⟩|refine⟨_,Bn (by omega) (by omega),?_⟩|refine⟨by decide,_,Bf (by omega),?_⟩);(conv=>whnf)));intro g1;(conv=>whnf);(repeat' ((first|refine⟨rfl,?_⟩|refine⟨_,Ad (by assumption),?_⟩|refine⟨_,(by exact Bo),?_⟩|refine⟨_,A6 (by omega) (by omega),?_⟩|refine⟨_,Bn (by omega) (by omega),?_⟩|refine⟨by decide,_,Bf (by omega),?_⟩);(conv=>whnf)));intro g2;(conv=>whnf);(repeat' ((first|refine⟨rfl,?_⟩|refine⟨_,Ad (by assumption),?_⟩|refine⟨_,(by exact Bo),?_⟩|refine⟨_,A6 (by omega) (by omega),?_⟩|refine⟨_,Bn (by omega) (by omega),?_⟩|refine⟨by decide,_,Bf (by omega),?_⟩);(conv=>whnf)));intro g3;(conv=>whnf);(repeat' ((first|refine⟨rfl,?_⟩|refine⟨_,Ad (by assumption),?_⟩|refine⟨_,(by exact Bo),?_⟩|refine⟨_,A6 (by omega) (by omega),?_⟩|refine⟨_,Bn (by omega) (by omega),?_⟩|refine⟨by decide,_,Bf (by omega),?_⟩);(conv=>whnf)));intro g4;(conv=>whnf);(repeat' ((first|refine⟨rfl,?_⟩|refine⟨_,Ad (by assumption),?_⟩|refine⟨_,(by exact Bo),?_⟩|refine⟨_,A6 (by omega) (by omega),?_⟩|refine⟨_,Bn (by omega) (by omega),?_⟩|refine⟨by decide,_,Bf (by omega),?_⟩);(conv=>whnf)));exact(hq g0 g1 g2 g3 g4).out)):p:=e fun a0 a1 a2 a3 a4=>⟨h a0 a1 a2 a3 a4⟩
theorem G6{α0 α1 α2 α3 α4 α5:Type}{p:Prop}{q:α0→α1→α2→α3→α4→α5→Prop}(h:∀a0 a1 a2 a3 a4 a5,q a0 a1 a2 a3 a4 a5)(e:(∀a0 a1 a2 a3 a4 a5,Air (q a0 a1 a2 a3 a4 a5))→p:=by(intro hq;(conv=>whnf);(repeat' ((first|refine⟨rfl,?_⟩|refine⟨_,Ad (by assumption),?_⟩|refine⟨_,(by exact Bo),?_⟩|refine⟨_,A6 (by omega) (by omega),?_⟩|refine⟨_,Bn (by omega) (by omega),?_⟩|refine⟨by decide,_,Bf (by omega),?_⟩);(conv=>whnf)));intro g0;(conv=>whnf);(repeat' ((first|refine⟨rfl,?_⟩|refine⟨_,Ad (by assumption),?_⟩|refine⟨_,(by exact Bo),?_⟩|refine⟨_,A6 (by omega) (by omega),?_⟩|refine⟨_,Bn (by omega) (by omega),?_⟩|refine⟨by decide,_,Bf (by omega),?_⟩);(conv=>whnf)));intro g1;(conv=>whnf);(repeat' ((first|refine⟨rfl,?_⟩|refine⟨_,Ad (by assumption),?_⟩|refine⟨_,(by exact Bo),?_⟩|refine⟨_,A6 (by omega) (by omega),?_⟩|refine⟨_,Bn (by omega) (by omega),?_⟩|refine⟨by decide,_,Bf (by omega),?_⟩);(conv=>whnf)));intro g2;(conv=>whnf);(repeat' ((first|refine⟨rfl,?_⟩|refine⟨_,Ad (by assumption),?_⟩|refine⟨_,(by exact Bo),?_⟩|refine⟨_,A6 (by omega) (by omega),?_⟩|refine⟨_,Bn (by omega) (by omega),?_⟩|refine⟨by decide,_,Bf (by omega),?_⟩);(conv=>whnf)));intro g3;(conv=>whnf);(repeat' ((first|refine⟨rfl,?_⟩|refine⟨_,Ad (by assumption),?_⟩|refine⟨_,(by exact Bo),?_⟩|refine⟨_,A6 (by omega) (by omega),?_⟩|refine⟨_,Bn (by omega) (by omega),?_⟩|refine⟨by decide,_,Bf (by omega),?_⟩);(conv=>whnf)));intro g4;(conv=>whnf);(repeat' ((first|refine⟨rfl,?_⟩|refine⟨_,Ad (by assumption),?_⟩|refine⟨_,(by exact Bo),?_⟩|refine⟨_,A6 (by omega) (by omega),?_⟩|refine⟨_,Bn (by omega) (by omega),?_⟩|refine⟨by decide,_,Bf (by omega),?_⟩);(conv=>whnf)));intro g5;(conv=>whnf);(repeat' ((first|refine⟨rfl,?_⟩|refine⟨_,Ad (by assumption),?_⟩|refine⟨_,(by exact Bo),?_⟩|refine⟨_,A6 (by omega) (by omega),?_⟩|refine⟨_,Bn (by omega) (by omega),?_⟩|refine⟨by decide,_,Bf (by omega),?_⟩);(conv=>whnf)));exact(hq g0 g1 g2 g3 g4 g5).out)):p:=e fun a0 a1 a2 a3 a4 a5=>⟨h a0 a1 a2 a3 a4 a5⟩
theorem Ah1{s:ByteArray}{k:Nat}(h:∀j,(hj:j<s.data.toList.length)→j<k→okB (s.data.toList[j]).toNat=true)(hlt:k<s.size)(hk:okB (s[k]).toNat=true):
  ∀j,(hj:j<s.data.toList.length)→j<k+1→okB (s.data.toList[j]).toNat=true:=by
 intro j hj hjk;rcases(by omega:j<k∨j=k)with g|rfl
 ·exact h j hj g
 ·exact hk
theorem T8(s:ByteArray):s.toList.isEmpty=decide (s.size=0):=by
 rw[ByteArray.toList_eq,Bool.eq_iff_iff,List.isEmpty_iff_length_eq_zero,decide_eq_true_eq,Array.length_toList];rfl
theorem As4{s:ByteArray}(h1:1≤s.size∧s.size≤30→lab s.data.toList=true)(h2:¬(1≤s.size∧s.size≤30)→lab s.data.toList=false)(e:s.toList.isEmpty=false):decide ((s.size:Int)≤30)=lab s.data.toList:=by
 have e0:s.size≠0:=by simpa[T8]using e
 by_cases g:s.size≤30
 ·rw[h1 ⟨by omega,g⟩];simp;omega
 ·rw[h2 (by omega)];simp;omega
theorem Asp{s:ByteArray}(h2:¬(1≤s.size∧s.size≤30)→lab s.data.toList=false)(e:s.toList.isEmpty=true):false=lab s.data.toList:=by
 have e0:s.size=0:=by simpa[T8]using e
 rw[h2 (by omega)]
theorem Arb(w:World)(C:Array Value)(t:TypeId)(fr:Nat×Nat)(k:Nat):(w.alloc (.cells C t fr)).drew.cell? ⟨w.heap.size,k,none⟩=C[k]? :=by
 have h:(w.alloc (.cells C t fr)).drew.heap[w.heap.size]? =some (.cells C t fr):=heap_alloc_new w _;unfold World.cell?;rw[h];rfl
theorem Al5{s:ByteArray}{k:Nat}(hlt:k<s.size)(hk:okB (s[k]).toNat=false):false=lab s.data.toList:=
 (lab_bad (i:=k) (s:=s.data.toList) (by simpa using hlt) hk).symm
theorem Ab7 (s : ByteArray) (w : World) (hs : s.size ≤ 9223372036854775807) :
    Calls Tryz.prog 55 #[.string s] w fun e w' => e = .returned (.bool (lab s.data.toList)) ∧ w = w' := by
  go_enter Tryz.func55, Tryz.ntmps55
  go_wp2
  go_loop [3] (fun i => ∃ k : Nat, k ≤ s.size ∧ i = .int .i64 k ∧ ∀ j, (hj : j < s.data.toList.length) → j < k → okB (s.data.toList[j]).toNat = true) (fun i => s.size - (intOf i).toNat)
  case atStart => exact ⟨0, ZU _, rfl, fun j _ h => absurd h (by omega)⟩
  case round =>
    obtain ⟨k, hk, rfl, hall⟩ := hrel
    have HA := hid hall
    clear hall
    by_cases hlt : k < s.size
    · go_wp2
      all_goals first
        | (go_round
           case rel => exact ⟨k + 1, by omega, by go_num, Ah1 HA.out hlt (Aml (by go_light; clear HA; first | omega | (simp_all; done) | (simp_all; omega)))⟩
           case measure => simp [intOf]; omega)
        | (go_ret
           exact ⟨K5 (Al5 hlt (Apz (by go_light; clear HA; first | omega | (simp_all; done) | (simp_all; omega)))), rfl⟩)
    · have HL := fun (g : 1 ≤ s.size ∧ s.size ≤ 30) => Al9 (s := s.data.toList) (fun i hi => HA.out i hi (by simp at hi; omega)) (by simpa using g.1) (by simpa using g.2)
      have HN := fun (g : ¬ (1 ≤ s.size ∧ s.size ≤ 30)) => Aga (s := s.data.toList) (by simpa using g)
      have HL := hid HL
      have HN := hid HN
      clear HA
      go_wp2
      all_goals go_ret
      all_goals exact ⟨K5 (by
        go_light
        by_cases g : 1 ≤ s.size ∧ s.size ≤ 30
        · rw [HL.out g] <;> first | rfl | (simp <;> omega)
        · rw [HN.out g] <;> first | rfl | (simp <;> omega)), rfl⟩
theorem Aoa(s:ByteArray)(w:World):∃(cap:Nat) (C:Array Value) (fr:Nat×Nat),
  (convert 9 116 (.string s)).run Tryz.prog w=.ok (.slice (some ⟨w.heap.size,0,none⟩) s.size cap) (w.drew.alloc (.cells C 5 fr))∧
  ∀j,(h:j<s.size)→C[j]? =some (.int .u8 ((s[j]).toNat:Int)):=by
 refine⟨_,_,_,run_bytes_of_string w 9 116 5 s Tryz.underlying9 Tryz.underlying116 Tryz.underlying5,?_⟩;intro j h;exact bytesRow_at s _ j h
set_option maxRecDepth 100000 in
theorem Aiq (s : ByteArray) (w : World) (hs : s.size ≤ 9223372036854775807) :
    Calls Tryz.prog 41 #[.string s] w fun e w' => e = .returned (.bool (lab s.data.toList)) ∧ Below w.heap.size w w' ∧ w.drawn ≤ w'.drawn := by
  obtain ⟨cap, C, fr, hrun, hC⟩ := Aoa s w
  have HC := hid hC
  clear hC
  have hB : Below w.heap.size w (w.alloc (.cells C 5 fr)).drew ∧ w.drawn ≤ (w.alloc (.cells C 5 fr)).drew.drawn := ⟨(by repeat (first | exact Below.refl _ _ | assumption | refine Below.drew ?_ | refine below_drewN ?_ _ | refine Below.alloc ?_ (by simp; try omega) _ | refine Below.setCell ?_ (by simp; try omega) _)), Nat.le_succ _⟩
  have HB := hid hB
  clear hB
  go_enter Tryz.func41, Tryz.ntmps41
  go_wp2
  go_loop [8] (fun i => ∃ k : Nat, k ≤ s.size ∧ i = .int .i64 k ∧ ∀ j, (hj : j < s.data.toList.length) → j < k → okB (s.data.toList[j]).toNat = true) (fun i => s.size - (intOf i).toNat)
  case atStart => exact ⟨0, ZU _, rfl, fun j _ h => absurd h (by omega)⟩
  case round =>
    obtain ⟨k, hk, rfl, hall⟩ := hrel
    have HA := hid hall
    clear hall
    by_cases hlt : k < s.size
    · have hcell : (w.alloc (.cells C 5 fr)).drew.cell? ⟨w.heap.size, k, none⟩ = some (.int .u8 ((s[k]).toNat : Int)) := (Arb w C 5 fr k).trans (HC.out k hlt)
      have hby : ((s[k]).toNat : Int) ≤ 255 := by have := (s[k]).toNat_lt; omega
      clear hrun
      go_wp2
      all_goals first
        | (go_round
           case rel => exact ⟨k + 1, by omega, by go_num, Ah1 HA.out hlt (Aml (by go_light; clear HA; first | omega | (simp_all; done) | (simp_all; omega)))⟩
           case measure => simp [intOf]; omega)
        | (go_ret
           exact ⟨K5 (Al5 hlt (Apz (by go_light; clear HA; first | omega | (simp_all; done) | (simp_all; omega)))), HB.out⟩)
    · have HL := fun (g : 1 ≤ s.size ∧ s.size ≤ 30) => Al9 (s := s.data.toList) (fun i hi => HA.out i hi (by simp at hi; omega)) (by simpa using g.1) (by simpa using g.2)
      have HN := fun (g : ¬ (1 ≤ s.size ∧ s.size ≤ 30)) => Aga (s := s.data.toList) (by simpa using g)
      have HL := hid HL
      have HN := hid HN
      clear HA
      go_wp2
      all_goals go_ret
      all_goals first
        | exact ⟨K5 (As4 HL.out HN.out ‹s.toList.isEmpty = false›), HB.out⟩
        | exact ⟨K5 (Asp HN.out ‹s.toList.isEmpty = true›), HB.out⟩
theorem El(s:ByteArray)(hs:s.size≤9223372036854775807):Fun Tryz.prog 41 [.c (.v (.string s))] [.c (.v (.bool (lab s.data.toList)))]:=
 Nx (xs:=[.string s]) (Fb Tryz.func41 (by kernel_rfl) (by kernel_rfl)) fun w=>(Aiq s w hs).mono fun e w' h=>⟨h.1,h.2.1⟩
theorem Aay(a b:ByteArray):Fun Tryz.prog 94 [.c (.v (.string a)),.c (.v (.string b))] [.c (.v (.int .i64 (Ey a b)))]:=
 Nx (xs:=[.string a,.string b]) (Fb Tryz.func94 (by kernel_rfl) (by kernel_rfl)) fun w=>(Ahs a b w).mono fun e w' ⟨h1,h2⟩=>⟨h1,h2▸Below.refl _ _⟩
theorem J9{α:Type}(e:α→Int)(a:α):Bm e [a]=e a:=by
 by_cases h:e a=0<;>simp[Bm,h]
theorem U4{α:Type}{mx:Nat}{e:α→Int}{lt:α→α→Bool}{l:List α}(h1:¬mx<l.length)(h2:Bm e l≠0):ckL mx e lt l=Bm e l:=by simp[ckL,h1,h2]
theorem Aet{α:Type}{mx:Nat}{e:α→Int}{lt:α→α→Bool}{l:List α}(h1:¬mx<l.length)(h2:Bm e l=0)(h3:Cz lt l=false):ckL mx e lt l=4:=by simp[ckL,h1,h2,h3]
theorem Yx{α:Type}{mx:Nat}{e:α→Int}{lt:α→α→Bool}{l:List α}(h1:¬mx<l.length)(h2:Bm e l=0)(h3:Cz lt l=true):ckL mx e lt l=0:=by simp[ckL,h1,h2,h3]
theorem Atk(a:Int):E9 a a=0:=by simp[E9]
theorem Aug{a b:Int}(h:a≠b):E9 a b≠0:=by
 unfold E9;split
 ·decide
 ·split
  ·decide
  ·omega
theorem Zu{a b:Int}:0<E9 a b↔b<a:=by
 unfold E9;split
 ·constructor<;>intro h<;>omega
 ·split<;>(constructor<;>intro h<;>omega)
theorem Aa5{a b:ByteArray}:0<Ey a b↔slt b a=true:=by
 constructor
 ·intro h;rcases Bool.eq_false_or_eq_true (slt b a)with q|q
  ·exact q
  ·rcases Bool.eq_false_or_eq_true (slt a b)with p|p
   ·rw[Y0 p]at h;omega
   ·have:=Ry p q;rw[this,Uw]at h;omega
 ·intro h;rw[Yz h];decide
def b2i(b:Bool):Int:=if b then 1 else 0
def Ard(n:Int):List V:=[.v (.int .i64 n)]
instance:FlatRow Ard:=⟨fun x u hu=>by simp[Ard]at hu;exact⟨_,hu⟩⟩
theorem Awf(c:Bool)(l:List Int)(hl:l.length≤9223372036854775807):Fun Tryz.prog 125 [.c (.sl c (l.map Ard))] [.c (.v (.int .i64 (B3 l)))]:=by
 refine Ar Ac6 rfl ?_;(refine goI ?_;repeat (intro gg;refine goI ?_));(refine⟨[],none,{k:Nat//k≤l.length∧∀j,(h:j<l.length)→j<k→l[j]=0},[3,6,7],fun⟨k,hk,h0⟩=>[(8,.v (.int .i64 k))],[],fun⟨k,hk,h0⟩=>[],fun⟨k,hk,h0⟩=>l.length-k,trivial,fun _=>⟨trivial,fun _=>⟨⟨0,by omega,fun j _ h=>by omega⟩,tI,Af _ _,tI,Ae _ _⟩⟩,fun⟨k,hk,h0⟩=>?_⟩);(refine goI ?_;repeat (intro gg;refine goI ?_));rw[ZE];(refine Aa (fun h=>?_) (fun h=>?_)<;>rw[h])
 ·have hlt:k<l.length:=by simpa using h
  (refine goI ?_;repeat (intro gg;refine goI ?_));refine⟨k,_,rfl,Ad hlt,?_⟩;(refine goI ?_;repeat (intro gg;refine goI ?_));(refine Aa (fun h=>?_) (fun h=>?_)<;>rw[h])
  ·(refine goI ?_;repeat (intro gg;refine goI ?_));rw[Tp hlt h0 (by simpa using h)];(exact⟨[],aI⟩)
  ·(refine goI ?_;repeat (intro gg;refine goI ?_));(exact⟨none,trivial,fun _=>⟨⟨k+1,by omega,up1 (p:=fun j h=>l[j]=0) h0 (fun _=>by simpa using h)⟩,by show l.length-(k+1)<l.length-k;omega,tI,tI,tI,tI⟩⟩)
 ·have hge:¬k<l.length:=by simpa using h
  (refine goI ?_;repeat (intro gg;refine goI ?_));rw[O3 (l:=l) (fun i hi=>h0 i hi (by omega))];(exact⟨[],aI⟩)
namespace Pl
structure Sv where
 nd:ByteArray
 id:ByteArray
 nm:ByteArray
 tg:ByteArray
 ad:Int
 pt:Int
 ps:Bool
 vs:Int
 gn:Bool
def Sv.enc(m:Sv):List Value:=[.string m.nd,.string m.id,.string m.nm,.string m.tg,.int .i64 m.ad,.int .i64 m.pt,.bool m.ps,.int .i64 m.vs,.bool m.gn]
def Sv.row(m:Sv):List V:=[.v (.string m.nd),.v (.string m.id),.v (.string m.nm),.v (.string m.tg),.v (.int .i64 m.ad),.v (.int .i64 m.pt),.v (.bool m.ps),.v (.int .i64 m.vs),.v (.bool m.gn)]
instance:FlatRow Sv.row:=⟨fun x u hu=>by simp[Sv.row]at hu;rcases hu with rfl|rfl|rfl|rfl|rfl|rfl|rfl|rfl|rfl<;>exact⟨_,rfl⟩⟩
def Sv.ok(m:Sv):Prop:=m.nd.size≤9223372036854775807∧m.id.size≤9223372036854775807∧m.nm.size≤9223372036854775807∧m.tg.size≤9223372036854775807
def emp(s:ByteArray):Bool:=s.toList==(ByteArray.mk #[]).toList
def Sp(s:ByteArray):Bool:=emp s||lab s.data.toList
def Sv.err(m:Sv):Int:=if lab m.nd.data.toList then(if lab m.id.data.toList then(if lab m.nm.data.toList then(if Sp m.tg then(if wi m.ad 0 4294967295 then(if wi m.pt 0 65535 then(if wi m.vs 1 1000000 then 0 else 3)else 3)else 3)else 1)else 1)else 1)else 1
def Sv.cf(nd id:ByteArray)(x:Sv):Int:=B3 [Ey x.nd nd,Ey x.id id]
def Sv.kf(g x:Sv):Int:=Sv.cf g.nd g.id x
def Sv.lt(g h:Sv):Bool:=decide (Sv.cf h.nd h.id g<0)
def Ei(l:List Sv):Int:=ckL 40 Sv.err Sv.lt l
def Sv.cmp(g x:Sv):Int:=B3 [E9 g.vs x.vs,E9 (b2i g.gn) (b2i x.gn),Ey g.nm x.nm,Ey g.tg x.tg,E9 g.ad x.ad,E9 g.pt x.pt,E9 (b2i g.ps) (b2i x.ps)]
def Sv.nw(g x:Sv):Bool:=decide (0<Sv.cmp g x)
def Sv.is(nd id:ByteArray)(m:Sv):Bool:=(m.nd.toList==nd.toList)&&(m.id.toList==id.toList)
def Sv.same(g h:Sv):Bool:=(g.nd.toList==h.nd.toList)&&((g.id.toList==h.id.toList)&&((g.nm.toList==h.nm.toList)&&((g.tg.toList==h.tg.toList)&&((g.ad==h.ad)&&((g.pt==h.pt)&&((g.ps==h.ps)&&((g.vs==h.vs)&&((g.gn==h.gn)&&true))))))))
theorem Sv.err_cases(m:Sv):m.err=0∨m.err=1∨m.err=3∨m.err=7:=by
 unfold Sv.err
 repeat' split
 all_goals simp
theorem As8{a b c d:ByteArray}(h:a=b):B3 [Ey a b,Ey c d]=Ey c d:=by
 subst h;by_cases h:Ey c d=0<;>simp[B3,Uw,h]
theorem At6{a b c d:ByteArray}(h:a≠b):B3 [Ey a b,Ey c d]=Ey a b:=by
 have:Ey a b≠0:=fun e=>h (Gk.1 e);simp[B3,this]
theorem Sv.cf_neg{nd id:ByteArray}{x:Sv}:Sv.cf nd id x<0↔slt x.nd nd=true∨(x.nd=nd∧slt x.id id=true):=by
 unfold Sv.cf;by_cases h:x.nd=nd
 ·rw[As8 h,Qu,h];simp[Fj]
 ·rw[At6 h,Qu];simp[h]
theorem Sv.cf_zero{nd id:ByteArray}{x:Sv}:Sv.cf nd id x=0↔x.nd=nd∧x.id=id:=by
 unfold Sv.cf;by_cases h:x.nd=nd
 ·rw[As8 h,Gk];simp[h]
 ·rw[At6 h,Gk];simp[h]
theorem Sv.lt_iff{x y:Sv}:Sv.lt x y=true↔slt x.nd y.nd=true∨(x.nd=y.nd∧slt x.id y.id=true):=by
 unfold Sv.lt;rw[decide_eq_true_iff,Sv.cf_neg]
theorem Sv.lt_trans(x y z:Sv)(h1:Sv.lt x y=true)(h2:Sv.lt y z=true):Sv.lt x z=true:=by
 rw[Sv.lt_iff]at *;rcases h1 with h1|⟨e1,h1⟩<;>rcases h2 with h2|⟨e2,h2⟩
 ·exact .inl (Kj h1 h2)
 ·exact .inl (e2▸h1)
 ·exact .inl (by rw[e1];exact h2)
 ·exact .inr ⟨e1.trans e2,Kj h1 h2⟩
theorem Jo{l:List Sv}(h:Ei l=0):l.length≤40∧(∀i,(hi:i<l.length)→(l[i]).err=0)∧Cz Sv.lt l=true:=Ama Sv.err_cases h
def Sv.ne(m x:Sv):Bool:= !(Sv.is m.nd m.id x)
theorem Sv.is_eq(nd id:ByteArray):Sv.is nd id=fun x=>decide (Sv.cf nd id x=0):=by
 funext x;unfold Sv.is;by_cases h:x.nd=nd∧x.id=id
 ·rw[h.1,h.2];have:Sv.cf nd id x=0:=Sv.cf_zero.2 h;simp[this]
 ·have h2:¬Sv.cf nd id x=0:=fun e=>h (Sv.cf_zero.1 e);have h3:(x.nd.toList==nd.toList&&x.id.toList==id.toList)=false:=by
   cases hb:(x.nd.toList==nd.toList&&x.id.toList==id.toList)with
   |false=>rfl
   |true=>rw[ZO,Yw,Yw]at hb;exact absurd hb h
  rw[h3];simp[h2]
theorem Sv.ne_eq(m:Sv):Sv.ne m=fun x=>decide (Sv.kf m x≠0):=by
 funext x;have:=congrFun (Sv.is_eq m.nd m.id) x;unfold Sv.ne Sv.kf;rw[this];simp
theorem Awq(row:List V)(h:Qp [.s,.s,.s,.s,.i,.i,.b,.i,.b] row):∃m:Sv,row=m.row∧m.ok:=by
 obtain⟨u0,_,rfl,f0,h⟩:=Ap h;obtain⟨u1,_,rfl,f1,h⟩:=Ap h;obtain⟨u2,_,rfl,f2,h⟩:=Ap h;obtain⟨u3,_,rfl,f3,h⟩:=Ap h;obtain⟨u4,_,rfl,f4,h⟩:=Ap h;obtain⟨u5,_,rfl,f5,h⟩:=Ap h;obtain⟨u6,_,rfl,f6,h⟩:=Ap h;obtain⟨u7,_,rfl,f7,h⟩:=Ap h;obtain⟨u8,_,rfl,f8,h⟩:=Ap h;obtain rfl:=Ln h;obtain⟨a,rfl,ha⟩:=K3 f0;obtain⟨b,rfl,hb⟩:=K3 f1;obtain⟨c,rfl,hc⟩:=K3 f2;obtain⟨d,rfl,hd⟩:=K3 f3;obtain⟨e,rfl,_⟩:=Ge f4;obtain⟨f,rfl,_⟩:=Ge f5;obtain⟨g,rfl⟩:=Ahf f6;obtain⟨i,rfl,_⟩:=Ge f7;obtain⟨j,rfl⟩:=Ahf f8;exact⟨⟨a,b,c,d,e,f,g,i,j⟩,rfl,ha,hb,hc,hd⟩
end Pl
section
variable {α:Type} {enc:α→List Value} {sz:Nat} {w w':World} {A:Option Addr} {l:List α}
def RL(enc:α→List Value)(sz:Nat)(w:World)(A:Option Addr)(l:List α):Prop:=
 0<l.length→∃b off,A=some ⟨b,off,none⟩∧b<w.heap.size∧∀i,(h:i<l.length)→∀j u,(enc l[i])[j]? =some u→w.cell? ⟨b,off+i*sz+j,none⟩=some u
theorem RL.nil:RL enc sz w A []:=fun h=>absurd h (by simp)
theorem RL.at_(h:RL enc sz w A l){k:Nat}(hk:k<l.length):∃b off,A=some ⟨b,off,none⟩∧b<w.heap.size∧∀j u,(enc l[k])[j]? =some u→w.cell? ⟨b,off+k*sz+j,none⟩=some u:=by
 obtain⟨b,off,hA,hb,hc⟩:=h (by omega);exact⟨b,off,hA,hb,hc k hk⟩
end
section
variable {P:Program}
end
theorem Fr.alloc{L:Nat→Prop}{a w:World}(h:Fr L a w)(o:Obj):Fr L a (w.alloc o):=h.grown (World.grownBy_alloc w o none) (by simp) (ZT _)
section
variable {α:Type} {enc:α→List Value} {sz:Nat} {w w':World} {R:Nat→Prop}
end
end Go.Proofs.YtbnocibpoghfhaaGreatDoor

namespace Go.Proofs.YtbnocibpoghfhaaGreatDoor
open Go.RowKit Pl
theorem Qz(n a b:Int):Fun Tryz.prog 131 [.c (.v (.int .i64 n)),.c (.v (.int .i64 a)),.c (.v (.int .i64 b))] [.c (.v (.bool (wi n a b)))]:=by
 refine Ar Vb rfl ?_;refine G0 ?_;(refine Aa (fun h=>?_) (fun h=>?_)<;>rw[h])
 ·refine G0 ?_;rw[Aur h];(exact⟨[],aI⟩)
 ·refine G0 ?_;rw[Av8 h];(exact⟨[],aI⟩)
theorem W7(s:ByteArray)(hs:s.size≤9223372036854775807):Fun Tryz.prog 98 [.c (.v (.string s))] [.c (.v (.bool (Sp s)))]:=by
 refine Ar Vs rfl ?_;refine G0 ?_;(refine Aa (fun h=>?_) (fun h=>?_)<;>rw[h])
 ·refine G0 ?_;rw[show Sp s=true by unfold Sp;rw[show emp s=true from h];rfl];(exact⟨[],aI⟩)
 ·refine G0 ?_;(refine .inl ⟨_,_,false,[],aI,El _ hs,Ab,nI,?_⟩);refine G1 ?_;intro gg;rw[show Sp s=lab s.data.toList by unfold Sp;rw[show emp s=false from h];rfl];(exact⟨[],aI⟩)
theorem Arz(m:Sv)(hm:m.ok):Fun Tryz.prog 115 [.c (.agg m.row)] [.c (.v (.int .i64 m.err))]:=by
 obtain⟨o1,o2,o3,o4⟩:=hm;refine Ar Zr rfl ?_;refine G1 ?_;intro gg;(refine .inl ⟨_,_,false,[],aI,El _ o1,Ab,nI,?_⟩);refine G1 ?_;intro gg;(refine Aa (fun h1=>?_) (fun h1=>?_)<;>rw[h1])
 ·refine G0 ?_
  (rw[show m.err=1 from by(first|(simp_all;done)|(unfold Sv.err;simp_all))];(exact⟨[],aI⟩))
 ·refine G0 ?_;(refine .inl ⟨_,_,false,[],aI,El _ o2,Ab,nI,?_⟩);refine G1 ?_;intro gg;(refine Aa (fun h2=>?_) (fun h2=>?_)<;>rw[h2])
  ·refine G0 ?_
   (rw[show m.err=1 from by(first|(simp_all;done)|(unfold Sv.err;simp_all))];(exact⟨[],aI⟩))
  ·refine G0 ?_;(refine .inl ⟨_,_,false,[],aI,El _ o3,Ab,nI,?_⟩);refine G1 ?_;intro gg;(refine Aa (fun h3=>?_) (fun h3=>?_)<;>rw[h3])
   ·refine G0 ?_
    (rw[show m.err=1 from by(first|(simp_all;done)|(unfold Sv.err;simp_all))];(exact⟨[],aI⟩))
   ·refine G0 ?_;(refine .inl ⟨_,_,false,[],aI,W7 _ o4,Ab,nI,?_⟩);refine G1 ?_;intro gg;(refine Aa (fun h4=>?_) (fun h4=>?_)<;>rw[h4])
    ·refine G0 ?_
     (rw[show m.err=1 from by(first|(simp_all;done)|(unfold Sv.err;simp_all))];(exact⟨[],aI⟩))
    ·refine G0 ?_;(refine .inl ⟨_,_,false,[],aI,Qz _ _ _,Ab,nI,?_⟩);refine G1 ?_;intro gg;(refine Aa (fun h5=>?_) (fun h5=>?_)<;>rw[h5])
     ·refine G0 ?_
      (rw[show m.err=3 from by(first|(simp_all;done)|(unfold Sv.err;simp_all))];(exact⟨[],aI⟩))
     ·refine G0 ?_;(refine .inl ⟨_,_,false,[],aI,Qz _ _ _,Ab,nI,?_⟩);refine G1 ?_;intro gg;(refine Aa (fun h6=>?_) (fun h6=>?_)<;>rw[h6])
      ·refine G0 ?_
       (rw[show m.err=3 from by(first|(simp_all;done)|(unfold Sv.err;simp_all))];(exact⟨[],aI⟩))
      ·refine G0 ?_;(refine .inl ⟨_,_,false,[],aI,Qz _ _ _,Ab,nI,?_⟩);refine G1 ?_;intro gg;(refine Aa (fun h7=>?_) (fun h7=>?_)<;>rw[h7])
       ·refine G0 ?_
        (rw[show m.err=3 from by(first|(simp_all;done)|(unfold Sv.err;simp_all))];(exact⟨[],aI⟩))
       ·refine G0 ?_
        (rw[show m.err=0 from by(first|(simp_all;done)|(unfold Sv.err;simp_all))];(exact⟨[],aI⟩))
theorem Ao9(g x:Sv):Fun Tryz.prog 116 [.c (.agg g.row),.c (.agg x.row)] [.c (.v (.int .i64 (Sv.cf x.nd x.id g)))]:=by
 refine Ar Vv rfl ?_;(refine goI ?_;repeat (intro gg;refine goI ?_));(refine⟨_,_,false,aI,Aay _ _,Ab,nI,?_⟩);refine G1 ?_;intro gg;(refine .inl ⟨_,_,false,[],aI,Aay _ _,Ab,nI,?_⟩);(refine goI ?_;repeat (intro gg;refine goI ?_));(refine .inl ⟨_,_,true,[],aI,Awf false [Ey g.nd x.nd,Ey g.id x.id] (by simp),(fun _=>fI),nI,?_⟩);refine G1 ?_;intro gg;(exact⟨[],aI⟩)
def Awt(l:List Sv):List V:=[.sl false (l.map Sv.row)]
theorem Tb(c:Bool)(ls:List (List Sv))(hls:ls.length≤9223372036854775807)(hl:∀l∈ls,l.length≤9223372036854775807)(hw:∀l∈ls,∀m∈l,m.ok):Fun Tryz.prog 83 [.c (.sl c (ls.map Awt))] [.c (.v (.int .i64 (Bm Ei ls)))]:=by
 refine Ar W4 rfl ?_;refine G0 ?_;rw[ZE];(refine⟨[],none,{k:Nat//k≤ls.length∧∀j,(h:j<ls.length)→j<k→Ei (ls[j])=0},[9,10],fun⟨k,hk,h0⟩=>[(11,.v (.int .i64 k))],[],fun⟨k,hk,h0⟩=>[],fun⟨k,hk,h0⟩=>ls.length-k,trivial,fun _=>⟨trivial,fun _=>⟨⟨0,by omega,fun j _ h=>by omega⟩,tI,Af _ _,tI,Ae _ _⟩⟩,fun⟨k,hk,h0⟩=>?_⟩);refine G0 ?_;(refine Aa (fun h=>?_) (fun h=>?_)<;>rw[h])
 ·have hlt:k<ls.length:=by simpa using h
  refine G0 ?_;refine⟨k,_,rfl,Ad hlt,?_⟩;refine G0 ?_;have HL:=hl _ (ZK hlt);have HW:=hw _ (ZK hlt);have HE:=Ff (e:=Ei) hlt h0;have HN:Ei ls[k]=0→∀j,(h:j<ls.length)→j<k+1→Ei (ls[j])=0:=fun e=>up1 (p:=fun j h=>Ei (ls[j])=0) h0 (fun _=>e);generalize ls[k]=l at *;rw[ZE];(refine Aa (fun h1=>?_) (fun h1=>?_)<;>rw[h1])
  ·refine G0 ?_;have e:Ei l=2:=T6 (by have:=ZV h1;omega);rw[HE (by rw[e];decide),e];(exact⟨[],aI⟩)
  ·have h1':¬40<l.length:=(by have:=ZW h1;omega);refine G0 ?_;rw[ZE];(refine⟨[],none,{q:Nat//q≤l.length∧∀j,(h:j<l.length)→j<q→(l[j]).err=0},[4,9,10,11,18,19],fun⟨q,hq,g0⟩=>[(20,.v (.int .i64 q))],[],fun⟨q,hq,g0⟩=>[],fun⟨q,hq,g0⟩=>l.length-q,trivial,fun _=>⟨trivial,fun _=>⟨⟨0,by omega,fun j _ h=>by omega⟩,tI,Af _ _,tI,Ae _ _⟩⟩,fun⟨q,hq,g0⟩=>?_⟩);refine G0 ?_;(refine Aa (fun h2=>?_) (fun h2=>?_)<;>rw[h2])
   ·have hlt2:q<l.length:=(by have:=ZV h2;omega);refine G0 ?_;refine⟨q,_,rfl,Ad hlt2,?_⟩;refine G1 ?_;intro gg;(refine .inl ⟨_,_,false,[],aI,Arz _ (HW _ (ZK hlt2)),Ab,nI,?_⟩);refine G1 ?_;intro gg;(refine Aa (fun h3=>?_) (fun h3=>?_)<;>rw[h3])
    ·have h3':(l[q]).err≠0:=by simpa using h3
     have e0:=Ff hlt2 g0 h3';refine G0 ?_;have e:Ei l=(l[q]).err:=(U4 h1' (by rw[e0];exact h3')).trans e0;rw[HE (by rw[e];exact h3'),e];(exact⟨[],aI⟩)
    ·refine G0 ?_;(exact⟨none,trivial,fun _=>⟨⟨q+1,by omega,up1 (p:=fun j h=>(l[j]).err=0) g0 (fun _=>by simpa using h3)⟩,by show l.length-(q+1)<l.length-q;omega,tI,tI,tI,tI⟩⟩)
   ·have hge2:¬q<l.length:=(by have:=ZW h2;omega);have h2':Bm Sv.err l=0:=Dm fun i hi=>g0 i hi (by omega);refine G0 ?_;(refine⟨[],none,{k:Nat//(k<l.length∨k=0)∧∀i,(h:i+1<l.length)→i<k→Sv.lt l[i] l[i+1]=true},[4,9,10,11],fun⟨q,hq,g0⟩=>[(8,.v (.int .i64 ((q:Int)+1)))],[],fun⟨q,hq,g0⟩=>[],fun⟨q,hq,g0⟩=>l.length-q,trivial,fun _=>⟨trivial,fun _=>⟨⟨0,by omega,fun j _ h=>by omega⟩,tI,Af _ _,tI,Ae _ _⟩⟩,fun⟨q,hq,g0⟩=>?_⟩);refine G0 ?_;rw[ZE];(refine Aa (fun h3=>?_) (fun h3=>?_)<;>rw[h3])
    ·have hlt3:q+1<l.length:=(by have:=ZV h3;omega);refine G0 ?_;refine⟨q,_,by omega,Ad (by omega),?_⟩;refine G0 ?_;refine⟨q+1,_,by omega,Ad hlt3,?_⟩;refine G0 ?_;(refine .inl ⟨_,_,false,[],aI,Ao9 _ _,Ab,nI,?_⟩);refine G1 ?_;intro gg;(refine Aa (fun h4=>?_) (fun h4=>?_)<;>rw[h4])
     ·refine G0 ?_;have e:Ei l=4:=Aet h1' h2' (K0 hlt3 (ZY (by have:=ZV h4;show¬Sv.cf l[q+1].nd l[q+1].id l[q]<0;omega)));rw[HE (by rw[e];decide),e];(exact⟨[],aI⟩)
     ·refine G0 ?_;(exact⟨none,trivial,fun _=>⟨⟨q+1,by omega,up2 (p:=fun i h=>Sv.lt l[i] l[i+1]=true) g0 (fun _=>ZX (by have:=ZW h4;show Sv.cf l[q+1].nd l[q+1].id l[q]<0;omega))⟩,by show l.length-(q+1)<l.length-q;omega,tI,tI,tI,tI⟩⟩)
    ·have hge3:¬q+1<l.length:=(by have:=ZW h3;omega);refine G0 ?_;have e:Ei l=0:=Yx h1' h2' (Kd fun i hi=>g0 i hi (by omega));(exact⟨none,trivial,fun _=>⟨⟨k+1,by omega,HN e⟩,by show ls.length-(k+1)<ls.length-k;omega,tI,tI,tI,tI⟩⟩)
 ·have hge:¬k<ls.length:=by simpa using h
  refine G0 ?_;rw[Dm (l:=ls) (fun i hi=>h0 i hi (by omega))];(exact⟨[],aI⟩)
theorem Ajh(l:List Sv)(hl:l.length≤9223372036854775807)(hw:∀m∈l,m.ok):Fun Tryz.prog 45 [.c (.sl false (l.map Sv.row))] [.c (.v (.int .i64 (Ei l)))]:=by
 refine Ar V6 rfl ?_;refine G1 ?_;intro gg;(refine .inl ⟨_,_,true,[],aI,Tb false [l] (by simp) (by simpa using hl) (by simpa using hw),(fun _=>fI),nI,?_⟩);rw[J9];refine G1 ?_;intro gg;(exact⟨[],aI⟩)
namespace Pl
def Sv.at_(s:Sv)(v:Int):Sv:=⟨s.nd,s.id,s.nm,s.tg,s.ad,s.pt,s.ps,v,s.gn⟩
def Sv.sought(name tag:ByteArray)(x:Sv):Bool:=(x.nm.toList==name.toList)&&((emp tag||(x.tg.toList==tag.toList))&&(x.ps&& !x.gn))
def Dc(l:List Sv)(name tag:ByteArray):List Sv:=l.filter (Sv.sought name tag)
theorem T4{l:List Sv}{name tag:ByteArray}{k:Nat}(hk:k<l.length):Dc (l.take (k+1)) name tag=if Sv.sought name tag l[k]=true then Dc (l.take k) name tag++[l[k]]else Dc (l.take k) name tag:=by
 unfold Dc;rw[Ajb hk,List.filter_append];split<;>rename_i h<;>simp[h]
theorem Np(l:List Sv)(name tag:ByteArray):(Dc l name tag).length≤l.length:=List.length_filter_le _ _
def C8(l:List Sv)(name tag:ByteArray):Int×List Sv:=if Ei l≠0 then(Ei l,[])else if lab name.data.toList=false then(1,[])else if Sp tag=false then(1,[])else(0,Dc l name tag)
end Pl

theorem Apm(l:List Sv)(name tag:ByteArray)(hl:l.length≤9223372036854775807)(hw:∀x∈l,x.ok)(hname:name.size≤9223372036854775807)(htag:tag.size≤9223372036854775807):Fun Tryz.prog 54 [.c (.sl false (l.map Sv.row)),.c (.v (.string name)),.c (.v (.string tag))] [.c (.sl false ((C8 l name tag).2.map Sv.row)),.c (.v (.int .i64 (C8 l name tag).1))]:=by
 refine Ar Pb rfl ?_;refine G1 ?_;intro gg;(refine .inl ⟨_,_,true,[],aI,Tb false [l] (by simp) (by simpa using hl) (by simpa using hw),(fun _=>fI),nI,?_⟩);rw[J9];refine G1 ?_;intro gg;(refine Aa (fun h1=>?_) (fun h1=>?_)<;>rw[h1])
 ·have h1':Ei l≠0:=by simpa using h1
  refine G0 ?_;rw[show C8 l name tag=(Ei l,[])by simp[C8,h1']];(exact⟨[],aI⟩)
 ·have hc:Ei l=0:=by simpa using h1
  have hi:=Jo hc;clear h1;refine G0 ?_;(refine .inl ⟨_,_,false,[],aI,El name hname,Ab,nI,?_⟩);refine G1 ?_;intro gg;(refine Aa (fun h2=>?_) (fun h2=>?_)<;>rw[h2])
  ·refine G0 ?_;rw[show C8 l name tag=(1,[])by simp[C8,hc,Dr h2]];(exact⟨[],aI⟩)
  ·refine G0 ?_;(refine .inl ⟨_,_,false,[],aI,W7 tag htag,Ab,nI,?_⟩);refine G1 ?_;intro gg;(refine Aa (fun h3=>?_) (fun h3=>?_)<;>rw[h3])
   ·refine G0 ?_;rw[show C8 l name tag=(1,[])by simp[C8,hc,Bw h2,Dr h3]];(exact⟨[],aI⟩)
   ·have hF:C8 l name tag=(0,Dc l name tag):=by simp[C8,hc,Bw h2,Bw h3]
    clear h2 h3;refine G0 ?_;rw[ZE];(refine⟨[(9,144,39,9)],none,{p:Nat×Nat//p.1≤l.length},[1,2,26,27],fun⟨⟨k,g⟩,hk⟩=>[(9,.own 144 g),(28,.v (.int .i64 k))],[],fun⟨⟨k,g⟩,hk⟩=>[(144,⟨g,39,9,(Dc (l.take k) name tag).map Sv.row⟩)],fun⟨⟨k,g⟩,hk⟩=>l.length-k,(by exact⟨rfl,by decide,(fun _ _ _ _ h=>by cases h),trivial⟩),fun gs=>⟨trivial,fun _=>⟨⟨(0,gs 144),by omega⟩,tI,tI,tI,tI⟩⟩,fun⟨⟨k,g⟩,hk⟩=>?_⟩);have hk':k≤l.length:=hk;have hlen:=Np (l.take k) name tag;rw[ZM]at hlen;refine G0 ?_;(refine Aa (fun h0=>?_) (fun h0=>?_)<;>rw[h0])
    ·have hlt:k<l.length:=(by have:=ZV h0;omega);have hn:=T4 (name:=name) (tag:=tag) hlt;refine G0 ?_;refine⟨k,_,rfl,Ad hlt,?_⟩;refine G1 ?_;intro gg;(refine Aa (fun h1=>?_) (fun h1=>?_)<;>rw[h1])
     ·refine G0 ?_;(refine Aa (fun h2=>?_) (fun h2=>?_)<;>rw[h2])
      ·have h2':emp tag=true:=h2;refine G0 ?_;(refine Aa (fun h4=>?_) (fun h4=>?_)<;>rw[h4])
       ·refine G0 ?_;(refine Aa (fun h5=>?_) (fun h5=>?_)<;>rw[h5])
        ·skip
         have hs:Sv.sought name tag l[k]=true:=by unfold Sv.sought;rw[h1,h2',h4,h5];rfl
         rw[if_pos hs]at hn;refine G1 ?_;intro gg;refine⟨lI,lI,?_⟩;refine G1 ?_;intro gg;have hn':(Dc (l.take (k+1)) name tag).map Sv.row=(Dc (l.take k) name tag).map Sv.row++[[.v (.string l[k].nd),.v (.string l[k].id),.v (.string l[k].nm),.v (.string l[k].tg),.v (.int .i64 l[k].ad),.v (.int .i64 l[k].pt),.v (.bool true),.v (.int .i64 l[k].vs),.v (.bool l[k].gn)]]:=by
          rw[hn,ZI];show _++[Sv.row l[k]]=_;unfold Sv.row;rw[h4]
         (exact⟨none,trivial,fun gr=>⟨⟨(k+1,gg),by dsimp only;omega⟩,by show l.length-(k+1)<l.length-k;omega,hxI hn',hxI hn',hxI hn',hxI hn'⟩⟩)
        ·skip
         have hs:Sv.sought name tag l[k]=false:=by unfold Sv.sought;rw[h1,h2',h4,h5];rfl
         rw[if_neg (by rw[hs];decide)]at hn;refine G0 ?_;(exact⟨none,trivial,fun gr=>⟨⟨(k+1,g),by dsimp only;omega⟩,by show l.length-(k+1)<l.length-k;omega,hxI hn,hxI hn,hxI hn,hxI hn⟩⟩)
       ·skip
        have hs:Sv.sought name tag l[k]=false:=by unfold Sv.sought;rw[h1,h2',h4];rfl
        rw[if_neg (by rw[hs];decide)]at hn;refine G0 ?_;(exact⟨none,trivial,fun gr=>⟨⟨(k+1,g),by dsimp only;omega⟩,by show l.length-(k+1)<l.length-k;omega,hxI hn,hxI hn,hxI hn,hxI hn⟩⟩)
      ·have h2':emp tag=false:=h2;refine G0 ?_;(refine Aa (fun h3=>?_) (fun h3=>?_)<;>rw[h3])
       ·have h3':=h3;refine G0 ?_;(refine Aa (fun h4=>?_) (fun h4=>?_)<;>rw[h4])
        ·refine G0 ?_;(refine Aa (fun h5=>?_) (fun h5=>?_)<;>rw[h5])
         ·skip
          have hs:Sv.sought name tag l[k]=true:=by unfold Sv.sought;rw[h1,h2',h3',h4,h5];rfl
          rw[if_pos hs]at hn;refine G1 ?_;intro gg;refine⟨lI,lI,?_⟩;refine G1 ?_;intro gg;have hn':(Dc (l.take (k+1)) name tag).map Sv.row=(Dc (l.take k) name tag).map Sv.row++[[.v (.string l[k].nd),.v (.string l[k].id),.v (.string l[k].nm),.v (.string l[k].tg),.v (.int .i64 l[k].ad),.v (.int .i64 l[k].pt),.v (.bool true),.v (.int .i64 l[k].vs),.v (.bool l[k].gn)]]:=by
           rw[hn,ZI];show _++[Sv.row l[k]]=_;unfold Sv.row;rw[h4]
          (exact⟨none,trivial,fun gr=>⟨⟨(k+1,gg),by dsimp only;omega⟩,by show l.length-(k+1)<l.length-k;omega,hxI hn',hxI hn',hxI hn',hxI hn'⟩⟩)
         ·skip
          have hs:Sv.sought name tag l[k]=false:=by unfold Sv.sought;rw[h1,h2',h3',h4,h5];rfl
          rw[if_neg (by rw[hs];decide)]at hn;refine G0 ?_;(exact⟨none,trivial,fun gr=>⟨⟨(k+1,g),by dsimp only;omega⟩,by show l.length-(k+1)<l.length-k;omega,hxI hn,hxI hn,hxI hn,hxI hn⟩⟩)
        ·skip
         have hs:Sv.sought name tag l[k]=false:=by unfold Sv.sought;rw[h1,h2',h3',h4];rfl
         rw[if_neg (by rw[hs];decide)]at hn;refine G0 ?_;(exact⟨none,trivial,fun gr=>⟨⟨(k+1,g),by dsimp only;omega⟩,by show l.length-(k+1)<l.length-k;omega,hxI hn,hxI hn,hxI hn,hxI hn⟩⟩)
       ·have h3':=h3;have hs:Sv.sought name tag l[k]=false:=by unfold Sv.sought;rw[h1,h2',h3'];rfl
        rw[if_neg (by rw[hs];decide)]at hn;refine G0 ?_;(exact⟨none,trivial,fun gr=>⟨⟨(k+1,g),by dsimp only;omega⟩,by show l.length-(k+1)<l.length-k;omega,hxI hn,hxI hn,hxI hn,hxI hn⟩⟩)
     ·skip
      have hs:Sv.sought name tag l[k]=false:=by unfold Sv.sought;rw[h1];rfl
      rw[if_neg (by rw[hs];decide)]at hn;refine G0 ?_;(exact⟨none,trivial,fun gr=>⟨⟨(k+1,g),by dsimp only;omega⟩,by show l.length-(k+1)<l.length-k;omega,hxI hn,hxI hn,hxI hn,hxI hn⟩⟩)
    ·have hge:l.length≤k:=(by have:=ZW h0;omega);obtain rfl:k=l.length:=by omega
     refine G0 ?_;rw[hF,show Dc l name tag=Dc (l.take l.length) name tag by rw[XF]];(exact⟨[],aI⟩)
theorem Ajs(l:List Sv)(name tag:ByteArray)(hl:l.length≤9223372036854775807)(hw:∀x∈l,x.ok)(hname:name.size≤9223372036854775807)(htag:tag.size≤9223372036854775807):Fun Tryz.prog 54 [.c (.sl false (l.map Sv.row)),.c (.v (.string name)),.c (.v (.string tag))] [.o 39 9 ((C8 l name tag).2.map Sv.row),.c (.v (.int .i64 (C8 l name tag).1))]:=by
 refine Ar Pb rfl ?_;refine G1 ?_;intro gg;(refine .inl ⟨_,_,true,[],aI,Tb false [l] (by simp) (by simpa using hl) (by simpa using hw),(fun _=>fI),nI,?_⟩);rw[J9];refine G1 ?_;intro gg;(refine Aa (fun h1=>?_) (fun h1=>?_)<;>rw[h1])
 ·have h1':Ei l≠0:=by simpa using h1
  refine G0 ?_;rw[show C8 l name tag=(Ei l,[])by simp[C8,h1']];(exact⟨[],aI⟩)
 ·have hc:Ei l=0:=by simpa using h1
  have hi:=Jo hc;clear h1;refine G0 ?_;(refine .inl ⟨_,_,false,[],aI,El name hname,Ab,nI,?_⟩);refine G1 ?_;intro gg;(refine Aa (fun h2=>?_) (fun h2=>?_)<;>rw[h2])
  ·refine G0 ?_;rw[show C8 l name tag=(1,[])by simp[C8,hc,Dr h2]];(exact⟨[],aI⟩)
  ·refine G0 ?_;(refine .inl ⟨_,_,false,[],aI,W7 tag htag,Ab,nI,?_⟩);refine G1 ?_;intro gg;(refine Aa (fun h3=>?_) (fun h3=>?_)<;>rw[h3])
   ·refine G0 ?_;rw[show C8 l name tag=(1,[])by simp[C8,hc,Bw h2,Dr h3]];(exact⟨[],aI⟩)
   ·have hF:C8 l name tag=(0,Dc l name tag):=by simp[C8,hc,Bw h2,Bw h3]
    clear h2 h3;refine G0 ?_;rw[ZE];(refine⟨[(9,144,39,9)],none,{p:Nat×Nat//p.1≤l.length},[1,2,26,27],fun⟨⟨k,g⟩,hk⟩=>[(9,.own 144 g),(28,.v (.int .i64 k))],[],fun⟨⟨k,g⟩,hk⟩=>[(144,⟨g,39,9,(Dc (l.take k) name tag).map Sv.row⟩)],fun⟨⟨k,g⟩,hk⟩=>l.length-k,(by exact⟨rfl,by decide,(fun _ _ _ _ h=>by cases h),trivial⟩),fun gs=>⟨trivial,fun _=>⟨⟨(0,gs 144),by omega⟩,tI,tI,tI,tI⟩⟩,fun⟨⟨k,g⟩,hk⟩=>?_⟩);have hk':k≤l.length:=hk;have hlen:=Np (l.take k) name tag;rw[ZM]at hlen;refine G0 ?_;(refine Aa (fun h0=>?_) (fun h0=>?_)<;>rw[h0])
    ·have hlt:k<l.length:=(by have:=ZV h0;omega);have hn:=T4 (name:=name) (tag:=tag) hlt;refine G0 ?_;refine⟨k,_,rfl,Ad hlt,?_⟩;refine G1 ?_;intro gg;(refine Aa (fun h1=>?_) (fun h1=>?_)<;>rw[h1])
     ·refine G0 ?_;(refine Aa (fun h2=>?_) (fun h2=>?_)<;>rw[h2])
      ·have h2':emp tag=true:=h2;refine G0 ?_;(refine Aa (fun h4=>?_) (fun h4=>?_)<;>rw[h4])
       ·refine G0 ?_;(refine Aa (fun h5=>?_) (fun h5=>?_)<;>rw[h5])
        ·skip
         have hs:Sv.sought name tag l[k]=true:=by unfold Sv.sought;rw[h1,h2',h4,h5];rfl
         rw[if_pos hs]at hn;refine G1 ?_;intro gg;refine⟨lI,lI,?_⟩;refine G1 ?_;intro gg;have hn':(Dc (l.take (k+1)) name tag).map Sv.row=(Dc (l.take k) name tag).map Sv.row++[[.v (.string l[k].nd),.v (.string l[k].id),.v (.string l[k].nm),.v (.string l[k].tg),.v (.int .i64 l[k].ad),.v (.int .i64 l[k].pt),.v (.bool true),.v (.int .i64 l[k].vs),.v (.bool l[k].gn)]]:=by
          rw[hn,ZI];show _++[Sv.row l[k]]=_;unfold Sv.row;rw[h4]
         (exact⟨none,trivial,fun gr=>⟨⟨(k+1,gg),by dsimp only;omega⟩,by show l.length-(k+1)<l.length-k;omega,hxI hn',hxI hn',hxI hn',hxI hn'⟩⟩)
        ·skip
         have hs:Sv.sought name tag l[k]=false:=by unfold Sv.sought;rw[h1,h2',h4,h5];rfl
         rw[if_neg (by rw[hs];decide)]at hn;refine G0 ?_;(exact⟨none,trivial,fun gr=>⟨⟨(k+1,g),by dsimp only;omega⟩,by show l.length-(k+1)<l.length-k;omega,hxI hn,hxI hn,hxI hn,hxI hn⟩⟩)
       ·skip
        have hs:Sv.sought name tag l[k]=false:=by unfold Sv.sought;rw[h1,h2',h4];rfl
        rw[if_neg (by rw[hs];decide)]at hn;refine G0 ?_;(exact⟨none,trivial,fun gr=>⟨⟨(k+1,g),by dsimp only;omega⟩,by show l.length-(k+1)<l.length-k;omega,hxI hn,hxI hn,hxI hn,hxI hn⟩⟩)
      ·have h2':emp tag=false:=h2;refine G0 ?_;(refine Aa (fun h3=>?_) (fun h3=>?_)<;>rw[h3])
       ·have h3':=h3;refine G0 ?_;(refine Aa (fun h4=>?_) (fun h4=>?_)<;>rw[h4])
        ·refine G0 ?_;(refine Aa (fun h5=>?_) (fun h5=>?_)<;>rw[h5])
         ·skip
          have hs:Sv.sought name tag l[k]=true:=by unfold Sv.sought;rw[h1,h2',h3',h4,h5];rfl
          rw[if_pos hs]at hn;refine G1 ?_;intro gg;refine⟨lI,lI,?_⟩;refine G1 ?_;intro gg;have hn':(Dc (l.take (k+1)) name tag).map Sv.row=(Dc (l.take k) name tag).map Sv.row++[[.v (.string l[k].nd),.v (.string l[k].id),.v (.string l[k].nm),.v (.string l[k].tg),.v (.int .i64 l[k].ad),.v (.int .i64 l[k].pt),.v (.bool true),.v (.int .i64 l[k].vs),.v (.bool l[k].gn)]]:=by
           rw[hn,ZI];show _++[Sv.row l[k]]=_;unfold Sv.row;rw[h4]
          (exact⟨none,trivial,fun gr=>⟨⟨(k+1,gg),by dsimp only;omega⟩,by show l.length-(k+1)<l.length-k;omega,hxI hn',hxI hn',hxI hn',hxI hn'⟩⟩)
         ·skip
          have hs:Sv.sought name tag l[k]=false:=by unfold Sv.sought;rw[h1,h2',h3',h4,h5];rfl
          rw[if_neg (by rw[hs];decide)]at hn;refine G0 ?_;(exact⟨none,trivial,fun gr=>⟨⟨(k+1,g),by dsimp only;omega⟩,by show l.length-(k+1)<l.length-k;omega,hxI hn,hxI hn,hxI hn,hxI hn⟩⟩)
        ·skip
         have hs:Sv.sought name tag l[k]=false:=by unfold Sv.sought;rw[h1,h2',h3',h4];rfl
         rw[if_neg (by rw[hs];decide)]at hn;refine G0 ?_;(exact⟨none,trivial,fun gr=>⟨⟨(k+1,g),by dsimp only;omega⟩,by show l.length-(k+1)<l.length-k;omega,hxI hn,hxI hn,hxI hn,hxI hn⟩⟩)
       ·have h3':=h3;have hs:Sv.sought name tag l[k]=false:=by unfold Sv.sought;rw[h1,h2',h3'];rfl
        rw[if_neg (by rw[hs];decide)]at hn;refine G0 ?_;(exact⟨none,trivial,fun gr=>⟨⟨(k+1,g),by dsimp only;omega⟩,by show l.length-(k+1)<l.length-k;omega,hxI hn,hxI hn,hxI hn,hxI hn⟩⟩)
     ·skip
      have hs:Sv.sought name tag l[k]=false:=by unfold Sv.sought;rw[h1];rfl
      rw[if_neg (by rw[hs];decide)]at hn;refine G0 ?_;(exact⟨none,trivial,fun gr=>⟨⟨(k+1,g),by dsimp only;omega⟩,by show l.length-(k+1)<l.length-k;omega,hxI hn,hxI hn,hxI hn,hxI hn⟩⟩)
    ·have hge:l.length≤k:=(by have:=ZW h0;omega);obtain rfl:k=l.length:=by omega
     refine G0 ?_;rw[hF,show Dc l name tag=Dc (l.take l.length) name tag by rw[XF]];(exact⟨[144],aI⟩)
namespace Pl
structure Mb where
 n:ByteArray
 st:Int
 lf:Int
 ad:Int
 sv:Bool
def Mb.enc(m:Mb):List Value:=[.string m.n,.int .i64 m.st,.int .i64 m.lf,.int .i64 m.ad,.bool m.sv]
def Mb.row(m:Mb):List V:=[.v (.string m.n),.v (.int .i64 m.st),.v (.int .i64 m.lf),.v (.int .i64 m.ad),.v (.bool m.sv)]
instance:FlatRow Mb.row:=⟨fun x u hu=>by simp[Mb.row]at hu;rcases hu with rfl|rfl|rfl|rfl|rfl<;>exact⟨_,rfl⟩⟩
def Mb.ok(m:Mb):Prop:=m.n.size≤9223372036854775807
def Mb.err(m:Mb):Int:=if lab m.n.data.toList then(if wi m.st 1 4 then(if wi m.lf 1 1000000&&wi m.ad 0 4294967295 then 0 else 3)else 7)else 1
def Mb.lt(g h:Mb):Bool:=slt g.n h.n
def F6(l:List Mb):Int:=ckL 20 Mb.err Mb.lt l
def Mb.cf(name:ByteArray)(g:Mb):Int:=Ey g.n name
def Mb.kf(g x:Mb):Int:=Mb.cf g.n x
def Mb.cmp(g x:Mb):Int:=B3 [E9 g.lf x.lf,E9 g.st x.st,E9 g.ad x.ad,E9 (b2i g.sv) (b2i x.sv)]
def Mb.nw(g x:Mb):Bool:=decide (0<Mb.cmp g x)
def Mb.is(name:ByteArray)(m:Mb):Bool:=m.n.toList==name.toList
def Mb.same(g h:Mb):Bool:=(g.n.toList==h.n.toList)&&((g.st==h.st)&&((g.lf==h.lf)&&((g.ad==h.ad)&&((g.sv==h.sv)&&true))))
theorem Mb.err_cases(m:Mb):m.err=0∨m.err=1∨m.err=3∨m.err=7:=by
 unfold Mb.err;split
 ·split
  ·split<;>simp
  ·simp
 ·simp
theorem Mb.lt_trans(x y z:Mb)(h1:Mb.lt x y=true)(h2:Mb.lt y z=true):Mb.lt x z=true:=Kj h1 h2
theorem Mb.lt_cf(name:ByteArray)(x y:Mb)(h:Mb.lt x y=true)(hy:Mb.cf name y≤0):Mb.cf name x<0:=by
 unfold Mb.cf at *;rw[Qu];rcases Bool.eq_false_or_eq_true (slt y.n name)with g|g
 ·exact Kj h g
 ·have h0:Ey y.n name=0:=by
   rcases(by omega:Ey y.n name<0∨Ey y.n name=0)with q|q
   ·rw[Qu]at q;rw[q]at g;cases g
   ·exact q
  rw[Gk]at h0;rw[←h0];exact h
theorem P4{l:List Mb}(h:F6 l=0):l.length≤20∧(∀i,(hi:i<l.length)→(l[i]).err=0)∧Cz Mb.lt l=true:=Ama Mb.err_cases h
theorem Mb.smono{l:List Mb}(h:Cz Mb.lt l=true)(name:ByteArray):Aaj (Mb.cf name) l:=Ahm Mb.lt_trans (Mb.lt_cf name) h
def Mb.ne(m x:Mb):Bool:= !(x.n.toList==m.n.toList)
theorem Mb.is_eq(name:ByteArray):Mb.is name=fun x=>decide (Mb.cf name x=0):=by
 funext x;unfold Mb.is Mb.cf;by_cases h:x.n=name
 ·rw[h,Uw];simp
 ·have h2:Ey x.n name≠0:=fun e=>h (Gk.1 e);rw[V2 h];simp[h2]
theorem Mb.ne_eq(m:Mb):Mb.ne m=fun x=>decide (Mb.kf m x≠0):=by
 funext x;have:=congrFun (Mb.is_eq m.n) x;unfold Mb.is at this;unfold Mb.ne Mb.kf;rw[this];simp
theorem Aww(row:List V)(h:Qp [.s,.i,.i,.i,.b] row):∃m:Mb,row=m.row∧m.ok:=by
 obtain⟨u0,_,rfl,f0,h⟩:=Ap h;obtain⟨u1,_,rfl,f1,h⟩:=Ap h;obtain⟨u2,_,rfl,f2,h⟩:=Ap h;obtain⟨u3,_,rfl,f3,h⟩:=Ap h;obtain⟨u4,_,rfl,f4,h⟩:=Ap h;obtain rfl:=Ln h;obtain⟨n,rfl,hn⟩:=K3 f0;obtain⟨a,rfl,_⟩:=Ge f1;obtain⟨b,rfl,_⟩:=Ge f2;obtain⟨c,rfl,_⟩:=Ge f3;obtain⟨d,rfl⟩:=Ahf f4;exact⟨⟨n,a,b,c,d⟩,rfl,hn⟩
end Pl
theorem Qx(n a b:Int):Fun Tryz.prog 143 [.c (.v (.int .i64 n)),.c (.v (.int .i64 a)),.c (.v (.int .i64 b))] [.c (.v (.bool (wi n a b)))]:=by
 refine Ar Xd rfl ?_;refine G0 ?_;(refine Aa (fun h=>?_) (fun h=>?_)<;>rw[h])
 ·refine G0 ?_;rw[Aur h];(exact⟨[],aI⟩)
 ·refine G0 ?_;rw[Av8 h];(exact⟨[],aI⟩)
theorem Apq(m:Mb)(hm:m.ok):Fun Tryz.prog 132 [.c (.agg m.row)] [.c (.v (.int .i64 m.err))]:=by
 refine Ar Ac4 rfl ?_;refine G1 ?_;intro gg;(refine .inl ⟨_,_,false,[],aI,El _ hm,Ab,nI,?_⟩);refine G1 ?_;intro gg;(refine Aa (fun h1=>?_) (fun h1=>?_)<;>rw[h1])
 ·refine G0 ?_
  (rw[show m.err=1 from by(first|(simp_all;done)|(unfold Mb.err;simp_all))];(exact⟨[],aI⟩))
 ·refine G0 ?_;(refine .inl ⟨_,_,false,[],aI,Qx _ _ _,Ab,nI,?_⟩);refine G1 ?_;intro gg;(refine Aa (fun h2=>?_) (fun h2=>?_)<;>rw[h2])
  ·refine G0 ?_
   (rw[show m.err=7 from by(first|(simp_all;done)|(unfold Mb.err;simp_all))];(exact⟨[],aI⟩))
  ·refine G0 ?_;(refine .inl ⟨_,_,false,[],aI,Qx _ _ _,Ab,nI,?_⟩);refine G1 ?_;intro gg;(refine Aa (fun h3=>?_) (fun h3=>?_)<;>rw[h3])
   ·refine G0 ?_
    (rw[show m.err=3 from by(first|(simp_all;done)|(unfold Mb.err;simp_all))];(exact⟨[],aI⟩))
   ·refine G0 ?_;(refine .inl ⟨_,_,false,[],aI,Qx _ _ _,Ab,nI,?_⟩);refine G1 ?_;intro gg;(refine Aa (fun h4=>?_) (fun h4=>?_)<;>rw[h4])
    ·refine G0 ?_
     (rw[show m.err=3 from by(first|(simp_all;done)|(unfold Mb.err;simp_all))];(exact⟨[],aI⟩))
    ·refine G0 ?_
     (rw[show m.err=0 from by(first|(simp_all;done)|(unfold Mb.err;simp_all))];(exact⟨[],aI⟩))

end Go.Proofs.YtbnocibpoghfhaaGreatDoor

namespace Go.Proofs.YtbnocibpoghfhaaGreatDoor
open Go.RowKit Pl
theorem Anv(c:Bool)(l:List Mb)(hl:l.length≤9223372036854775807)(hw:∀m∈l,m.ok):Fun Tryz.prog 117 [.c (.sl c (l.map Mb.row))] [.c (.v (.int .i64 (Bm Mb.err l)))]:=by
 refine Ar Abh rfl ?_;refine G0 ?_;rw[ZE];(refine⟨[],none,{k:Nat//k≤l.length∧∀j,(h:j<l.length)→j<k→(l[j]).err=0},[6,7],fun⟨k,hk,h0⟩=>[(8,.v (.int .i64 k))],[],fun⟨k,hk,h0⟩=>[],fun⟨k,hk,h0⟩=>l.length-k,trivial,fun _=>⟨trivial,fun _=>⟨⟨0,by omega,fun j _ h=>by omega⟩,tI,Af _ _,tI,Ae _ _⟩⟩,fun⟨k,hk,h0⟩=>?_⟩);refine G0 ?_;(refine Aa (fun h=>?_) (fun h=>?_)<;>rw[h])
 ·have hlt:k<l.length:=by simpa using h
  refine G0 ?_;refine⟨k,_,rfl,Ad hlt,?_⟩;refine G1 ?_;intro gg;(refine .inl ⟨_,_,false,[],aI,Apq _ (hw _ (ZK hlt)),Ab,nI,?_⟩);refine G1 ?_;intro gg;(refine Aa (fun h=>?_) (fun h=>?_)<;>rw[h])
  ·refine G0 ?_;rw[Ff hlt h0 (by simpa using h)];(exact⟨[],aI⟩)
  ·refine G0 ?_;(exact⟨none,trivial,fun _=>⟨⟨k+1,by omega,up1 (p:=fun j h=>(l[j]).err=0) h0 (fun _=>by simpa using h)⟩,by show l.length-(k+1)<l.length-k;omega,tI,tI,tI,tI⟩⟩)
 ·have hge:¬k<l.length:=by simpa using h
  refine G0 ?_;rw[Dm (l:=l) (fun i hi=>h0 i hi (by omega))];(exact⟨[],aI⟩)
def Ayd(l:List Mb):List V:=[.sl false (l.map Mb.row)]
theorem Ako(c:Bool)(ls:List (List Mb))(hls:ls.length≤9223372036854775807)(hl:∀l∈ls,l.length≤9223372036854775807)(hw:∀l∈ls,∀m∈l,m.ok):Fun Tryz.prog 84 [.c (.sl c (ls.map Ayd))] [.c (.v (.int .i64 (Bm F6 ls)))]:=by
 refine Ar Yc rfl ?_;refine G0 ?_;rw[ZE];(refine⟨[],none,{k:Nat//k≤ls.length∧∀j,(h:j<ls.length)→j<k→F6 (ls[j])=0},[7,8],fun⟨k,hk,h0⟩=>[(9,.v (.int .i64 k))],[],fun⟨k,hk,h0⟩=>[],fun⟨k,hk,h0⟩=>ls.length-k,trivial,fun _=>⟨trivial,fun _=>⟨⟨0,by omega,fun j _ h=>by omega⟩,tI,Af _ _,tI,Ae _ _⟩⟩,fun⟨k,hk,h0⟩=>?_⟩);refine G0 ?_;(refine Aa (fun h=>?_) (fun h=>?_)<;>rw[h])
 ·have hlt:k<ls.length:=by simpa using h
  refine G0 ?_;refine⟨k,_,rfl,Ad hlt,?_⟩;refine G0 ?_;have HL:=hl _ (ZK hlt);have HW:=hw _ (ZK hlt);have HE:=Ff (e:=F6) hlt h0;have HN:F6 ls[k]=0→∀j,(h:j<ls.length)→j<k+1→F6 (ls[j])=0:=fun e=>up1 (p:=fun j h=>F6 (ls[j])=0) h0 (fun _=>e);generalize ls[k]=l at *;rw[ZE];(refine Aa (fun h1=>?_) (fun h1=>?_)<;>rw[h1])
  ·refine G0 ?_;have e:F6 l=2:=T6 (by have:=ZV h1;omega);rw[HE (by rw[e];decide),e];(exact⟨[],aI⟩)
  ·have h1':¬20<l.length:=(by have:=ZW h1;omega);refine G0 ?_;(refine .inl ⟨_,_,false,[],aI,Anv false l HL HW,Ab,nI,?_⟩);refine G1 ?_;intro gg;(refine Aa (fun h2=>?_) (fun h2=>?_)<;>rw[h2])
   ·have h2':Bm Mb.err l≠0:=by simpa using h2
    refine G0 ?_;have e:F6 l=Bm Mb.err l:=U4 h1' h2';rw[HE (by rw[e];exact h2'),e];(exact⟨[],aI⟩)
   ·have h2':Bm Mb.err l=0:=by simpa using h2
    refine G0 ?_;(refine⟨[],none,{k:Nat//(k<l.length∨k=0)∧∀i,(h:i+1<l.length)→i<k→Mb.lt l[i] l[i+1]=true},[4,7,8,9],fun⟨q,hq,g0⟩=>[(6,.v (.int .i64 ((q:Int)+1)))],[],fun⟨q,hq,g0⟩=>[],fun⟨q,hq,g0⟩=>l.length-q,trivial,fun _=>⟨trivial,fun _=>⟨⟨0,by omega,fun j _ h=>by omega⟩,tI,Af _ _,tI,Ae _ _⟩⟩,fun⟨q,hq,g0⟩=>?_⟩);refine G0 ?_;rw[ZE];(refine Aa (fun h3=>?_) (fun h3=>?_)<;>rw[h3])
    ·have hlt3:q+1<l.length:=(by have:=ZV h3;omega);refine G0 ?_;refine⟨q+1,_,by omega,Ad hlt3,?_⟩;refine G0 ?_;refine⟨q,_,by omega,Ad (by omega),?_⟩;refine G0 ?_;rw[Afe];(refine Aa (fun h4=>?_) (fun h4=>?_)<;>rw[h4])
     ·refine G0 ?_;have e:F6 l=4:=Aet h1' h2' (K0 hlt3 (by simpa[Mb.lt]using h4));rw[HE (by rw[e];decide),e];(exact⟨[],aI⟩)
     ·refine G0 ?_;(exact⟨none,trivial,fun _=>⟨⟨q+1,by omega,up2 (p:=fun i h=>Mb.lt l[i] l[i+1]=true) g0 (fun _=>by simpa[Mb.lt]using h4)⟩,by show l.length-(q+1)<l.length-q;omega,tI,tI,tI,tI⟩⟩)
    ·have hge3:¬q+1<l.length:=(by have:=ZW h3;omega);refine G0 ?_;have e:F6 l=0:=Yx h1' h2' (Kd fun i hi=>g0 i hi (by omega));(exact⟨none,trivial,fun _=>⟨⟨k+1,by omega,HN e⟩,by show ls.length-(k+1)<ls.length-k;omega,tI,tI,tI,tI⟩⟩)
 ·have hge:¬k<ls.length:=by simpa using h
  refine G0 ?_;rw[Dm (l:=ls) (fun i hi=>h0 i hi (by omega))];(exact⟨[],aI⟩)
theorem Akb(l:List Mb)(hl:l.length≤9223372036854775807)(hw:∀m∈l,m.ok):Fun Tryz.prog 46 [.c (.sl false (l.map Mb.row))] [.c (.v (.int .i64 (F6 l)))]:=by
 refine Ar Yk rfl ?_;refine G1 ?_;intro gg;(refine .inl ⟨_,_,true,[],aI,Ako false [l] (by simp) (by simpa using hl) (by simpa using hw),(fun _=>fI),nI,?_⟩);rw[J9];refine G1 ?_;intro gg;(exact⟨[],aI⟩)
theorem Alh(g:Mb)(name:ByteArray):Fun Tryz.prog 93 [.c (.agg g.row),.c (.v (.string name))] [.c (.v (.int .i64 (Mb.cf name g)))]:=by
 refine Ar W1 rfl ?_;refine G1 ?_;intro gg;(refine .inl ⟨_,_,false,[],aI,Aay _ _,Ab,nI,?_⟩);refine G1 ?_;intro gg;(exact⟨[],aI⟩)
theorem Au4(c:Bool)(l:List Mb)(name:ByteArray)(hl:l.length≤1000)(hm:Aj9 (Mb.cf name) l):Fun Tryz.prog 92 [.c (.sl c (l.map Mb.row)),.c (.v (.string name)),.c (.v (.func (.func 93) #[] #[]))] [.c (.v (.int .i64 (low (Mb.cf name) l))),.c (.v (.bool (hit (Mb.cf name) l)))]:=by
 refine Ar Dw rfl ?_;refine G0 ?_;rw[ZE];(refine⟨[],none,{p:Nat×Nat//p.1≤p.2∧p.2≤l.length∧(∀k,(h:k<l.length)→k<p.1→Mb.cf name l[k]<0)∧(∀k,(h:k<l.length)→p.2≤k→0≤Mb.cf name l[k])},[0,1,2,8],fun⟨⟨i,j⟩,h1,h2,h3,h4⟩=>[(9,.v (.int .i64 i)),(10,.v (.int .i64 j))],[],fun⟨⟨i,j⟩,h1,h2,h3,h4⟩=>[],fun⟨⟨i,j⟩,h1,h2,h3,h4⟩=>j-i,trivial,fun _=>⟨trivial,fun _=>⟨⟨(0,l.length),by omega,by omega,fun k _ h=>absurd h (by omega),fun k h h'=>absurd h (by omega)⟩,tI,Af _ _,tI,Ae _ _⟩⟩,fun⟨⟨i,j⟩,h1,h2,h3,h4⟩=>?_⟩);dsimp only at h1 h2 h3 h4;refine G0 ?_;(refine Aa (fun h=>?_) (fun h=>?_)<;>rw[h])
 ·have hlt:i<j:=(by have:=ZV h;omega);have hk:(i+j)/2<l.length:=by omega
  refine G0 ?_;refine⟨(i+j)/2,_,by omega,Ad hk,?_⟩;refine G0 ?_;(refine .inl ⟨_,_,false,[],aI,Alh _ _,Ab,nI,?_⟩);refine G1 ?_;intro gg;(refine Aa (fun h5=>?_) (fun h5=>?_)<;>rw[h5])
  ·have h5':Mb.cf name l[(i+j)/2]<0:=by simpa using h5
   refine G0 ?_;(exact⟨none,trivial,fun _=>⟨⟨((i+j)/2+1,j),by dsimp only;omega,h2,fun k hk' hka=>hm k ((i+j)/2) hk' hk (by dsimp only at hka;omega) h5',h4⟩,by show j-((i+j)/2+1)<j-i;omega,tI,tI,tI,tI⟩⟩)
  ·have h5':¬Mb.cf name l[(i+j)/2]<0:=by simpa using h5
   refine G0 ?_;(exact⟨none,trivial,fun _=>⟨⟨(i,(i+j)/2),by dsimp only;omega,by dsimp only;omega,h3,fun k hk' hka=>Int.not_lt.1 (fun h'=>h5' (hm ((i+j)/2) k hk hk' hka h'))⟩,by show(i+j)/2-i<j-i;omega,tI,tI,tI,tI⟩⟩)
 ·have hij:i=j:=(by have:=ZW h;omega);subst hij;have HE:=Apw (cf:=Mb.cf name) h2 h3 h4;refine G0 ?_;(refine Aa (fun h5=>?_) (fun h5=>?_)<;>rw[h5])
  ·have hin:i<l.length:=(by have:=ZV h5;omega);have HH:hit (Mb.cf name) l=decide (Mb.cf name l[i]=0):=by
    have hin':low (Mb.cf name) l<l.length:=by rw[←HE];exact hin
    rw[Aja hin'];simp only[←HE]
   refine G0 ?_;refine⟨i,_,rfl,Ad hin,?_⟩;refine G0 ?_;(refine .inl ⟨_,_,false,[],aI,Alh _ _,Ab,nI,?_⟩);refine G1 ?_;intro gg;rw[←HE,HH];(exact⟨[],aI⟩)
  ·have HH:hit (Mb.cf name) l=false:=Ale (by rw[←HE];exact(by have:=ZW h5;omega));refine G0 ?_;rw[←HE,HH];(exact⟨[],aI⟩)
theorem Ad0(c:Bool)(l:List Mb)(name:ByteArray)(hl:l.length≤1000)(hm:Aj9 (Mb.cf name) l):Fun Tryz.prog 50 [.c (.sl c (l.map Mb.row)),.c (.v (.string name))] [.c (.v (.int .i64 (low (Mb.cf name) l))),.c (.v (.bool (hit (Mb.cf name) l)))]:=by
 refine Ar Zc rfl ?_;refine G0 ?_;(refine .inl ⟨_,_,false,[],aI,Au4 c l name hl hm,Ab,nI,?_⟩);refine G1 ?_;intro gg;(exact⟨[],aI⟩)
end Go.Proofs.YtbnocibpoghfhaaGreatDoor
