/- Texts of this claim, joined. -/
import Derived.WalkKit
import Derived.Test.YtbnocibpoghfhaaGreatDoorProg
import Derived.Test.YtbnocibpoghfhaaGreatDoorWAbsQ
import Derived.KernelRfl
import Derived.Test.YtbnocibpoghfhaaGreatDoorRows
import Derived.ProofKit
import Derived.OpenShut
import Derived.Below
import Derived.ChangeSame
set_option linter.unusedSimpArgs false
set_option linter.unusedVariables false
namespace Go.Proofs.YtbnocibpoghfhaaGreatDoor
namespace Pl
theorem Adb:∀x:List UInt8,Op.bytesLess x x=false
 |[]=>rfl
 |a::x=>by simp[Op.bytesLess,Adb x,UInt8.lt_irrefl]
theorem Aim:∀{x y z:List UInt8},Op.bytesLess x y=true→Op.bytesLess y z=true→Op.bytesLess x z=true
 |[],_::_,[],_,h=>by simp[Op.bytesLess]at h
 |_,[],_,h,_=>by cases ‹List UInt8› <;>simp[Op.bytesLess]at h
 |[],b::y,c::z,_,_=>rfl
 |a::x,b::y,[],_,h=>by simp[Op.bytesLess]at h
 |a::x,b::y,c::z,h1,h2=>by
  simp only[Op.bytesLess,Bool.or_eq_true,decide_eq_true_eq,ZO,ZR]at h1 h2 ⊢;rcases h1 with h1|⟨rfl,h1⟩
  ·rcases h2 with h2|⟨rfl,h2⟩
   ·exact .inl (UInt8.lt_trans h1 h2)
   ·exact .inl h1
  ·rcases h2 with h2|⟨rfl,h2⟩
   ·exact .inl h2
   ·exact .inr ⟨rfl,Aim h1 h2⟩
theorem Aq2:∀{x y:List UInt8},Op.bytesLess x y=false→Op.bytesLess y x=false→x=y
 |[],[],_,_=>rfl
 |[],b::y,h,_=>by simp[Op.bytesLess]at h
 |a::x,[],_,h=>by simp[Op.bytesLess]at h
 |a::x,b::y,h1,h2=>by
  simp only[Op.bytesLess,Bool.or_eq_false_iff,decide_eq_false_iff_not,Bool.and_eq_false_iff]at h1 h2;have hab:a=b:=by
   have g1:¬a.toNat<b.toNat:=h1.1;have g2:¬b.toNat<a.toNat:=h2.1;exact UInt8.toNat_inj.1 (by omega)
  subst hab;have e1:Op.bytesLess x y=false:=by rcases h1.2 with h|h<;>simp_all
  have e2:Op.bytesLess y x=false:=by rcases h2.2 with h|h<;>simp_all
  rw[Aq2 e1 e2]
def slt(a b:ByteArray):Bool:=Op.bytesLess a.toList b.toList
theorem toList_inj{a b:ByteArray}(h:a.toList=b.toList):a=b:=by
 rw[ByteArray.toList_eq,ByteArray.toList_eq]at h;cases a;cases b;congr;exact Array.toList_inj.1 h
theorem Fj(a:ByteArray):slt a a=false:=Adb _
theorem Kj{a b c:ByteArray}(h1:slt a b=true)(h2:slt b c=true):slt a c=true:=Aim h1 h2
theorem Ry{a b:ByteArray}(h1:slt a b=false)(h2:slt b a=false):a=b:=toList_inj (Aq2 h1 h2)
theorem W6{a b:ByteArray}(h1:slt a b=true):slt b a=false:=by
 rcases Bool.eq_false_or_eq_true (slt b a)with h|h
 ·have:=Kj h1 h;rw[Fj]at this;cases this
 ·exact h
theorem Yw{a b:ByteArray}:(a.toList==b.toList)=true↔a=b:=by
 rw[ZR];exact⟨toList_inj,fun h=>by rw[h]⟩
theorem V2{a b:ByteArray}(h:a≠b):(a.toList==b.toList)=false:=by
 rcases Bool.eq_false_or_eq_true (a.toList==b.toList)with g|g
 ·exact absurd (Yw.1 g) h
 ·exact g
theorem Afe(a b:ByteArray):(Op.bytesLess a.toList b.toList||a.toList==b.toList)= !(slt b a):=by
 rcases Bool.eq_false_or_eq_true (slt b a)with h|h
 ·rw[h];have h1:=W6 h;unfold slt at h1;rw[h1,V2 (fun e=>by subst e;rw[Fj]at h;cases h)];rfl
 ·rw[h];rcases Bool.eq_false_or_eq_true (slt a b)with g|g
  ·unfold slt at g;rw[g];rfl
  ·have:=Ry g h;subst this;simp
end Pl
namespace Pl
def Ey(a b:ByteArray):Int:=if slt a b then -1 else if slt b a then 1 else 0
theorem Y0{a b:ByteArray}(h:slt a b=true):Ey a b= -1:=by simp[Ey,h]
theorem Yz{a b:ByteArray}(h:slt b a=true):Ey a b=1:=by simp[Ey,W6 h,h]
theorem Uw(a:ByteArray):Ey a a=0:=by simp[Ey,Fj]
theorem Qu{a b:ByteArray}:Ey a b<0↔slt a b=true:=by
 unfold Ey;split
 ·simp_all
 ·split<;>simp_all
theorem Gk{a b:ByteArray}:Ey a b=0↔a=b:=by
 unfold Ey;split
 ·rename_i h;exact⟨fun e=>by omega,fun e=>by subst e;rw[Fj]at h;cases h⟩
 ·split
  ·rename_i h;exact⟨fun e=>by omega,fun e=>by subst e;rw[Fj]at h;cases h⟩
  ·rename_i h1 h2;exact⟨fun _=>Ry (by simpa using h1) (by simpa using h2),fun _=>rfl⟩
section
variable {α:Type} {cf:α→Int} {l:List α}
def low(cf:α→Int):List α→Nat
 |[]=>0
 |x::r=>if cf x<0 then low cf r+1 else 0
def Aj9(cf:α→Int)(l:List α):Prop:=∀i j,(hi:i<l.length)→(hj:j<l.length)→i≤j→cf l[j]<0→cf l[i]<0
theorem Ar7:∀l:List α,low cf l≤l.length
 |[]=>ZT _
 |x::r=>by simp only[low,ZJ];split<;>have:=Ar7 r<;>omega
theorem Ab2:∀{l:List α} {i:Nat} (hi:i<l.length),i<low cf l→cf l[i]<0
 |x::r,0,_,h=>by
  simp only[low]at h;split at h
  ·assumption
  ·omega
 |x::r,i+1,hi,h=>by
  simp only[low]at h;split at h
  ·exact Ab2 (l:=r) (by simpa using hi) (by omega)
  ·omega
theorem Ajv:∀{l:List α} (h:low cf l<l.length),0≤cf l[low cf l]
 |[],h=>by simp at h
 |x::r,h=>by
  by_cases hx:cf x<0
  ·have e:low cf (x::r)=low cf r+1:=by simp[low,hx]
   have h':low cf r<r.length:=by rw[e]at h;simpa using h
   have:=Ajv h';simp only[e,List.getElem_cons_succ];exact this
  ·have e:low cf (x::r)=0:=by simp[low,hx]
   simp only[e,List.getElem_cons_zero];omega
theorem Apw{a:Nat}(ha:a≤l.length)(h1:∀i,(hi:i<l.length)→i<a→cf l[i]<0)(h2:∀i,(hi:i<l.length)→a≤i→0≤cf l[i]):a=low cf l:=by
 have hl:=Ar7 (cf:=cf) l;rcases Nat.lt_trichotomy a (low cf l)with h|h|h
 ·have:=Ab2 (cf:=cf) (l:=l) (i:=a) (by omega) h;have:=h2 a (by omega) (ZT _);omega
 ·exact h
 ·have:=Ajv (cf:=cf) (l:=l) (by omega);have:=h1 (low cf l) (by omega) h;omega
def hit(cf:α→Int)(l:List α):Bool:=match l[low cf l]? with
 |some x=>decide (cf x=0)
 |none=>false
theorem Aja(h:low cf l<l.length):hit cf l=decide (cf l[low cf l]=0):=by simp[hit,h]
theorem Ale(h:¬low cf l<l.length):hit cf l=false:=by
 have:l[low cf l]? =none:=XK (by omega);simp[hit,this]
end
end Pl
namespace Pl
section
variable {α:Type}
def Bm(e:α→Int):List α→Int
 |[]=>0
 |x::r=>if e x=0 then Bm e r else e x
def Cz(lt:α→α→Bool):List α→Bool
 |[]=>true
 |[_]=>true
 |x::y::r=>lt x y&&Cz lt (y::r)
def ckL(mx:Nat)(e:α→Int)(lt:α→α→Bool)(l:List α):Int:=
 if mx<l.length then 2 else if Bm e l=0 then(if Cz lt l then 0 else 4)else Bm e l
theorem Dm{e:α→Int}:∀{l:List α},(∀i,(h:i<l.length)→e l[i]=0)→Bm e l=0
 |[],_=>rfl
 |x::r,h=>by
  have h0:e x=0:=h 0 (by simp);simp only[Bm,h0,if_true];exact Dm fun i hi=>h (i+1) (by simpa using hi)
theorem Ff{e:α→Int}:∀{l:List α} {k:Nat} (hk:k<l.length),(∀i,(h:i<l.length)→i<k→e l[i]=0)→e l[k]≠0→Bm e l=e l[k]
 |x::r,0,_,_,hne=>by
  simp only[List.getElem_cons_zero]at hne ⊢;simp[Bm,hne]
 |x::r,k+1,hk,h,hne=>by
  have h0:e x=0:=h 0 (by simp) (by omega);simp only[Bm,h0,if_true,List.getElem_cons_succ]at hne ⊢;exact Ff (by simpa using hk) (fun i hi hik=>h (i+1) (by simpa using hi) (by omega)) hne
theorem Kd{lt:α→α→Bool}:∀{l:List α},(∀i,(h:i+1<l.length)→lt l[i] l[i+1]=true)→Cz lt l=true
 |[],_=>rfl
 |[_],_=>rfl
 |x::y::r,h=>by
  simp only[Cz,Bool.and_eq_true_iff];exact⟨h 0 (by simp),Kd fun i hi=>h (i+1) (by simpa using hi)⟩
theorem K0{lt:α→α→Bool}:∀{l:List α} {k:Nat} (hk:k+1<l.length),lt l[k] l[k+1]=false→Cz lt l=false
 |[_],k,hk,_=>by simp at hk
 |x::y::r,0,_,h=>by
  simp only[List.getElem_cons_zero,List.getElem_cons_succ]at h;simp[Cz,h]
 |x::y::r,k+1,hk,h=>by
  have:Cz lt (y::r)=false:=K0 (k:=k) (by simpa using hk) (by simpa using h);simp[Cz,this]
theorem Aau{lt:α→α→Bool}:∀{l:List α},Cz lt l=true→∀i,(h:i+1<l.length)→lt l[i] l[i+1]=true
 |[],_,i,h=>by simp at h
 |[_],_,i,h=>by simp at h
 |x::y::r,hs,0,_=>by
  simp only[Cz,Bool.and_eq_true_iff]at hs;exact hs.1
 |x::y::r,hs,i+1,h=>by
  simp only[Cz,Bool.and_eq_true_iff]at hs;exact Aau hs.2 i (by simpa using h)
theorem Ud{e:α→Int}:∀{l:List α},Bm e l=0→∀i,(h:i<l.length)→e l[i]=0
 |[],_,i,h=>by simp at h
 |x::r,hs,i,h=>by
  by_cases h0:e x=0
  ·simp only[Bm,h0,if_true]at hs;cases i with
   |zero=>exact h0
   |succ i=>exact Ud hs i (by simpa using h)
  ·simp[Bm,h0]at hs
variable {mx:Nat} {e:α→Int} {lt:α→α→Bool} {l:List α}
theorem T6(h:mx<l.length):ckL mx e lt l=2:=by simp[ckL,h]
theorem Ama(he:∀x,e x=0∨e x=1∨e x=3∨e x=7)(h:ckL mx e lt l=0):l.length≤mx∧(∀i,(hi:i<l.length)→e l[i]=0)∧Cz lt l=true:=by
 unfold ckL at h;split at h
 ·omega
 ·split at h
  ·rename_i h1 h2;split at h
   ·rename_i h3;exact⟨by omega,Ud h2,h3⟩
   ·omega
  ·rename_i h1 h2;exact absurd h h2
end
end Pl
namespace Pl
section
variable {α:Type}
def at_(p:α→Bool)(l:List α):Int:=match l.findIdx? p with
 |some i=>(i:Int)
 |none=> -1
theorem Vq{p:α→Bool}{l:List α}{k:Nat}(hk:k<l.length)(h0:∀i,(h:i<l.length)→i<k→p l[i]=false)(h1:p l[k]=true):at_ p l=k:=by
 have:l.findIdx? p=some k:=by
  rw[List.findIdx?_eq_some_iff_getElem];exact⟨hk,h1,fun j hj=>by simp[h0 j (by omega) hj]⟩
 simp[at_,this]
theorem Ad9{p:α→Bool}{l:List α}(h0:∀i,(h:i<l.length)→p l[i]=false):at_ p l= -1:=by
 have:l.findIdx? p=none:=by
  rw[List.findIdx?_eq_none_iff];intro x hx;obtain⟨i,hi,rfl⟩:=List.getElem_of_mem hx;exact h0 i hi
 simp[at_,this]
theorem Ajp{p:α→Bool}{l:List α}:(at_ p l= -1∧∀i,(h:i<l.length)→p l[i]=false)∨∃k,∃hk:k<l.length,at_ p l=(k:Int)∧p l[k]=true∧∀i,(h:i<l.length)→i<k→p l[i]=false:=by
 cases h:l.findIdx? p with
 |none=>
  left;refine⟨by simp[at_,h],fun i hi=>?_⟩;rw[List.findIdx?_eq_none_iff]at h;exact h _ (ZK hi)
 |some k=>
  right;rw[List.findIdx?_eq_some_iff_getElem]at h;obtain⟨hk,h1,h2⟩:=h;refine⟨k,hk,?_,h1,fun i hi hik=>by simpa using h2 i hik⟩;have:l.findIdx? p=some k:=by
   rw[List.findIdx?_eq_some_iff_getElem];exact⟨hk,h1,h2⟩
  simp[at_,this]
theorem Ajb{l:List α}{k:Nat}(hk:k<l.length):l.take (k+1)=l.take k++[l[k]]:=by
 rw[List.take_succ_eq_append_getElem hk]
end
end Pl
namespace Pl
section
variable {α:Type} {lt:α→α→Bool} {cf:α→Int} {l:List α}
theorem Ra(htr:∀x y z,lt x y=true→lt y z=true→lt x z=true)(hs:Cz lt l=true):∀j i,(hj:j<l.length)→(hij:i<j)→lt (l[i]'(by omega)) l[j]=true:=by
 intro j
 induction j with
 |zero=>intro i _ h;omega
 |succ j ih=>
  intro i hj hij;have h1:=Aau hs j hj;rcases(by omega:i<j∨i=j)with g|rfl
  ·exact htr _ _ _ (ih i (by omega) g) h1
  ·exact h1
def Aaj(cf:α→Int)(l:List α):Prop:=∀i j,(hj:j<l.length)→(hij:i<j)→cf l[j]≤0→cf (l[i]'(by omega))<0
theorem Ahm(htr:∀x y z,lt x y=true→lt y z=true→lt x z=true)(hcf:∀x y,lt x y=true→cf y≤0→cf x<0)(hs:Cz lt l=true):Aaj cf l:=
 fun i j hj hij h=>hcf _ _ (Ra htr hs j i hj hij) h
theorem Aaj.mono(h:Aaj cf l):Aj9 cf l:=fun i j hi hj hij hc=>by
 rcases(by omega:i<j∨i=j)with g|rfl
 ·exact h i j hj g (by omega)
 ·exact hc
theorem Mx(h:hit cf l=true):low cf l<l.length:=by
 rcases Nat.lt_or_ge (low cf l) l.length with g|g
 ·exact g
 ·rw[Ale (by omega)]at h;cases h
theorem Ais(h:hit cf l=true):cf (l[low cf l]'(Mx h))=0:=by
 have:=Aja (Mx h);rw[this]at h;simpa using h
theorem Apc{x:α}(hx:x∈l.take (low cf l)):cf x<0:=by
 obtain⟨i,hi,rfl⟩:=List.getElem_of_mem hx;rw[ZM]at hi;rw[List.getElem_take];exact Ab2 (by omega) (by omega)
theorem Aa3(hm:Aaj cf l)(h:hit cf l=false){x:α}(hx:x∈l.drop (low cf l)):0<cf x:=by
 obtain⟨i,hi,rfl⟩:=List.getElem_of_mem hx;rw[List.length_drop]at hi;rw[List.getElem_drop];have hlo:low cf l<l.length:=by omega
 have h0:=Ajv hlo;have h1:cf l[low cf l]≠0:=by
  rw[Aja hlo]at h;simpa using h
 rcases Nat.eq_zero_or_pos i with rfl|hp
 ·simp only[Nat.add_zero];omega
 ·have:=hm (low cf l) (low cf l+i) (by omega) (by omega);omega
theorem As6{k:Nat}(hk:k<l.length):l=l.take k++l[k]::l.drop (k+1):=by
 rw[←List.drop_eq_getElem_cons hk,List.take_append_drop]
theorem Apd(hm:Aaj cf l):at_ (fun x=>decide (cf x=0)) l=if hit cf l=true then(low cf l:Int)else -1:=by
 split
 ·rename_i h;refine Vq (Mx h) (fun i hi hlt=>?_) (by simpa using Ais h);have:=Ab2 (cf:=cf) hi hlt;simp;omega
 ·rename_i h;refine Ad9 fun i hi=>?_;have hf:hit cf l=false:=by simpa using h
  rcases Nat.lt_or_ge i (low cf l)with g|g
  ·have:=Ab2 (cf:=cf) hi g;simp;omega
  ·have hx:l[i]∈l.drop (low cf l):=by
    rw[List.mem_iff_getElem];exact⟨i-low cf l,by rw[List.length_drop];omega,by rw[List.getElem_drop];congr 1;omega⟩
   have:=Aa3 hm hf hx;simp;omega
def Ahu(cf:α→Int)(g:α)(l:List α):List α:=if hit cf l=true then l.set (low cf l) g else l.take (low cf l)++[g]++l.drop (low cf l)
end
end Pl
namespace Pl
structure Ord{α:Type}(lt:α→α→Bool)(cf:α→α→Int):Prop where
 neg:∀g x,cf g x<0↔lt x g=true
 pos:∀g x,0<cf g x↔lt g x=true
 trans:∀x y z,lt x y=true→lt y z=true→lt x z=true
 left:∀g x y,cf g x=0→lt x y=lt g y
 right:∀g x y,cf g x=0→lt y x=lt y g
section
variable {α:Type} {lt:α→α→Bool} {cf:α→α→Int} {l:List α}
theorem Ord.smono(o:Ord lt cf)(hs:Cz lt l=true)(g:α):Aaj (cf g) l:=
 Ahm o.trans (fun x y h hy=>by
  rw[o.neg];rcases(by omega:cf g y<0∨cf g y=0)with q|q
  ·exact o.trans _ _ _ h ((o.neg g y).1 q)
  ·rw[←o.right g y x q];exact h) hs
theorem Aa6(h:∀j i,(hj:j<l.length)→(hij:i<j)→lt (l[i]'(by omega)) l[j]=true):Cz lt l=true:=
 Kd fun i hi=>h (i+1) i hi (by omega)
theorem Al1(ht:∀x y z,lt x y=true→lt y z=true→lt x z=true):Cz lt l=true↔l.Pairwise (fun x y=>lt x y=true):=by
 constructor
 ·intro h;rw[List.pairwise_iff_getElem];intro i j hi hj hij;exact Ra ht h j i hj hij
 ·intro h;rw[List.pairwise_iff_getElem]at h;exact Aa6 fun j i hj hij=>h i j (by omega) hj hij
theorem Ord.put(o:Ord lt cf)(hs:Cz lt l=true)(g:α):Cz lt (Ahu (cf g) g l)=true:=by
 have hm:=o.smono hs g;rw[Al1 o.trans]at hs ⊢;unfold Ahu;split
 ·rename_i h;have hl:=Mx h;have h0:=Ais h;rw[List.set_eq_take_append_cons_drop,if_pos hl];have e:=As6 hl;rw[e]at hs;rw[List.pairwise_append,List.pairwise_cons]at hs ⊢;refine⟨hs.1,⟨fun y hy=>?_,hs.2.1.2⟩,fun x hx y hy=>?_⟩
  ·rw[←o.left g _ y h0];exact hs.2.1.1 y hy
  ·rcases XC.1 hy with rfl|hy
   ·rw[←o.right _ _ x h0];exact hs.2.2 x hx _ (XB ..)
   ·exact hs.2.2 x hx y (ZL _ hy)
 ·rename_i h;have hf:hit (cf g) l=false:=by simpa using h
  have e:l=l.take (low (cf g) l)++l.drop (low (cf g) l):=(List.take_append_drop _ _).symm;rw[e,List.pairwise_append]at hs;rw[ZS,List.pairwise_append,List.singleton_append,List.pairwise_cons];refine⟨hs.1,⟨fun y hy=>(o.pos g y).1 (Aa3 hm hf hy),hs.2.1⟩,fun x hx y hy=>?_⟩;rcases XC.1 hy with rfl|hy
  ·exact(o.neg _ x).1 (Apc hx)
  ·exact hs.2.2 x hx y hy
def upd(cf:α→α→Int)(nw:α→α→Bool)(l:List α)(g:α):List α:=
 match l[low (cf g) l]? with
 |some x=>if hit (cf g) l=true∧nw g x=false then l else Ahu (cf g) g l
 |none=>Ahu (cf g) g l
theorem Anl(nw:α→α→Bool)(g:α):upd cf nw l g=l∨upd cf nw l g=Ahu (cf g) g l:=by
 unfold upd;split
 ·split
  ·exact .inl rfl
  ·exact .inr rfl
 ·exact .inr rfl
def Ayc(cf:α→α→Int)(nw:α→α→Bool)(a b:List α):List α:=b.foldl (upd cf nw) a
theorem Ord.upd(o:Ord lt cf)(nw:α→α→Bool)(hs:Cz lt l=true)(g:α):Cz lt (upd cf nw l g)=true:=by
 rcases Anl (cf:=cf) (l:=l) nw g with h|h
 ·rw[h];exact hs
 ·rw[h];exact o.put hs g
theorem Ord.join(o:Ord lt cf)(nw:α→α→Bool):∀(b:List α) {a:List α},Cz lt a=true→Cz lt (Ayc cf nw a b)=true
 |[],a,h=>h
 |g::b,a,h=>o.join nw b (o.upd nw h g)
end
end Pl
namespace Pl
section
variable {α:Type} {cf:α→α→Int} {nw:α→α→Bool} {l:List α} {g:α}
end
end Pl
namespace Pl

end Pl
namespace Pl
def okB(n:Int):Bool:=decide ((97≤n∧n≤122)∨(48≤n∧n≤57)∨n=45∨n=95)
def lab(s:List UInt8):Bool:=s.all (fun c=>okB c.toNat)&&decide (1≤s.length∧s.length≤30)
theorem Al9{s:List UInt8}(h:∀i,(hi:i<s.length)→okB (s[i]).toNat=true)(h1:1≤s.length)(h2:s.length≤30):lab s=true:=by
 unfold lab;rw[Bool.and_eq_true_iff];refine⟨List.all_eq_true.2 fun c hc=>?_,by simp;omega⟩;obtain⟨i,hi,rfl⟩:=List.getElem_of_mem hc;exact h i hi
theorem lab_bad{s:List UInt8}{i:Nat}(hi:i<s.length)(h:okB (s[i]).toNat=false):lab s=false:=by
 unfold lab;rw[Bool.and_eq_false_iff];left;rw[List.all_eq_false];exact⟨s[i],ZK hi,by simp[h]⟩
theorem Aga{s:List UInt8}(h:¬(1≤s.length∧s.length≤30)):lab s=false:=by
 unfold lab;simp only[h,decide_false,Bool.and_false]
theorem Apz{n:Int}(h:¬((97≤n∧n≤122)∨(48≤n∧n≤57)∨n=45∨n=95)):okB n=false:=by
 unfold okB;simpa using h
theorem Aml{n:Int}(h:(97≤n∧n≤122)∨(48≤n∧n≤57)∨n=45∨n=95):okB n=true:=by
 unfold okB;simpa using h
end Pl
namespace Pl
def wi(n a b:Int):Bool:=decide (a≤n)&&decide (n≤b)
theorem Ae2{n a b:Int}:wi n a b=true↔a≤n∧n≤b:=by simp[wi]
def Agm(x y z h s:Int):Bool:=wi x (-10000000) 10000000&&wi y (-10000000) 10000000&&wi z (-10000000) 10000000&&wi h 0 1000000&&wi s 0 1000
def Ajt(x y z h s:Int):Int:=if Agm x y z h s then 0 else 3
end Pl
abbrev zq0:List Value:=[(.int .i64 0),(.bool false),(.bool false),(.int .i64 0),(.string ⟨#[]⟩),(.int .i64 0),(.slice none 0 0)]
abbrev zq3:List Value:=[(.string ⟨#[]⟩),(.int .i64 0),(.int .i64 0),(.int .i64 0),(.int .i64 0),(.int .i64 0)]
abbrev zq4:List Value:=[(.string ⟨#[]⟩),(.int .i64 0),(.int .i64 0),(.int .i64 0),(.string ⟨#[]⟩),(.int .i64 0),(.string ⟨#[]⟩)]
abbrev zq5:List Value:=[(.string ⟨#[]⟩),(.string ⟨#[]⟩),(.string ⟨#[]⟩),(.string ⟨#[]⟩),(.int .i64 0),(.int .i64 0),(.bool false),(.int .i64 0),(.bool false)]
abbrev zq7:List Value:=[(.string ⟨#[]⟩),(.string ⟨#[]⟩),(.string ⟨#[]⟩),(.string ⟨#[]⟩)]
def J6:Ai:=
 .seq (.reg [Rq 3 (.box 30 9 1),Rq 4 (.mv (.const (.bool false)))]) (.seq (.reg [Mq 12 0,Fq 13 0 3,Lq 14 13,Fq 15 1 3,Lq 16 15,Fq 17 2 3,Lq 18 17,Fq 19 3 3,Rq 20 (.load true 5 19),Fq 21 8 3,Lq 22 21,Cq 23 13 ([12,14,16,18,20,22]),Mq 11 23,Eq1 24 11 0,Eq1 25 11 1,Eq1 26 11 2,Mq 5 24,Mq 6 25,Mq 7 26]) (.seq (.reg [Mq 28 0,Fq 29 0 3,Lq 30 29,Fq 31 1 3,Lq 32 31,Fq 33 2 3,Lq 34 33,Fq 35 3 3,Rq 36 (.load true 5 35),Fq 37 8 3,Lq 38 37,Cq 39 14 ([28,30,32,34,36,38]),Mq 27 39,Eq1 40 27 0,Eq1 41 27 1,Eq1 42 27 2,Mq 8 40,Mq 9 41,Mq 10 42]) (.seq (.reg [Cq 43 10 ([]),Mq 44 43,Hq 45 44 true 7,Hq 46 44 true 10,Gq 47 44 true (.bin .eql 45 46),Rq 48 (.pick 44 47 (.const (.bool false))),Mq 49 48,Hq 50 49 true 6,Hq 51 49 true 9,Gq 52 49 true (.eqb false 50 51),Rq 53 (.pick 49 52 (.const (.bool false))),Mq 54 53,Hq 55 54 true 5,Hq 56 54 true 8,Gq 57 54 true (.bin .eql 55 56),Rq 58 (.pick 54 57 (.const (.bool false))),Mq 4 58]) (.ret))))
theorem Fz:Aj Tryz.prog 5 2=some (J6,[4]):=by kernel_rfl
def Ua:Ai:=
 .seq (.reg [Rq 7 (.box 23 4 0),Rq 12 (.box 27 5 5),Rq 14 (.mv (.const (.slice none 0 0))),Nq 15 0,Nq 16 0]) (.seq (.reg [Rq 19 (.load true 4 7),Cq 20 18 ([19]),Mq 17 20]) (.seq (.seq (.reg [Mq 21 17,Bq 22 .eql 21 (Kq 0),Mq 23 22,Hq 24 23 true 1,Gq 25 23 true (.call (.func 19) [24]),Gq 26 23 true (.not 25),Rq 27 (.pick 23 26 (.const (.bool false)))]) (.cond 27 (.reg [Nq 17 7]) (.skip))) (.seq (.seq (.reg [Mq 28 17,Bq 29 .eql 28 (Kq 0)]) (.cond 29 (.reg [Mq 30 2,Mq 31 3,Mq 32 4,Rq 33 (.load true 5 12),Mq 34 6,Cq 35 20 ([30,31,32,33,34]),Mq 17 35]) (.skip))) (.seq (.seq (.reg [Mq 36 17,Bq 37 .neq 36 (Kq 0)]) (.cond 37 (.seq (.reg [Mq 38 17,Rq 14 (.mv (.const (.slice none 0 0))),Nq 15 0,Mq 16 38]) (.ret)) (.skip))) (.seq (.reg [Rq 39 (.load true 4 7),Mq 40 1,Mq 41 2,Mq 42 3,Mq 43 4,Rq 44 (.load true 5 12),Mq 45 6,Rq 46 (.build [(.string ⟨#[]⟩),(.string ⟨#[]⟩),(.string ⟨#[]⟩),(.string ⟨#[]⟩),(.int .i64 0),(.string ⟨#[]⟩),(.slice none 0 0),(.slice none 0 0),(.int .i64 0),(.int .i64 0),(.int .i64 0),(.int .i64 0),(.int .i64 0),(.slice none 0 0),(.string ⟨#[]⟩)] [(0,4,39),(4,1,40),(5,1,41),(6,1,42),(7,1,43),(8,5,44),(13,1,45),(14,1,(.const (.string ⟨#[]⟩)))]),Rq 47 (.box 63 15 46),Mq 18 47]) (.seq (.seq (.reg [Mq 49 18,Rq 50 (.load true 4 7),Cq 51 21 ([50]),Mq 48 51,Eq1 52 48 0,Eq1 53 48 1,Fq 54 0 49,Fq 55 14 54,Sq 1 55 52,Mq 17 53]) (.seq (.reg [Mq 56 17,Bq 57 .neq 56 (Kq 0)]) (.cond 57 (.seq (.reg [Mq 58 17,Rq 14 (.mv (.const (.slice none 0 0))),Nq 15 0,Mq 16 58]) (.ret)) (.skip)))) (.seq (.block 0 (.seq (.reg [Fq 60 3 7,Lq 61 60,Rq 62 (.bin .neq 61 (.const (.string ⟨#[]⟩))),Mq 63 62,Gq 64 63 true (.fldA 3 7),Gq 65 63 true (.load false 1 64),Hq 66 63 true 2,Gq 67 63 true (.bin .neq 65 66),Rq 68 (.pick 63 67 (.const (.bool false))),Mq 59 68]) (.cond 59 (.seq (.reg [Rq 14 (.mv (.const (.slice none 0 0))),Nq 15 3,Nq 16 0]) (.ret)) (.seq (.reg [Fq 70 2 7,Lq 71 70,Rq 72 (.bin .neq 71 (.const (.string ⟨#[]⟩))),Mq 69 72]) (.cond 69 (.seq (.reg [Mq 73 18,Cq 74 22 ([73]),Eq1 75 74 0,Eq1 76 74 1,Eq1 77 74 2,Mq 14 75,Mq 15 76,Mq 16 77]) (.ret)) (.skip)))))) (.seq (.reg [Mq 78 18,Cq 79 23 ([78]),Eq1 80 79 0,Eq1 81 79 1,Eq1 82 79 2,Mq 14 80,Mq 15 81,Mq 16 82]) (.ret)))))))))
theorem Vd:Aj Tryz.prog 8 7=some (Ua,[14,15,16]):=by kernel_rfl
def Hu:Ai:=
 .seq (.reg [Rq 7 (.box 23 4 0),Rq 12 (.box 27 5 5),Rq 14 (.mv (.const (.slice none 0 0))),Nq 15 0,Nq 16 0]) (.seq (.reg [Rq 28 (.load true 4 7),Cq 29 24 ([28]),Mq 17 29]) (.seq (.seq (.reg [Mq 30 17,Bq 31 .eql 30 (Kq 0),Mq 32 31,Hq 33 32 true 1,Gq 34 32 true (.call (.func 25) [33]),Gq 35 32 true (.not 34),Rq 36 (.pick 32 35 (.const (.bool false)))]) (.cond 36 (.reg [Nq 17 7]) (.skip))) (.seq (.seq (.reg [Mq 37 17,Bq 38 .eql 37 (Kq 0)]) (.cond 38 (.reg [Mq 39 2,Mq 40 3,Mq 41 4,Rq 42 (.load true 5 12),Mq 43 6,Cq 44 26 ([39,40,41,42,43]),Mq 17 44]) (.skip))) (.seq (.seq (.reg [Mq 45 17,Bq 46 .neq 45 (Kq 0)]) (.cond 46 (.seq (.reg [Mq 47 17,Rq 14 (.mv (.const (.slice none 0 0))),Nq 15 0,Mq 16 47]) (.ret)) (.skip))) (.seq (.reg [Rq 49 (.load true 4 7),Cq 50 27 ([49]),Mq 48 50,Eq1 51 48 0,Eq1 52 48 1,Mq 18 51,Mq 17 52]) (.seq (.seq (.reg [Mq 53 17,Bq 54 .neq 53 (Kq 0)]) (.cond 54 (.seq (.reg [Mq 55 17,Rq 14 (.mv (.const (.slice none 0 0))),Nq 15 0,Mq 16 55]) (.ret)) (.skip))) (.seq (.seq (.reg [Fq 56 3 7,Lq 57 56,Rq 58 (.bin .neq 57 (.const (.string ⟨#[]⟩))),Mq 59 58,Gq 60 59 true (.fldA 3 7),Gq 61 59 true (.load false 1 60),Hq 62 59 true 2,Gq 63 59 true (.bin .neq 61 62),Rq 64 (.pick 59 63 (.const (.bool false)))]) (.cond 64 (.seq (.reg [Rq 14 (.mv (.const (.slice none 0 0))),Nq 15 3,Nq 16 0]) (.ret)) (.skip))) (.seq (.seq (.reg [Fq 65 2 7,Lq 66 65,Rq 67 (.bin .neq 66 (.const (.string ⟨#[]⟩)))]) (.cond 67 (.seq (.reg [Mq 68 4,Fq 69 2 7,Lq 70 69,Cq 71 12 ([68,70]),Mq 19 71]) (.seq (.seq (.reg [Mq 72 19,Bq 73 .lss 72 (Kq 0),Mq 74 73,Hq 75 74 false 4,Hq 76 74 false 19,Gq 77 74 false (.idxA 5 75 76),Gq 78 74 false (.fldA 1 77),Gq 79 74 false (.load false 1 78),Gq 80 74 false (.bin .gtr 79 (Kq 2)),Rq 81 (.pick 74 (.const (.bool true)) 80)]) (.cond 81 (.seq (.reg [Rq 14 (.mv (.const (.slice none 0 0))),Nq 15 3,Nq 16 0]) (.ret)) (.skip))) (.seq (.seq (.reg [Mq 82 1,Bq 83 .neq 82 (Kq 1)]) (.cond 83 (.seq (.reg [Rq 14 (.mv (.const (.slice none 0 0))),Nq 15 0,Nq 16 0]) (.ret)) (.skip))) (.seq (.reg [Mq 84 18,Mq 85 4,Mq 86 19,Iq 87 5 85 86,Fq 88 3 87,Lq 89 88,Rq 90 (.build zq4 [(0,1,84),(1,1,(Kq 1)),(3,1,89)]),Rq 91 (.mks 42 7 1 zq4 [(0,90)]),Mq 14 91,Nq 15 0,Nq 16 0]) (.ret))))) (.skip))) (.seq (.reg [Mq 92 3,Fq 93 0 7,Lq 94 93,Fq 95 1 7,Lq 96 95,Cq 97 28 ([92,94,96]),Mq 20 97]) (.seq (.reg [Rq 21 (.mv (.const (.slice none 0 0)))]) (.seq (.seq (.reg [Nq 22 0]) (.block 0 (.loop (.seq (.seq (.reg [Mq 98 22,Mq 99 20,Rq 100 (.len false 99),Bq 101 .lss 98 100]) (.cond 101 (.skip) (.exit 0))) (.seq (.block 1 (.seq (.reg [Mq 104 4,Mq 105 20,Mq 106 22,Iq 107 9 105 106,Fq 108 0 107,Lq 109 108,Cq 110 12 ([104,109]),Mq 23 110]) (.seq (.seq (.reg [Mq 111 23,Bq 112 .geq 111 (Kq 0),Mq 113 112,Hq 114 113 true 4,Hq 115 113 true 23,Gq 116 113 true (.idxA 5 114 115),Gq 117 113 true (.fldA 1 116),Gq 118 113 true (.load false 1 117),Gq 119 113 true (.bin .gtr 118 (Kq 2)),Rq 120 (.pick 113 119 (.const (.bool false)))]) (.cond 120 (.exit 1) (.skip))) (.seq (.dreg [[Mq 121 21],[Rq 122 (.len false 121)],[Bq 123 .eql 122 (Kq 0)],[Mq 124 123],[Hq 125 124 false 21,Hq 126 124 false 21,Gq 127 124 false (.len false 126),Gq 128 124 false (.bin .sub 127 (Kq 1)),Gq 129 124 false (.idxA 1 125 128),Gq 130 124 false (.load false 1 129),Hq 131 124 false 20,Hq 132 124 false 22,Gq 133 124 false (.idxA 9 131 132),Gq 134 124 false (.fldA 0 133),Gq 135 124 false (.load false 1 134)],[Gq 136 124 false (.bin .neq 130 135)],[Rq 137 (.pick 124 (.const (.bool true)) 136)]]) (.cond 137 (.reg [Mq 138 21,Mq 139 20,Mq 140 22,Iq 141 9 139 140,Fq 142 0 141,Lq 143 142,Rq 144 (.mks 9 1 1 [(.string ⟨#[]⟩)] [(0,143)]),Rq 145 (.app 9 1 16 (.string ⟨#[]⟩) 138 144),Mq 21 145]) (.skip)))))) (.reg [Mq 102 22,Bq 103 .add 102 (Kq 1),Mq 22 103])))))) (.seq (.reg [Rq 146 (.load true 5 12),Mq 147 6,Mq 148 21,Cq 149 29 ([146,147,148]),Mq 21 149]) (.seq (.reg [Rq 24 (.mv (.const (.slice none 0 0)))]) (.seq (.seq (.reg [Nq 25 0]) (.block 2 (.loop (.seq (.seq (.reg [Mq 150 25,Mq 151 21,Rq 152 (.len false 151),Bq 153 .lss 150 152]) (.cond 153 (.skip) (.exit 2))) (.seq (.block 3 (.seq (.reg [Nq 26 0]) (.block 4 (.loop (.seq (.seq (.reg [Mq 156 26,Mq 157 20,Rq 158 (.len false 157),Bq 159 .lss 156 158,Mq 160 159,Hq 161 160 true 24,Gq 162 160 true (.len false 161),Gq 163 160 true (.bin .lss 162 (Kq 20)),Rq 164 (.pick 160 163 (.const (.bool false)))]) (.cond 164 (.skip) (.exit 4))) (.seq (.block 5 (.seq (.seq (.dreg [[Mq 167 20,Mq 168 26,Iq 169 9 167 168,Fq 170 0 169,Lq 171 170,Mq 172 21,Mq 173 25,Iq 174 1 172 173,Lq 175 174],[Bq 176 .neq 171 175]]) (.cond 176 (.exit 5) (.skip))) (.seq (.reg [Mq 177 18,Mq 178 1,Rq 179 (.build zq4 [(0,1,177),(1,1,178)]),Rq 27 (.zbox 42 zq4),Sq 7 27 179]) (.seq (.seq (.reg [Mq 180 1]) (.block 6 (.seq (.reg [Bq 182 .eql 180 (Kq 1),Mq 181 182]) (.cond 181 (.reg [Mq 183 20,Mq 184 26,Iq 185 9 183 184,Fq 186 4 185,Lq 187 186,Fq 188 3 27,Sq 1 188 187]) (.seq (.reg [Bq 190 .eql 180 (Kq 16),Mq 189 190]) (.cond 189 (.reg [Mq 191 20,Mq 192 26,Iq 193 9 191 192,Fq 194 1 193,Lq 195 194,Fq 196 4 27,Sq 1 196 195]) (.seq (.reg [Bq 198 .eql 180 (Kq 33),Mq 197 198]) (.cond 197 (.seq (.reg [Mq 199 20,Mq 200 26,Iq 201 9 199 200,Fq 202 5 201,Lq 203 202,Fq 204 5 27,Sq 1 204 203]) (.seq (.reg [Mq 206 20,Mq 207 26,Iq 208 9 206 207,Fq 209 0 208,Lq 210 209,Mq 211 2,Rq 212 (.build zq7 [(2,1,210),(3,1,211)]),Cq 213 27 ([212]),Mq 205 213,Eq1 214 205 0,Eq1 215 205 1,Fq 216 6 27,Sq 1 216 214,Mq 17 215]) (.seq (.reg [Mq 217 17,Bq 218 .neq 217 (Kq 0)]) (.cond 218 (.seq (.reg [Mq 219 17,Rq 14 (.mv (.const (.slice none 0 0))),Nq 15 0,Mq 16 219]) (.ret)) (.skip))))) (.skip))))))))) (.reg [Mq 220 24,Rq 221 (.load true 7 27),Rq 222 (.mks 42 7 1 zq4 [(0,221)]),Rq 223 (.app 42 7 80 (.agg #[(.string ⟨#[]⟩),(.int .i64 0),(.int .i64 0),(.int .i64 0),(.string ⟨#[]⟩),(.int .i64 0),(.string ⟨#[]⟩)]) 220 222),Mq 24 223]))))) (.reg [Mq 165 26,Bq 166 .add 165 (Kq 1),Mq 26 166]))))))) (.reg [Mq 154 25,Bq 155 .add 154 (Kq 1),Mq 25 155])))))) (.seq (.seq (.reg [Mq 224 3,Fq 225 0 7,Lq 226 225,Cq 227 28 ([224,226,(.const (.string ⟨#[]⟩))]),Rq 228 (.len false 227),Bq 229 .eql 228 (Kq 0)]) (.cond 229 (.seq (.reg [Rq 14 (.mv (.const (.slice none 0 0))),Nq 15 3,Nq 16 0]) (.ret)) (.skip))) (.seq (.reg [Mq 230 24,Mq 14 230,Nq 15 0,Nq 16 0]) (.ret)))))))))))))))))
theorem Nw:Aj Tryz.prog 9 7=some (Hu,[14,15,16]):=by kernel_rfl
def Lo:Ai:=
 .seq (.reg [Rq 0 (.mv (.const (.bool false)))]) (.seq (.reg [Rq 5 (.build zq7 [(0,1,(.const (.string ⟨#[115]⟩)))]),Rq 6 (.build zq5 [(0,1,(.const (.string ⟨#[110]⟩))),(1,1,(.const (.string ⟨#[105]⟩))),(2,1,(.const (.string ⟨#[115]⟩))),(4,1,(Kq 9)),(6,1,(.const (.bool true))),(7,1,(Kq 1))]),Rq 7 (.mks 39 9 1 zq5 [(0,6)]),Rq 8 (.build [(.int .i64 0),(.int .i64 0),(.int .i64 0),(.int .i64 0),(.int .i64 0)] []),Cq 9 8 ([5,(Kq 1),(.const (.string ⟨#[99]⟩)),7,(.const (.slice none 0 0)),8,(.const (.slice none 0 0))]),Mq 4 9,Eq1 10 4 0,Eq1 11 4 1,Eq1 12 4 2,Mq 1 10,Mq 2 11,Mq 3 12]) (.seq (.reg [Mq 13 3,Bq 14 .eql 13 (Kq 0),Mq 15 14,Hq 16 15 true 2,Gq 17 15 true (.bin .eql 16 (Kq 0)),Rq 18 (.pick 15 17 (.const (.bool false))),Mq 19 18,Hq 20 19 true 1,Gq 21 19 true (.len false 20),Gq 22 19 true (.bin .eql 21 (Kq 1)),Rq 23 (.pick 19 22 (.const (.bool false))),Mq 24 23,Hq 25 24 true 1,Gq 26 24 true (.idxA 7 25 (Kq 0)),Gq 27 24 true (.fldA 3 26),Gq 28 24 true (.load false 1 27),Gq 29 24 true (.bin .eql 28 (Kq 9)),Rq 30 (.pick 24 29 (.const (.bool false))),Mq 31 30,Hq 32 31 true 1,Gq 33 31 true (.idxA 7 32 (Kq 0)),Gq 34 31 true (.fldA 0 33),Gq 35 31 true (.load false 1 34),Gq 36 31 true (.bin .eql 35 (.const (.string ⟨#[115,46,115,101,114,118,105,99,101,46,109,101,115,104]⟩))),Rq 37 (.pick 31 36 (.const (.bool false))),Mq 0 37]) (.ret)))
theorem Lu:Aj Tryz.prog 10 0=some (Lo,[0]):=by kernel_rfl
def Ow:Ai:=
 .seq (.reg [Nq 4 0]) (.seq (.seq (.reg [Nq 5 0]) (.block 0 (.loop (.seq (.seq (.reg [Mq 6 5,Mq 7 0,Rq 8 (.len false 7),Bq 9 .lss 6 8]) (.cond 9 (.skip) (.exit 0))) (.seq (.block 1 (.seq (.reg [Mq 12 0,Mq 13 5,Iq 14 5 12 13,Fq 15 0 14,Lq 16 15,Mq 17 1,Bq 18 .eql 16 17]) (.cond 18 (.seq (.reg [Mq 19 5,Mq 4 19]) (.ret)) (.skip)))) (.reg [Mq 10 5,Bq 11 .add 10 (Kq 1),Mq 5 11])))))) (.seq (.reg [Rq 4 (.mv (.const (.int .i64 (-1))))]) (.ret)))
theorem Ov:Aj Tryz.prog 12 2=some (Ow,[4]):=by kernel_rfl
def X8:Ai:=
 .seq (.reg [Rq 10 (.box 27 5 4),Rq 12 (.mv (.const (.string ⟨#[]⟩))),Rq 13 (.mv (.const (.bool false))),Nq 14 0]) (.seq (.seq (.reg [Mq 20 1,Mq 21 2,Mq 22 3,Rq 23 (.load true 5 10),Mq 24 5,Cq 25 20 ([20,21,22,23,24]),Mq 15 25]) (.seq (.reg [Mq 26 15,Bq 27 .neq 26 (Kq 0)]) (.cond 27 (.seq (.reg [Mq 28 15,Rq 12 (.mv (.const (.string ⟨#[]⟩))),Rq 13 (.mv (.const (.bool false))),Mq 14 28]) (.ret)) (.skip)))) (.seq (.seq (.reg [Mq 29 0,Rq 30 (.len true 29),Bq 31 .lss 30 (Kq 12),Mq 32 31,Hq 33 32 false 0,Gq 34 32 false (.idxS 33 (Kq 2)),Gq 35 32 false (.bin .geq 34 (.const (.int .u8 128))),Rq 36 (.pick 32 (.const (.bool true)) 35)]) (.cond 36 (.seq (.reg [Rq 12 (.mv (.const (.string ⟨#[]⟩))),Rq 13 (.mv (.const (.bool false))),Nq 14 0]) (.ret)) (.skip))) (.seq (.reg [Mq 38 0,Cq 39 17 ([38]),Mq 37 39,Eq1 40 37 0,Eq1 41 37 1,Rq 16 (.zbox 52 zq0),Sq 7 16 40,Mq 17 41]) (.seq (.dreg [[Mq 42 0,Rq 43 (.idxS 42 (Kq 0)),Rq 44 (.conv .i64 43),Rq 45 (.bin .shl 44 (.const (.int .u64 8))),Mq 46 0,Rq 47 (.idxS 46 (Kq 1)),Rq 48 (.conv .i64 47),Bq 49 .or 45 48,Rq 50 (.build [(.string ⟨#[]⟩),(.int .i64 0)] [(1,1,(Kq 1))]),Rq 51 (.build zq0 [(0,1,49),(1,1,(.const (.bool true))),(3,1,(Kq 1)),(4,2,50)]),Rq 18 (.zbox 52 zq0)],[Sq 7 18 51]]) (.seq (.seq (.reg [Mq 52 17,Bq 53 .eql 52 (Kq 0),Mq 54 53,Gq 55 54 true (.fldA 6 16),Gq 56 54 true (.load false 1 55),Gq 57 54 true (.len false 56),Gq 58 54 true (.bin .eql 57 (Kq 0)),Rq 59 (.pick 54 58 (.const (.bool false)))]) (.cond 59 (.reg [Rq 60 (.load true 7 16),Mq 61 1,Mq 62 2,Mq 63 3,Rq 64 (.load true 5 10),Mq 65 5,Cq 66 30 ([60,61,62,63,64,65]),Sq 7 18 66]) (.skip))) (.seq (.reg [Rq 68 (.load true 7 18),Cq 69 31 ([68,(Kq 512)]),Mq 67 69,Eq1 70 67 0,Eq1 71 67 1,Mq 19 70,Mq 17 71]) (.seq (.reg [Mq 72 19,Mq 73 17,Bq 74 .eql 73 (Kq 0),Mq 75 17,Mq 12 72,Mq 13 74,Mq 14 75]) (.ret))))))))
theorem Yl:Aj Tryz.prog 13 6=some (X8,[12,13,14]):=by kernel_rfl
def Ph:Ai:=
 .seq (.reg [Rq 10 (.box 27 5 4),Rq 12 (.mv (.const (.string ⟨#[]⟩))),Rq 13 (.mv (.const (.bool false))),Nq 14 0]) (.seq (.reg [Mq 25 1,Mq 26 2,Mq 27 3,Rq 28 (.load true 5 10),Mq 29 5,Cq 30 26 ([25,26,27,28,29]),Mq 15 30]) (.seq (.seq (.reg [Mq 31 15,Bq 32 .neq 31 (Kq 0)]) (.cond 32 (.seq (.reg [Mq 33 15,Rq 12 (.mv (.const (.string ⟨#[]⟩))),Rq 13 (.mv (.const (.bool false))),Mq 14 33]) (.ret)) (.skip))) (.seq (.seq (.reg [Mq 34 0,Rq 35 (.len true 34),Bq 36 .lss 35 (Kq 12),Mq 37 36,Hq 38 37 false 0,Gq 39 37 false (.idxS 38 (Kq 2)),Gq 40 37 false (.bin .geq 39 (.const (.int .u8 128))),Rq 41 (.pick 37 (.const (.bool true)) 40)]) (.cond 41 (.seq (.reg [Rq 12 (.mv (.const (.string ⟨#[]⟩))),Rq 13 (.mv (.const (.bool false))),Nq 14 0]) (.ret)) (.skip))) (.seq (.dreg [[Mq 42 0,Rq 43 (.idxS 42 (Kq 0)),Rq 44 (.conv .i64 43),Rq 45 (.bin .mul (Kq 256) 44),Mq 46 0,Rq 47 (.idxS 46 (Kq 1)),Rq 48 (.conv .i64 47),Bq 49 .add 45 48,Rq 50 (.build [(.string ⟨#[]⟩),(.int .i64 0)] [(1,1,(Kq 1))]),Rq 51 (.build zq0 [(0,1,49),(1,1,(.const (.bool true))),(3,1,(Kq 1)),(4,2,50)]),Rq 16 (.zbox 52 zq0)],[Sq 7 16 51]]) (.seq (.reg [Mq 53 0,Cq 54 32 ([53]),Mq 52 54,Eq1 55 52 0,Eq1 56 52 1,Rq 17 (.zbox 52 zq0),Sq 7 17 55,Mq 15 56]) (.seq (.seq (.reg [Mq 57 15,Bq 58 .eql 57 (Kq 0),Mq 59 58,Gq 60 59 true (.fldA 6 17),Gq 61 59 true (.load false 1 60),Gq 62 59 true (.len false 61),Gq 63 59 true (.bin .eql 62 (Kq 0)),Rq 64 (.pick 59 63 (.const (.bool false)))]) (.cond 64 (.seq (.dreg [[],[Rq 65 (.mkm),Rq 66 (.mkm)],[Fq 65 4 17,Rq 66 (.load true 2 65),Fq 67 3 16,Sq 1 67 (Kq 0)],[Fq 68 4 16],[Sq 2 68 66]]) (.seq (.reg [Fq 70 4 17,Fq 71 0 70,Lq 72 71,Cq 73 33 ([72]),Mq 69 73,Eq1 74 69 0,Eq1 75 69 1,Rq 18 (.zbox 23 zq7),Sq 4 18 74,Mq 19 75]) (.seq (.reg [Mq 76 19,Bq 77 .eql 76 (Kq 8)]) (.cond 77 (.reg [Fq 78 3 16,Sq 1 78 (Kq 4)]) (.seq (.reg [Mq 79 19,Bq 80 .neq 79 (Kq 0)]) (.cond 80 (.reg [Fq 81 3 16,Sq 1 81 (Kq 3)]) (.seq (.reg [Rq 83 (.load true 4 18),Fq 84 4 17,Fq 85 1 84,Lq 86 85,Mq 87 1,Mq 88 2,Mq 89 3,Rq 90 (.load true 5 10),Mq 91 5,Cq 92 9 ([83,86,87,88,89,90,91]),Mq 82 92,Eq1 93 82 0,Eq1 94 82 1,Eq1 95 82 2,Mq 20 93,Mq 21 94,Mq 22 95]) (.seq (.reg [Mq 96 21,Mq 97 20,Fq 98 3 16,Sq 1 98 96,Fq 99 6 16,Sq 1 99 97]) (.seq (.reg [Mq 100 22,Bq 101 .neq 100 (Kq 0)]) (.cond 101 (.reg [Fq 102 3 16,Sq 1 102 (Kq 2),Fq 103 6 16,Sq 1 103 (.const (.slice none 0 0))]) (.skip))))))))))) (.skip))) (.seq (.reg [Rq 105 (.load true 7 16),Cq 106 34 ([105,(Kq 512)]),Mq 104 106,Eq1 107 104 0,Eq1 108 104 1,Mq 23 107,Mq 24 108]) (.seq (.reg [Mq 109 23,Mq 12 109,Rq 13 (.mv (.const (.bool true))),Nq 14 0]) (.ret)))))))))
theorem Ps:Aj Tryz.prog 14 6=some (Ph,[12,13,14]):=by kernel_rfl
def Zk:Ai:=
 .seq (.reg [Rq 1 (.box 23 4 0),Nq 2 0]) (.seq (.seq (.reg [Fq 5 0 1,Lq 6 5,Rq 7 (.bin .eql 6 (.const (.string ⟨#[]⟩))),Fq 8 2 1,Lq 9 8,Rq 10 (.bin .eql 9 (.const (.string ⟨#[]⟩))),Rq 11 (.eqb false 7 10),Mq 12 11,Gq 13 12 false (.fldA 0 1),Gq 14 12 false (.load false 1 13),Gq 15 12 false (.bin .eql 14 (.const (.string ⟨#[]⟩))),Hq 16 12 false 15,Gq 17 16 true (.fldA 1 1),Gq 18 16 true (.load false 1 17),Gq 19 16 true (.bin .neq 18 (.const (.string ⟨#[]⟩))),Gq 20 12 false (.pick 16 19 (.const (.bool false))),Rq 21 (.pick 12 (.const (.bool true)) 20)]) (.cond 21 (.seq (.reg [Nq 2 1]) (.ret)) (.skip))) (.seq (.reg [Fq 22 0 1,Lq 23 22,Fq 24 1 1,Lq 25 24,Fq 26 2 1,Lq 27 26,Fq 28 3 1,Lq 29 28,Rq 30 (.mks 9 1 4 [(.string ⟨#[]⟩)] [(0,23),(1,25),(2,27),(3,29)]),Mq 3 30]) (.seq (.seq (.reg [Mq 31 3,Cq 32 39 ([31,(.func 40)])]) (.cond 32 (.seq (.reg [Nq 2 1]) (.ret)) (.skip))) (.seq (.reg [Rq 4 (.mv (.func 42))]) (.seq (.seq (.reg [Mq 33 4,Fq 34 3 1,Lq 35 34,Rq 36 (.mks 9 1 3 [(.string ⟨#[]⟩)] [(0,(.const (.string ⟨#[115,101,114,118,105,99,101]⟩))),(1,(.const (.string ⟨#[110,111,100,101]⟩))),(2,(.const (.string ⟨#[109,101,115,104]⟩)))]),Rq 37 (.call 33 [35,36]),Mq 38 37,Hq 39 38 false 4,Gq 40 38 false (.fldA 0 1),Gq 41 38 false (.load false 1 40),Gq 42 38 false (.mks 9 1 3 [(.string ⟨#[]⟩)] [(0,(.const (.string ⟨#[115,101,114,118,105,99,101]⟩))),(1,(.const (.string ⟨#[110,111,100,101]⟩))),(2,(.const (.string ⟨#[109,101,115,104]⟩)))]),Gq 43 38 false (.call 39 [41,42]),Rq 44 (.pick 38 (.const (.bool true)) 43),Mq 45 44,Hq 46 45 false 4,Gq 47 45 false (.fldA 1 1),Gq 48 45 false (.load false 1 47),Gq 49 45 false (.mks 9 1 3 [(.string ⟨#[]⟩)] [(0,(.const (.string ⟨#[115,101,114,118,105,99,101]⟩))),(1,(.const (.string ⟨#[110,111,100,101]⟩))),(2,(.const (.string ⟨#[109,101,115,104]⟩)))]),Gq 50 45 false (.call 46 [48,49]),Rq 51 (.pick 45 (.const (.bool true)) 50),Mq 52 51,Hq 53 52 false 4,Gq 54 52 false (.fldA 2 1),Gq 55 52 false (.load false 1 54),Gq 56 52 false (.mks 9 1 2 [(.string ⟨#[]⟩)] [(0,(.const (.string ⟨#[115,101,114,118,105,99,101]⟩))),(1,(.const (.string ⟨#[110,111,100,101]⟩)))]),Gq 57 52 false (.call 53 [55,56]),Rq 58 (.pick 52 (.const (.bool true)) 57)]) (.cond 58 (.seq (.reg [Nq 2 7]) (.ret)) (.skip))) (.seq (.reg [Nq 2 0]) (.ret)))))))
theorem Z5:Aj Tryz.prog 18 1=some (Zk,[2]):=by kernel_rfl
def Acg:Ai:=
 .seq (.reg [Rq 2 (.mv (.const (.bool false)))]) (.seq (.reg [Rq 3 (.mks 3 1 3 [(.int .i64 0)] [(0,(Kq 1)),(1,(Kq 16)),(2,(Kq 33))]),Mq 4 0,Cq 5 44 ([3,4]),Mq 2 5]) (.ret))
theorem Ace:Aj Tryz.prog 19 1=some (Acg,[2]):=by kernel_rfl
def Ya:Ai:=
 .seq (.reg [Rq 8 (.box 27 5 3),Nq 10 0]) (.seq (.seq (.reg [Mq 17 0,Cq 18 41 ([17]),Rq 19 (.not 18)]) (.cond 19 (.seq (.reg [Nq 10 1]) (.ret)) (.skip))) (.seq (.seq (.reg [Mq 20 1,Cq 21 45 ([20]),Mq 11 21]) (.seq (.reg [Mq 22 11,Bq 23 .neq 22 (Kq 0)]) (.cond 23 (.seq (.reg [Mq 24 11,Mq 10 24]) (.ret)) (.skip)))) (.seq (.seq (.reg [Mq 25 2,Cq 26 46 ([25]),Mq 12 26]) (.seq (.reg [Mq 27 12,Bq 28 .neq 27 (Kq 0)]) (.cond 28 (.seq (.reg [Mq 29 12,Mq 10 29]) (.ret)) (.skip)))) (.seq (.seq (.reg [Mq 30 4,Rq 31 (.len false 30),Bq 32 .gtr 31 (Kq 20)]) (.cond 32 (.seq (.reg [Nq 10 2]) (.ret)) (.skip))) (.seq (.seq (.reg [Rq 33 (.load true 5 8),Cq 34 47 ([33]),Mq 13 34]) (.seq (.reg [Mq 35 13,Bq 36 .neq 35 (Kq 0)]) (.cond 36 (.seq (.reg [Mq 37 13,Mq 10 37]) (.ret)) (.skip)))) (.seq (.seq (.reg [Mq 38 4,Rq 39 (.len false 38),Nq 40 0]) (.block 0 (.loop (.seq (.reg [Bq 41 .lss 40 39]) (.seq (.cond 41 (.skip) (.exit 0)) (.seq (.block 1 (.seq (.reg [Iq 42 6 38 40,Rq 43 (.load true 6 42),Rq 15 (.zbox 93 zq3),Sq 6 15 43]) (.seq (.reg [Fq 44 1 15,Rq 45 (.load true 5 44),Cq 46 47 ([45]),Mq 16 46]) (.seq (.reg [Mq 47 16,Bq 48 .neq 47 (Kq 0)]) (.cond 48 (.seq (.reg [Mq 49 16,Mq 10 49]) (.ret)) (.skip)))))) (.reg [Bq 50 .add 40 (Kq 1),Mq 40 50]))))))) (.seq (.reg [Nq 10 0]) (.ret))))))))
theorem Yb:Aj Tryz.prog 20 5=some (Ya,[10]):=by kernel_rfl
def Y6:Ai:=
 .seq (.reg [Rq 1 (.box 23 4 0),Rq 2 (.mv (.const (.string ⟨#[]⟩))),Nq 3 0]) (.seq (.seq (.reg [Rq 7 (.load true 4 1),Cq 8 18 ([7]),Mq 4 8]) (.seq (.reg [Mq 9 4,Bq 10 .neq 9 (Kq 0)]) (.cond 10 (.seq (.reg [Mq 11 4,Rq 2 (.mv (.const (.string ⟨#[]⟩))),Mq 3 11]) (.ret)) (.skip)))) (.seq (.reg [Rq 12 (.load true 4 1),Cq 13 48 ([12]),Mq 5 13]) (.seq (.seq (.reg [Mq 14 5,Cq 15 49 ([14]),Mq 6 15]) (.seq (.reg [Mq 16 6,Bq 17 .neq 16 (Kq 0)]) (.cond 17 (.seq (.reg [Mq 18 6,Rq 2 (.mv (.const (.string ⟨#[]⟩))),Mq 3 18]) (.ret)) (.skip)))) (.seq (.reg [Mq 19 5,Mq 2 19,Nq 3 0]) (.ret)))))
theorem Abd:Aj Tryz.prog 21 1=some (Y6,[2,3]):=by kernel_rfl
def Q3:Ai:=
 .seq (.reg [Rq 2 (.mv (.const (.slice none 0 0))),Nq 3 0,Nq 4 0]) (.seq (.dreg [[Mq 8 0,Fq 9 0 8,Fq 10 7 9,Lq 11 10,Mq 12 0,Fq 13 0 12,Fq 14 0 13,Fq 15 2 14,Lq 16 15],[Cq 17 50 ([11,16])],[Mq 7 17],[Eq1 18 7 0,Eq1 19 7 1,Mq 5 18],[Mq 6 19]]) (.seq (.seq (.reg [Mq 20 6,Rq 21 (.not 20),Mq 22 21,Hq 23 22 false 0,Hq 24 22 false 0,Gq 25 22 false (.fldA 0 24),Gq 26 22 false (.fldA 0 25),Gq 27 22 false (.fldA 2 26),Gq 28 22 false (.load false 1 27),Gq 29 22 false (.call (.func 51) [23,28]),Rq 30 (.pick 22 (.const (.bool true)) 29)]) (.cond 30 (.seq (.reg [Rq 2 (.mv (.const (.slice none 0 0))),Nq 3 3,Nq 4 0]) (.ret)) (.skip))) (.seq (.seq (.reg [Mq 31 0,Fq 32 0 31,Fq 33 4 32,Lq 34 33,Bq 35 .neq 34 (Kq 1)]) (.cond 35 (.seq (.reg [Rq 2 (.mv (.const (.slice none 0 0))),Nq 3 0,Nq 4 0]) (.ret)) (.skip))) (.seq (.dreg [[Mq 36 0,Fq 37 0 36,Fq 38 14 37,Lq 39 38,Mq 40 0,Fq 41 0 40,Fq 42 4 41,Lq 43 42,Mq 44 0,Fq 45 0 44,Fq 46 7 45,Lq 47 46,Mq 48 5,Iq 49 5 47 48,Fq 50 3 49,Lq 51 50],[Rq 52 (.build zq4 [(0,1,39),(1,1,43),(3,1,51)])],[Rq 53 (.mks 42 7 1 zq4 [(0,52)])],[Mq 2 53],[Nq 3 0],[Nq 4 0]]) (.ret)))))
theorem P7:Aj Tryz.prog 22 1=some (Q3,[2,3,4]):=by kernel_rfl
def Ni:Ai:=
 .seq (.reg [Rq 2 (.mv (.const (.slice none 0 0))),Nq 3 0,Nq 4 0]) (.seq (.reg [Rq 5 (.mv (.const (.slice none 0 0)))]) (.seq (.seq (.reg [Mq 12 0,Cq 13 52 ([12]),Rq 14 (.len false 13),Nq 15 0]) (.block 0 (.loop (.seq (.reg [Bq 16 .lss 15 14]) (.seq (.cond 16 (.skip) (.exit 0)) (.seq (.block 1 (.seq (.reg [Iq 17 9 13 15,Rq 18 (.load true 9 17),Rq 7 (.zbox 39 zq5),Sq 9 7 18]) (.seq (.reg [Mq 20 0,Rq 21 (.load true 9 7),Cq 22 53 ([20,21]),Mq 19 22,Eq1 23 19 0,Eq1 24 19 1,Rq 8 (.zbox 42 zq4),Sq 7 8 23,Mq 9 24]) (.seq (.seq (.reg [Mq 25 9,Bq 26 .neq 25 (Kq 0)]) (.cond 26 (.seq (.reg [Mq 27 9,Rq 2 (.mv (.const (.slice none 0 0))),Nq 3 0,Mq 4 27]) (.ret)) (.skip))) (.reg [Mq 28 5,Rq 29 (.load true 7 8),Rq 30 (.mks 42 7 1 zq4 [(0,29)]),Rq 31 (.app 42 7 80 (.agg #[(.string ⟨#[]⟩),(.int .i64 0),(.int .i64 0),(.int .i64 0),(.string ⟨#[]⟩),(.int .i64 0),(.string ⟨#[]⟩)]) 28 30),Mq 5 31]))))) (.reg [Bq 32 .add 15 (Kq 1),Mq 15 32]))))))) (.seq (.seq (.dreg [[Mq 34 0,Fq 35 0 34,Fq 36 6 35,Lq 37 36,Mq 38 0,Fq 39 0 38,Fq 40 0 39,Fq 41 0 40,Lq 42 41],[Cq 43 54 ([37,42,(.const (.string ⟨#[]⟩))])],[Mq 33 43],[Eq1 44 33 0,Eq1 45 33 1,Mq 10 44],[Mq 11 45]]) (.seq (.reg [Mq 46 10,Rq 47 (.len false 46),Bq 48 .eql 47 (Kq 0)]) (.cond 48 (.seq (.reg [Rq 2 (.mv (.const (.slice none 0 0))),Nq 3 3,Nq 4 0]) (.ret)) (.skip)))) (.seq (.reg [Mq 49 5,Mq 2 49,Nq 3 0,Nq 4 0]) (.ret)))))
theorem N7:Aj Tryz.prog 23 1=some (Ni,[2,3,4]):=by kernel_rfl
def Mw:Ai:=
 .seq (.reg [Rq 1 (.box 23 4 0),Nq 2 0]) (.seq (.seq (.reg [Fq 6 0 1,Lq 7 6,Rq 8 (.bin .eql 7 (.const (.string ⟨#[]⟩))),Mq 9 8,Gq 10 9 true (.fldA 2 1),Gq 11 9 true (.load false 1 10),Gq 12 9 true (.bin .eql 11 (.const (.string ⟨#[]⟩))),Rq 13 (.pick 9 12 (.const (.bool false))),Mq 14 13,Gq 15 14 false (.fldA 0 1),Gq 16 14 false (.load false 1 15),Gq 17 14 false (.bin .neq 16 (.const (.string ⟨#[]⟩))),Hq 18 14 false 17,Gq 19 18 true (.fldA 2 1),Gq 20 18 true (.load false 1 19),Gq 21 18 true (.bin .neq 20 (.const (.string ⟨#[]⟩))),Gq 22 14 false (.pick 18 21 (.const (.bool false))),Rq 23 (.pick 14 (.const (.bool true)) 22),Mq 24 23,Gq 25 24 false (.fldA 1 1),Gq 26 24 false (.load false 1 25),Gq 27 24 false (.bin .neq 26 (.const (.string ⟨#[]⟩))),Hq 28 24 false 27,Gq 29 28 true (.fldA 0 1),Gq 30 28 true (.load false 1 29),Gq 31 28 true (.bin .eql 30 (.const (.string ⟨#[]⟩))),Gq 32 24 false (.pick 28 31 (.const (.bool false))),Rq 33 (.pick 24 (.const (.bool true)) 32)]) (.cond 33 (.seq (.reg [Nq 2 1]) (.ret)) (.skip))) (.seq (.reg [Fq 34 0 1,Lq 35 34,Fq 36 1 1,Lq 37 36,Fq 38 2 1,Lq 39 38,Fq 40 3 1,Lq 41 40,Rq 42 (.mks 9 1 4 [(.string ⟨#[]⟩)] [(0,35),(1,37),(2,39),(3,41)]),Mq 3 42]) (.seq (.seq (.reg [Nq 4 0]) (.block 0 (.loop (.seq (.seq (.reg [Mq 43 4,Bq 44 .lss 43 (Kq 4)]) (.cond 44 (.skip) (.exit 0))) (.seq (.block 1 (.seq (.reg [Mq 47 3,Mq 48 4,Iq 49 1 47 48,Lq 50 49,Rq 51 (.bin .neq 50 (.const (.string ⟨#[]⟩))),Mq 52 51,Hq 53 52 true 3,Hq 54 52 true 4,Gq 55 52 true (.idxA 1 53 54),Gq 56 52 true (.load false 1 55),Gq 57 52 true (.call (.func 55) [56]),Gq 58 52 true (.not 57),Rq 59 (.pick 52 58 (.const (.bool false)))]) (.cond 59 (.seq (.reg [Nq 2 1]) (.ret)) (.skip)))) (.reg [Mq 45 4,Bq 46 .add 45 (Kq 1),Mq 4 46])))))) (.seq (.seq (.reg [Nq 5 0]) (.block 2 (.loop (.seq (.seq (.reg [Mq 60 5,Bq 61 .lss 60 (Kq 4)]) (.cond 61 (.skip) (.exit 2))) (.seq (.block 3 (.seq (.reg [Mq 64 3,Mq 65 5,Iq 66 1 64 65,Lq 67 66,Rq 68 (.bin .eql 67 (.const (.string ⟨#[115,101,114,118,105,99,101]⟩))),Mq 69 68,Hq 70 69 false 3,Hq 71 69 false 5,Gq 72 69 false (.idxA 1 70 71),Gq 73 69 false (.load false 1 72),Gq 74 69 false (.bin .eql 73 (.const (.string ⟨#[110,111,100,101]⟩))),Rq 75 (.pick 69 (.const (.bool true)) 74),Mq 76 75,Hq 77 76 false 5,Gq 78 76 false (.bin .neq 77 (Kq 2)),Hq 79 76 false 78,Hq 80 79 true 3,Hq 81 79 true 5,Gq 82 79 true (.idxA 1 80 81),Gq 83 79 true (.load false 1 82),Gq 84 79 true (.bin .eql 83 (.const (.string ⟨#[109,101,115,104]⟩))),Gq 85 76 false (.pick 79 84 (.const (.bool false))),Rq 86 (.pick 76 (.const (.bool true)) 85)]) (.cond 86 (.seq (.reg [Nq 2 7]) (.ret)) (.skip)))) (.reg [Mq 62 5,Bq 63 .add 62 (Kq 1),Mq 5 63])))))) (.seq (.reg [Nq 2 0]) (.ret))))))
theorem B5:Aj Tryz.prog 24 1=some (Mw,[2]):=by kernel_rfl
def P1:Ai:=
 .seq (.reg [Rq 2 (.mv (.const (.bool false)))]) (.seq (.reg [Mq 3 0,Bq 4 .eql 3 (Kq 1),Mq 5 4,Hq 6 5 false 0,Gq 7 5 false (.bin .eql 6 (Kq 16)),Rq 8 (.pick 5 (.const (.bool true)) 7),Mq 9 8,Hq 10 9 false 0,Gq 11 9 false (.bin .eql 10 (Kq 33)),Rq 12 (.pick 9 (.const (.bool true)) 11),Mq 2 12]) (.ret))
theorem Py:Aj Tryz.prog 25 1=some (P1,[2]):=by kernel_rfl
def M2:Ai:=
 .seq (.reg [Rq 8 (.box 27 5 3),Nq 10 0]) (.seq (.seq (.reg [Mq 13 0,Cq 14 55 ([13]),Rq 15 (.not 14)]) (.cond 15 (.seq (.reg [Nq 10 1]) (.ret)) (.skip))) (.seq (.reg [Mq 16 1,Cq 17 56 ([16]),Mq 11 17]) (.seq (.seq (.reg [Mq 18 11,Bq 19 .eql 18 (Kq 0)]) (.cond 19 (.reg [Mq 20 2,Cq 21 57 ([20]),Mq 11 21]) (.skip))) (.seq (.seq (.reg [Mq 22 11,Bq 23 .eql 22 (Kq 0),Mq 24 23,Hq 25 24 true 4,Gq 26 24 true (.len false 25),Gq 27 24 true (.bin .gtr 26 (Kq 20)),Rq 28 (.pick 24 27 (.const (.bool false)))]) (.cond 28 (.reg [Nq 11 2]) (.skip))) (.seq (.seq (.reg [Mq 29 11,Bq 30 .eql 29 (Kq 0)]) (.cond 30 (.reg [Rq 31 (.load true 5 8),Cq 32 58 ([31]),Mq 11 32]) (.skip))) (.seq (.seq (.reg [Nq 12 0]) (.block 0 (.loop (.seq (.seq (.reg [Mq 33 12,Mq 34 4,Rq 35 (.len false 34),Bq 36 .lss 33 35,Mq 37 36,Hq 38 37 true 11,Gq 39 37 true (.bin .eql 38 (Kq 0)),Rq 40 (.pick 37 39 (.const (.bool false)))]) (.cond 40 (.skip) (.exit 0))) (.seq (.block 1 (.reg [Mq 43 4,Mq 44 12,Iq 45 6 43 44,Fq 46 1 45,Rq 47 (.load true 5 46),Cq 48 58 ([47]),Mq 11 48])) (.reg [Mq 41 12,Bq 42 .add 41 (Kq 1),Mq 12 42])))))) (.seq (.reg [Mq 49 11,Mq 10 49]) (.ret))))))))
theorem Mu:Aj Tryz.prog 26 5=some (M2,[10]):=by kernel_rfl
def Pw:Ai:=
 .seq (.reg [Rq 1 (.box 23 4 0),Rq 2 (.mv (.const (.string ⟨#[]⟩))),Nq 3 0]) (.seq (.reg [Rq 6 (.load true 4 1),Cq 7 24 ([6]),Mq 4 7]) (.seq (.seq (.reg [Mq 8 4,Bq 9 .neq 8 (Kq 0)]) (.cond 9 (.seq (.reg [Mq 10 4,Rq 2 (.mv (.const (.string ⟨#[]⟩))),Mq 3 10]) (.ret)) (.skip))) (.seq (.reg [Fq 11 2 1,Lq 12 11,Rq 13 (.bin .add 12 (.const (.string ⟨#[46,110,111,100,101,46]⟩))),Mq 5 13]) (.seq (.seq (.reg [Fq 14 2 1,Lq 15 14,Rq 16 (.bin .eql 15 (.const (.string ⟨#[]⟩)))]) (.cond 16 (.seq (.reg [Fq 17 0 1,Lq 18 17,Rq 19 (.bin .add 18 (.const (.string ⟨#[46,115,101,114,118,105,99,101,46]⟩))),Mq 5 19]) (.seq (.reg [Fq 20 1 1,Lq 21 20,Rq 22 (.bin .neq 21 (.const (.string ⟨#[]⟩)))]) (.cond 22 (.reg [Fq 23 1 1,Lq 24 23,Rq 25 (.bin .add 24 (.const (.string ⟨#[46]⟩))),Mq 26 5,Bq 27 .add 25 26,Mq 5 27]) (.skip)))) (.skip))) (.seq (.seq (.reg [Fq 28 3 1,Lq 29 28,Rq 30 (.bin .neq 29 (.const (.string ⟨#[]⟩)))]) (.cond 30 (.reg [Mq 31 5,Fq 32 3 1,Lq 33 32,Rq 34 (.bin .add 33 (.const (.string ⟨#[46]⟩))),Bq 35 .add 31 34,Mq 5 35]) (.skip))) (.seq (.reg [Mq 36 5,Rq 37 (.bin .add 36 (.const (.string ⟨#[109,101,115,104]⟩))),Mq 5 37]) (.seq (.reg [Mq 38 5,Cq 39 59 ([38]),Mq 4 39]) (.seq (.seq (.reg [Mq 40 4,Bq 41 .neq 40 (Kq 0)]) (.cond 41 (.seq (.reg [Mq 42 4,Rq 2 (.mv (.const (.string ⟨#[]⟩))),Mq 3 42]) (.ret)) (.skip))) (.seq (.reg [Mq 43 5,Mq 2 43,Nq 3 0]) (.ret))))))))))
theorem Pt:Aj Tryz.prog 27 1=some (Pw,[2,3]):=by kernel_rfl
def Q6:Ai:=
 .seq (.reg [Rq 6 (.mv (.const (.slice none 0 0)))]) (.seq (.reg [Rq 7 (.mv (.const (.slice none 0 0)))]) (.seq (.seq (.reg [Nq 8 0]) (.block 0 (.loop (.seq (.seq (.reg [Mq 9 8,Mq 10 0,Rq 11 (.len false 10),Bq 12 .lss 9 11]) (.cond 12 (.skip) (.exit 0))) (.seq (.block 1 (.seq (.reg [Mq 15 0,Mq 16 8,Iq 17 9 15 16,Fq 18 2 17,Lq 19 18,Mq 20 1,Bq 21 .eql 19 20,Mq 22 21,Hq 23 22 true 2,Gq 24 22 true (.bin .eql 23 (.const (.string ⟨#[]⟩))),Hq 25 22 true 24,Hq 26 25 false 2,Hq 27 25 false 0,Hq 28 25 false 8,Gq 29 25 false (.idxA 9 27 28),Gq 30 25 false (.fldA 3 29),Gq 31 25 false (.load false 1 30),Gq 32 25 false (.bin .eql 26 31),Gq 33 22 true (.pick 25 (.const (.bool true)) 32),Rq 34 (.pick 22 33 (.const (.bool false))),Mq 35 34,Hq 36 35 true 0,Hq 37 35 true 8,Gq 38 35 true (.idxA 9 36 37),Gq 39 35 true (.fldA 6 38),Gq 40 35 true (.load false 1 39),Rq 41 (.pick 35 40 (.const (.bool false))),Mq 42 41,Hq 43 42 true 0,Hq 44 42 true 8,Gq 45 42 true (.idxA 9 43 44),Gq 46 42 true (.fldA 8 45),Gq 47 42 true (.load false 1 46),Gq 48 42 true (.not 47),Rq 49 (.pick 42 48 (.const (.bool false)))]) (.cond 49 (.reg [Mq 50 7,Mq 51 0,Mq 52 8,Iq 53 9 51 52,Rq 54 (.load true 9 53),Rq 55 (.mks 39 9 1 zq5 [(0,54)]),Rq 56 (.app 39 9 104 (.agg #[(.string ⟨#[]⟩),(.string ⟨#[]⟩),(.string ⟨#[]⟩),(.string ⟨#[]⟩),(.int .i64 0),(.int .i64 0),(.bool false),(.int .i64 0),(.bool false)]) 50 55),Mq 7 56]) (.skip)))) (.reg [Mq 13 8,Bq 14 .add 13 (Kq 1),Mq 8 14])))))) (.seq (.reg [Mq 57 7,Mq 6 57]) (.ret))))
theorem Qa:Aj Tryz.prog 28 3=some (Q6,[6]):=by kernel_rfl
def P8:Ai:=
 .seq (.reg [Rq 3 (.box 27 5 0),Rq 6 (.mv (.const (.slice none 0 0)))]) (.seq (.reg [Rq 7 (.mv (.const (.slice none 0 0)))]) (.seq (.seq (.reg [Nq 8 0]) (.block 0 (.loop (.seq (.seq (.reg [Mq 13 8,Mq 14 2,Rq 15 (.len false 14),Bq 16 .lss 13 15]) (.cond 16 (.skip) (.exit 0))) (.seq (.block 1 (.seq (.dreg [[Rq 19 (.load true 5 3),Mq 20 1,Mq 21 2,Mq 22 8,Iq 23 1 21 22,Lq 24 23],[Cq 25 60 ([19,20,24])],[Mq 9 25]]) (.seq (.reg [Nq 10 0]) (.seq (.block 2 (.loop (.seq (.seq (.reg [Mq 26 10,Mq 27 7,Rq 28 (.len false 27),Bq 29 .lss 26 28]) (.cond 29 (.skip) (.exit 2))) (.block 3 (.seq (.dreg [[Rq 30 (.load true 5 3),Mq 31 1,Mq 32 7,Mq 33 10,Iq 34 1 32 33,Lq 35 34],[Cq 36 60 ([30,31,35])],[Mq 11 36]]) (.seq (.dreg [[Mq 37 9],[Bq 38 .lss 37 (Kq 0)],[Mq 39 38],[Hq 40 39 true 11],[Gq 41 39 true (.bin .geq 40 (Kq 0))],[Rq 42 (.pick 39 41 (.const (.bool false)))],[Mq 43 42],[Hq 44 43 false 9,Gq 45 43 false (.bin .lss 44 (Kq 0)),Hq 46 43 false 11,Gq 47 43 false (.bin .lss 46 (Kq 0))],[Gq 48 43 false (.eqb false 45 47)],[Hq 49 43 false 48],[Hq 50 49 true 11,Hq 51 49 true 9],[Gq 52 49 true (.bin .lss 50 51)],[Hq 53 49 true 52],[Hq 54 53 false 11,Hq 55 53 false 9],[Gq 56 53 false (.bin .eql 54 55)],[Hq 57 53 false 56],[Hq 58 57 true 7,Hq 59 57 true 10,Gq 60 57 true (.idxA 1 58 59),Gq 61 57 true (.load false 1 60),Hq 62 57 true 2,Hq 63 57 true 8,Gq 64 57 true (.idxA 1 62 63),Gq 65 57 true (.load false 1 64)],[Gq 66 57 true (.bin .leq 61 65)],[Gq 67 53 false (.pick 57 66 (.const (.bool false)))],[Gq 68 49 true (.pick 53 (.const (.bool true)) 67)],[Gq 69 43 false (.pick 49 68 (.const (.bool false)))],[Rq 70 (.pick 43 (.const (.bool true)) 69)],[Mq 12 70]]) (.seq (.seq (.reg [Mq 71 12,Rq 72 (.not 71)]) (.cond 72 (.exit 2) (.skip))) (.reg [Mq 73 10,Bq 74 .add 73 (Kq 1),Mq 10 74])))))))) (.dreg [[],[Rq 87 (.app 9 1 16 (.string ⟨#[]⟩) 83 86),Rq 78 (.mkm)],[Mq 75 7,Mq 76 10,Mq 77 10,Rq 78 (.slcL 1 75 none (some 76) (some 77)),Mq 79 2,Mq 80 8,Iq 81 1 79 80,Lq 82 81,Rq 83 (.mks 9 1 1 [(.string ⟨#[]⟩)] [(0,82)]),Mq 84 7,Mq 85 10,Rq 86 (.slcL 1 84 (some 85) none none)],[Rq 88 (.app 9 1 16 (.string ⟨#[]⟩) 78 87)],[Mq 7 88]]))))) (.reg [Mq 17 8,Bq 18 .add 17 (Kq 1),Mq 8 18])))))) (.seq (.reg [Mq 89 7,Mq 6 89]) (.ret))))
theorem Rd:Aj Tryz.prog 29 3=some (P8,[6]):=by kernel_rfl
def Ye:Ai:=
 .seq (.reg [Rq 6 (.box 52 7 0),Rq 10 (.box 27 5 4),Rq 12 (.zbox 52 zq0)]) (.seq (.reg [Fq 18 0 6,Lq 19 18,Fq 20 4 6,Rq 21 (.load true 2 20),Rq 22 (.build zq0 [(0,1,19),(1,1,(.const (.bool true))),(4,2,21)]),Rq 13 (.zbox 52 zq0),Sq 7 13 22]) (.seq (.reg [Fq 24 4 6,Fq 25 0 24,Lq 26 25,Cq 27 61 ([26]),Mq 23 27,Eq1 28 23 0,Eq1 29 23 1,Rq 14 (.zbox 23 zq7),Sq 4 14 28,Mq 15 29]) (.seq (.seq (.reg [Mq 30 15,Bq 31 .neq 30 (Kq 0)]) (.cond 31 (.seq (.seq (.reg [Mq 32 15,Cq 33 62 ([32]),Fq 34 3 13,Sq 1 34 33]) (.seq (.reg [Fq 35 3 13,Lq 36 35,Bq 37 .eql 36 (Kq 0)]) (.cond 37 (.reg [Fq 38 3 13,Sq 1 38 (Kq 3)]) (.skip)))) (.seq (.reg [Rq 39 (.load true 7 13),Sq 7 12 39]) (.ret))) (.skip))) (.seq (.reg [Rq 41 (.load true 4 14),Fq 42 4 6,Fq 43 1 42,Lq 44 43,Mq 45 1,Mq 46 2,Mq 47 3,Rq 48 (.load true 5 10),Mq 49 5,Cq 50 8 ([41,44,45,46,47,48,49]),Mq 40 50,Eq1 51 40 0,Eq1 52 40 1,Eq1 53 40 2,Mq 16 51,Mq 17 52,Mq 15 53]) (.seq (.seq (.reg [Mq 54 15,Bq 55 .neq 54 (Kq 0)]) (.cond 55 (.seq (.reg [Fq 56 3 13,Sq 1 56 (Kq 2)]) (.seq (.reg [Rq 57 (.load true 7 13),Sq 7 12 57]) (.ret))) (.skip))) (.seq (.reg [Mq 58 17,Mq 59 16,Fq 60 3 13,Sq 1 60 58,Fq 61 6 13,Sq 1 61 59]) (.seq (.reg [Rq 62 (.load true 7 13),Sq 7 12 62]) (.ret))))))))
theorem X7:Ep Tryz.prog 30 6=some (Ye,[(12,some (true,7))]):=by kernel_rfl
def Ajq:Ai:=
 .seq (.reg [Rq 2 (.box 52 7 0),Rq 4 (.mv (.const (.string ⟨#[]⟩))),Nq 5 0]) (.seq (.seq (.reg [Mq 8 1,Cq 9 63 ([8,(Kq 12),(Kq 512)]),Rq 10 (.not 9)]) (.cond 10 (.seq (.reg [Rq 4 (.mv (.const (.string ⟨#[]⟩))),Nq 5 3]) (.ret)) (.skip))) (.seq (.seq (.reg [Rq 11 (.load true 7 2),Cq 12 35 ([11]),Mq 6 12]) (.seq (.reg [Mq 13 6,Bq 14 .neq 13 (Kq 0)]) (.cond 14 (.seq (.reg [Mq 15 6,Rq 4 (.mv (.const (.string ⟨#[]⟩))),Mq 5 15]) (.ret)) (.skip)))) (.block 0 (.loop (.block 1 (.seq (.reg [Rq 16 (.load true 7 2),Cq 17 36 ([16]),Mq 7 17]) (.seq (.block 2 (.seq (.reg [Mq 19 7,Rq 20 (.len true 19),Mq 21 1,Bq 22 .leq 20 21,Mq 18 22]) (.cond 18 (.seq (.reg [Mq 23 7,Mq 4 23,Nq 5 0]) (.ret)) (.seq (.reg [Fq 25 6 2,Lq 26 25,Rq 27 (.len false 26),Bq 28 .eql 27 (Kq 0),Mq 24 28]) (.cond 24 (.seq (.reg [Rq 4 (.mv (.const (.string ⟨#[]⟩))),Nq 5 2]) (.ret)) (.skip)))))) (.reg [Fq 29 6 2,Lq 30 29,Fq 31 6 2,Lq 32 31,Rq 33 (.len false 32),Bq 34 .sub 33 (Kq 1),Rq 35 (.slcL 7 30 none (some 34) none),Fq 36 6 2,Sq 1 36 35,Fq 37 2 2,Sq 1 37 (.const (.bool true))]))))))))
theorem Ak1:Aj Tryz.prog 31 2=some (Ajq,[4,5]):=by kernel_rfl
def Hx:Ai:=
 .seq (.reg [Rq 2 (.zbox 52 zq0),Nq 3 0]) (.seq (.seq (.reg [Mq 15 0,Rq 16 (.len true 15),Bq 17 .gtr 16 (Kq 512)]) (.cond 17 (.seq (.reg [Rq 18 (.build zq0 []),Sq 7 2 18,Nq 3 2]) (.ret)) (.skip))) (.seq (.reg [Mq 19 0,Rq 20 (.build [(.string ⟨#[]⟩),(.int .i64 0),(.bool false)] [(0,1,19)]),Rq 21 (.box 108 3 20),Mq 4 21]) (.seq (.reg [Mq 22 4,Cq 23 64 ([22,(Kq 2)]),Rq 24 (.build zq0 [(0,1,23)]),Rq 5 (.zbox 52 zq0),Sq 7 5 24]) (.seq (.reg [Mq 25 4,Cq 26 64 ([25,(Kq 1)]),Mq 6 26]) (.seq (.reg [Mq 27 6,Bq 28 .geq 27 (Kq 128),Fq 29 1 5,Sq 1 29 28]) (.seq (.reg [Mq 30 6,Bq 31 .rem 30 (Kq 4),Bq 32 .geq 31 (Kq 2),Fq 33 2 5,Sq 1 33 32]) (.seq (.reg [Mq 34 4,Cq 35 64 ([34,(Kq 1)]),Fq 36 3 5,Sq 1 36 35]) (.seq (.reg [Mq 37 4,Cq 38 64 ([37,(Kq 2)]),Mq 7 38]) (.seq (.reg [Mq 39 4,Cq 40 64 ([39,(Kq 2)]),Mq 8 40]) (.seq (.reg [Mq 41 4,Cq 42 64 ([41,(Kq 4)]),Mq 9 42]) (.seq (.seq (.reg [Mq 43 4,Fq 44 0 43,Fq 45 2 44,Lq 46 45,Mq 47 46,Hq 48 47 false 6,Gq 49 47 false (.bin .neq 48 (Kq 0)),Hq 50 47 false 49,Hq 51 50 true 6,Gq 52 50 true (.bin .neq 51 (Kq 2)),Gq 53 47 false (.pick 50 52 (.const (.bool false))),Hq 54 47 false 53,Hq 55 54 true 6,Gq 56 54 true (.bin .neq 55 (Kq 128)),Gq 57 47 false (.pick 54 56 (.const (.bool false))),Hq 58 47 false 57,Hq 59 58 true 6,Gq 60 58 true (.bin .neq 59 (Kq 130)),Gq 61 47 false (.pick 58 60 (.const (.bool false))),Rq 62 (.pick 47 (.const (.bool true)) 61),Mq 63 62,Gq 64 63 false (.fldA 3 5),Gq 65 63 false (.load false 1 64),Gq 66 63 false (.bin .gtr 65 (Kq 15)),Rq 67 (.pick 63 (.const (.bool true)) 66),Mq 68 67,Hq 69 68 false 7,Gq 70 68 false (.bin .neq 69 (Kq 1)),Rq 71 (.pick 68 (.const (.bool true)) 70),Mq 72 71,Hq 73 72 false 8,Gq 74 72 false (.bin .gtr 73 (Kq 20)),Rq 75 (.pick 72 (.const (.bool true)) 74),Mq 76 75,Hq 77 76 false 9,Gq 78 76 false (.bin .neq 77 (Kq 0)),Rq 79 (.pick 76 (.const (.bool true)) 78)]) (.cond 79 (.seq (.reg [Rq 80 (.build zq0 []),Sq 7 2 80,Nq 3 1]) (.ret)) (.skip))) (.seq (.reg [Mq 81 4,Cq 82 65 ([81]),Fq 83 4 5,Fq 84 0 83,Sq 1 84 82]) (.seq (.reg [Mq 85 4,Cq 86 64 ([85,(Kq 2)]),Fq 87 4 5,Fq 88 1 87,Sq 1 88 86]) (.seq (.reg [Mq 89 4,Mq 90 4,Fq 91 0 90,Fq 92 2 91,Lq 93 92,Mq 94 93,Hq 95 94 false 4,Gq 96 94 false (.call (.func 64) [95,(Kq 2)]),Gq 97 94 false (.bin .neq 96 (Kq 1)),Rq 98 (.pick 94 (.const (.bool true)) 97),Fq 99 0 89,Fq 100 2 99,Sq 1 100 98]) (.seq (.seq (.reg [Nq 10 0]) (.block 0 (.loop (.seq (.seq (.reg [Mq 101 10,Mq 102 8,Bq 103 .lss 101 102,Mq 104 103,Hq 105 104 true 4,Gq 106 104 true (.fldA 0 105),Gq 107 104 true (.fldA 2 106),Gq 108 104 true (.load false 1 107),Gq 109 104 true (.not 108),Rq 110 (.pick 104 109 (.const (.bool false)))]) (.cond 110 (.skip) (.exit 0))) (.seq (.block 1 (.seq (.reg [Rq 11 (.zbox 42 zq4)]) (.seq (.reg [Mq 113 4,Cq 114 65 ([113]),Fq 115 0 11,Sq 1 115 114]) (.seq (.reg [Mq 116 4,Cq 117 64 ([116,(Kq 2)]),Fq 118 1 11,Sq 1 118 117]) (.seq (.reg [Mq 119 4,Mq 120 4,Fq 121 0 120,Fq 122 2 121,Lq 123 122,Mq 124 123,Hq 125 124 false 4,Gq 126 124 false (.call (.func 64) [125,(Kq 2)]),Gq 127 124 false (.bin .neq 126 (Kq 1)),Rq 128 (.pick 124 (.const (.bool true)) 127),Fq 129 0 119,Fq 130 2 129,Sq 1 130 128]) (.seq (.reg [Mq 131 4,Cq 132 64 ([131,(Kq 4)]),Fq 133 2 11,Sq 1 133 132]) (.seq (.reg [Mq 134 4,Cq 135 64 ([134,(Kq 2)]),Mq 12 135]) (.seq (.reg [Mq 136 4,Fq 137 0 136,Fq 138 1 137,Lq 139 138,Mq 140 12,Bq 141 .add 139 140,Mq 13 141]) (.seq (.seq (.reg [Mq 142 4,Fq 143 0 142,Fq 144 2 143,Lq 145 144,Mq 146 145,Hq 147 146 false 13,Hq 148 146 false 0,Gq 149 146 false (.len true 148),Gq 150 146 false (.bin .gtr 147 149),Rq 151 (.pick 146 (.const (.bool true)) 150)]) (.cond 151 (.seq (.reg [Rq 152 (.build zq0 []),Sq 7 2 152,Nq 3 1]) (.ret)) (.skip))) (.seq (.seq (.reg [Fq 153 1 11,Lq 154 153]) (.block 2 (.seq (.reg [Bq 156 .eql 154 (Kq 1),Mq 155 156]) (.cond 155 (.reg [Mq 157 4,Cq 158 64 ([157,(Kq 4)]),Fq 159 3 11,Sq 1 159 158]) (.seq (.reg [Bq 161 .eql 154 (Kq 16),Mq 160 161]) (.cond 160 (.seq (.reg [Mq 162 4,Cq 163 64 ([162,(Kq 1)]),Mq 14 163]) (.seq (.seq (.reg [Mq 164 4,Fq 165 0 164,Fq 166 2 165,Lq 167 166,Mq 168 167,Hq 169 168 false 4,Gq 170 168 false (.fldA 0 169),Gq 171 168 false (.fldA 1 170),Gq 172 168 false (.load false 1 171),Hq 173 168 false 14,Gq 174 168 false (.bin .add 172 173),Hq 175 168 false 0,Gq 176 168 false (.len true 175),Gq 177 168 false (.bin .gtr 174 176),Rq 178 (.pick 168 (.const (.bool true)) 177)]) (.cond 178 (.seq (.reg [Rq 179 (.build zq0 []),Sq 7 2 179,Nq 3 1]) (.ret)) (.skip))) (.seq (.dreg [[Mq 180 0,Mq 181 4,Fq 182 0 181,Fq 183 1 182,Lq 184 183,Mq 185 4,Fq 186 0 185,Fq 187 1 186,Lq 188 187,Mq 189 14,Bq 190 .add 188 189],[Rq 191 (.slcS 180 (some 184) (some 190))],[Fq 192 4 11],[Sq 1 192 191]]) (.reg [Mq 193 4,Fq 194 0 193,Fq 195 1 194,Lq 196 195,Mq 197 14,Bq 198 .add 196 197,Fq 199 0 193,Fq 200 1 199,Sq 1 200 198])))) (.seq (.reg [Bq 202 .eql 154 (Kq 33),Mq 201 202]) (.cond 201 (.seq (.reg [Mq 203 4,Mq 204 4,Fq 205 0 204,Fq 206 2 205,Lq 207 206,Mq 208 207,Hq 209 208 false 4,Gq 210 208 false (.call (.func 64) [209,(Kq 4)]),Gq 211 208 false (.bin .neq 210 (Kq 0)),Rq 212 (.pick 208 (.const (.bool true)) 211),Fq 213 0 203,Fq 214 2 213,Sq 1 214 212]) (.seq (.reg [Mq 215 4,Cq 216 64 ([215,(Kq 2)]),Fq 217 5 11,Sq 1 217 216]) (.reg [Mq 218 4,Cq 219 65 ([218]),Fq 220 6 11,Sq 1 220 219]))) (.skip))))))))) (.seq (.reg [Mq 221 4,Mq 222 4,Fq 223 0 222,Fq 224 2 223,Lq 225 224,Mq 226 225,Hq 227 226 false 4,Gq 228 226 false (.fldA 0 227),Gq 229 226 false (.fldA 1 228),Gq 230 226 false (.load false 1 229),Hq 231 226 false 13,Gq 232 226 false (.bin .neq 230 231),Rq 233 (.pick 226 (.const (.bool true)) 232),Fq 234 0 221,Fq 235 2 234,Sq 1 235 233]) (.reg [Fq 236 6 5,Lq 237 236,Rq 238 (.load true 7 11),Rq 239 (.mks 42 7 1 zq4 [(0,238)]),Rq 240 (.app 42 7 80 (.agg #[(.string ⟨#[]⟩),(.int .i64 0),(.int .i64 0),(.int .i64 0),(.string ⟨#[]⟩),(.int .i64 0),(.string ⟨#[]⟩)]) 237 239),Fq 241 6 5,Sq 1 241 240])))))))))))) (.reg [Mq 111 10,Bq 112 .add 111 (Kq 1),Mq 10 112])))))) (.seq (.seq (.reg [Mq 242 4,Fq 243 0 242,Fq 244 2 243,Lq 245 244,Mq 246 245,Hq 247 246 false 4,Gq 248 246 false (.fldA 0 247),Gq 249 246 false (.fldA 1 248),Gq 250 246 false (.load false 1 249),Hq 251 246 false 0,Gq 252 246 false (.len true 251),Gq 253 246 false (.bin .neq 250 252),Rq 254 (.pick 246 (.const (.bool true)) 253),Mq 255 254,Gq 256 255 false (.load true 7 5),Gq 257 255 false (.call (.func 66) [256]),Gq 258 255 false (.bin .neq 257 (Kq 0)),Rq 259 (.pick 255 (.const (.bool true)) 258)]) (.cond 259 (.seq (.reg [Rq 260 (.build zq0 []),Sq 7 2 260,Nq 3 1]) (.ret)) (.skip))) (.seq (.reg [Rq 261 (.load true 7 5),Sq 7 2 261,Nq 3 0]) (.ret))))))))))))))))))
theorem Nz:Ep Tryz.prog 32 1=some (Hx,[(2,some (true,7)),(3,none)]):=by kernel_rfl
def Pu:Ai:=
 .seq (.reg [Rq 2 (.zbox 23 zq7),Nq 3 0]) (.seq (.reg [Mq 10 0,Cq 11 59 ([10]),Mq 4 11]) (.seq (.seq (.reg [Mq 12 4,Bq 13 .neq 12 (Kq 0)]) (.cond 13 (.seq (.reg [Rq 14 (.build zq7 []),Mq 15 4,Sq 4 2 14,Mq 3 15]) (.ret)) (.skip))) (.seq (.reg [Mq 16 0,Cq 17 67 ([16]),Mq 5 17]) (.seq (.seq (.reg [Mq 18 5,Rq 19 (.len false 18),Bq 20 .eql 19 (Kq 0),Mq 21 20,Hq 22 21 false 5,Hq 23 21 false 5,Gq 24 21 false (.len false 23),Gq 25 21 false (.bin .sub 24 (Kq 1)),Gq 26 21 false (.idxA 1 22 25),Gq 27 21 false (.load false 1 26),Gq 28 21 false (.bin .neq 27 (.const (.string ⟨#[109,101,115,104]⟩))),Rq 29 (.pick 21 (.const (.bool true)) 28)]) (.cond 29 (.seq (.reg [Rq 30 (.build zq7 []),Sq 4 2 30,Nq 3 8]) (.ret)) (.skip))) (.seq (.reg [Rq 6 (.mv (.const (.slice none 0 0)))]) (.seq (.seq (.reg [Mq 31 5,Rq 32 (.len false 31)]) (.block 0 (.seq (.reg [Bq 34 .eql 32 (Kq 3),Mq 33 34]) (.cond 33 (.dreg [[Mq 35 5,Rq 36 (.idxA 1 35 (Kq 0)),Lq 37 36,Rq 38 (.build zq7 [(0,1,37)]),Mq 39 5,Rq 40 (.idxA 1 39 (Kq 0)),Lq 41 40,Rq 42 (.build zq7 [(2,1,41)])],[Rq 43 (.mks 23 4 2 zq7 [(0,38),(1,42)])],[Mq 6 43]]) (.seq (.reg [Bq 45 .eql 32 (Kq 4),Mq 44 45]) (.cond 44 (.dreg [[Mq 46 5,Rq 47 (.idxA 1 46 (Kq 0)),Lq 48 47,Mq 49 5,Rq 50 (.idxA 1 49 (Kq 2)),Lq 51 50,Rq 52 (.build zq7 [(0,1,48),(3,1,51)]),Mq 53 5,Rq 54 (.idxA 1 53 (Kq 0)),Lq 55 54,Mq 56 5,Rq 57 (.idxA 1 56 (Kq 2)),Lq 58 57,Rq 59 (.build zq7 [(2,1,55),(3,1,58)]),Mq 60 5,Rq 61 (.idxA 1 60 (Kq 0)),Lq 62 61,Mq 63 5,Rq 64 (.idxA 1 63 (Kq 1)),Lq 65 64,Rq 66 (.build zq7 [(1,1,62),(0,1,65)])],[Rq 67 (.mks 23 4 3 zq7 [(0,52),(1,59),(2,66)])],[Mq 6 67]]) (.seq (.reg [Bq 69 .eql 32 (Kq 5),Mq 68 69]) (.cond 68 (.dreg [[Mq 70 5,Rq 71 (.idxA 1 70 (Kq 0)),Lq 72 71,Mq 73 5,Rq 74 (.idxA 1 73 (Kq 1)),Lq 75 74,Mq 76 5,Rq 77 (.idxA 1 76 (Kq 3)),Lq 78 77],[Rq 79 (.build zq7 [(1,1,72),(0,1,75),(3,1,78)])],[Rq 80 (.mks 23 4 1 zq7 [(0,79)])],[Mq 6 80]]) (.skip))))))))) (.seq (.seq (.reg [Nq 7 0]) (.block 1 (.loop (.seq (.seq (.reg [Mq 81 7,Mq 82 6,Rq 83 (.len false 82),Bq 84 .lss 81 83]) (.cond 84 (.skip) (.exit 1))) (.seq (.block 2 (.seq (.reg [Mq 88 6,Mq 89 7,Iq 90 4 88 89,Rq 91 (.load true 4 90),Cq 92 27 ([91]),Mq 87 92,Eq1 93 87 0,Eq1 94 87 1,Mq 8 93,Mq 9 94]) (.seq (.reg [Mq 95 9,Bq 96 .eql 95 (Kq 0),Mq 97 96,Hq 98 97 true 8,Hq 99 97 true 0,Gq 100 97 true (.bin .eql 98 99),Rq 101 (.pick 97 100 (.const (.bool false)))]) (.cond 101 (.seq (.reg [Mq 102 6,Mq 103 7,Iq 104 4 102 103,Rq 105 (.load true 4 104),Sq 4 2 105,Nq 3 0]) (.ret)) (.skip))))) (.reg [Mq 85 7,Bq 86 .add 85 (Kq 1),Mq 7 86])))))) (.seq (.reg [Rq 106 (.build zq7 []),Sq 4 2 106,Nq 3 1]) (.ret)))))))))
theorem Pi:Ep Tryz.prog 33 1=some (Pu,[(2,some (true,4)),(3,none)]):=by kernel_rfl
def Sg:Ai:=
 .seq (.reg [Rq 2 (.box 52 7 0),Rq 4 (.mv (.const (.string ⟨#[]⟩))),Nq 5 0]) (.seq (.seq (.reg [Mq 10 1,Cq 11 68 ([10,(Kq 12),(Kq 512)]),Rq 12 (.not 11)]) (.cond 12 (.seq (.reg [Rq 4 (.mv (.const (.string ⟨#[]⟩))),Nq 5 3]) (.ret)) (.skip))) (.seq (.reg [Rq 13 (.load true 7 2),Cq 14 66 ([13]),Mq 6 14]) (.seq (.seq (.reg [Mq 15 6,Bq 16 .neq 15 (Kq 0)]) (.cond 16 (.seq (.reg [Mq 17 6,Rq 4 (.mv (.const (.string ⟨#[]⟩))),Mq 5 17]) (.ret)) (.skip))) (.seq (.seq (.reg [Fq 18 6 2,Lq 19 18,Rq 20 (.len false 19),Mq 7 20]) (.block 0 (.loop (.seq (.seq (.reg [Mq 21 7,Bq 22 .geq 21 (Kq 0)]) (.cond 22 (.skip) (.exit 0))) (.seq (.block 1 (.seq (.reg [Rq 25 (.load true 7 2),Rq 8 (.zbox 52 zq0),Sq 7 8 25]) (.seq (.reg [Fq 26 6 2,Lq 27 26,Mq 28 7,Rq 29 (.slcL 7 27 none (some 28) none),Fq 30 6 8,Sq 1 30 29]) (.seq (.reg [Fq 31 2 2,Lq 32 31,Mq 33 32,Hq 34 33 false 7,Gq 35 33 false (.fldA 6 2),Gq 36 33 false (.load false 1 35),Gq 37 33 false (.len false 36),Gq 38 33 false (.bin .lss 34 37),Rq 39 (.pick 33 (.const (.bool true)) 38),Fq 40 2 8,Sq 1 40 39]) (.seq (.reg [Rq 41 (.load true 7 8),Cq 42 69 ([41]),Mq 9 42]) (.seq (.reg [Mq 43 9,Rq 44 (.len true 43),Mq 45 1,Bq 46 .leq 44 45]) (.cond 46 (.seq (.reg [Mq 47 9,Mq 4 47,Nq 5 0]) (.ret)) (.skip)))))))) (.reg [Mq 23 7,Bq 24 .sub 23 (Kq 1),Mq 7 24])))))) (.seq (.reg [Rq 4 (.mv (.const (.string ⟨#[]⟩))),Nq 5 2]) (.ret))))))
theorem Sm:Aj Tryz.prog 34 2=some (Sg,[4,5]):=by kernel_rfl
def Aef:Ai:=
 .seq (.reg [Rq 1 (.box 52 7 0),Nq 2 0]) (.seq (.block 0 (.seq (.reg [Fq 8 0 1,Lq 9 8,Cq 10 63 ([9,(Kq 0),(Kq 65535)]),Rq 11 (.not 10),Mq 12 11,Gq 13 12 false (.fldA 3 1),Gq 14 12 false (.load false 1 13),Gq 15 12 false (.call (.func 63) [14,(Kq 0),(Kq 15)]),Gq 16 12 false (.not 15),Rq 17 (.pick 12 (.const (.bool true)) 16),Mq 7 17]) (.cond 7 (.seq (.reg [Nq 2 3]) (.ret)) (.seq (.reg [Fq 19 6 1,Lq 20 19,Rq 21 (.len false 20),Bq 22 .gtr 21 (Kq 20),Mq 18 22]) (.cond 18 (.seq (.reg [Nq 2 2]) (.ret)) (.skip)))))) (.seq (.seq (.reg [Fq 23 4 1,Fq 24 0 23,Lq 25 24,Cq 26 49 ([25]),Mq 3 26]) (.seq (.reg [Mq 27 3,Bq 28 .neq 27 (Kq 0)]) (.cond 28 (.seq (.reg [Mq 29 3,Mq 2 29]) (.ret)) (.skip)))) (.seq (.seq (.reg [Fq 30 4 1,Fq 31 1 30,Lq 32 31,Cq 33 19 ([32]),Rq 34 (.not 33)]) (.cond 34 (.seq (.reg [Nq 2 7]) (.ret)) (.skip))) (.seq (.seq (.reg [Fq 35 6 1,Lq 36 35,Rq 37 (.len false 36),Nq 38 0]) (.block 1 (.loop (.seq (.reg [Bq 39 .lss 38 37]) (.seq (.cond 39 (.skip) (.exit 1)) (.seq (.block 2 (.seq (.reg [Iq 40 7 36 38,Rq 41 (.load true 7 40),Rq 5 (.zbox 42 zq4),Sq 7 5 41]) (.seq (.reg [Rq 42 (.load true 7 5),Cq 43 70 ([42]),Mq 6 43]) (.seq (.reg [Mq 44 6,Bq 45 .neq 44 (Kq 0)]) (.cond 45 (.seq (.reg [Mq 46 6,Mq 2 46]) (.ret)) (.skip)))))) (.reg [Bq 47 .add 38 (Kq 1),Mq 38 47]))))))) (.seq (.reg [Nq 2 0]) (.ret))))))
theorem Af9:Aj Tryz.prog 35 1=some (Aef,[2]):=by kernel_rfl
def Afq:Ai:=
 .seq (.reg [Rq 1 (.box 52 7 0),Rq 2 (.mv (.const (.string ⟨#[]⟩)))]) (.seq (.reg [Rq 7 (.build [(.pointer none),(.slice none 0 0)] []),Rq 8 (.box 120 2 7),Mq 3 8]) (.seq (.reg [Fq 9 3 1,Lq 10 9,Mq 4 10]) (.seq (.seq (.reg [Fq 11 1 1,Lq 12 11]) (.cond 12 (.reg [Mq 13 4,Bq 14 .or 13 (Kq 32768),Mq 4 14]) (.skip))) (.seq (.seq (.reg [Fq 15 2 1,Lq 16 15]) (.cond 16 (.reg [Mq 17 4,Bq 18 .or 17 (Kq 512),Mq 4 18]) (.skip))) (.seq (.reg [Mq 19 3,Fq 20 0 1,Lq 21 20,Mq 22 4,Fq 23 6 1,Lq 24 23,Rq 25 (.len false 24),Rq 26 (.mks 3 1 6 [(.int .i64 0)] [(0,21),(1,22),(2,(Kq 1)),(3,25),(4,(Kq 0)),(5,(Kq 0))]),Cq 27 71 ([19,26])]) (.seq (.reg [Mq 28 3,Fq 29 4 1,Fq 30 0 29,Lq 31 30,Cq 32 72 ([28,31])]) (.seq (.reg [Mq 33 3,Fq 34 4 1,Fq 35 1 34,Lq 36 35,Rq 37 (.mks 3 1 2 [(.int .i64 0)] [(0,36),(1,(Kq 1))]),Cq 38 71 ([33,37])]) (.seq (.seq (.reg [Fq 39 6 1,Lq 40 39,Rq 41 (.len false 40),Nq 42 0]) (.block 0 (.loop (.seq (.reg [Bq 43 .lss 42 41]) (.seq (.cond 43 (.skip) (.exit 0)) (.seq (.block 1 (.seq (.reg [Iq 44 7 40 42,Rq 45 (.load true 7 44),Rq 6 (.zbox 42 zq4),Sq 7 6 45]) (.reg [Mq 46 3,Rq 47 (.load true 7 6),Cq 48 73 ([46,47])]))) (.reg [Bq 49 .add 42 (Kq 1),Mq 42 49]))))))) (.seq (.reg [Mq 50 3,Fq 51 0 50,Fq 52 0 51,Cq 53 74 ([52]),Mq 2 53]) (.ret))))))))))
theorem J7:Aj Tryz.prog 36 1=some (Afq,[2]):=by kernel_rfl
def Pk:Ai:=
 .seq (.reg [Rq 2 (.zbox 52 zq0)]) (.seq (.reg [Mq 7 0,Cq 8 75 ([7]),Rq 9 (.build zq0 [(0,1,8)]),Rq 3 (.zbox 52 zq0),Sq 7 3 9]) (.seq (.reg [Mq 10 0,Cq 11 76 ([10]),Mq 12 0,Cq 13 76 ([12]),Mq 4 11,Mq 5 13]) (.seq (.reg [Mq 14 0,Mq 15 4,Bq 16 .andNot 15 (Kq 130),Bq 17 .eql 16 (Kq 0),Mq 18 17,Hq 19 18 true 5,Gq 20 18 true (.bin .lss 19 (Kq 16)),Rq 21 (.pick 18 20 (.const (.bool false))),Cq 22 77 ([14,21])]) (.seq (.reg [Mq 23 4,Bq 24 .and 23 (Kq 128),Bq 25 .gtr 24 (Kq 0),Mq 26 4,Bq 27 .and 26 (Kq 2),Bq 28 .gtr 27 (Kq 0),Mq 29 5,Fq 30 1 3,Sq 1 30 25,Fq 31 2 3,Sq 1 31 28,Fq 32 3 3,Sq 1 32 29]) (.seq (.reg [Mq 33 0,Mq 34 0,Cq 35 75 ([34]),Bq 36 .eql 35 (Kq 1),Cq 37 77 ([33,36])]) (.seq (.reg [Mq 38 0,Cq 39 75 ([38]),Mq 6 39]) (.seq (.reg [Mq 40 0,Mq 41 6,Bq 42 .leq 41 (Kq 20),Mq 43 42,Hq 44 43 true 0,Gq 45 43 true (.call (.func 75) [44]),Gq 46 43 true (.bin .eql 45 (Kq 0)),Rq 47 (.pick 43 46 (.const (.bool false))),Mq 48 47,Hq 49 48 true 0,Gq 50 48 true (.call (.func 75) [49]),Gq 51 48 true (.bin .eql 50 (Kq 0)),Rq 52 (.pick 48 51 (.const (.bool false))),Cq 53 77 ([40,52])]) (.seq (.reg [Mq 54 0,Cq 55 78 ([54]),Mq 56 0,Cq 57 75 ([56]),Rq 58 (.build [(.string ⟨#[]⟩),(.int .i64 0)] [(0,1,55),(1,1,57)]),Fq 59 4 3,Sq 2 59 58]) (.seq (.reg [Mq 60 0,Mq 61 0,Cq 62 75 ([61]),Bq 63 .eql 62 (Kq 1),Cq 64 77 ([60,63])]) (.seq (.seq (.reg [Mq 65 6,Nq 66 0]) (.block 0 (.loop (.seq (.reg [Bq 67 .lss 66 65]) (.seq (.cond 67 (.skip) (.exit 0)) (.seq (.block 1 (.dreg [[],[⟨none,none,.mkm⟩],[Fq 68 6 3,Lq 69 68,Mq 70 0,Cq 71 79 ([70]),Rq 72 (.mks 42 7 1 zq4 [(0,71)])],[Rq 73 (.app 42 7 80 (.agg #[(.string ⟨#[]⟩),(.int .i64 0),(.int .i64 0),(.int .i64 0),(.string ⟨#[]⟩),(.int .i64 0),(.string ⟨#[]⟩)]) 69 72)],[Fq 74 6 3],[Sq 1 74 73]])) (.reg [Bq 75 .add 66 (Kq 1),Mq 66 75]))))))) (.seq (.dreg [[Mq 76 0,Mq 77 0,Fq 78 0 77,Fq 79 1 78,Lq 80 79,Mq 81 0,Fq 82 0 81,Fq 83 0 82,Lq 84 83,Rq 85 (.len true 84),Bq 86 .eql 80 85],[Cq 87 77 ([76,86])]]) (.seq (.reg [Rq 88 (.load true 7 3),Sq 7 2 88]) (.ret)))))))))))))
theorem Im:Ep Tryz.prog 38 1=some (Pk,[(2,some (true,7))]):=by kernel_rfl
def Gs:Ai:=
 .seq (.reg [Rq 4 (.mv (.const (.bool false)))]) (.seq (.reg [Mq 5 0,Mq 6 1,Cq 7 80 ([5,6]),Bq 8 .geq 7 (Kq 0),Mq 4 8]) (.ret))
theorem Gt:Aj Tryz.prog 39 2=some (Gs,[4]):=by kernel_rfl
def Vo:Ai:=
 .seq (.reg [Rq 2 (.mv (.const (.bool false)))]) (.seq (.reg [Mq 3 0,Rq 4 (.bin .neq 3 (.const (.string ⟨#[]⟩))),Mq 5 4,Hq 6 5 true 0,Gq 7 5 true (.call (.func 41) [6]),Gq 8 5 true (.not 7),Rq 9 (.pick 5 8 (.const (.bool false))),Mq 2 9]) (.ret))
theorem Wk:Aj Tryz.prog 40 1=some (Vo,[2]):=by kernel_rfl
def V1:Ai:=
 .seq (.reg [Rq 4 (.mv (.const (.bool false)))]) (.seq (.reg [Mq 5 1,Mq 6 0,Cq 7 43 ([5,6]),Mq 4 7]) (.ret))
theorem Vu:Aj Tryz.prog 42 2=some (V1,[4]):=by kernel_rfl
def H9:Ai:=
 .seq (.reg [Rq 4 (.mv (.const (.bool false)))]) (.seq (.reg [Mq 5 0,Mq 6 1,Cq 7 81 ([5,6]),Bq 8 .geq 7 (Kq 0),Mq 4 8]) (.ret))
theorem Ie:Aj Tryz.prog 43 2=some (H9,[4]):=by kernel_rfl
def La:Ai:=
 .seq (.reg [Rq 4 (.mv (.const (.bool false)))]) (.seq (.reg [Mq 5 0,Mq 6 1,Cq 7 82 ([5,6]),Bq 8 .geq 7 (Kq 0),Mq 4 8]) (.ret))
theorem Kt:Aj Tryz.prog 44 2=some (La,[4]):=by kernel_rfl
def Vr:Ai:=
 .seq (.reg [Nq 2 0]) (.seq (.reg [Mq 3 0,Rq 4 (.mks 24 1 1 [(.slice none 0 0)] [(0,3)]),Cq 5 83 ([4]),Mq 2 5]) (.ret))
theorem V6:Aj Tryz.prog 45 1=some (Vr,[2]):=by kernel_rfl
def Yn:Ai:=
 .seq (.reg [Nq 2 0]) (.seq (.reg [Mq 3 0,Rq 4 (.mks 25 1 1 [(.slice none 0 0)] [(0,3)]),Cq 5 84 ([4]),Mq 2 5]) (.ret))
theorem Yk:Aj Tryz.prog 46 1=some (Yn,[2]):=by kernel_rfl
def Zg:Ai:=
 .seq (.reg [Rq 1 (.box 27 5 0),Nq 2 0]) (.seq (.reg [Rq 3 (.mv (.func 85))]) (.seq (.seq (.reg [Mq 4 3,Fq 5 0 1,Lq 6 5,Rq 7 (.call 4 [6]),Rq 8 (.not 7),Mq 9 8,Hq 10 9 false 3,Gq 11 9 false (.fldA 1 1),Gq 12 9 false (.load false 1 11),Gq 13 9 false (.call 10 [12]),Gq 14 9 false (.not 13),Rq 15 (.pick 9 (.const (.bool true)) 14),Mq 16 15,Hq 17 16 false 3,Gq 18 16 false (.fldA 2 1),Gq 19 16 false (.load false 1 18),Gq 20 16 false (.call 17 [19]),Gq 21 16 false (.not 20),Rq 22 (.pick 16 (.const (.bool true)) 21),Mq 23 22,Gq 24 23 false (.fldA 3 1),Gq 25 23 false (.load false 1 24),Gq 26 23 false (.call (.func 86) [25,(Kq 0),(Kq 1000000)]),Gq 27 23 false (.not 26),Rq 28 (.pick 23 (.const (.bool true)) 27),Mq 29 28,Gq 30 29 false (.fldA 4 1),Gq 31 29 false (.load false 1 30),Gq 32 29 false (.call (.func 86) [31,(Kq 0),(Kq 1000)]),Gq 33 29 false (.not 32),Rq 34 (.pick 29 (.const (.bool true)) 33)]) (.cond 34 (.seq (.reg [Nq 2 3]) (.ret)) (.skip))) (.seq (.reg [Nq 2 0]) (.ret))))
theorem Zd:Aj Tryz.prog 47 1=some (Zg,[2]):=by kernel_rfl
def Ws:Ai:=
 .seq (.reg [Rq 1 (.box 23 4 0),Rq 2 (.mv (.const (.string ⟨#[]⟩)))]) (.seq (.reg [Rq 3 (.mv (.const (.slice none 0 0)))]) (.seq (.seq (.reg [Fq 4 2 1,Lq 5 4,Rq 6 (.bin .neq 5 (.const (.string ⟨#[]⟩)))]) (.cond 6 (.reg [Fq 7 2 1,Lq 8 7,Rq 9 (.mks 9 1 2 [(.string ⟨#[]⟩)] [(0,8),(1,(.const (.string ⟨#[110,111,100,101]⟩)))]),Mq 3 9]) (.reg [Fq 10 1 1,Lq 11 10,Fq 12 0 1,Lq 13 12,Rq 14 (.mks 9 1 3 [(.string ⟨#[]⟩)] [(0,11),(1,13),(2,(.const (.string ⟨#[115,101,114,118,105,99,101]⟩)))]),Mq 3 14]))) (.seq (.reg [Mq 15 3,Fq 16 3 1,Lq 17 16,Rq 18 (.mks 9 1 2 [(.string ⟨#[]⟩)] [(0,17),(1,(.const (.string ⟨#[109,101,115,104]⟩)))]),Rq 19 (.app 9 1 16 (.string ⟨#[]⟩) 15 18),Mq 3 19]) (.seq (.reg [Mq 20 3,Cq 21 88 ([20,(.func 89)]),Cq 22 87 ([21,(.const (.string ⟨#[46]⟩))]),Mq 2 22]) (.ret)))))
theorem W3:Aj Tryz.prog 48 1=some (Ws,[2]):=by kernel_rfl
def Ae4:Ai:=
 .seq (.reg [Nq 2 0]) (.seq (.reg [Mq 4 0,Cq 5 90 ([4]),Mq 3 5]) (.seq (.block 0 (.seq (.reg [Mq 7 3,Cq 8 39 ([7,(.func 91)]),Mq 6 8]) (.cond 6 (.seq (.reg [Nq 2 1]) (.ret)) (.seq (.reg [Mq 10 3,Rq 11 (.len false 10),Bq 12 .gtr 11 (Kq 8),Mq 13 12,Hq 14 13 false 0,Gq 15 13 false (.len true 14),Gq 16 13 false (.bin .gtr 15 (Kq 120)),Rq 17 (.pick 13 (.const (.bool true)) 16),Mq 9 17]) (.cond 9 (.seq (.reg [Nq 2 2]) (.ret)) (.skip)))))) (.seq (.reg [Nq 2 0]) (.ret))))
theorem Afi:Aj Tryz.prog 49 1=some (Ae4,[2]):=by kernel_rfl
def Zo:Ai:=
 .seq (.reg [Nq 4 0,Rq 5 (.mv (.const (.bool false)))]) (.seq (.reg [Mq 6 0,Mq 7 1,Cq 8 92 ([6,7,(.func 93)]),Eq1 9 8 0,Eq1 10 8 1,Mq 4 9,Mq 5 10]) (.ret))
theorem Zc:Aj Tryz.prog 50 2=some (Zo,[4,5]):=by kernel_rfl
def Qd:Ai:=
 .seq (.reg [Rq 4 (.mv (.const (.bool false)))]) (.seq (.reg [Mq 8 0,Fq 9 0 8,Fq 10 7 9,Lq 11 10,Mq 12 1,Cq 13 50 ([11,12]),Mq 7 13,Eq1 14 7 0,Eq1 15 7 1,Mq 5 14,Mq 6 15]) (.seq (.reg [Mq 16 6,Mq 17 16,Hq 18 17 true 0,Gq 19 17 true (.fldA 0 18),Gq 20 17 true (.fldA 7 19),Gq 21 17 true (.load false 1 20),Hq 22 17 true 5,Gq 23 17 true (.idxA 5 21 22),Gq 24 17 true (.fldA 1 23),Gq 25 17 true (.load false 1 24),Gq 26 17 true (.bin .geq 25 (Kq 3)),Rq 27 (.pick 17 26 (.const (.bool false))),Mq 4 27]) (.ret)))
theorem Q2:Aj Tryz.prog 51 2=some (Qd,[4]):=by kernel_rfl
def Pj:Ai:=
 .seq (.reg [Rq 1 (.box 61 1 0),Rq 2 (.mv (.const (.slice none 0 0)))]) (.seq (.dreg [[Lq 13 1,Fq 14 0 13,Fq 15 6 14,Lq 16 15,Lq 17 1,Fq 18 0 17,Fq 19 0 18,Fq 20 0 19,Lq 21 20,Lq 22 1,Fq 23 0 22,Fq 24 0 23,Fq 25 1 24,Lq 26 25],[Cq 27 54 ([16,21,26])],[Mq 12 27],[Eq1 28 12 0,Eq1 29 12 1,Mq 3 28],[Mq 4 29]]) (.seq (.reg [Mq 30 3,Rq 31 (.mkfn 96 [1]),Cq 32 95 ([30,31]),Mq 3 32]) (.seq (.reg [Rq 33 (.mkm),Mq 5 33]) (.seq (.reg [Rq 6 (.mv (.const (.slice none 0 0)))]) (.seq (.seq (.reg [Mq 34 3,Rq 35 (.len false 34),Nq 36 0]) (.block 0 (.loop (.seq (.reg [Bq 37 .lss 36 35]) (.seq (.cond 37 (.skip) (.exit 0)) (.seq (.block 1 (.seq (.reg [Iq 38 9 34 36,Rq 39 (.load true 9 38),Rq 8 (.zbox 39 zq5),Sq 9 8 39]) (.seq (.seq (.reg [Mq 40 5,Fq 41 0 8,Lq 42 41,Rq 43 (.mlook .string false (.slice none 0 0) 40 42),Rq 44 (.len false 43),Bq 45 .eql 44 (Kq 0)]) (.cond 45 (.reg [Mq 46 6,Fq 47 0 8,Lq 48 47,Rq 49 (.mks 9 1 1 [(.string ⟨#[]⟩)] [(0,48)]),Rq 50 (.app 9 1 16 (.string ⟨#[]⟩) 46 49),Mq 6 50]) (.skip))) (.dreg [[],[Rq 60 (.app 39 9 104 (.agg #[(.string ⟨#[]⟩),(.string ⟨#[]⟩),(.string ⟨#[]⟩),(.string ⟨#[]⟩),(.int .i64 0),(.int .i64 0),(.bool false),(.int .i64 0),(.bool false)]) 57 59),Rq 52 (.mkm),Rq 53 (.mkm)],[Mq 51 5,Fq 52 0 8,Lq 53 52,Mq 54 5,Fq 55 0 8,Lq 56 55,Rq 57 (.mlook .string false (.slice none 0 0) 54 56),Rq 58 (.load true 9 8),Rq 59 (.mks 39 9 1 zq5 [(0,58)])],[⟨none,none,.mupd .string 51 53 60⟩]])))) (.reg [Bq 61 .add 36 (Kq 1),Mq 36 61]))))))) (.seq (.dreg [[Lq 63 1,Fq 64 0 63,Fq 65 8 64,Rq 66 (.load true 5 65),Lq 67 1,Fq 68 0 67,Fq 69 13 68,Lq 70 69,Mq 71 6],[Cq 72 97 ([66,70,71])],[Mq 62 72],[Eq1 73 62 0,Eq1 74 62 1,Mq 6 73]]) (.seq (.reg [Rq 9 (.mv (.const (.slice none 0 0)))]) (.seq (.seq (.reg [Mq 75 6,Rq 76 (.len false 75),Nq 77 0]) (.block 2 (.loop (.seq (.reg [Bq 78 .lss 77 76]) (.seq (.cond 78 (.skip) (.exit 2)) (.seq (.block 3 (.seq (.reg [Iq 79 1 75 77,Lq 80 79,Mq 11 80]) (.reg [Mq 81 9,Mq 82 5,Mq 83 11,Rq 84 (.mlook .string false (.slice none 0 0) 82 83),Rq 85 (.app 39 9 104 (.agg #[(.string ⟨#[]⟩),(.string ⟨#[]⟩),(.string ⟨#[]⟩),(.string ⟨#[]⟩),(.int .i64 0),(.int .i64 0),(.bool false),(.int .i64 0),(.bool false)]) 81 84),Mq 9 85]))) (.reg [Bq 86 .add 77 (Kq 1),Mq 77 86]))))))) (.seq (.reg [Mq 87 9,Mq 88 9,Rq 89 (.len false 88),Rq 90 (.mm false 89 (Kq 20)),Rq 91 (.slcL 9 87 none (some 90) none),Mq 2 91]) (.ret))))))))))
theorem Pm:Aj Tryz.prog 52 1=some (Pj,[2]):=by kernel_rfl
def O2:Ai:=
 .seq (.reg [Rq 3 (.box 39 9 1),Rq 4 (.zbox 42 zq4),Nq 5 0]) (.seq (.dreg [[Mq 9 0,Fq 10 0 9,Fq 11 14 10,Lq 12 11,Mq 13 0,Fq 14 0 13,Fq 15 4 14,Lq 16 15,Rq 17 (.build zq4 [(0,1,12),(1,1,16)]),Rq 6 (.zbox 42 zq4)],[Sq 7 6 17]]) (.seq (.seq (.reg [Mq 18 0,Fq 19 0 18,Fq 20 4 19,Lq 21 20]) (.block 0 (.seq (.reg [Bq 23 .eql 21 (Kq 1),Mq 22 23]) (.cond 22 (.reg [Fq 24 4 3,Lq 25 24,Fq 26 3 6,Sq 1 26 25]) (.seq (.reg [Bq 28 .eql 21 (Kq 16),Mq 27 28]) (.cond 27 (.reg [Fq 29 1 3,Lq 30 29,Fq 31 4 6,Sq 1 31 30]) (.seq (.reg [Bq 33 .eql 21 (Kq 33),Mq 32 33]) (.cond 32 (.seq (.dreg [[Fq 35 0 3,Lq 36 35,Mq 37 0,Fq 38 0 37,Fq 39 5 38,Lq 40 39],[Rq 41 (.build zq7 [(2,1,36),(3,1,40)])],[Cq 42 21 ([41])],[Mq 34 42],[Eq1 43 34 0,Eq1 44 34 1,Mq 7 43],[Mq 8 44]]) (.seq (.seq (.reg [Mq 45 8,Bq 46 .neq 45 (Kq 0)]) (.cond 46 (.seq (.reg [Rq 47 (.load true 7 6),Mq 48 8,Sq 7 4 47,Mq 5 48]) (.ret)) (.skip))) (.reg [Fq 49 5 3,Lq 50 49,Mq 51 7,Fq 52 5 6,Sq 1 52 50,Fq 53 6 6,Sq 1 53 51]))) (.skip))))))))) (.seq (.reg [Rq 54 (.load true 7 6),Sq 7 4 54,Nq 5 0]) (.ret))))
theorem Ox:Ep Tryz.prog 53 2=some (O2,[(4,some (true,7)),(5,none)]):=by kernel_rfl
def Yo:Ai:=
 .seq (.reg [Rq 6 (.mv (.const (.slice none 0 0))),Nq 7 0]) (.seq (.seq (.reg [Mq 12 0,Rq 13 (.mks 24 1 1 [(.slice none 0 0)] [(0,12)]),Cq 14 83 ([13]),Mq 8 14]) (.seq (.reg [Mq 15 8,Bq 16 .neq 15 (Kq 0)]) (.cond 16 (.seq (.reg [Mq 17 8,Rq 6 (.mv (.const (.slice none 0 0))),Mq 7 17]) (.ret)) (.skip)))) (.seq (.seq (.reg [Mq 18 1,Cq 19 41 ([18]),Rq 20 (.not 19),Mq 21 20,Hq 22 21 false 2,Gq 23 21 false (.call (.func 98) [22]),Gq 24 21 false (.not 23),Rq 25 (.pick 21 (.const (.bool true)) 24)]) (.cond 25 (.seq (.reg [Rq 6 (.mv (.const (.slice none 0 0))),Nq 7 1]) (.ret)) (.skip))) (.seq (.reg [Rq 9 (.mv (.const (.slice none 0 0)))]) (.seq (.seq (.reg [Mq 26 0,Rq 27 (.len false 26),Nq 28 0]) (.block 0 (.loop (.seq (.reg [Bq 29 .lss 28 27]) (.seq (.cond 29 (.skip) (.exit 0)) (.seq (.block 1 (.seq (.reg [Iq 30 9 26 28,Rq 31 (.load true 9 30),Rq 11 (.zbox 39 zq5),Sq 9 11 31]) (.seq (.reg [Fq 32 2 11,Lq 33 32,Mq 34 1,Bq 35 .eql 33 34,Mq 36 35,Hq 37 36 true 2,Gq 38 36 true (.bin .eql 37 (.const (.string ⟨#[]⟩))),Hq 39 36 true 38,Gq 40 39 false (.fldA 3 11),Gq 41 39 false (.load false 1 40),Hq 42 39 false 2,Gq 43 39 false (.bin .eql 41 42),Gq 44 36 true (.pick 39 (.const (.bool true)) 43),Rq 45 (.pick 36 44 (.const (.bool false))),Mq 46 45,Gq 47 46 true (.fldA 6 11),Gq 48 46 true (.load false 1 47),Rq 49 (.pick 46 48 (.const (.bool false))),Mq 50 49,Gq 51 50 true (.fldA 8 11),Gq 52 50 true (.load false 1 51),Gq 53 50 true (.not 52),Rq 54 (.pick 50 53 (.const (.bool false)))]) (.cond 54 (.reg [Mq 55 9,Rq 56 (.load true 9 11),Rq 57 (.mks 39 9 1 zq5 [(0,56)]),Rq 58 (.app 39 9 104 (.agg #[(.string ⟨#[]⟩),(.string ⟨#[]⟩),(.string ⟨#[]⟩),(.string ⟨#[]⟩),(.int .i64 0),(.int .i64 0),(.bool false),(.int .i64 0),(.bool false)]) 55 57),Mq 9 58]) (.skip))))) (.reg [Bq 59 .add 28 (Kq 1),Mq 28 59]))))))) (.seq (.reg [Mq 60 9,Mq 6 60,Nq 7 0]) (.ret))))))
theorem Pb:Aj Tryz.prog 54 3=some (Yo,[6,7]):=by kernel_rfl
def Lj:Ai:=
 .seq (.reg [Nq 2 0]) (.seq (.seq (.reg [Mq 6 0,Rq 7 (.len false 6),Bq 8 .gtr 7 (Kq 40)]) (.cond 8 (.seq (.reg [Nq 2 2]) (.ret)) (.skip))) (.seq (.seq (.reg [Nq 3 0]) (.block 0 (.loop (.seq (.seq (.reg [Mq 9 3,Mq 10 0,Rq 11 (.len false 10),Bq 12 .lss 9 11]) (.cond 12 (.skip) (.exit 0))) (.seq (.block 1 (.seq (.reg [Mq 15 0,Mq 16 3,Iq 17 9 15 16,Rq 18 (.load true 9 17),Cq 19 99 ([18]),Mq 4 19]) (.seq (.reg [Mq 20 4,Bq 21 .neq 20 (Kq 0)]) (.cond 21 (.seq (.reg [Mq 22 4,Mq 2 22]) (.ret)) (.skip))))) (.reg [Mq 13 3,Bq 14 .add 13 (Kq 1),Mq 3 14])))))) (.seq (.seq (.reg [Nq 5 1]) (.block 2 (.loop (.seq (.seq (.reg [Mq 23 5,Mq 24 0,Rq 25 (.len false 24),Bq 26 .lss 23 25]) (.cond 26 (.skip) (.exit 2))) (.seq (.block 3 (.seq (.dreg [[Mq 29 0,Mq 30 5,Bq 31 .sub 30 (Kq 1),Iq 32 9 29 31,Rq 33 (.load true 9 32),Mq 34 0,Mq 35 5,Iq 36 9 34 35,Rq 37 (.load true 9 36)],[Cq 38 100 ([33,37])],[Rq 39 (.not 38)]]) (.cond 39 (.seq (.reg [Nq 2 4]) (.ret)) (.skip)))) (.reg [Mq 27 5,Bq 28 .add 27 (Kq 1),Mq 5 28])))))) (.seq (.reg [Nq 2 0]) (.ret)))))
theorem Ko:Aj Tryz.prog 56 1=some (Lj,[2]):=by kernel_rfl
def Ld:Ai:=
 .seq (.reg [Nq 2 0]) (.seq (.seq (.reg [Mq 6 0,Rq 7 (.len false 6),Bq 8 .gtr 7 (Kq 20)]) (.cond 8 (.seq (.reg [Nq 2 2]) (.ret)) (.skip))) (.seq (.seq (.reg [Nq 3 0]) (.block 0 (.loop (.seq (.seq (.reg [Mq 9 3,Mq 10 0,Rq 11 (.len false 10),Bq 12 .lss 9 11]) (.cond 12 (.skip) (.exit 0))) (.seq (.block 1 (.seq (.reg [Mq 15 0,Mq 16 3,Iq 17 5 15 16,Rq 18 (.load true 5 17),Cq 19 101 ([18]),Mq 4 19]) (.seq (.reg [Mq 20 4,Bq 21 .neq 20 (Kq 0)]) (.cond 21 (.seq (.reg [Mq 22 4,Mq 2 22]) (.ret)) (.skip))))) (.reg [Mq 13 3,Bq 14 .add 13 (Kq 1),Mq 3 14])))))) (.seq (.seq (.reg [Nq 5 1]) (.block 2 (.loop (.seq (.seq (.reg [Mq 23 5,Mq 24 0,Rq 25 (.len false 24),Bq 26 .lss 23 25]) (.cond 26 (.skip) (.exit 2))) (.seq (.block 3 (.seq (.dreg [[Mq 29 0,Mq 30 5,Iq 31 5 29 30,Fq 32 0 31,Lq 33 32,Mq 34 0,Mq 35 5,Bq 36 .sub 35 (Kq 1),Iq 37 5 34 36,Fq 38 0 37,Lq 39 38],[Bq 40 .leq 33 39]]) (.cond 40 (.seq (.reg [Nq 2 4]) (.ret)) (.skip)))) (.reg [Mq 27 5,Bq 28 .add 27 (Kq 1),Mq 5 28])))))) (.seq (.reg [Nq 2 0]) (.ret)))))
theorem Lk:Aj Tryz.prog 57 1=some (Ld,[2]):=by kernel_rfl
def Mt:Ai:=
 .seq (.reg [Rq 1 (.box 27 5 0),Nq 2 0]) (.seq (.seq (.reg [Fq 3 0 1,Lq 4 3,Cq 5 68 ([4,(.const (.int .i64 (-10000000))),(Kq 10000000)]),Rq 6 (.not 5),Mq 7 6,Gq 8 7 false (.fldA 1 1),Gq 9 7 false (.load false 1 8),Gq 10 7 false (.call (.func 68) [9,(.const (.int .i64 (-10000000))),(Kq 10000000)]),Gq 11 7 false (.not 10),Rq 12 (.pick 7 (.const (.bool true)) 11),Mq 13 12,Gq 14 13 false (.fldA 2 1),Gq 15 13 false (.load false 1 14),Gq 16 13 false (.call (.func 68) [15,(.const (.int .i64 (-10000000))),(Kq 10000000)]),Gq 17 13 false (.not 16),Rq 18 (.pick 13 (.const (.bool true)) 17),Mq 19 18,Gq 20 19 false (.fldA 3 1),Gq 21 19 false (.load false 1 20),Gq 22 19 false (.call (.func 68) [21,(Kq 0),(Kq 1000000)]),Gq 23 19 false (.not 22),Rq 24 (.pick 19 (.const (.bool true)) 23),Mq 25 24,Gq 26 25 false (.fldA 4 1),Gq 27 25 false (.load false 1 26),Gq 28 25 false (.call (.func 68) [27,(Kq 0),(Kq 1000)]),Gq 29 25 false (.not 28),Rq 30 (.pick 25 (.const (.bool true)) 29)]) (.cond 30 (.seq (.reg [Nq 2 3]) (.ret)) (.skip))) (.seq (.reg [Nq 2 0]) (.ret)))
theorem Mz:Aj Tryz.prog 58 1=some (Mt,[2]):=by kernel_rfl
def N8:Ai:=
 .seq (.reg [Nq 2 0]) (.seq (.reg [Mq 5 0,Cq 6 67 ([5]),Mq 3 6]) (.seq (.seq (.reg [Nq 4 0]) (.block 0 (.loop (.seq (.seq (.reg [Mq 7 4,Mq 8 3,Rq 9 (.len false 8),Bq 10 .lss 7 9]) (.cond 10 (.skip) (.exit 0))) (.seq (.block 1 (.seq (.reg [Mq 13 3,Mq 14 4,Iq 15 1 13 14,Lq 16 15,Cq 17 55 ([16]),Rq 18 (.not 17)]) (.cond 18 (.seq (.reg [Nq 2 1]) (.ret)) (.skip)))) (.reg [Mq 11 4,Bq 12 .add 11 (Kq 1),Mq 4 12])))))) (.seq (.seq (.reg [Mq 19 3,Rq 20 (.len false 19),Bq 21 .gtr 20 (Kq 8),Mq 22 21,Hq 23 22 false 0,Gq 24 22 false (.len true 23),Gq 25 22 false (.bin .gtr 24 (Kq 120)),Rq 26 (.pick 22 (.const (.bool true)) 25)]) (.cond 26 (.seq (.reg [Nq 2 2]) (.ret)) (.skip))) (.seq (.reg [Nq 2 0]) (.ret)))))
theorem Na:Aj Tryz.prog 59 1=some (N8,[2]):=by kernel_rfl
def Pq:Ai:=
 .seq (.reg [Rq 3 (.box 27 5 0),Nq 6 0]) (.seq (.seq (.reg [Nq 7 0]) (.block 0 (.loop (.seq (.seq (.reg [Mq 8 7,Mq 9 1,Rq 10 (.len false 9),Bq 11 .lss 8 10]) (.cond 11 (.skip) (.exit 0))) (.seq (.block 1 (.seq (.reg [Mq 14 1,Mq 15 7,Iq 16 6 14 15,Fq 17 0 16,Lq 18 17,Mq 19 2,Bq 20 .eql 18 19]) (.cond 20 (.seq (.dreg [[Rq 21 (.load true 5 3),Mq 22 1,Mq 23 7,Iq 24 6 22 23,Fq 25 1 24,Rq 26 (.load true 5 25)],[Cq 27 102 ([21,26])],[Mq 6 27]]) (.ret)) (.skip)))) (.reg [Mq 12 7,Bq 13 .add 12 (Kq 1),Mq 7 13])))))) (.seq (.reg [Rq 6 (.mv (.const (.int .i64 (-1))))]) (.ret)))
theorem Po:Aj Tryz.prog 60 3=some (Pq,[6]):=by kernel_rfl
def Aam:Ai:=
 .seq (.reg [Rq 2 (.zbox 23 zq7),Nq 3 0]) (.seq (.seq (.reg [Mq 11 0,Cq 12 49 ([11]),Mq 4 12]) (.seq (.reg [Mq 13 4,Bq 14 .neq 13 (Kq 0)]) (.cond 14 (.seq (.reg [Rq 15 (.build zq7 []),Mq 16 4,Sq 4 2 15,Mq 3 16]) (.ret)) (.skip)))) (.seq (.reg [Mq 17 0,Cq 18 103 ([17,(.const (.string ⟨#[46]⟩))]),Mq 5 18]) (.seq (.seq (.reg [Mq 19 5,Mq 20 5,Rq 21 (.len false 20),Bq 22 .sub 21 (Kq 1),Iq 23 1 19 22,Lq 24 23,Rq 25 (.bin .neq 24 (.const (.string ⟨#[109,101,115,104]⟩)))]) (.cond 25 (.seq (.reg [Rq 26 (.build zq7 []),Sq 4 2 26,Nq 3 8]) (.ret)) (.skip))) (.seq (.reg [Mq 27 5,Mq 28 5,Rq 29 (.len false 28),Bq 30 .sub 29 (Kq 1),Rq 31 (.slcL 1 27 none (some 30) none),Mq 5 31]) (.seq (.reg [Rq 6 (.zbox 23 zq7)]) (.seq (.reg [Rq 7 (.mv (.const (.int .i64 (-1))))]) (.seq (.seq (.reg [Mq 32 5,Rq 33 (.len false 32),Bq 34 .sub 33 (Kq 2),Rq 35 (.mm true (Kq 0) 34),Mq 8 35]) (.block 0 (.loop (.seq (.seq (.reg [Mq 36 8,Mq 37 5,Rq 38 (.len false 37),Bq 39 .lss 36 38]) (.cond 39 (.skip) (.exit 0))) (.seq (.block 1 (.seq (.reg [Mq 42 5,Mq 43 8,Iq 44 1 42 43,Lq 45 44,Rq 46 (.bin .eql 45 (.const (.string ⟨#[115,101,114,118,105,99,101]⟩))),Mq 47 46,Hq 48 47 false 5,Hq 49 47 false 8,Gq 50 47 false (.idxA 1 48 49),Gq 51 47 false (.load false 1 50),Gq 52 47 false (.bin .eql 51 (.const (.string ⟨#[110,111,100,101]⟩))),Rq 53 (.pick 47 (.const (.bool true)) 52)]) (.cond 53 (.reg [Mq 54 8,Mq 7 54]) (.skip)))) (.reg [Mq 40 8,Bq 41 .add 40 (Kq 1),Mq 8 41])))))) (.seq (.seq (.reg [Mq 55 7,Bq 56 .lss 55 (Kq 1),Mq 57 56,Hq 58 57 false 7,Gq 59 57 false (.bin .gtr 58 (Kq 2)),Rq 60 (.pick 57 (.const (.bool true)) 59)]) (.cond 60 (.seq (.reg [Rq 61 (.build zq7 []),Sq 4 2 61,Nq 3 1]) (.ret)) (.skip))) (.seq (.seq (.reg [Mq 62 7,Mq 63 5,Rq 64 (.len false 63),Bq 65 .sub 64 (Kq 1),Bq 66 .lss 62 65]) (.cond 66 (.reg [Mq 67 5,Mq 68 7,Bq 69 .add 68 (Kq 1),Iq 70 1 67 69,Lq 71 70,Fq 72 3 6,Sq 1 72 71]) (.skip))) (.seq (.block 2 (.seq (.reg [Mq 74 5,Mq 75 7,Iq 76 1 74 75,Lq 77 76,Rq 78 (.bin .eql 77 (.const (.string ⟨#[110,111,100,101]⟩))),Mq 79 78,Hq 80 79 true 7,Gq 81 79 true (.bin .eql 80 (Kq 1)),Rq 82 (.pick 79 81 (.const (.bool false))),Mq 73 82]) (.cond 73 (.reg [Mq 83 5,Rq 84 (.idxA 1 83 (Kq 0)),Lq 85 84,Fq 86 2 6,Sq 1 86 85]) (.seq (.reg [Mq 88 5,Mq 89 7,Iq 90 1 88 89,Lq 91 90,Rq 92 (.bin .eql 91 (.const (.string ⟨#[115,101,114,118,105,99,101]⟩))),Mq 87 92]) (.cond 87 (.seq (.reg [Mq 93 5,Mq 94 7,Bq 95 .sub 94 (Kq 1),Iq 96 1 93 95,Lq 97 96,Fq 98 0 6,Sq 1 98 97]) (.seq (.reg [Mq 99 7,Bq 100 .eql 99 (Kq 2)]) (.cond 100 (.reg [Mq 101 5,Rq 102 (.idxA 1 101 (Kq 0)),Lq 103 102,Fq 104 1 6,Sq 1 104 103]) (.skip)))) (.skip)))))) (.seq (.seq (.reg [Rq 106 (.load true 4 6),Cq 107 21 ([106]),Mq 105 107,Eq1 108 105 0,Eq1 109 105 1,Mq 9 108,Mq 10 109]) (.seq (.reg [Mq 110 10,Bq 111 .neq 110 (Kq 0),Mq 112 111,Hq 113 112 false 9,Hq 114 112 false 0,Gq 115 112 false (.bin .neq 113 114),Rq 116 (.pick 112 (.const (.bool true)) 115)]) (.cond 116 (.seq (.reg [Rq 117 (.build zq7 []),Sq 4 2 117,Nq 3 1]) (.ret)) (.skip)))) (.seq (.reg [Rq 118 (.load true 4 6),Sq 4 2 118,Nq 3 0]) (.ret)))))))))))))
theorem Abe:Ep Tryz.prog 61 1=some (Aam,[(2,some (true,4)),(3,none)]):=by kernel_rfl
def Zl:Ai:=
 .seq (.reg [Nq 2 0]) (.seq (.reg [Rq 3 (.mkm),⟨none,none,.mupd (.int .i64) 3 (Kq 8) (Kq 4)⟩,Mq 4 3,Mq 5 0,Rq 6 (.mlook (.int .i64) false (.int .i64 0) 4 5),Mq 2 6]) (.ret))
theorem Y9:Aj Tryz.prog 62 1=some (Zl,[2]):=by kernel_rfl
def Ac9:Ai:=
 .seq (.reg [Rq 6 (.mv (.const (.bool false)))]) (.seq (.reg [Mq 7 0,Mq 8 1,Bq 9 .geq 7 8,Mq 10 9,Hq 11 10 true 0,Hq 12 10 true 2,Gq 13 10 true (.bin .leq 11 12),Rq 14 (.pick 10 13 (.const (.bool false))),Mq 6 14]) (.ret))
theorem Abw:Aj Tryz.prog 63 3=some (Ac9,[6]):=by kernel_rfl
def Lv:Ai:=
 .seq (.reg [Nq 4 0]) (.seq (.reg [Nq 5 0]) (.seq (.seq (.reg [Nq 6 0]) (.block 0 (.loop (.seq (.seq (.reg [Mq 7 6,Mq 8 1,Bq 9 .lss 7 8]) (.cond 9 (.skip) (.exit 0))) (.seq (.block 1 (.seq (.seq (.dreg [[Mq 12 0,Fq 13 0 12,Fq 14 1 13,Lq 15 14,Mq 16 0,Fq 17 0 16,Fq 18 0 17,Lq 19 18,Rq 20 (.len true 19)],[Bq 21 .geq 15 20]]) (.cond 21 (.seq (.reg [Mq 22 0,Fq 23 0 22,Fq 24 2 23,Sq 1 24 (.const (.bool true))]) (.seq (.reg [Nq 4 0]) (.ret))) (.skip))) (.seq (.dreg [[Mq 25 5,Rq 26 (.bin .mul (Kq 256) 25),Mq 27 0,Fq 28 0 27,Fq 29 0 28,Lq 30 29,Mq 31 0,Fq 32 0 31,Fq 33 1 32,Lq 34 33,Rq 35 (.idxS 30 34),Rq 36 (.conv .i64 35)],[Bq 37 .add 26 36],[Mq 5 37]]) (.reg [Mq 38 0,Fq 39 0 38,Fq 40 1 39,Lq 41 40,Bq 42 .add 41 (Kq 1),Fq 43 0 38,Fq 44 1 43,Sq 1 44 42])))) (.reg [Mq 10 6,Bq 11 .add 10 (Kq 1),Mq 6 11])))))) (.seq (.reg [Mq 45 5,Mq 4 45]) (.ret))))
theorem Lt:Aj Tryz.prog 64 2=some (Lv,[4]):=by kernel_rfl
def Nc:Ai:=
 .seq (.reg [Rq 2 (.mv (.const (.string ⟨#[]⟩)))]) (.seq (.reg [Rq 3 (.mv (.const (.slice none 0 0)))]) (.seq (.reg [Mq 11 0,Fq 12 0 11,Fq 13 1 12,Lq 14 13,Mq 4 14,Rq 5 (.mv (.const (.int .i64 (-1))))]) (.seq (.block 0 (.loop (.seq (.seq (.reg [Mq 15 0,Fq 16 0 15,Fq 17 2 16,Lq 18 17,Rq 19 (.not 18)]) (.cond 19 (.skip) (.exit 0))) (.block 1 (.seq (.reg [Mq 20 0,Cq 21 64 ([20,(Kq 1)]),Mq 6 21]) (.seq (.seq (.reg [Mq 22 0,Fq 23 0 22,Fq 24 2 23,Lq 25 24]) (.cond 25 (.exit 0) (.skip))) (.seq (.seq (.reg [Mq 26 6,Bq 27 .eql 26 (Kq 0)]) (.cond 27 (.seq (.seq (.reg [Mq 28 5,Bq 29 .geq 28 (Kq 0)]) (.cond 29 (.reg [Mq 30 0,Mq 31 5,Fq 32 0 30,Fq 33 1 32,Sq 1 33 31]) (.skip))) (.seq (.reg [Mq 34 3,Cq 35 104 ([34]),Mq 2 35]) (.ret))) (.skip))) (.seq (.seq (.reg [Mq 36 6,Bq 37 .geq 36 (Kq 192)]) (.cond 37 (.seq (.reg [Mq 38 6,Bq 39 .sub 38 (Kq 192),Bq 40 .mul 39 (Kq 256),Mq 41 0,Cq 42 64 ([41,(Kq 1)]),Bq 43 .add 40 42,Mq 7 43]) (.seq (.seq (.reg [Mq 44 5,Bq 45 .lss 44 (Kq 0)]) (.cond 45 (.reg [Mq 46 0,Fq 47 0 46,Fq 48 1 47,Lq 49 48,Mq 5 49]) (.skip))) (.seq (.reg [Mq 50 0,Mq 51 0,Fq 52 0 51,Fq 53 2 52,Lq 54 53,Mq 55 54,Hq 56 55 false 7,Hq 57 55 false 4,Gq 58 55 false (.bin .geq 56 57),Rq 59 (.pick 55 (.const (.bool true)) 58),Fq 60 0 50,Fq 61 2 60,Sq 1 61 59]) (.seq (.reg [Mq 62 7,Mq 4 62]) (.seq (.reg [Mq 63 0,Mq 64 7,Fq 65 0 63,Fq 66 1 65,Sq 1 66 64]) (.exit 1)))))) (.skip))) (.seq (.reg [Rq 8 (.mv (.const (.string ⟨#[]⟩)))]) (.seq (.seq (.reg [Nq 9 0]) (.block 2 (.loop (.seq (.seq (.reg [Mq 67 9,Mq 68 6,Bq 69 .lss 67 68]) (.cond 69 (.skip) (.exit 2))) (.seq (.block 3 (.seq (.reg [Mq 72 0,Cq 73 64 ([72,(Kq 1)]),Mq 10 73]) (.seq (.seq (.reg [Mq 74 10,Bq 75 .geq 74 (Kq 65),Mq 76 75,Hq 77 76 true 10,Gq 78 76 true (.bin .leq 77 (Kq 90)),Rq 79 (.pick 76 78 (.const (.bool false)))]) (.cond 79 (.reg [Mq 80 10,Bq 81 .add 80 (Kq 32),Mq 10 81]) (.skip))) (.reg [Mq 82 8,Mq 83 10,Rq 84 (.conv .u8 83),Rq 85 (.mks 5 1 1 [(.int .u8 0)] [(0,84)]),Rq 86 (.ofB 85),Bq 87 .add 82 86,Mq 8 87])))) (.reg [Mq 70 9,Bq 71 .add 70 (Kq 1),Mq 9 71])))))) (.seq (.reg [Mq 88 0,Mq 89 0,Fq 90 0 89,Fq 91 2 90,Lq 92 91,Mq 93 92,Hq 94 93 false 8,Gq 95 93 false (.call (.func 55) [94]),Gq 96 93 false (.not 95),Rq 97 (.pick 93 (.const (.bool true)) 96),Fq 98 0 88,Fq 99 2 98,Sq 1 99 97]) (.seq (.reg [Mq 100 3,Mq 101 8,Rq 102 (.mks 9 1 1 [(.string ⟨#[]⟩)] [(0,101)]),Rq 103 (.app 9 1 16 (.string ⟨#[]⟩) 100 102),Mq 3 103]) (.seq (.reg [Mq 104 3,Rq 105 (.len false 104),Bq 106 .gtr 105 (Kq 8)]) (.cond 106 (.reg [Mq 107 0,Fq 108 0 107,Fq 109 2 108,Sq 1 109 (.const (.bool true))]) (.skip))))))))))))))) (.seq (.reg [Rq 2 (.mv (.const (.string ⟨#[]⟩)))]) (.ret)))))
theorem Oa:Aj Tryz.prog 65 1=some (Nc,[2]):=by kernel_rfl
def Lb:Ai:=
 .seq (.reg [Rq 1 (.box 52 7 0),Nq 2 0]) (.seq (.seq (.reg [Fq 5 0 1,Lq 6 5,Cq 7 68 ([6,(Kq 0),(Kq 65535)]),Rq 8 (.not 7),Mq 9 8,Gq 10 9 false (.fldA 3 1),Gq 11 9 false (.load false 1 10),Gq 12 9 false (.call (.func 68) [11,(Kq 0),(Kq 15)]),Gq 13 9 false (.not 12),Rq 14 (.pick 9 (.const (.bool true)) 13)]) (.cond 14 (.seq (.reg [Nq 2 3]) (.ret)) (.skip))) (.seq (.seq (.reg [Fq 15 6 1,Lq 16 15,Rq 17 (.len false 16),Bq 18 .gtr 17 (Kq 20)]) (.cond 18 (.seq (.reg [Nq 2 2]) (.ret)) (.skip))) (.seq (.reg [Fq 19 4 1,Fq 20 0 19,Lq 21 20,Cq 22 59 ([21]),Mq 3 22]) (.seq (.seq (.reg [Mq 23 3,Bq 24 .neq 23 (Kq 0)]) (.cond 24 (.seq (.reg [Mq 25 3,Mq 2 25]) (.ret)) (.skip))) (.seq (.seq (.reg [Fq 26 4 1,Fq 27 1 26,Lq 28 27,Cq 29 25 ([28]),Rq 30 (.not 29)]) (.cond 30 (.seq (.reg [Nq 2 7]) (.ret)) (.skip))) (.seq (.seq (.reg [Nq 4 0]) (.block 0 (.loop (.seq (.seq (.reg [Mq 31 4,Fq 32 6 1,Lq 33 32,Rq 34 (.len false 33),Bq 35 .lss 31 34]) (.cond 35 (.skip) (.exit 0))) (.seq (.block 1 (.seq (.reg [Fq 38 6 1,Lq 39 38,Mq 40 4,Iq 41 7 39 40,Rq 42 (.load true 7 41),Cq 43 105 ([42]),Mq 3 43]) (.seq (.reg [Mq 44 3,Bq 45 .neq 44 (Kq 0)]) (.cond 45 (.seq (.reg [Mq 46 3,Mq 2 46]) (.ret)) (.skip))))) (.reg [Mq 36 4,Bq 37 .add 36 (Kq 1),Mq 4 37])))))) (.seq (.reg [Nq 2 0]) (.ret))))))))
theorem Km:Aj Tryz.prog 66 1=some (Lb,[2]):=by kernel_rfl
def Oh:Ai:=
 .seq (.reg [Rq 2 (.mv (.const (.slice none 0 0)))]) (.seq (.seq (.reg [Mq 6 0,Rq 7 (.bin .eql 6 (.const (.string ⟨#[]⟩)))]) (.cond 7 (.seq (.reg [Rq 2 (.mv (.const (.slice none 0 0)))]) (.ret)) (.skip))) (.seq (.reg [Rq 3 (.mv (.const (.slice none 0 0)))]) (.seq (.reg [Nq 4 0]) (.seq (.seq (.reg [Nq 5 0]) (.block 0 (.loop (.seq (.seq (.reg [Mq 8 5,Mq 9 0,Rq 10 (.len true 9),Bq 11 .lss 8 10]) (.cond 11 (.skip) (.exit 0))) (.seq (.block 1 (.seq (.reg [Mq 14 0,Mq 15 5,Rq 16 (.idxS 14 15),Rq 17 (.bin .eql 16 (.const (.int .u8 46)))]) (.cond 17 (.seq (.reg [Mq 18 3,Mq 19 0,Mq 20 4,Mq 21 5,Rq 22 (.slcS 19 (some 20) (some 21)),Rq 23 (.mks 9 1 1 [(.string ⟨#[]⟩)] [(0,22)]),Rq 24 (.app 9 1 16 (.string ⟨#[]⟩) 18 23),Mq 3 24]) (.reg [Mq 25 5,Bq 26 .add 25 (Kq 1),Mq 4 26])) (.skip)))) (.reg [Mq 12 5,Bq 13 .add 12 (Kq 1),Mq 5 13])))))) (.seq (.reg [Mq 27 3,Mq 28 0,Mq 29 4,Rq 30 (.slcS 28 (some 29) none),Rq 31 (.mks 9 1 1 [(.string ⟨#[]⟩)] [(0,30)]),Rq 32 (.app 9 1 16 (.string ⟨#[]⟩) 27 31),Mq 2 32]) (.ret))))))
theorem O6:Aj Tryz.prog 67 1=some (Oh,[2]):=by kernel_rfl
def Pn:Ai:=
 .seq (.reg [Rq 6 (.mv (.const (.bool false)))]) (.seq (.reg [Mq 7 0,Mq 8 1,Bq 9 .geq 7 8,Mq 10 9,Hq 11 10 true 0,Hq 12 10 true 2,Gq 13 10 true (.bin .leq 11 12),Rq 14 (.pick 10 13 (.const (.bool false))),Mq 6 14]) (.ret))
theorem Ip:Aj Tryz.prog 68 3=some (Pn,[6]):=by kernel_rfl
def Gd:Ai:=
 .seq (.reg [Rq 1 (.box 52 7 0),Rq 2 (.mv (.const (.string ⟨#[]⟩)))]) (.seq (.reg [Nq 3 0]) (.seq (.seq (.reg [Fq 8 1 1,Lq 9 8]) (.cond 9 (.reg [Mq 10 3,Bq 11 .add 10 (Kq 128),Mq 3 11]) (.skip))) (.seq (.seq (.reg [Fq 12 2 1,Lq 13 12]) (.cond 13 (.reg [Mq 14 3,Bq 15 .add 14 (Kq 2),Mq 3 15]) (.skip))) (.seq (.dreg [[Fq 16 0 1,Lq 17 16,Cq 18 106 ([17,(Kq 2)]),Mq 19 3,Cq 20 106 ([19,(Kq 1)]),Bq 21 .add 18 20,Fq 22 3 1,Lq 23 22,Cq 24 106 ([23,(Kq 1)]),Bq 25 .add 21 24,Cq 26 106 ([(Kq 1),(Kq 2)]),Bq 27 .add 25 26,Fq 28 6 1,Lq 29 28,Rq 30 (.len false 29),Cq 31 106 ([30,(Kq 2)]),Bq 32 .add 27 31,Cq 33 106 ([(Kq 0),(Kq 4)]),Bq 34 .add 32 33,Fq 35 4 1,Fq 36 0 35,Lq 37 36,Cq 38 107 ([37]),Bq 39 .add 34 38,Fq 40 4 1,Fq 41 1 40,Lq 42 41,Cq 43 106 ([42,(Kq 2)]),Bq 44 .add 39 43,Cq 45 106 ([(Kq 1),(Kq 2)])],[Bq 46 .add 44 45],[Mq 4 46]]) (.seq (.seq (.reg [Nq 5 0]) (.block 0 (.loop (.seq (.seq (.reg [Mq 47 5,Fq 48 6 1,Lq 49 48,Rq 50 (.len false 49),Bq 51 .lss 47 50]) (.cond 51 (.skip) (.exit 0))) (.seq (.block 1 (.seq (.reg [Fq 54 6 1,Lq 55 54,Mq 56 5,Iq 57 7 55 56,Rq 58 (.load true 7 57),Rq 6 (.zbox 42 zq4),Sq 7 6 58]) (.seq (.reg [Rq 7 (.mv (.const (.string ⟨#[]⟩)))]) (.seq (.seq (.reg [Fq 59 1 6,Lq 60 59]) (.block 2 (.seq (.reg [Bq 62 .eql 60 (Kq 1),Mq 61 62]) (.cond 61 (.reg [Fq 63 3 6,Lq 64 63,Cq 65 106 ([64,(Kq 4)]),Mq 7 65]) (.seq (.reg [Bq 67 .eql 60 (Kq 16),Mq 66 67]) (.cond 66 (.dreg [[Fq 68 4 6,Lq 69 68,Rq 70 (.len true 69),Cq 71 106 ([70,(Kq 1)]),Fq 72 4 6,Lq 73 72],[Bq 74 .add 71 73],[Mq 7 74]]) (.seq (.reg [Bq 76 .eql 60 (Kq 33),Mq 75 76]) (.cond 75 (.dreg [[Cq 77 106 ([(Kq 0),(Kq 4)]),Fq 78 5 6,Lq 79 78,Cq 80 106 ([79,(Kq 2)]),Bq 81 .add 77 80,Fq 82 6 6,Lq 83 82,Cq 84 107 ([83])],[Bq 85 .add 81 84],[Mq 7 85]]) (.skip))))))))) (.dreg [[Mq 86 4,Fq 87 0 6,Lq 88 87,Cq 89 107 ([88]),Fq 90 1 6,Lq 91 90,Cq 92 106 ([91,(Kq 2)]),Bq 93 .add 89 92,Cq 94 106 ([(Kq 1),(Kq 2)]),Bq 95 .add 93 94,Fq 96 2 6,Lq 97 96,Cq 98 106 ([97,(Kq 4)]),Bq 99 .add 95 98,Mq 100 7,Rq 101 (.len true 100),Cq 102 106 ([101,(Kq 2)]),Bq 103 .add 99 102,Mq 104 7,Bq 105 .add 103 104],[Bq 106 .add 86 105],[Mq 4 106]]))))) (.reg [Mq 52 5,Bq 53 .add 52 (Kq 1),Mq 5 53])))))) (.seq (.reg [Mq 107 4,Mq 2 107]) (.ret)))))))
theorem Ky:Aj Tryz.prog 69 1=some (Gd,[2]):=by kernel_rfl
def Tx:Ai:=
 .seq (.reg [Rq 1 (.box 42 7 0),Nq 2 0]) (.seq (.seq (.reg [Fq 4 0 1,Lq 5 4,Cq 6 49 ([5]),Mq 3 6]) (.seq (.reg [Mq 7 3,Bq 8 .neq 7 (Kq 0)]) (.cond 8 (.seq (.reg [Mq 9 3,Mq 2 9]) (.ret)) (.skip)))) (.seq (.block 0 (.seq (.reg [Fq 11 1 1,Lq 12 11,Cq 13 19 ([12]),Rq 14 (.not 13),Mq 10 14]) (.cond 10 (.seq (.reg [Nq 2 7]) (.ret)) (.seq (.reg [Fq 16 2 1,Lq 17 16,Cq 18 63 ([17,(Kq 0),(Kq 2147483647)]),Rq 19 (.not 18),Mq 15 19]) (.cond 15 (.seq (.reg [Nq 2 3]) (.ret)) (.seq (.reg [Rq 21 (.load true 7 1),Cq 22 108 ([21]),Rq 23 (.not 22),Mq 20 23]) (.cond 20 (.seq (.reg [Nq 2 1]) (.ret)) (.seq (.reg [Fq 25 3 1,Lq 26 25,Cq 27 63 ([26,(Kq 0),(Kq 4294967295)]),Rq 28 (.not 27),Mq 29 28,Gq 30 29 false (.fldA 5 1),Gq 31 29 false (.load false 1 30),Gq 32 29 false (.call (.func 63) [31,(Kq 0),(Kq 65535)]),Gq 33 29 false (.not 32),Rq 34 (.pick 29 (.const (.bool true)) 33),Mq 24 34]) (.cond 24 (.seq (.reg [Nq 2 3]) (.ret)) (.seq (.reg [Fq 36 4 1,Lq 37 36,Rq 38 (.len true 37),Bq 39 .gtr 38 (Kq 200),Mq 35 39]) (.cond 35 (.seq (.reg [Nq 2 2]) (.ret)) (.skip)))))))))))) (.seq (.reg [Fq 40 6 1,Lq 41 40,Cq 42 49 ([41]),Mq 2 42]) (.ret))))
theorem Tf:Aj Tryz.prog 70 1=some (Tx,[2]):=by kernel_rfl
def T9:Ai:=
 .seq (.reg [Mq 6 1,Rq 7 (.len false 6),Nq 8 0]) (.block 0 (.loop (.seq (.reg [Bq 9 .lss 8 7]) (.seq (.cond 9 (.skip) (.exit 0)) (.seq (.block 1 (.seq (.reg [Iq 10 1 6 8,Lq 11 10,Mq 5 11]) (.seq (.reg [Mq 12 0,Fq 13 0 12,Fq 14 0 13,Mq 15 5,Rq 16 (.bin .shr 15 (.const (.int .u64 8))),Rq 17 (.conv .u8 16),Cq 18 109 ([14,17])]) (.reg [Mq 19 0,Fq 20 0 19,Fq 21 0 20,Mq 22 5,Rq 23 (.conv .u8 22),Cq 24 109 ([21,23])])))) (.reg [Bq 25 .add 8 (Kq 1),Mq 8 25]))))))
theorem Um:Aj Tryz.prog 71 2=some (T9,[]):=by kernel_rfl
def Tz:Ai:=
 .seq (.seq (.reg [Mq 6 1,Cq 7 90 ([6]),Rq 8 (.len false 7),Nq 9 0]) (.block 0 (.loop (.seq (.reg [Bq 10 .lss 9 8]) (.seq (.cond 10 (.skip) (.exit 0)) (.seq (.block 1 (.seq (.reg [Iq 11 1 7 9,Lq 12 11,Mq 5 12]) (.seq (.reg [Mq 13 0,Fq 14 0 13,Fq 15 0 14,Mq 16 5,Rq 17 (.len true 16),Rq 18 (.conv .u8 17),Cq 19 109 ([15,18])]) (.reg [Mq 20 0,Fq 21 0 20,Fq 22 0 21,Mq 23 5,Cq 24 110 ([22,23])])))) (.reg [Bq 25 .add 9 (Kq 1),Mq 9 25]))))))) (.reg [Mq 26 0,Fq 27 0 26,Fq 28 0 27,Cq 29 109 ([28,(.const (.int .u8 0))])])
theorem Tu:Aj Tryz.prog 72 2=some (Tz,[]):=by kernel_rfl
def Qe:Ai:=
 .seq (.reg [Rq 3 (.box 42 7 1)]) (.seq (.reg [Mq 5 0,Fq 6 0 3,Lq 7 6,Cq 8 72 ([5,7])]) (.seq (.reg [Mq 9 0,Fq 10 1 3,Lq 11 10,Fq 12 2 3,Lq 13 12,Rq 14 (.bin .shr 13 (.const (.int .u64 16))),Fq 15 2 3,Lq 16 15,Bq 17 .and 16 (Kq 65535),Rq 18 (.mks 3 1 4 [(.int .i64 0)] [(0,11),(1,(Kq 1)),(2,14),(3,17)]),Cq 19 71 ([9,18])]) (.seq (.reg [Rq 20 (.build [(.pointer none),(.slice none 0 0)] []),Rq 21 (.box 120 2 20),Mq 4 21]) (.seq (.seq (.reg [Fq 22 1 3,Lq 23 22]) (.block 0 (.seq (.reg [Bq 25 .eql 23 (Kq 1),Mq 24 25]) (.cond 24 (.reg [Mq 26 4,Fq 27 3 3,Lq 28 27,Rq 29 (.bin .shr 28 (.const (.int .u64 16))),Fq 30 3 3,Lq 31 30,Bq 32 .and 31 (Kq 65535),Rq 33 (.mks 3 1 2 [(.int .i64 0)] [(0,29),(1,32)]),Cq 34 71 ([26,33])]) (.seq (.reg [Bq 36 .eql 23 (Kq 16),Mq 35 36]) (.cond 35 (.seq (.dreg [[Mq 37 4,Fq 38 0 37,Fq 39 0 38,Fq 40 4 3,Lq 41 40,Rq 42 (.len true 41),Rq 43 (.conv .u8 42)],[Cq 44 109 ([39,43])]]) (.dreg [[Mq 45 4,Fq 46 0 45,Fq 47 0 46,Fq 48 4 3,Lq 49 48],[Cq 50 110 ([47,49])]])) (.seq (.reg [Bq 52 .eql 23 (Kq 33),Mq 51 52]) (.cond 51 (.seq (.reg [Mq 53 4,Fq 54 5 3,Lq 55 54,Rq 56 (.mks 3 1 3 [(.int .i64 0)] [(0,(Kq 0)),(1,(Kq 0)),(2,55)]),Cq 57 71 ([53,56])]) (.reg [Mq 58 4,Fq 59 6 3,Lq 60 59,Cq 61 72 ([58,60])])) (.skip))))))))) (.seq (.reg [Mq 62 0,Mq 63 4,Fq 64 0 63,Fq 65 0 64,Cq 66 111 ([65]),Rq 67 (.mks 3 1 1 [(.int .i64 0)] [(0,66)]),Cq 68 71 ([62,67])]) (.dreg [[],[Cq 75 74 ([74]),Rq 70 (.mkm),Rq 71 (.mkm)],[Mq 69 0,Fq 70 0 69,Fq 71 0 70,Mq 72 4,Fq 73 0 72,Fq 74 0 73],[Cq 76 110 ([71,75])]]))))))
theorem Gj:Aj Tryz.prog 73 2=some (Qe,[]):=by kernel_rfl
def Va:Ai:=
 .seq (.reg [Nq 2 0]) (.seq (.reg [Mq 3 0,Cq 4 76 ([3]),Rq 5 (.bin .shl 4 (.const (.int .u64 8))),Mq 6 0,Cq 7 76 ([6]),Bq 8 .or 5 7,Mq 2 8]) (.ret))
theorem L6:Aj Tryz.prog 75 1=some (Va,[2]):=by kernel_rfl
def Tn:Ai:=
 .seq (.reg [Nq 2 0]) (.seq (.dreg [[Mq 3 0,Mq 4 0,Fq 5 0 4,Fq 6 1 5,Lq 7 6,Mq 8 0,Fq 9 0 8,Fq 10 0 9,Lq 11 10,Rq 12 (.len true 11),Bq 13 .lss 7 12],[Cq 14 77 ([3,13])]]) (.seq (.reg [Mq 15 0,Fq 16 0 15,Fq 17 1 16,Lq 18 17,Bq 19 .add 18 (Kq 1),Fq 20 0 15,Fq 21 1 20,Sq 1 21 19]) (.seq (.dreg [[Mq 22 0,Fq 23 0 22,Fq 24 0 23,Lq 25 24,Mq 26 0,Fq 27 0 26,Fq 28 1 27,Lq 29 28,Bq 30 .sub 29 (Kq 1)],[Rq 31 (.idxS 25 30)],[Rq 32 (.conv .i64 31)],[Mq 2 32]]) (.ret))))
theorem Li:Aj Tryz.prog 76 1=some (Tn,[2]):=by kernel_rfl
def Ta:Ai:=
 .seq (.reg [Mq 4 1,Rq 5 (.not 4)]) (.cond 5 (.reg [Rq 6 (.build [] []),Rq 7 (.mki 77 6),⟨none,none,.die 7⟩]) (.skip))
theorem Le:Aj Tryz.prog 77 2=some (Ta,[]):=by kernel_rfl
def Tv:Ai:=
 .seq (.reg [Rq 2 (.mv (.const (.string ⟨#[]⟩)))]) (.seq (.reg [Rq 3 (.mv (.const (.slice none 0 0)))]) (.seq (.dreg [[Mq 9 0,Fq 10 0 9,Fq 11 1 10,Lq 12 11,Rq 4 (.mv (.const (.int .i64 (-1))))],[Mq 5 12]]) (.block 0 (.loop (.block 1 (.seq (.reg [Mq 13 0,Mq 14 3,Rq 15 (.len false 14),Bq 16 .leq 15 (Kq 8),Cq 17 77 ([13,16])]) (.seq (.reg [Mq 18 0,Cq 19 76 ([18]),Mq 6 19]) (.block 2 (.seq (.reg [Mq 33 6,Bq 34 .eql 33 (Kq 0),Mq 32 34]) (.cond 32 (.seq (.seq (.reg [Mq 35 4,Bq 36 .geq 35 (Kq 0)]) (.cond 36 (.reg [Mq 37 0,Mq 38 4,Fq 39 0 37,Fq 40 1 39,Sq 1 40 38]) (.skip))) (.seq (.reg [Mq 41 3,Cq 42 87 ([41,(.const (.string ⟨#[46]⟩))]),Mq 2 42]) (.ret))) (.seq (.reg [Mq 44 6,Bq 45 .geq 44 (Kq 192),Mq 43 45]) (.cond 43 (.seq (.reg [Mq 46 6,Bq 47 .and 46 (Kq 63),Rq 48 (.bin .shl 47 (.const (.int .u64 8))),Mq 49 0,Cq 50 76 ([49]),Bq 51 .or 48 50,Mq 7 51]) (.seq (.seq (.reg [Mq 52 4,Bq 53 .lss 52 (Kq 0)]) (.cond 53 (.reg [Mq 54 0,Fq 55 0 54,Fq 56 1 55,Lq 57 56,Mq 4 57]) (.skip))) (.seq (.reg [Mq 58 0,Mq 59 7,Mq 60 5,Bq 61 .lss 59 60,Cq 62 77 ([58,61])]) (.reg [Mq 63 0,Mq 64 7,Mq 65 7,Fq 66 0 63,Fq 67 1 66,Sq 1 67 64,Mq 5 65])))) (.seq (.reg [Mq 20 0,Mq 21 6,Cq 22 113 ([20,21]),Cq 23 112 ([22]),Mq 8 23]) (.seq (.reg [Mq 24 0,Mq 25 8,Cq 26 41 ([25]),Cq 27 77 ([24,26])]) (.reg [Mq 28 3,Mq 29 8,Rq 30 (.mks 9 1 1 [(.string ⟨#[]⟩)] [(0,29)]),Rq 31 (.app 9 1 16 (.string ⟨#[]⟩) 28 30),Mq 3 31])))))))))))))))
theorem Lc:Aj Tryz.prog 78 1=some (Tv,[2]):=by kernel_rfl
def Ql:Ai:=
 .seq (.reg [Rq 2 (.zbox 42 zq4)]) (.seq (.reg [Mq 6 0,Cq 7 78 ([6]),Mq 8 0,Cq 9 75 ([8]),Rq 10 (.build zq4 [(0,1,7),(1,1,9)]),Rq 3 (.zbox 42 zq4),Sq 7 3 10]) (.seq (.reg [Mq 11 0,Mq 12 0,Cq 13 75 ([12]),Bq 14 .eql 13 (Kq 1),Cq 15 77 ([11,14])]) (.seq (.reg [Mq 16 0,Cq 17 114 ([16]),Fq 18 2 3,Sq 1 18 17]) (.seq (.reg [Mq 19 0,Cq 20 75 ([19]),Mq 4 20]) (.seq (.reg [Mq 21 0,Fq 22 0 21,Fq 23 1 22,Lq 24 23,Mq 25 4,Bq 26 .add 24 25,Mq 5 26]) (.seq (.reg [Mq 27 0,Mq 28 5,Mq 29 0,Fq 30 0 29,Fq 31 0 30,Lq 32 31,Rq 33 (.len true 32),Bq 34 .leq 28 33,Cq 35 77 ([27,34])]) (.seq (.seq (.reg [Fq 36 1 3,Lq 37 36]) (.block 0 (.seq (.reg [Bq 41 .eql 37 (Kq 1),Mq 40 41]) (.cond 40 (.reg [Mq 42 0,Cq 43 114 ([42]),Fq 44 3 3,Sq 1 44 43]) (.seq (.reg [Bq 46 .eql 37 (Kq 16),Mq 45 46]) (.cond 45 (.reg [Mq 47 0,Mq 48 0,Cq 49 76 ([48]),Cq 50 113 ([47,49]),Fq 51 4 3,Sq 1 51 50]) (.seq (.reg [Bq 53 .eql 37 (Kq 33),Mq 52 53]) (.cond 52 (.seq (.reg [Mq 54 0,Mq 55 0,Cq 56 75 ([55]),Bq 57 .eql 56 (Kq 0),Mq 58 57,Hq 59 58 true 0,Gq 60 58 true (.call (.func 75) [59]),Gq 61 58 true (.bin .eql 60 (Kq 0)),Rq 62 (.pick 58 61 (.const (.bool false))),Cq 63 77 ([54,62])]) (.seq (.reg [Mq 64 0,Cq 65 75 ([64]),Fq 66 5 3,Sq 1 66 65]) (.reg [Mq 67 0,Cq 68 78 ([67]),Fq 69 6 3,Sq 1 69 68]))) (.reg [Mq 38 0,Cq 39 77 ([38,(.const (.bool false))])]))))))))) (.seq (.reg [Mq 70 0,Mq 71 0,Fq 72 0 71,Fq 73 1 72,Lq 74 73,Mq 75 5,Bq 76 .eql 74 75,Cq 77 77 ([70,76])]) (.seq (.reg [Rq 78 (.load true 7 3),Sq 7 2 78]) (.ret))))))))))
theorem Jb:Ep Tryz.prog 79 1=some (Ql,[(2,some (true,7))]):=by kernel_rfl
def H4:Ai:=
 .seq (.reg [Nq 4 0]) (.seq (.seq (.reg [Mq 6 0,Rq 7 (.len false 6),Nq 8 0]) (.block 0 (.loop (.seq (.reg [Bq 9 .lss 8 7]) (.seq (.cond 9 (.skip) (.exit 0)) (.seq (.block 1 (.seq (.reg [Mq 10 8,Mq 5 10]) (.seq (.reg [Mq 11 1,Mq 12 0,Mq 13 5,Iq 14 1 12 13,Lq 15 14,Rq 16 (.call 11 [15])]) (.cond 16 (.seq (.reg [Mq 17 5,Mq 4 17]) (.ret)) (.skip))))) (.reg [Bq 18 .add 8 (Kq 1),Mq 8 18]))))))) (.seq (.reg [Rq 4 (.mv (.const (.int .i64 (-1))))]) (.ret)))
theorem H2:Aj Tryz.prog 80 2=some (H4,[4]):=by kernel_rfl
def I4:Ai:=
 .seq (.reg [Nq 4 0]) (.seq (.seq (.reg [Mq 6 0,Rq 7 (.len false 6),Nq 8 0]) (.block 0 (.loop (.seq (.reg [Bq 9 .lss 8 7]) (.seq (.cond 9 (.skip) (.exit 0)) (.seq (.block 1 (.seq (.reg [Mq 10 8,Mq 5 10]) (.seq (.reg [Mq 11 1,Mq 12 0,Mq 13 5,Iq 14 1 12 13,Lq 15 14,Bq 16 .eql 11 15]) (.cond 16 (.seq (.reg [Mq 17 5,Mq 4 17]) (.ret)) (.skip))))) (.reg [Bq 18 .add 8 (Kq 1),Mq 8 18]))))))) (.seq (.reg [Rq 4 (.mv (.const (.int .i64 (-1))))]) (.ret)))
theorem Jg:Aj Tryz.prog 81 2=some (I4,[4]):=by kernel_rfl
def Nr:Ai:=
 .seq (.reg [Nq 4 0]) (.seq (.seq (.reg [Mq 6 0,Rq 7 (.len false 6),Nq 8 0]) (.block 0 (.loop (.seq (.reg [Bq 9 .lss 8 7]) (.seq (.cond 9 (.skip) (.exit 0)) (.seq (.block 1 (.seq (.reg [Mq 10 8,Mq 5 10]) (.seq (.reg [Mq 11 1,Mq 12 0,Mq 13 5,Iq 14 1 12 13,Lq 15 14,Bq 16 .eql 11 15]) (.cond 16 (.seq (.reg [Mq 17 5,Mq 4 17]) (.ret)) (.skip))))) (.reg [Bq 18 .add 8 (Kq 1),Mq 8 18]))))))) (.seq (.reg [Rq 4 (.mv (.const (.int .i64 (-1))))]) (.ret)))
theorem Nh:Aj Tryz.prog 82 2=some (Nr,[4]):=by kernel_rfl
def V8:Ai:=
 .seq (.reg [Nq 2 0]) (.seq (.seq (.reg [Mq 9 0,Rq 10 (.len false 9),Nq 11 0]) (.block 0 (.loop (.seq (.reg [Bq 12 .lss 11 10]) (.seq (.cond 12 (.skip) (.exit 0)) (.seq (.block 1 (.seq (.reg [Iq 13 1 9 11,Lq 14 13,Mq 4 14]) (.seq (.seq (.reg [Mq 15 4,Rq 16 (.len false 15),Bq 17 .gtr 16 (Kq 40)]) (.cond 17 (.seq (.reg [Nq 2 2]) (.ret)) (.skip))) (.seq (.seq (.reg [Mq 18 4,Rq 19 (.len false 18),Nq 20 0]) (.block 2 (.loop (.seq (.reg [Bq 21 .lss 20 19]) (.seq (.cond 21 (.skip) (.exit 2)) (.seq (.block 3 (.seq (.reg [Iq 22 9 18 20,Rq 23 (.load true 9 22),Rq 6 (.zbox 39 zq5),Sq 9 6 23]) (.seq (.reg [Rq 24 (.load true 9 6),Cq 25 115 ([24]),Mq 7 25]) (.seq (.reg [Mq 26 7,Bq 27 .neq 26 (Kq 0)]) (.cond 27 (.seq (.reg [Mq 28 7,Mq 2 28]) (.ret)) (.skip)))))) (.reg [Bq 29 .add 20 (Kq 1),Mq 20 29]))))))) (.seq (.reg [Nq 8 1]) (.block 4 (.loop (.seq (.seq (.reg [Mq 30 8,Mq 31 4,Rq 32 (.len false 31),Bq 33 .lss 30 32]) (.cond 33 (.skip) (.exit 4))) (.seq (.block 5 (.seq (.dreg [[Mq 36 4,Mq 37 8,Bq 38 .sub 37 (Kq 1),Iq 39 9 36 38,Rq 40 (.load true 9 39),Mq 41 4,Mq 42 8,Iq 43 9 41 42,Rq 44 (.load true 9 43)],[Cq 45 116 ([40,44])],[Bq 46 .geq 45 (Kq 0)]]) (.cond 46 (.seq (.reg [Nq 2 4]) (.ret)) (.skip)))) (.reg [Mq 34 8,Bq 35 .add 34 (Kq 1),Mq 8 35])))))))))) (.reg [Bq 47 .add 11 (Kq 1),Mq 11 47]))))))) (.seq (.reg [Nq 2 0]) (.ret)))
theorem W4:Aj Tryz.prog 83 1=some (V8,[2]):=by kernel_rfl
def Ym:Ai:=
 .seq (.reg [Nq 2 0]) (.seq (.seq (.reg [Mq 7 0,Rq 8 (.len false 7),Nq 9 0]) (.block 0 (.loop (.seq (.reg [Bq 10 .lss 9 8]) (.seq (.cond 10 (.skip) (.exit 0)) (.seq (.block 1 (.seq (.reg [Iq 11 1 7 9,Lq 12 11,Mq 4 12]) (.seq (.seq (.reg [Mq 13 4,Rq 14 (.len false 13),Bq 15 .gtr 14 (Kq 20)]) (.cond 15 (.seq (.reg [Nq 2 2]) (.ret)) (.skip))) (.seq (.seq (.reg [Mq 16 4,Cq 17 117 ([16]),Mq 5 17]) (.seq (.reg [Mq 18 5,Bq 19 .neq 18 (Kq 0)]) (.cond 19 (.seq (.reg [Mq 20 5,Mq 2 20]) (.ret)) (.skip)))) (.seq (.reg [Nq 6 1]) (.block 2 (.loop (.seq (.seq (.reg [Mq 21 6,Mq 22 4,Rq 23 (.len false 22),Bq 24 .lss 21 23]) (.cond 24 (.skip) (.exit 2))) (.seq (.block 3 (.seq (.dreg [[Mq 27 4,Mq 28 6,Iq 29 5 27 28,Fq 30 0 29,Lq 31 30,Mq 32 4,Mq 33 6,Bq 34 .sub 33 (Kq 1),Iq 35 5 32 34,Fq 36 0 35,Lq 37 36],[Bq 38 .leq 31 37]]) (.cond 38 (.seq (.reg [Nq 2 4]) (.ret)) (.skip)))) (.reg [Mq 25 6,Bq 26 .add 25 (Kq 1),Mq 6 26])))))))))) (.reg [Bq 39 .add 9 (Kq 1),Mq 9 39]))))))) (.seq (.reg [Nq 2 0]) (.ret)))
theorem Yc:Aj Tryz.prog 84 1=some (Ym,[2]):=by kernel_rfl
def Wg:Ai:=
 .seq (.reg [Rq 2 (.mv (.const (.bool false)))]) (.seq (.reg [Mq 3 0,Cq 4 86 ([3,(.const (.int .i64 (-10000000))),(Kq 10000000)]),Mq 2 4]) (.ret))
theorem Wt:Aj Tryz.prog 85 1=some (Wg,[2]):=by kernel_rfl
def Yj:Ai:=
 .seq (.reg [Rq 6 (.mv (.const (.bool false)))]) (.seq (.reg [Mq 7 0,Mq 8 1,Bq 9 .geq 7 8,Mq 10 9,Hq 11 10 true 0,Hq 12 10 true 2,Gq 13 10 true (.bin .leq 11 12),Rq 14 (.pick 10 13 (.const (.bool false))),Mq 6 14]) (.ret))
theorem Yg:Aj Tryz.prog 86 3=some (Yj,[6]):=by kernel_rfl
def Hk:Ai:=
 .seq (.reg [Rq 4 (.mv (.const (.slice none 0 0)))]) (.seq (.reg [Mq 8 0,Mq 9 1,Cq 10 80 ([8,9]),Mq 5 10]) (.seq (.seq (.reg [Mq 11 5,Rq 12 (.bin .eql 11 (.const (.int .i64 (-1))))]) (.cond 12 (.seq (.reg [Mq 13 0,Mq 4 13]) (.ret)) (.skip))) (.seq (.seq (.reg [Mq 14 5,Bq 15 .add 14 (Kq 1),Mq 6 15]) (.block 0 (.loop (.seq (.seq (.reg [Mq 16 6,Mq 17 0,Rq 18 (.len false 17),Bq 19 .lss 16 18]) (.cond 19 (.skip) (.exit 0))) (.seq (.block 1 (.seq (.reg [Mq 22 0,Mq 23 6,Iq 24 1 22 23,Lq 25 24,Mq 7 25]) (.seq (.reg [Mq 26 1,Mq 27 7,Rq 28 (.call 26 [27]),Rq 29 (.not 28)]) (.cond 29 (.seq (.reg [Mq 30 0,Mq 31 5,Mq 32 7,Iq 33 1 30 31,Sq 1 33 32]) (.reg [Mq 34 5,Bq 35 .add 34 (Kq 1),Mq 5 35])) (.skip))))) (.reg [Mq 20 6,Bq 21 .add 20 (Kq 1),Mq 6 21])))))) (.seq (.reg [Mq 36 0,Mq 37 5,Rq 38 (.slcL 1 36 (some 37) none none),⟨none,none,.clr 1 [(.string ⟨#[]⟩)] 38⟩]) (.seq (.reg [Mq 39 0,Mq 40 5,Rq 41 (.slcL 1 39 none (some 40) none),Mq 4 41]) (.ret))))))
theorem Hh:Aj Tryz.prog 88 2=some (Hk,[4]):=by kernel_rfl
def Ti:Ai:=
 .seq (.reg [Rq 2 (.mv (.const (.bool false)))]) (.seq (.reg [Mq 3 0,Rq 4 (.bin .eql 3 (.const (.string ⟨#[]⟩))),Mq 2 4]) (.ret))
theorem Tr:Aj Tryz.prog 89 1=some (Ti,[2]):=by kernel_rfl
def Abz:Ai:=
 .seq (.reg [Rq 2 (.mv (.const (.slice none 0 0)))]) (.seq (.seq (.reg [Mq 3 0,Rq 4 (.bin .eql 3 (.const (.string ⟨#[]⟩)))]) (.cond 4 (.seq (.reg [Rq 2 (.mv (.const (.slice none 0 0)))]) (.ret)) (.skip))) (.seq (.reg [Mq 5 0,Cq 6 103 ([5,(.const (.string ⟨#[46]⟩))]),Mq 2 6]) (.ret)))
theorem Ac0:Aj Tryz.prog 90 1=some (Abz,[2]):=by kernel_rfl
def Y7:Ai:=
 .seq (.reg [Rq 2 (.mv (.const (.bool false)))]) (.seq (.reg [Mq 3 0,Cq 4 41 ([3]),Rq 5 (.not 4),Mq 2 5]) (.ret))
theorem Zx:Aj Tryz.prog 91 1=some (Y7,[2]):=by kernel_rfl
def Dv:Ai:=
 .seq (.reg [Nq 6 0,Rq 7 (.mv (.const (.bool false)))]) (.seq (.reg [Mq 12 0,Rq 13 (.len false 12),Mq 8 13]) (.seq (.reg [Mq 14 8,Nq 9 0,Mq 10 14]) (.seq (.block 0 (.loop (.seq (.seq (.reg [Mq 15 9,Mq 16 10,Bq 17 .lss 15 16]) (.cond 17 (.skip) (.exit 0))) (.block 1 (.seq (.reg [Mq 18 9,Mq 19 10,Bq 20 .add 18 19,Rq 21 (.conv .u64 20),Rq 22 (.bin .shr 21 (.const (.int .u64 1))),Rq 23 (.conv .i64 22),Mq 11 23]) (.seq (.reg [Mq 24 2,Mq 25 0,Mq 26 11,Iq 27 5 25 26,Rq 28 (.load true 5 27),Mq 29 1,Rq 30 (.call 24 [28,29]),Bq 31 .lss 30 (Kq 0)]) (.cond 31 (.reg [Mq 32 11,Bq 33 .add 32 (Kq 1),Mq 9 33]) (.reg [Mq 34 11,Mq 10 34])))))))) (.seq (.reg [Mq 35 9,Mq 36 9,Mq 37 8,Bq 38 .lss 36 37,Mq 39 38,Hq 40 39 true 2,Hq 41 39 true 0,Hq 42 39 true 9,Gq 43 39 true (.idxA 5 41 42),Gq 44 39 true (.load true 5 43),Hq 45 39 true 1,Gq 46 39 true (.call 40 [44,45]),Gq 47 39 true (.bin .eql 46 (Kq 0)),Rq 48 (.pick 39 47 (.const (.bool false))),Mq 6 35,Mq 7 48]) (.ret)))))
theorem Dw:Aj Tryz.prog 92 3=some (Dv,[6,7]):=by kernel_rfl
def W0:Ai:=
 .seq (.reg [Rq 2 (.box 44 5 0),Nq 4 0]) (.seq (.reg [Fq 5 0 2,Lq 6 5,Mq 7 1,Cq 8 94 ([6,7]),Mq 4 8]) (.ret))
theorem W1:Aj Tryz.prog 93 2=some (W0,[4]):=by kernel_rfl
def Fa:Ai:=
 .seq (.reg [Rq 4 (.mv (.const (.slice none 0 0)))]) (.seq (.reg [Mq 8 0,Mq 9 1,Cq 10 120 ([8,9]),Mq 5 10]) (.seq (.seq (.reg [Mq 11 5,Rq 12 (.bin .eql 11 (.const (.int .i64 (-1))))]) (.cond 12 (.seq (.reg [Mq 13 0,Mq 4 13]) (.ret)) (.skip))) (.seq (.seq (.reg [Mq 14 5,Bq 15 .add 14 (Kq 1),Mq 6 15]) (.block 0 (.loop (.seq (.seq (.reg [Mq 16 6,Mq 17 0,Rq 18 (.len false 17),Bq 19 .lss 16 18]) (.cond 19 (.skip) (.exit 0))) (.seq (.block 1 (.seq (.reg [Mq 22 0,Mq 23 6,Iq 24 9 22 23,Rq 25 (.load true 9 24),Rq 7 (.zbox 39 zq5),Sq 9 7 25]) (.seq (.reg [Mq 26 1,Rq 27 (.load true 9 7),Rq 28 (.call 26 [27]),Rq 29 (.not 28)]) (.cond 29 (.seq (.reg [Mq 30 0,Mq 31 5,Rq 32 (.load true 9 7),Iq 33 9 30 31,Sq 9 33 32]) (.reg [Mq 34 5,Bq 35 .add 34 (Kq 1),Mq 5 35])) (.skip))))) (.reg [Mq 20 6,Bq 21 .add 20 (Kq 1),Mq 6 21])))))) (.seq (.reg [Mq 36 0,Mq 37 5,Rq 38 (.slcL 9 36 (some 37) none none),⟨none,none,.clr 9 zq5 38⟩]) (.seq (.reg [Mq 39 0,Mq 40 5,Rq 41 (.slcL 9 39 none (some 40) none),Mq 4 41]) (.ret))))))
theorem E8:Aj Tryz.prog 95 2=some (Fa,[4]):=by kernel_rfl
def Nk:Ai:=
 .seq (.reg [Rq 2 (.box 39 9 0),Rq 3 (.mv (.const (.bool false)))]) (.seq (.reg [Lq 4 1,Fq 5 0 2,Lq 6 5,Cq 7 51 ([4,6]),Mq 3 7]) (.ret))
theorem Of:Aj Tryz.prog 96 2=some (Nk,[3]):=by kernel_rfl
def Acb:Ai:=
 .seq (.reg [Rq 3 (.box 27 5 0),Rq 6 (.mv (.const (.slice none 0 0))),Nq 7 0]) (.seq (.seq (.reg [Mq 16 1,Rq 17 (.len false 16),Bq 18 .gtr 17 (Kq 100),Mq 19 18,Hq 20 19 false 2,Gq 21 19 false (.len false 20),Gq 22 19 false (.bin .gtr 21 (Kq 100)),Rq 23 (.pick 19 (.const (.bool true)) 22)]) (.cond 23 (.seq (.reg [Rq 6 (.mv (.const (.slice none 0 0))),Nq 7 2]) (.ret)) (.skip))) (.seq (.seq (.reg [Rq 24 (.load true 5 3),Cq 25 47 ([24]),Mq 8 25]) (.seq (.reg [Mq 26 8,Bq 27 .neq 26 (Kq 0)]) (.cond 27 (.seq (.reg [Mq 28 8,Rq 6 (.mv (.const (.slice none 0 0))),Mq 7 28]) (.ret)) (.skip)))) (.seq (.reg [Rq 29 (.mkm),Rq 9 (.zbox 164 [(.map none)]),Sq 1 9 29]) (.seq (.seq (.reg [Mq 30 1,Rq 31 (.len false 30),Nq 32 0]) (.block 0 (.loop (.seq (.reg [Bq 33 .lss 32 31]) (.seq (.cond 33 (.skip) (.exit 0)) (.seq (.block 1 (.seq (.reg [Iq 34 6 30 32,Rq 35 (.load true 6 34),Rq 11 (.zbox 93 zq3),Sq 6 11 35]) (.seq (.seq (.reg [Fq 36 1 11,Rq 37 (.load true 5 36),Cq 38 47 ([37]),Mq 12 38]) (.seq (.reg [Mq 39 12,Bq 40 .neq 39 (Kq 0)]) (.cond 40 (.seq (.reg [Mq 41 12,Rq 6 (.mv (.const (.slice none 0 0))),Mq 7 41]) (.ret)) (.skip)))) (.seq (.reg [Lq 43 9,Fq 44 0 11,Lq 45 44,Rq 46 (.mlook .string true (.int .i64 0) 43 45),Mq 42 46,Eq1 47 42 0,Eq1 48 42 1,Mq 13 47,Mq 14 48]) (.seq (.reg [Mq 49 14,Rq 50 (.not 49)]) (.cond 50 (.dreg [[Lq 51 9,Fq 52 0 11,Lq 53 52,Rq 54 (.load true 5 3),Fq 55 1 11,Rq 56 (.load true 5 55),Cq 57 121 ([54,56])],[⟨none,none,.mupd .string 51 53 57⟩]]) (.skip))))))) (.reg [Bq 58 .add 32 (Kq 1),Mq 32 58]))))))) (.seq (.reg [Mq 59 2,Cq 60 122 ([59]),Mq 15 60]) (.seq (.reg [Mq 61 15,Rq 62 (.mkfn 124 [9]),Cq 63 123 ([61,62])]) (.seq (.reg [Mq 64 15,Mq 6 64,Nq 7 0]) (.ret))))))))
theorem Ac8:Aj Tryz.prog 97 3=some (Acb,[6,7]):=by kernel_rfl
def V7:Ai:=
 .seq (.reg [Rq 2 (.mv (.const (.bool false)))]) (.seq (.reg [Mq 3 0,Rq 4 (.bin .eql 3 (.const (.string ⟨#[]⟩))),Mq 5 4,Hq 6 5 false 0,Gq 7 5 false (.call (.func 41) [6]),Rq 8 (.pick 5 (.const (.bool true)) 7),Mq 2 8]) (.ret))
theorem Vs:Aj Tryz.prog 98 1=some (V7,[2]):=by kernel_rfl
def Mp:Ai:=
 .seq (.reg [Rq 1 (.box 39 9 0),Nq 2 0]) (.seq (.seq (.reg [Fq 3 0 1,Lq 4 3,Cq 5 55 ([4]),Rq 6 (.not 5),Mq 7 6,Gq 8 7 false (.fldA 1 1),Gq 9 7 false (.load false 1 8),Gq 10 7 false (.call (.func 55) [9]),Gq 11 7 false (.not 10),Rq 12 (.pick 7 (.const (.bool true)) 11),Mq 13 12,Gq 14 13 false (.fldA 2 1),Gq 15 13 false (.load false 1 14),Gq 16 13 false (.call (.func 55) [15]),Gq 17 13 false (.not 16),Rq 18 (.pick 13 (.const (.bool true)) 17),Mq 19 18,Gq 20 19 false (.fldA 3 1),Gq 21 19 false (.load false 1 20),Gq 22 19 false (.bin .neq 21 (.const (.string ⟨#[]⟩))),Hq 23 19 false 22,Gq 24 23 true (.fldA 3 1),Gq 25 23 true (.load false 1 24),Gq 26 23 true (.call (.func 55) [25]),Gq 27 23 true (.not 26),Gq 28 19 false (.pick 23 27 (.const (.bool false))),Rq 29 (.pick 19 (.const (.bool true)) 28)]) (.cond 29 (.seq (.reg [Nq 2 1]) (.ret)) (.skip))) (.seq (.seq (.reg [Fq 30 4 1,Lq 31 30,Cq 32 127 ([31]),Rq 33 (.not 32),Mq 34 33,Gq 35 34 false (.fldA 5 1),Gq 36 34 false (.load false 1 35),Gq 37 34 false (.call (.func 68) [36,(Kq 0),(Kq 65535)]),Gq 38 34 false (.not 37),Rq 39 (.pick 34 (.const (.bool true)) 38),Mq 40 39,Gq 41 40 false (.fldA 7 1),Gq 42 40 false (.load false 1 41),Gq 43 40 false (.call (.func 68) [42,(Kq 1),(Kq 1000000)]),Gq 44 40 false (.not 43),Rq 45 (.pick 40 (.const (.bool true)) 44)]) (.cond 45 (.seq (.reg [Nq 2 3]) (.ret)) (.skip))) (.seq (.reg [Nq 2 0]) (.ret))))
theorem M4:Aj Tryz.prog 99 1=some (Mp,[2]):=by kernel_rfl
def Sf:Ai:=
 .seq (.reg [Rq 2 (.box 39 9 0),Rq 3 (.box 39 9 1),Rq 4 (.mv (.const (.bool false)))]) (.seq (.reg [Fq 5 0 2,Lq 6 5,Fq 7 0 3,Lq 8 7,Bq 9 .lss 6 8,Mq 10 9,Gq 11 10 false (.fldA 0 2),Gq 12 10 false (.load false 1 11),Gq 13 10 false (.fldA 0 3),Gq 14 10 false (.load false 1 13),Gq 15 10 false (.bin .eql 12 14),Hq 16 10 false 15,Gq 17 16 true (.fldA 1 2),Gq 18 16 true (.load false 1 17),Gq 19 16 true (.fldA 1 3),Gq 20 16 true (.load false 1 19),Gq 21 16 true (.bin .lss 18 20),Gq 22 10 false (.pick 16 21 (.const (.bool false))),Rq 23 (.pick 10 (.const (.bool true)) 22),Mq 4 23]) (.ret))
theorem Sj:Aj Tryz.prog 100 2=some (Sf,[4]):=by kernel_rfl
def Og:Ai:=
 .seq (.reg [Rq 1 (.box 44 5 0),Nq 2 0]) (.seq (.block 0 (.seq (.reg [Fq 4 0 1,Lq 5 4,Cq 6 55 ([5]),Rq 7 (.not 6),Mq 3 7]) (.cond 3 (.seq (.reg [Nq 2 1]) (.ret)) (.seq (.reg [Fq 9 1 1,Lq 10 9,Cq 11 68 ([10,(Kq 1),(Kq 4)]),Rq 12 (.not 11),Mq 8 12]) (.cond 8 (.seq (.reg [Nq 2 7]) (.ret)) (.seq (.seq (.reg [Fq 14 2 1,Lq 15 14,Cq 16 68 ([15,(Kq 1),(Kq 1000000)]),Rq 17 (.not 16),Mq 13 17]) (.cond 13 (.skip) (.reg [Fq 18 3 1,Lq 19 18,Cq 20 127 ([19]),Rq 21 (.not 20),Mq 13 21]))) (.cond 13 (.seq (.reg [Nq 2 3]) (.ret)) (.skip)))))))) (.seq (.reg [Nq 2 0]) (.ret)))
theorem Nd:Aj Tryz.prog 101 1=some (Og,[2]):=by kernel_rfl
def Sl:Ai:=
 .seq (.reg [Rq 2 (.box 27 5 0),Rq 3 (.box 27 5 1),Nq 4 0]) (.seq (.dreg [[Rq 5 (.load true 5 2),Rq 6 (.load true 5 3),Cq 7 128 ([5,6]),Fq 8 3 2,Lq 9 8,Bq 10 .add 7 9,Fq 11 3 3,Lq 12 11],[Bq 13 .add 10 12],[Mq 4 13]]) (.ret))
theorem Sr:Aj Tryz.prog 102 2=some (Sl,[4]):=by kernel_rfl
def Wl:Ai:=
 .seq (.reg [Rq 4 (.mv (.const (.slice none 0 0)))]) (.seq (.reg [Mq 5 0,Mq 6 1,Cq 7 129 ([5,6,(Kq 0),(.const (.int .i64 (-1)))]),Mq 4 7]) (.ret))
theorem W5:Aj Tryz.prog 103 2=some (Wl,[4]):=by kernel_rfl
def Qw:Ai:=
 .seq (.reg [Rq 2 (.mv (.const (.string ⟨#[]⟩)))]) (.seq (.reg [Rq 3 (.mv (.const (.string ⟨#[]⟩)))]) (.seq (.seq (.reg [Nq 4 0]) (.block 0 (.loop (.seq (.seq (.reg [Mq 5 4,Mq 6 0,Rq 7 (.len false 6),Bq 8 .lss 5 7]) (.cond 8 (.skip) (.exit 0))) (.seq (.block 1 (.seq (.seq (.reg [Mq 11 4,Bq 12 .gtr 11 (Kq 0)]) (.cond 12 (.reg [Mq 13 3,Rq 14 (.bin .add 13 (.const (.string ⟨#[46]⟩))),Mq 3 14]) (.skip))) (.reg [Mq 15 3,Mq 16 0,Mq 17 4,Iq 18 1 16 17,Lq 19 18,Bq 20 .add 15 19,Mq 3 20]))) (.reg [Mq 9 4,Bq 10 .add 9 (Kq 1),Mq 4 10])))))) (.seq (.reg [Mq 21 3,Mq 2 21]) (.ret))))
theorem Qk:Aj Tryz.prog 104 1=some (Qw,[2]):=by kernel_rfl
def Lp:Ai:=
 .seq (.reg [Rq 1 (.box 42 7 0),Nq 2 0]) (.seq (.reg [Fq 4 0 1,Lq 5 4,Cq 6 59 ([5]),Mq 3 6]) (.seq (.block 0 (.seq (.reg [Mq 8 3,Bq 9 .neq 8 (Kq 0),Mq 7 9]) (.cond 7 (.seq (.reg [Mq 10 3,Mq 2 10]) (.ret)) (.seq (.reg [Fq 12 1 1,Lq 13 12,Cq 14 25 ([13]),Rq 15 (.not 14),Mq 11 15]) (.cond 11 (.seq (.reg [Nq 2 7]) (.ret)) (.seq (.reg [Fq 17 2 1,Lq 18 17,Cq 19 68 ([18,(Kq 0),(Kq 2147483647)]),Rq 20 (.not 19),Mq 16 20]) (.cond 16 (.seq (.reg [Nq 2 3]) (.ret)) (.seq (.seq (.reg [Fq 22 1 1,Lq 23 22,Bq 24 .neq 23 (Kq 1),Mq 25 24,Gq 26 25 true (.fldA 3 1),Gq 27 25 true (.load false 1 26),Gq 28 25 true (.bin .neq 27 (Kq 0)),Rq 29 (.pick 25 28 (.const (.bool false))),Mq 21 29]) (.cond 21 (.skip) (.seq (.reg [Fq 30 1 1,Lq 31 30,Bq 32 .neq 31 (Kq 16),Mq 33 32,Gq 34 33 true (.fldA 4 1),Gq 35 33 true (.load false 1 34),Gq 36 33 true (.bin .neq 35 (.const (.string ⟨#[]⟩))),Rq 37 (.pick 33 36 (.const (.bool false))),Mq 21 37]) (.cond 21 (.skip) (.reg [Fq 38 1 1,Lq 39 38,Bq 40 .neq 39 (Kq 33),Mq 41 40,Gq 42 41 true (.fldA 5 1),Gq 43 41 true (.load false 1 42),Gq 44 41 true (.bin .neq 43 (Kq 0)),Hq 45 41 true 44,Gq 46 45 false (.fldA 6 1),Gq 47 45 false (.load false 1 46),Gq 48 45 false (.bin .neq 47 (.const (.string ⟨#[]⟩))),Gq 49 41 true (.pick 45 (.const (.bool true)) 48),Rq 50 (.pick 41 49 (.const (.bool false))),Mq 21 50]))))) (.cond 21 (.seq (.reg [Nq 2 1]) (.ret)) (.seq (.seq (.reg [Fq 52 3 1,Lq 53 52,Cq 54 127 ([53]),Rq 55 (.not 54),Mq 51 55]) (.cond 51 (.skip) (.reg [Fq 56 5 1,Lq 57 56,Cq 58 68 ([57,(Kq 0),(Kq 65535)]),Rq 59 (.not 58),Mq 51 59]))) (.cond 51 (.seq (.reg [Nq 2 3]) (.ret)) (.seq (.reg [Fq 61 4 1,Lq 62 61,Rq 63 (.len true 62),Bq 64 .gtr 63 (Kq 200),Mq 60 64]) (.cond 60 (.seq (.reg [Nq 2 2]) (.ret)) (.skip)))))))))))))) (.seq (.reg [Fq 65 6 1,Lq 66 65,Cq 67 59 ([66]),Mq 2 67]) (.ret))))
theorem Lr:Aj Tryz.prog 105 1=some (Lp,[2]):=by kernel_rfl
def Rb:Ai:=
 .seq (.reg [Rq 4 (.mv (.const (.string ⟨#[]⟩)))]) (.seq (.reg [Rq 5 (.mv (.const (.string ⟨#[]⟩)))]) (.seq (.seq (.reg [Nq 6 0]) (.block 0 (.loop (.seq (.seq (.reg [Mq 7 6,Mq 8 1,Bq 9 .lss 7 8]) (.cond 9 (.skip) (.exit 0))) (.seq (.block 1 (.seq (.reg [Mq 12 0,Bq 13 .rem 12 (Kq 256),Rq 14 (.conv .u8 13),Rq 15 (.mks 5 1 1 [(.int .u8 0)] [(0,14)]),Rq 16 (.ofB 15),Mq 17 5,Bq 18 .add 16 17,Mq 5 18]) (.reg [Mq 19 0,Bq 20 .quo 19 (Kq 256),Mq 0 20]))) (.reg [Mq 10 6,Bq 11 .add 10 (Kq 1),Mq 6 11])))))) (.seq (.reg [Mq 21 5,Mq 4 21]) (.ret))))
theorem P6:Aj Tryz.prog 106 2=some (Rb,[4]):=by kernel_rfl
def N6:Ai:=
 .seq (.reg [Rq 2 (.mv (.const (.string ⟨#[]⟩)))]) (.seq (.reg [Rq 3 (.mv (.const (.string ⟨#[]⟩)))]) (.seq (.reg [Mq 6 0,Cq 7 67 ([6]),Mq 4 7]) (.seq (.seq (.reg [Nq 5 0]) (.block 0 (.loop (.seq (.seq (.reg [Mq 8 5,Mq 9 4,Rq 10 (.len false 9),Bq 11 .lss 8 10]) (.cond 11 (.skip) (.exit 0))) (.seq (.block 1 (.dreg [[Mq 14 3,Mq 15 4,Mq 16 5,Iq 17 1 15 16,Lq 18 17,Rq 19 (.len true 18),Cq 20 106 ([19,(Kq 1)]),Mq 21 4,Mq 22 5,Iq 23 1 21 22,Lq 24 23,Bq 25 .add 20 24],[Bq 26 .add 14 25],[Mq 3 26]])) (.reg [Mq 12 5,Bq 13 .add 12 (Kq 1),Mq 5 13])))))) (.seq (.reg [Mq 27 3,Cq 28 106 ([(Kq 0),(Kq 1)]),Bq 29 .add 27 28,Mq 2 29]) (.ret)))))
theorem N1:Aj Tryz.prog 107 1=some (N6,[2]):=by kernel_rfl
def Ac1:Ai:=
 .seq (.reg [Rq 1 (.box 42 7 0),Rq 2 (.mv (.const (.bool false)))]) (.seq (.reg [Fq 3 1 1,Lq 4 3,Bq 5 .eql 4 (Kq 1),Mq 6 5,Gq 7 6 false (.fldA 3 1),Gq 8 6 false (.load false 1 7),Gq 9 6 false (.bin .eql 8 (Kq 0)),Rq 10 (.pick 6 (.const (.bool true)) 9),Mq 11 10,Gq 12 11 true (.fldA 1 1),Gq 13 11 true (.load false 1 12),Gq 14 11 true (.bin .eql 13 (Kq 16)),Hq 15 11 true 14,Gq 16 15 false (.fldA 4 1),Gq 17 15 false (.load false 1 16),Gq 18 15 false (.bin .eql 17 (.const (.string ⟨#[]⟩))),Gq 19 11 true (.pick 15 (.const (.bool true)) 18),Rq 20 (.pick 11 19 (.const (.bool false))),Mq 21 20,Gq 22 21 true (.fldA 1 1),Gq 23 21 true (.load false 1 22),Gq 24 21 true (.bin .eql 23 (Kq 33)),Hq 25 21 true 24,Gq 26 25 false (.fldA 5 1),Gq 27 25 false (.load false 1 26),Gq 28 25 false (.bin .eql 27 (Kq 0)),Hq 29 25 false 28,Gq 30 29 true (.fldA 6 1),Gq 31 29 true (.load false 1 30),Gq 32 29 true (.bin .eql 31 (.const (.string ⟨#[]⟩))),Gq 33 25 false (.pick 29 32 (.const (.bool false))),Gq 34 21 true (.pick 25 (.const (.bool true)) 33),Rq 35 (.pick 21 34 (.const (.bool false))),Mq 2 35]) (.ret))
theorem Acd:Aj Tryz.prog 108 1=some (Ac1,[2]):=by kernel_rfl
def So:Ai:=
 .seq (.reg [Rq 4 (.mv (.const (.string ⟨#[]⟩)))]) (.seq (.dreg [[Mq 5 0,Mq 6 1,Mq 7 0,Fq 8 0 7,Fq 9 0 8,Lq 10 9,Rq 11 (.len true 10),Mq 12 0,Fq 13 0 12,Fq 14 1 13,Lq 15 14,Bq 16 .sub 11 15,Bq 17 .leq 6 16],[Cq 18 77 ([5,17])]]) (.seq (.reg [Mq 19 0,Fq 20 0 19,Fq 21 1 20,Lq 22 21,Mq 23 1,Bq 24 .add 22 23,Fq 25 0 19,Fq 26 1 25,Sq 1 26 24]) (.seq (.dreg [[Mq 27 0,Fq 28 0 27,Fq 29 0 28,Lq 30 29,Mq 31 0,Fq 32 0 31,Fq 33 1 32,Lq 34 33,Mq 35 1,Bq 36 .sub 34 35,Mq 37 0,Fq 38 0 37,Fq 39 1 38,Lq 40 39],[Rq 41 (.slcS 30 (some 36) (some 40))],[Mq 4 41]]) (.ret))))
theorem Jv:Aj Tryz.prog 113 2=some (So,[4]):=by kernel_rfl
def S8:Ai:=
 .seq (.reg [Nq 2 0]) (.seq (.reg [Mq 3 0,Cq 4 75 ([3]),Rq 5 (.bin .shl 4 (.const (.int .u64 16))),Mq 6 0,Cq 7 75 ([6]),Bq 8 .or 5 7,Mq 2 8]) (.ret))
theorem Kl:Aj Tryz.prog 114 1=some (S8,[2]):=by kernel_rfl
def Abp:Ai:=
 .seq (.reg [Rq 1 (.box 39 9 0),Nq 2 0]) (.seq (.block 0 (.seq (.reg [Fq 4 0 1,Lq 5 4,Cq 6 41 ([5]),Rq 7 (.not 6),Mq 8 7,Gq 9 8 false (.fldA 1 1),Gq 10 8 false (.load false 1 9),Gq 11 8 false (.call (.func 41) [10]),Gq 12 8 false (.not 11),Rq 13 (.pick 8 (.const (.bool true)) 12),Mq 14 13,Gq 15 14 false (.fldA 2 1),Gq 16 14 false (.load false 1 15),Gq 17 14 false (.call (.func 41) [16]),Gq 18 14 false (.not 17),Rq 19 (.pick 14 (.const (.bool true)) 18),Mq 20 19,Gq 21 20 false (.fldA 3 1),Gq 22 20 false (.load false 1 21),Gq 23 20 false (.call (.func 98) [22]),Gq 24 20 false (.not 23),Rq 25 (.pick 20 (.const (.bool true)) 24),Mq 3 25]) (.cond 3 (.seq (.reg [Nq 2 1]) (.ret)) (.seq (.reg [Fq 27 4 1,Lq 28 27,Cq 29 131 ([28,(Kq 0),(Kq 4294967295)]),Rq 30 (.not 29),Mq 31 30,Gq 32 31 false (.fldA 5 1),Gq 33 31 false (.load false 1 32),Gq 34 31 false (.call (.func 131) [33,(Kq 0),(Kq 65535)]),Gq 35 31 false (.not 34),Rq 36 (.pick 31 (.const (.bool true)) 35),Mq 37 36,Gq 38 37 false (.fldA 7 1),Gq 39 37 false (.load false 1 38),Gq 40 37 false (.call (.func 131) [39,(Kq 1),(Kq 1000000)]),Gq 41 37 false (.not 40),Rq 42 (.pick 37 (.const (.bool true)) 41),Mq 26 42]) (.cond 26 (.seq (.reg [Nq 2 3]) (.ret)) (.skip)))))) (.seq (.reg [Nq 2 0]) (.ret)))
theorem Zr:Aj Tryz.prog 115 1=some (Abp,[2]):=by kernel_rfl
def Wa:Ai:=
 .seq (.reg [Rq 2 (.box 39 9 0),Rq 3 (.box 39 9 1),Nq 4 0]) (.seq (.dreg [[Fq 5 0 2,Lq 6 5,Fq 7 0 3,Lq 8 7,Cq 9 94 ([6,8]),Fq 10 1 2,Lq 11 10,Fq 12 1 3,Lq 13 12],[Cq 14 94 ([11,13])],[Rq 15 (.mks 3 1 2 [(.int .i64 0)] [(0,9),(1,14)])],[Cq 16 125 ([15])],[Mq 4 16]]) (.ret))
theorem Vv:Aj Tryz.prog 116 2=some (Wa,[4]):=by kernel_rfl
def Zf:Ai:=
 .seq (.reg [Nq 2 0]) (.seq (.seq (.reg [Mq 6 0,Rq 7 (.len false 6),Nq 8 0]) (.block 0 (.loop (.seq (.reg [Bq 9 .lss 8 7]) (.seq (.cond 9 (.skip) (.exit 0)) (.seq (.block 1 (.seq (.reg [Iq 10 5 6 8,Rq 11 (.load true 5 10),Rq 4 (.zbox 44 [(.string ⟨#[]⟩),(.int .i64 0),(.int .i64 0),(.int .i64 0),(.bool false)]),Sq 5 4 11]) (.seq (.reg [Rq 12 (.load true 5 4),Cq 13 132 ([12]),Mq 5 13]) (.seq (.reg [Mq 14 5,Bq 15 .neq 14 (Kq 0)]) (.cond 15 (.seq (.reg [Mq 16 5,Mq 2 16]) (.ret)) (.skip)))))) (.reg [Bq 17 .add 8 (Kq 1),Mq 8 17]))))))) (.seq (.reg [Nq 2 0]) (.ret)))
theorem Abh:Aj Tryz.prog 117 1=some (Zf,[2]):=by kernel_rfl
def Fc:Ai:=
 .seq (.reg [Nq 4 0]) (.seq (.seq (.reg [Mq 6 0,Rq 7 (.len false 6),Nq 8 0]) (.block 0 (.loop (.seq (.reg [Bq 9 .lss 8 7]) (.seq (.cond 9 (.skip) (.exit 0)) (.seq (.block 1 (.seq (.reg [Mq 10 8,Mq 5 10]) (.seq (.reg [Mq 11 1,Mq 12 0,Mq 13 5,Iq 14 9 12 13,Rq 15 (.load true 9 14),Rq 16 (.call 11 [15])]) (.cond 16 (.seq (.reg [Mq 17 5,Mq 4 17]) (.ret)) (.skip))))) (.reg [Bq 18 .add 8 (Kq 1),Mq 8 18]))))))) (.seq (.reg [Rq 4 (.mv (.const (.int .i64 (-1))))]) (.ret)))
theorem Fd:Aj Tryz.prog 120 2=some (Fc,[4]):=by kernel_rfl
def Yi:Ai:=
 .seq (.reg [Rq 2 (.box 27 5 0),Rq 3 (.box 27 5 1),Nq 4 0]) (.seq (.dreg [[Rq 5 (.load true 5 2),Rq 6 (.load true 5 3),Cq 7 134 ([5,6]),Fq 8 3 2,Lq 9 8,Bq 10 .add 7 9,Fq 11 3 3,Lq 12 11],[Bq 13 .add 10 12],[Mq 4 13]]) (.ret))
theorem Yd:Aj Tryz.prog 121 2=some (Yi,[4]):=by kernel_rfl
def Jj:Ai:=
 .seq (.reg [Rq 2 (.mv (.const (.slice none 0 0)))]) (.seq (.seq (.reg [Mq 3 0,Rq 4 (.isnil false 3)]) (.cond 4 (.seq (.reg [Rq 2 (.mv (.const (.slice none 0 0)))]) (.ret)) (.skip))) (.seq (.reg [Rq 5 (.mks 9 1 0 [(.string ⟨#[]⟩)] []),Mq 6 0,Rq 7 (.app 9 1 16 (.string ⟨#[]⟩) 5 6),Mq 2 7]) (.ret)))
theorem I5:Aj Tryz.prog 122 1=some (Jj,[2]):=by kernel_rfl
def Ach:Ai:=
 .seq (.reg [Nq 2 0]) (.seq (.reg [Nq 3 0]) (.seq (.seq (.reg [Mq 6 0,Rq 7 (.len false 6),Nq 8 0]) (.block 0 (.loop (.seq (.reg [Bq 9 .lss 8 7]) (.seq (.cond 9 (.skip) (.exit 0)) (.seq (.block 1 (.seq (.reg [Iq 10 1 6 8,Lq 11 10,Mq 5 11]) (.seq (.reg [Mq 12 5,Mq 13 3,Bq 14 .neq 12 13]) (.cond 14 (.seq (.reg [Mq 15 5,Mq 2 15]) (.ret)) (.skip))))) (.reg [Bq 16 .add 8 (Kq 1),Mq 8 16]))))))) (.seq (.reg [Mq 17 3,Mq 2 17]) (.ret))))
theorem Ac6:Aj Tryz.prog 125 1=some (Ach,[2]):=by kernel_rfl
def N4:Ai:=
 .seq (.reg [Rq 2 (.mv (.const (.bool false)))]) (.seq (.reg [Mq 3 0,Cq 4 68 ([3,(Kq 0),(Kq 4294967295)]),Mq 2 4]) (.ret))
theorem Hv:Aj Tryz.prog 127 1=some (N4,[2]):=by kernel_rfl
def Pv:Ai:=
 .seq (.reg [Rq 2 (.box 27 5 0),Rq 3 (.box 27 5 1),Nq 4 0]) (.seq (.reg [Fq 5 0 2,Lq 6 5,Fq 7 0 3,Lq 8 7,Bq 9 .sub 6 8,Fq 10 0 2,Lq 11 10,Fq 12 0 3,Lq 13 12,Bq 14 .sub 11 13,Bq 15 .mul 9 14,Fq 16 1 2,Lq 17 16,Fq 18 1 3,Lq 19 18,Bq 20 .sub 17 19,Fq 21 1 2,Lq 22 21,Fq 23 1 3,Lq 24 23,Bq 25 .sub 22 24,Bq 26 .mul 20 25,Bq 27 .add 15 26,Fq 28 2 2,Lq 29 28,Fq 30 2 3,Lq 31 30,Bq 32 .sub 29 31,Fq 33 2 2,Lq 34 33,Fq 35 2 3,Lq 36 35,Bq 37 .sub 34 36,Bq 38 .mul 32 37,Bq 39 .add 27 38,Cq 40 138 ([39]),Mq 4 40]) (.ret))
theorem Pr:Aj Tryz.prog 128 2=some (Pv,[4]):=by kernel_rfl
def Si:Ai:=
 .seq (.reg [Rq 8 (.mv (.const (.slice none 0 0)))]) (.seq (.seq (.reg [Mq 12 3,Bq 13 .eql 12 (Kq 0)]) (.cond 13 (.seq (.reg [Rq 8 (.mv (.const (.slice none 0 0)))]) (.ret)) (.skip))) (.seq (.seq (.reg [Mq 14 1,Rq 15 (.bin .eql 14 (.const (.string ⟨#[]⟩)))]) (.cond 15 (.seq (.reg [Mq 16 0,Mq 17 3,Cq 18 139 ([16,17]),Mq 8 18]) (.ret)) (.skip))) (.seq (.seq (.reg [Mq 19 3,Bq 20 .lss 19 (Kq 0)]) (.cond 20 (.reg [Mq 21 0,Mq 22 1,Cq 23 140 ([21,22]),Bq 24 .add 23 (Kq 1),Mq 3 24]) (.skip))) (.seq (.reg [Mq 25 3,Mq 26 0,Rq 27 (.len true 26),Bq 28 .add 27 (Kq 1),Rq 29 (.mm false 25 28),Mq 3 29]) (.seq (.reg [Mq 30 3,Rq 31 (.mkn 9 1 16 [(.string ⟨#[]⟩)] 30 30),Mq 9 31]) (.seq (.reg [Mq 32 3,Bq 33 .sub 32 (Kq 1),Mq 3 33]) (.seq (.reg [Nq 10 0]) (.seq (.block 0 (.loop (.seq (.seq (.reg [Mq 34 10,Mq 35 3,Bq 36 .lss 34 35]) (.cond 36 (.skip) (.exit 0))) (.block 1 (.seq (.reg [Mq 37 0,Mq 38 1,Cq 39 141 ([37,38]),Mq 11 39]) (.seq (.seq (.reg [Mq 40 11,Bq 41 .lss 40 (Kq 0)]) (.cond 41 (.exit 0) (.skip))) (.seq (.reg [Mq 42 9,Mq 43 10,Mq 44 0,Mq 45 11,Mq 46 2,Bq 47 .add 45 46,Rq 48 (.slcS 44 none (some 47)),Iq 49 1 42 43,Sq 1 49 48]) (.seq (.reg [Mq 50 0,Mq 51 11,Mq 52 1,Rq 53 (.len true 52),Bq 54 .add 51 53,Rq 55 (.slcS 50 (some 54) none),Mq 0 55]) (.reg [Mq 56 10,Bq 57 .add 56 (Kq 1),Mq 10 57]))))))))) (.seq (.reg [Mq 58 9,Mq 59 10,Mq 60 0,Iq 61 1 58 59,Sq 1 61 60]) (.seq (.reg [Mq 62 9,Mq 63 10,Bq 64 .add 63 (Kq 1),Rq 65 (.slcL 1 62 none (some 64) none),Mq 8 65]) (.ret)))))))))))
theorem Sk:Aj Tryz.prog 129 4=some (Si,[8]):=by kernel_rfl
def Uo:Ai:=
 .seq (.reg [Rq 6 (.mv (.const (.bool false)))]) (.seq (.reg [Mq 7 0,Mq 8 1,Bq 9 .geq 7 8,Mq 10 9,Hq 11 10 true 0,Hq 12 10 true 2,Gq 13 10 true (.bin .leq 11 12),Rq 14 (.pick 10 13 (.const (.bool false))),Mq 6 14]) (.ret))
theorem Vb:Aj Tryz.prog 131 3=some (Uo,[6]):=by kernel_rfl
def Abx:Ai:=
 .seq (.reg [Rq 1 (.box 44 5 0),Nq 2 0]) (.seq (.block 0 (.seq (.reg [Fq 4 0 1,Lq 5 4,Cq 6 41 ([5]),Rq 7 (.not 6),Mq 3 7]) (.cond 3 (.seq (.reg [Nq 2 1]) (.ret)) (.seq (.reg [Fq 9 1 1,Lq 10 9,Cq 11 143 ([10,(Kq 1),(Kq 4)]),Rq 12 (.not 11),Mq 8 12]) (.cond 8 (.seq (.reg [Nq 2 7]) (.ret)) (.seq (.reg [Fq 14 2 1,Lq 15 14,Cq 16 143 ([15,(Kq 1),(Kq 1000000)]),Rq 17 (.not 16),Mq 18 17,Gq 19 18 false (.fldA 3 1),Gq 20 18 false (.load false 1 19),Gq 21 18 false (.call (.func 143) [20,(Kq 0),(Kq 4294967295)]),Gq 22 18 false (.not 21),Rq 23 (.pick 18 (.const (.bool true)) 22),Mq 13 23]) (.cond 13 (.seq (.reg [Nq 2 3]) (.ret)) (.skip)))))))) (.seq (.reg [Nq 2 0]) (.ret)))
theorem Ac4:Aj Tryz.prog 132 1=some (Abx,[2]):=by kernel_rfl
def Aas:Ai:=
 .seq (.reg [Rq 2 (.box 27 5 0),Rq 3 (.box 27 5 1),Nq 4 0]) (.seq (.dreg [[Fq 8 0 2,Lq 9 8,Fq 10 0 3,Lq 11 10,Bq 12 .sub 9 11,Fq 13 1 2,Lq 14 13,Fq 15 1 3,Lq 16 15,Bq 17 .sub 14 16,Fq 18 2 2,Lq 19 18,Fq 20 2 3,Lq 21 20,Bq 22 .sub 19 21,Mq 5 12,Mq 6 17],[Mq 7 22]]) (.seq (.reg [Mq 23 5,Mq 24 5,Bq 25 .mul 23 24,Mq 26 6,Mq 27 6,Bq 28 .mul 26 27,Bq 29 .add 25 28,Mq 30 7,Mq 31 7,Bq 32 .mul 30 31,Bq 33 .add 29 32,Cq 34 145 ([33]),Mq 4 34]) (.ret)))
theorem Aaf:Aj Tryz.prog 134 2=some (Aas,[4]):=by kernel_rfl
def Q5:Ai:=
 .seq (.reg [Nq 2 0]) (.seq (.reg [Nq 3 0,Nq 4 2147483648]) (.seq (.block 0 (.loop (.seq (.seq (.reg [Mq 5 4,Bq 6 .gtr 5 (Kq 0)]) (.cond 6 (.skip) (.exit 0))) (.block 1 (.seq (.seq (.reg [Mq 7 3,Mq 8 4,Bq 9 .add 7 8,Bq 10 .leq 9 (Kq 3037000499),Mq 11 10,Hq 12 11 true 3,Hq 13 11 true 4,Gq 14 11 true (.bin .add 12 13),Hq 15 11 true 3,Hq 16 11 true 4,Gq 17 11 true (.bin .add 15 16),Gq 18 11 true (.bin .mul 14 17),Hq 19 11 true 0,Gq 20 11 true (.bin .leq 18 19),Rq 21 (.pick 11 20 (.const (.bool false)))]) (.cond 21 (.reg [Mq 22 3,Mq 23 4,Bq 24 .add 22 23,Mq 3 24]) (.skip))) (.reg [Mq 25 4,Bq 26 .quo 25 (Kq 2),Mq 4 26])))))) (.seq (.reg [Mq 27 3,Mq 2 27]) (.ret))))
theorem Qh:Aj Tryz.prog 138 1=some (Q5,[2]):=by kernel_rfl
def Wu:Ai:=
 .seq (.reg [Rq 6 (.mv (.const (.bool false)))]) (.seq (.reg [Mq 7 0,Mq 8 1,Bq 9 .geq 7 8,Mq 10 9,Hq 11 10 true 0,Hq 12 10 true 2,Gq 13 10 true (.bin .leq 11 12),Rq 14 (.pick 10 13 (.const (.bool false))),Mq 6 14]) (.ret))
theorem Xd:Aj Tryz.prog 143 3=some (Wu,[6]):=by kernel_rfl
def Aby:Ai:=
 .seq (.reg [Nq 2 0]) (.seq (.seq (.reg [Mq 5 0,Bq 6 .lss 5 (Kq 2)]) (.cond 6 (.seq (.reg [Mq 7 0,Mq 2 7]) (.ret)) (.skip))) (.seq (.reg [Nq 3 1]) (.seq (.block 0 (.loop (.seq (.seq (.reg [Mq 8 3,Mq 9 0,Mq 10 3,Bq 11 .quo 9 10,Bq 12 .leq 8 11]) (.cond 12 (.skip) (.exit 0))) (.block 1 (.reg [Mq 13 3,Bq 14 .mul 13 (Kq 2),Mq 3 14]))))) (.block 2 (.loop (.block 3 (.seq (.reg [Mq 15 3,Mq 16 0,Mq 17 3,Bq 18 .quo 16 17,Bq 19 .add 15 18,Bq 20 .quo 19 (Kq 2),Mq 4 20]) (.seq (.seq (.reg [Mq 21 4,Mq 22 3,Bq 23 .geq 21 22]) (.cond 23 (.seq (.reg [Mq 24 3,Mq 2 24]) (.ret)) (.skip))) (.reg [Mq 25 4,Mq 3 25])))))))))
theorem Ac5:Aj Tryz.prog 145 1=some (Aby,[2]):=by kernel_rfl
section
open Go.ChangeShapes Go.WideShapes Go.ChangeAt Go.RowKit
section
variable {H:Type} {enc:TypeId×Value→H} {P:Program}
theorem Sw(hl:laidOutB P=true){W W':World}{B:Nat}(hb:Below B W W')(sp:Nat→Bool):
  ∀{ts:List TypeId} {vs:List Value} {ds:List (DataW H)} {p:List MemPlace},(∀t∈ts,P.readableRec t=true∧t<P.types.size)→
   DataW.TrodAll enc P W 0 (fun _=>true) true ts vs ds p→(∀x∈p,sp x.block=true)→(∀x∈p,x.block<B)→B=W.heap.size→DataW.TrodAll enc P W' 0 sp true ts vs ds p
 |[],_,_,_,_,h,_,_,_=>by
  obtain⟨rfl,rfl,rfl⟩:=trodAll_nil h;exact trodAll_mk0
 |t::ts,_,_,_,ht,h,hs,hlt,hB=>by
  obtain⟨v,vs1,d,ds1,a,b,rfl,rfl,rfl,h1,h2⟩:=trodAll_cons h;obtain⟨hr,hrow⟩:=ht t (by simp);subst hB;refine⟨a,b,WideElems.Trod_stays hl hr hrow h1 (fun x hx=>hb.same (hlt x (by simp[hx]))) (fun x hx=>hs x (by simp[hx])),?_,rfl⟩;exact Sw hl hb sp (fun t h=>ht t (by simp[h])) h2 (fun x hx=>hs x (by simp[hx])) (fun x hx=>hlt x (by simp[hx])) rfl
theorem Qt{f:Func}{s:ChangeSpec}{apart fresh handsOn again:Bool}{W W':World}{args:Array Value}{ds gs:List (DataW H)}{before:List MemPlace}{tb:TypeId}(hW:DataW.Whole enc P f.params.toList s.vars apart W args.toList ds gs before)(hl:laidOutB P=true)(hr:∀t∈f.params.toList,P.readableRec t=true∧t<P.types.size)(hv:s.vars=[])(hf:s.fn H (ds++gs)={results:=[.lit (.bool true)],args:=ds})(hres:f.resultTypes= #[tb])(hbool:P.underlying tb=some .bool)(hb:Below W.heap.size W W'):s.post enc P f apart fresh handsOn again W args (.bool true) W':=by
 have hW0:=hW;have hlt:∀p∈before,p.block<W.heap.size:=fun p hp=>hW.lt p hp;obtain⟨p,q,hA,hV,rfl,hz,hn⟩:=hW;rw[hv]at hV;obtain⟨rfl,rfl⟩:=trodVars_none hV;simp only[List.append_nil]at *;have hst:∀sp:Nat→Bool,(∀x∈p,sp x.block=true)→DataW.TrodAll enc P W' 0 sp true f.params.toList args.toList ds p:=fun sp hs=>Sw hl hb sp hr hA hs hlt rfl;have hold:∀x∈p,(fun b=>decide (b<W.heap.size)) x.block=true:=fun x hx=>by simpa using hlt x hx
 have hR:∀(b:Nat) (sp:Nat→Bool) (hd:Bool),DataW.TrodAll enc P W' b sp hd f.resultTypes.toList ((Value.bool true).resultList f.resultTypes.size) [.lit (.bool true)] []:=fun b sp hd=>by
  rw[hres];exact trodAll_cons_mk (shut_bool hbool _) trodAll_mk0
 refine⟨ds,[],p,[],p,[],hW0,?_,?_,?_,?_,fun _=>?_⟩
 ·rw[List.append_nil,hf];exact hR _ _ _
 ·rw[List.append_nil,hf];exact hst _ hold
 ·rw[List.append_nil,hv,hf];rfl
 ·exact World.keptBut_mono (fun x hx=>⟨hx,by simp[hx]⟩) (hb.frame (·∈p))
 ·obtain⟨_,_,_,_,_,hz',hn'⟩:=hW0;refine⟨ok_one hres rfl (okWide_bool_mk hbool _),_,[],([]++p)++[],⟨[]++p,[],trodAll_append (hst _ (fun _ _=>rfl)) (hR _ _ _),?_,rfl,?_,?_⟩,?_⟩
  ·rw[hv];rfl
  ·intro b off hp;rw[hb.frozen (hlt _ (by simpa using hp))];exact hz b off (by simpa using hp)
  ·intro ha;simpa using hn ha
  ·intro x hx _;simpa using hx
end
end
end Go.Proofs.YtbnocibpoghfhaaGreatDoor
