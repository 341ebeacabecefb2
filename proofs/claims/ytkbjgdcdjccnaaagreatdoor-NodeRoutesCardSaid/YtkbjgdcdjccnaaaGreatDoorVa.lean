/- Texts of this claim, joined. -/
import Derived.WalkKit
import Derived.Test.YtkbjgdcdjccnaaaGreatDoorProg
import Derived.Test.YtkbjgdcdjccnaaaGreatDoorWAbsQ
import Derived.KernelRfl
set_option linter.unusedSimpArgs false
set_option linter.unusedVariables false
namespace Go.Proofs.YtkbjgdcdjccnaaaGreatDoor
namespace Pl
theorem Ad4:∀x:List UInt8,Op.bytesLess x x=false
 |[]=>rfl
 |a::x=>by simp[Op.bytesLess,Ad4 x,UInt8.lt_irrefl]
theorem Ajb:∀{x y z:List UInt8},Op.bytesLess x y=true→Op.bytesLess y z=true→Op.bytesLess x z=true
 |[],_::_,[],_,h=>by simp[Op.bytesLess]at h
 |_,[],_,h,_=>by cases ‹List UInt8› <;>simp[Op.bytesLess]at h
 |[],b::y,c::z,_,_=>rfl
 |a::x,b::y,[],_,h=>by simp[Op.bytesLess]at h
 |a::x,b::y,c::z,h1,h2=>by
  simp only[Op.bytesLess,Bool.or_eq_true,decide_eq_true_eq,ZO,ZR]at h1 h2 ⊢;rcases h1 with h1|⟨rfl,h1⟩
  ·rcases h2 with h2|⟨rfl,h2⟩
   ·exact .inl (UInt8.lt_trans h1 h2)
   ·exact .inl h1
  ·rcases h2 with h2|⟨rfl,h2⟩
   ·exact .inl h2
   ·exact .inr ⟨rfl,Ajb h1 h2⟩
theorem Au6:∀{x y:List UInt8},Op.bytesLess x y=false→Op.bytesLess y x=false→x=y
 |[],[],_,_=>rfl
 |[],b::y,h,_=>by simp[Op.bytesLess]at h
 |a::x,[],_,h=>by simp[Op.bytesLess]at h
 |a::x,b::y,h1,h2=>by
  simp only[Op.bytesLess,Bool.or_eq_false_iff,decide_eq_false_iff_not,Bool.and_eq_false_iff]at h1 h2;have hab:a=b:=by
   have g1:¬a.toNat<b.toNat:=h1.1;have g2:¬b.toNat<a.toNat:=h2.1;exact UInt8.toNat_inj.1 (by omega)
  subst hab;have e1:Op.bytesLess x y=false:=by rcases h1.2 with h|h<;>simp_all
  have e2:Op.bytesLess y x=false:=by rcases h2.2 with h|h<;>simp_all
  rw[Au6 e1 e2]
def slt(a b:ByteArray):Bool:=Op.bytesLess a.toList b.toList
theorem toList_inj{a b:ByteArray}(h:a.toList=b.toList):a=b:=by
 rw[ByteArray.toList_eq,ByteArray.toList_eq]at h;cases a;cases b;congr;exact Array.toList_inj.1 h
theorem Ft(a:ByteArray):slt a a=false:=Ad4 _
theorem D5{a b c:ByteArray}(h1:slt a b=true)(h2:slt b c=true):slt a c=true:=Ajb h1 h2
theorem Uc{a b:ByteArray}(h1:slt a b=false)(h2:slt b a=false):a=b:=toList_inj (Au6 h1 h2)
theorem Vb{a b:ByteArray}(h1:slt a b=true):slt b a=false:=by
 rcases Bool.eq_false_or_eq_true (slt b a)with h|h
 ·have:=D5 h1 h;rw[Ft]at this;cases this
 ·exact h
theorem Yt{a b:ByteArray}:(a.toList==b.toList)=true↔a=b:=by
 rw[ZR];exact⟨toList_inj,fun h=>by rw[h]⟩
theorem Zr{a b:ByteArray}(h:a≠b):(a.toList==b.toList)=false:=by
 rcases Bool.eq_false_or_eq_true (a.toList==b.toList)with g|g
 ·exact absurd (Yt.1 g) h
 ·exact g
theorem V4(a b:ByteArray):(Op.bytesLess a.toList b.toList||a.toList==b.toList)= !(slt b a):=by
 rcases Bool.eq_false_or_eq_true (slt b a)with h|h
 ·rw[h];have h1:=Vb h;unfold slt at h1;rw[h1,Zr (fun e=>by subst e;rw[Ft]at h;cases h)];rfl
 ·rw[h];rcases Bool.eq_false_or_eq_true (slt a b)with g|g
  ·unfold slt at g;rw[g];rfl
  ·have:=Uc g h;subst this;simp
end Pl
namespace Pl
def Dg(a b:ByteArray):Int:=if slt a b then -1 else if slt b a then 1 else 0
theorem Yr{a b:ByteArray}(h:slt a b=true):Dg a b= -1:=by simp[Dg,h]
theorem Yo{a b:ByteArray}(h:slt b a=true):Dg a b=1:=by simp[Dg,Vb h,h]
theorem Ol(a:ByteArray):Dg a a=0:=by simp[Dg,Ft]
theorem I6{a b:ByteArray}:Dg a b<0↔slt a b=true:=by
 unfold Dg;split
 ·simp_all
 ·split<;>simp_all
theorem Ct{a b:ByteArray}:Dg a b=0↔a=b:=by
 unfold Dg;split
 ·rename_i h;exact⟨fun e=>by omega,fun e=>by subst e;rw[Ft]at h;cases h⟩
 ·split
  ·rename_i h;exact⟨fun e=>by omega,fun e=>by subst e;rw[Ft]at h;cases h⟩
  ·rename_i h1 h2;exact⟨fun _=>Uc (by simpa using h1) (by simpa using h2),fun _=>rfl⟩
section
variable {α:Type} {cf:α→Int} {l:List α}
def low(cf:α→Int):List α→Nat
 |[]=>0
 |x::r=>if cf x<0 then low cf r+1 else 0
def Aee(cf:α→Int)(l:List α):Prop:=∀i j,(hi:i<l.length)→(hj:j<l.length)→i≤j→cf l[j]<0→cf l[i]<0
theorem Ar7:∀l:List α,low cf l≤l.length
 |[]=>ZT _
 |x::r=>by simp only[low,ZJ];split<;>have:=Ar7 r<;>omega
theorem Zu:∀{l:List α} {i:Nat} (hi:i<l.length),i<low cf l→cf l[i]<0
 |x::r,0,_,h=>by
  simp only[low]at h;split at h
  ·assumption
  ·omega
 |x::r,i+1,hi,h=>by
  simp only[low]at h;split at h
  ·exact Zu (l:=r) (by simpa using hi) (by omega)
  ·omega
theorem Akw:∀{l:List α} (h:low cf l<l.length),0≤cf l[low cf l]
 |[],h=>by simp at h
 |x::r,h=>by
  by_cases hx:cf x<0
  ·have e:low cf (x::r)=low cf r+1:=by simp[low,hx]
   have h':low cf r<r.length:=by rw[e]at h;simpa using h
   have:=Akw h';simp only[e,List.getElem_cons_succ];exact this
  ·have e:low cf (x::r)=0:=by simp[low,hx]
   simp only[e,List.getElem_cons_zero];omega
theorem Ahy{a:Nat}(ha:a≤l.length)(h1:∀i,(hi:i<l.length)→i<a→cf l[i]<0)(h2:∀i,(hi:i<l.length)→a≤i→0≤cf l[i]):a=low cf l:=by
 have hl:=Ar7 (cf:=cf) l;rcases Nat.lt_trichotomy a (low cf l)with h|h|h
 ·have:=Zu (cf:=cf) (l:=l) (i:=a) (by omega) h;have:=h2 a (by omega) (ZT _);omega
 ·exact h
 ·have:=Akw (cf:=cf) (l:=l) (by omega);have:=h1 (low cf l) (by omega) h;omega
def hit(cf:α→Int)(l:List α):Bool:=match l[low cf l]? with
 |some x=>decide (cf x=0)
 |none=>false
theorem Aer(h:low cf l<l.length):hit cf l=decide (cf l[low cf l]=0):=by simp[hit,h]
theorem Afe(h:¬low cf l<l.length):hit cf l=false:=by
 have:l[low cf l]? =none:=XK (by omega);simp[hit,this]
end
end Pl
namespace Pl
section
variable {α:Type}
def Aq(e:α→Int):List α→Int
 |[]=>0
 |x::r=>if e x=0 then Aq e r else e x
def Bt(lt:α→α→Bool):List α→Bool
 |[]=>true
 |[_]=>true
 |x::y::r=>lt x y&&Bt lt (y::r)
def ckL(mx:Nat)(e:α→Int)(lt:α→α→Bool)(l:List α):Int:=
 if mx<l.length then 2 else if Aq e l=0 then(if Bt lt l then 0 else 4)else Aq e l
theorem Ba{e:α→Int}:∀{l:List α},(∀i,(h:i<l.length)→e l[i]=0)→Aq e l=0
 |[],_=>rfl
 |x::r,h=>by
  have h0:e x=0:=h 0 (by simp);simp only[Aq,h0,if_true];exact Ba fun i hi=>h (i+1) (by simpa using hi)
theorem Bx{e:α→Int}:∀{l:List α} {k:Nat} (hk:k<l.length),(∀i,(h:i<l.length)→i<k→e l[i]=0)→e l[k]≠0→Aq e l=e l[k]
 |x::r,0,_,_,hne=>by
  simp only[List.getElem_cons_zero]at hne ⊢;simp[Aq,hne]
 |x::r,k+1,hk,h,hne=>by
  have h0:e x=0:=h 0 (by simp) (by omega);simp only[Aq,h0,if_true,List.getElem_cons_succ]at hne ⊢;exact Bx (by simpa using hk) (fun i hi hik=>h (i+1) (by simpa using hi) (by omega)) hne
theorem E8{lt:α→α→Bool}:∀{l:List α},(∀i,(h:i+1<l.length)→lt l[i] l[i+1]=true)→Bt lt l=true
 |[],_=>rfl
 |[_],_=>rfl
 |x::y::r,h=>by
  simp only[Bt,Bool.and_eq_true_iff];exact⟨h 0 (by simp),E8 fun i hi=>h (i+1) (by simpa using hi)⟩
theorem Et{lt:α→α→Bool}:∀{l:List α} {k:Nat} (hk:k+1<l.length),lt l[k] l[k+1]=false→Bt lt l=false
 |[_],k,hk,_=>by simp at hk
 |x::y::r,0,_,h=>by
  simp only[List.getElem_cons_zero,List.getElem_cons_succ]at h;simp[Bt,h]
 |x::y::r,k+1,hk,h=>by
  have:Bt lt (y::r)=false:=Et (k:=k) (by simpa using hk) (by simpa using h);simp[Bt,this]
theorem Ab6{lt:α→α→Bool}:∀{l:List α},Bt lt l=true→∀i,(h:i+1<l.length)→lt l[i] l[i+1]=true
 |[],_,i,h=>by simp at h
 |[_],_,i,h=>by simp at h
 |x::y::r,hs,0,_=>by
  simp only[Bt,Bool.and_eq_true_iff]at hs;exact hs.1
 |x::y::r,hs,i+1,h=>by
  simp only[Bt,Bool.and_eq_true_iff]at hs;exact Ab6 hs.2 i (by simpa using h)
theorem Jt{e:α→Int}:∀{l:List α},Aq e l=0→∀i,(h:i<l.length)→e l[i]=0
 |[],_,i,h=>by simp at h
 |x::r,hs,i,h=>by
  by_cases h0:e x=0
  ·simp only[Aq,h0,if_true]at hs;cases i with
   |zero=>exact h0
   |succ i=>exact Jt hs i (by simpa using h)
  ·simp[Aq,h0]at hs
variable {mx:Nat} {e:α→Int} {lt:α→α→Bool} {l:List α}
theorem Jf(h:mx<l.length):ckL mx e lt l=2:=by simp[ckL,h]
theorem Yq(he:∀x,e x=0∨e x=1∨e x=3∨e x=7)(h:ckL mx e lt l=0):l.length≤mx∧(∀i,(hi:i<l.length)→e l[i]=0)∧Bt lt l=true:=by
 unfold ckL at h;split at h
 ·omega
 ·split at h
  ·rename_i h1 h2;split at h
   ·rename_i h3;exact⟨by omega,Jt h2,h3⟩
   ·omega
  ·rename_i h1 h2;exact absurd h h2
end
end Pl
namespace Pl
section
variable {α:Type}
def at_(p:α→Bool)(l:List α):Int:=match l.findIdx? p with
 |some i=>(i:Int)
 |none=> -1
theorem N4{p:α→Bool}{l:List α}{k:Nat}(hk:k<l.length)(h0:∀i,(h:i<l.length)→i<k→p l[i]=false)(h1:p l[k]=true):at_ p l=k:=by
 have:l.findIdx? p=some k:=by
  rw[List.findIdx?_eq_some_iff_getElem];exact⟨hk,h1,fun j hj=>by simp[h0 j (by omega) hj]⟩
 simp[at_,this]
theorem Ti{p:α→Bool}{l:List α}(h0:∀i,(h:i<l.length)→p l[i]=false):at_ p l= -1:=by
 have:l.findIdx? p=none:=by
  rw[List.findIdx?_eq_none_iff];intro x hx;obtain⟨i,hi,rfl⟩:=List.getElem_of_mem hx;exact h0 i hi
 simp[at_,this]
theorem Afl{p:α→Bool}{l:List α}:(at_ p l= -1∧∀i,(h:i<l.length)→p l[i]=false)∨∃k,∃hk:k<l.length,at_ p l=(k:Int)∧p l[k]=true∧∀i,(h:i<l.length)→i<k→p l[i]=false:=by
 cases h:l.findIdx? p with
 |none=>
  left;refine⟨by simp[at_,h],fun i hi=>?_⟩;rw[List.findIdx?_eq_none_iff]at h;exact h _ (ZK hi)
 |some k=>
  right;rw[List.findIdx?_eq_some_iff_getElem]at h;obtain⟨hk,h1,h2⟩:=h;refine⟨k,hk,?_,h1,fun i hi hik=>by simpa using h2 i hik⟩;have:l.findIdx? p=some k:=by
   rw[List.findIdx?_eq_some_iff_getElem];exact⟨hk,h1,h2⟩
  simp[at_,this]
theorem Aly{l:List α}{k:Nat}(hk:k<l.length):l.take (k+1)=l.take k++[l[k]]:=by
 rw[List.take_succ_eq_append_getElem hk]
end
end Pl
namespace Pl
section
variable {α:Type} {lt:α→α→Bool} {cf:α→Int} {l:List α}
theorem P1(htr:∀x y z,lt x y=true→lt y z=true→lt x z=true)(hs:Bt lt l=true):∀j i,(hj:j<l.length)→(hij:i<j)→lt (l[i]'(by omega)) l[j]=true:=by
 intro j
 induction j with
 |zero=>intro i _ h;omega
 |succ j ih=>
  intro i hj hij;have h1:=Ab6 hs j hj;rcases(by omega:i<j∨i=j)with g|rfl
  ·exact htr _ _ _ (ih i (by omega) g) h1
  ·exact h1
def Rx(cf:α→Int)(l:List α):Prop:=∀i j,(hj:j<l.length)→(hij:i<j)→cf l[j]≤0→cf (l[i]'(by omega))<0
theorem Pq(htr:∀x y z,lt x y=true→lt y z=true→lt x z=true)(hcf:∀x y,lt x y=true→cf y≤0→cf x<0)(hs:Bt lt l=true):Rx cf l:=
 fun i j hj hij h=>hcf _ _ (P1 htr hs j i hj hij) h
theorem Rx.mono(h:Rx cf l):Aee cf l:=fun i j hi hj hij hc=>by
 rcases(by omega:i<j∨i=j)with g|rfl
 ·exact h i j hj g (by omega)
 ·exact hc
theorem Ep(h:hit cf l=true):low cf l<l.length:=by
 rcases Nat.lt_or_ge (low cf l) l.length with g|g
 ·exact g
 ·rw[Afe (by omega)]at h;cases h
theorem Uj(h:hit cf l=true):cf (l[low cf l]'(Ep h))=0:=by
 have:=Aer (Ep h);rw[this]at h;simpa using h
theorem Aqc{x:α}(hx:x∈l.take (low cf l)):cf x<0:=by
 obtain⟨i,hi,rfl⟩:=List.getElem_of_mem hx;rw[ZM]at hi;rw[List.getElem_take];exact Zu (by omega) (by omega)
theorem Zy(hm:Rx cf l)(h:hit cf l=false){x:α}(hx:x∈l.drop (low cf l)):0<cf x:=by
 obtain⟨i,hi,rfl⟩:=List.getElem_of_mem hx;rw[List.length_drop]at hi;rw[List.getElem_drop];have hlo:low cf l<l.length:=by omega
 have h0:=Akw hlo;have h1:cf l[low cf l]≠0:=by
  rw[Aer hlo]at h;simpa using h
 rcases Nat.eq_zero_or_pos i with rfl|hp
 ·simp only[Nat.add_zero];omega
 ·have:=hm (low cf l) (low cf l+i) (by omega) (by omega);omega
theorem Arl{k:Nat}(hk:k<l.length):l=l.take k++l[k]::l.drop (k+1):=by
 rw[←List.drop_eq_getElem_cons hk,List.take_append_drop]
theorem Qq(hm:Rx cf l):at_ (fun x=>decide (cf x=0)) l=if hit cf l=true then(low cf l:Int)else -1:=by
 split
 ·rename_i h;refine N4 (Ep h) (fun i hi hlt=>?_) (by simpa using Uj h);have:=Zu (cf:=cf) hi hlt;simp;omega
 ·rename_i h;refine Ti fun i hi=>?_;have hf:hit cf l=false:=by simpa using h
  rcases Nat.lt_or_ge i (low cf l)with g|g
  ·have:=Zu (cf:=cf) hi g;simp;omega
  ·have hx:l[i]∈l.drop (low cf l):=by
    rw[List.mem_iff_getElem];exact⟨i-low cf l,by rw[List.length_drop];omega,by rw[List.getElem_drop];congr 1;omega⟩
   have:=Zy hm hf hx;simp;omega
def Ah5(cf:α→Int)(g:α)(l:List α):List α:=if hit cf l=true then l.set (low cf l) g else l.take (low cf l)++[g]++l.drop (low cf l)
end
end Pl
namespace Pl
structure Ord{α:Type}(lt:α→α→Bool)(cf:α→α→Int):Prop where
 neg:∀g x,cf g x<0↔lt x g=true
 pos:∀g x,0<cf g x↔lt g x=true
 trans:∀x y z,lt x y=true→lt y z=true→lt x z=true
 left:∀g x y,cf g x=0→lt x y=lt g y
 right:∀g x y,cf g x=0→lt y x=lt y g
section
variable {α:Type} {lt:α→α→Bool} {cf:α→α→Int} {l:List α}
theorem Ord.smono(o:Ord lt cf)(hs:Bt lt l=true)(g:α):Rx (cf g) l:=
 Pq o.trans (fun x y h hy=>by
  rw[o.neg];rcases(by omega:cf g y<0∨cf g y=0)with q|q
  ·exact o.trans _ _ _ h ((o.neg g y).1 q)
  ·rw[←o.right g y x q];exact h) hs
theorem Z9(h:∀j i,(hj:j<l.length)→(hij:i<j)→lt (l[i]'(by omega)) l[j]=true):Bt lt l=true:=
 E8 fun i hi=>h (i+1) i hi (by omega)
theorem Alh(ht:∀x y z,lt x y=true→lt y z=true→lt x z=true):Bt lt l=true↔l.Pairwise (fun x y=>lt x y=true):=by
 constructor
 ·intro h;rw[List.pairwise_iff_getElem];intro i j hi hj hij;exact P1 ht h j i hj hij
 ·intro h;rw[List.pairwise_iff_getElem]at h;exact Z9 fun j i hj hij=>h i j (by omega) hj hij
theorem Ord.put(o:Ord lt cf)(hs:Bt lt l=true)(g:α):Bt lt (Ah5 (cf g) g l)=true:=by
 have hm:=o.smono hs g;rw[Alh o.trans]at hs ⊢;unfold Ah5;split
 ·rename_i h;have hl:=Ep h;have h0:=Uj h;rw[List.set_eq_take_append_cons_drop,if_pos hl];have e:=Arl hl;rw[e]at hs;rw[List.pairwise_append,List.pairwise_cons]at hs ⊢;refine⟨hs.1,⟨fun y hy=>?_,hs.2.1.2⟩,fun x hx y hy=>?_⟩
  ·rw[←o.left g _ y h0];exact hs.2.1.1 y hy
  ·rcases XC.1 hy with rfl|hy
   ·rw[←o.right _ _ x h0];exact hs.2.2 x hx _ (XB ..)
   ·exact hs.2.2 x hx y (ZL _ hy)
 ·rename_i h;have hf:hit (cf g) l=false:=by simpa using h
  have e:l=l.take (low (cf g) l)++l.drop (low (cf g) l):=(List.take_append_drop _ _).symm;rw[e,List.pairwise_append]at hs;rw[ZS,List.pairwise_append,List.singleton_append,List.pairwise_cons];refine⟨hs.1,⟨fun y hy=>(o.pos g y).1 (Zy hm hf hy),hs.2.1⟩,fun x hx y hy=>?_⟩;rcases XC.1 hy with rfl|hy
  ·exact(o.neg _ x).1 (Aqc hx)
  ·exact hs.2.2 x hx y hy
def upd(cf:α→α→Int)(nw:α→α→Bool)(l:List α)(g:α):List α:=
 match l[low (cf g) l]? with
 |some x=>if hit (cf g) l=true∧nw g x=false then l else Ah5 (cf g) g l
 |none=>Ah5 (cf g) g l
theorem Aqx(nw:α→α→Bool)(g:α):upd cf nw l g=l∨upd cf nw l g=Ah5 (cf g) g l:=by
 unfold upd;split
 ·split
  ·exact .inl rfl
  ·exact .inr rfl
 ·exact .inr rfl
def Bbp(cf:α→α→Int)(nw:α→α→Bool)(a b:List α):List α:=b.foldl (upd cf nw) a
theorem Ord.upd(o:Ord lt cf)(nw:α→α→Bool)(hs:Bt lt l=true)(g:α):Bt lt (upd cf nw l g)=true:=by
 rcases Aqx (cf:=cf) (l:=l) nw g with h|h
 ·rw[h];exact hs
 ·rw[h];exact o.put hs g
theorem Ord.join(o:Ord lt cf)(nw:α→α→Bool):∀(b:List α) {a:List α},Bt lt a=true→Bt lt (Bbp cf nw a b)=true
 |[],a,h=>h
 |g::b,a,h=>o.join nw b (o.upd nw h g)
end
end Pl
namespace Pl
section
variable {α:Type} {cf:α→α→Int} {nw:α→α→Bool} {l:List α} {g:α}
end
end Pl
namespace Pl

end Pl
namespace Pl
def okB(n:Int):Bool:=decide ((97≤n∧n≤122)∨(48≤n∧n≤57)∨n=45∨n=95)
def lab(s:List UInt8):Bool:=s.all (fun c=>okB c.toNat)&&decide (1≤s.length∧s.length≤30)
theorem Aog{s:List UInt8}(h:∀i,(hi:i<s.length)→okB (s[i]).toNat=true)(h1:1≤s.length)(h2:s.length≤30):lab s=true:=by
 unfold lab;rw[Bool.and_eq_true_iff];refine⟨List.all_eq_true.2 fun c hc=>?_,by simp;omega⟩;obtain⟨i,hi,rfl⟩:=List.getElem_of_mem hc;exact h i hi
theorem Av9{s:List UInt8}{i:Nat}(hi:i<s.length)(h:okB (s[i]).toNat=false):lab s=false:=by
 unfold lab;rw[Bool.and_eq_false_iff];left;rw[List.all_eq_false];exact⟨s[i],ZK hi,by simp[h]⟩
theorem Aig{s:List UInt8}(h:¬(1≤s.length∧s.length≤30)):lab s=false:=by
 unfold lab;simp only[h,decide_false,Bool.and_false]
theorem Az7{s:List UInt8}(h:lab s=true):1≤s.length∧s.length≤30:=by
 unfold lab at h;simp only[ZO,decide_eq_true_eq]at h;exact h.2
theorem Auc{n:Int}(h:¬((97≤n∧n≤122)∨(48≤n∧n≤57)∨n=45∨n=95)):okB n=false:=by
 unfold okB;simpa using h
theorem Aoe{n:Int}(h:(97≤n∧n≤122)∨(48≤n∧n≤57)∨n=45∨n=95):okB n=true:=by
 unfold okB;simpa using h
end Pl
namespace Pl
def wi(n a b:Int):Bool:=decide (a≤n)&&decide (n≤b)
theorem Sb{n a b:Int}:wi n a b=true↔a≤n∧n≤b:=by simp[wi]
def Ah7(x y z h s:Int):Bool:=wi x (-10000000) 10000000&&wi y (-10000000) 10000000&&wi z (-10000000) 10000000&&wi h 0 1000000&&wi s 0 1000
def Al3(x y z h s:Int):Int:=if Ah7 x y z h s then 0 else 3
end Pl
abbrev Avm:List Value:=[(.int .i64 0),(.bool false),(.bool false),(.int .i64 0),(.string ⟨#[]⟩),(.int .i64 0),(.slice none 0 0)]
abbrev Be8:List Value:=[(.int .i64 0),(.int .i64 0),(.int .i64 0),(.int .i64 0),(.int .i64 0)]
abbrev Agf:List Value:=[(.string ⟨#[]⟩),(.bool false),(.slice none 0 0),(.slice none 0 0),(.slice none 0 0),(.slice none 0 0)]
abbrev Be3:List Value:=[(.string ⟨#[]⟩),(.int .i64 0),(.int .i64 0),(.int .i64 0),(.bool false),(.int .i64 0)]
abbrev Arg:List Value:=[(.string ⟨#[]⟩),(.int .i64 0),(.int .i64 0),(.int .i64 0),(.bool false)]
abbrev Ayh:List Value:=[(.string ⟨#[]⟩),(.int .i64 0),(.int .i64 0),(.int .i64 0),(.int .i64 0),(.int .i64 0)]
abbrev Jl:List Value:=[(.string ⟨#[]⟩),(.string ⟨#[]⟩),(.slice none 0 0),(.slice none 0 0),(.slice none 0 0),(.slice none 0 0),(.int .i64 0),(.int .i64 0),(.int .i64 0),(.int .i64 0),(.int .i64 0),(.slice none 0 0)]
abbrev Azw:List Value:=[(.string ⟨#[]⟩),(.string ⟨#[]⟩),(.string ⟨#[]⟩),(.string ⟨#[]⟩)]
def L5:Ag:=
 .seq (.reg [Rq 3 (.box 59 12 0),Rq 4 (.box 67 4 1),Rq 6 (.mv (.const (.bool false)))]) (.seq (.seq (.reg [Cq 15 25 ([]),Rq 16 (.not 15),Mq 17 16,Gq 18 17 false (.call (.func 9) []),Gq 19 17 false (.not 18),Rq 20 (.pick 17 (.const (.bool true)) 19),Mq 21 20,Gq 22 21 false (.call (.func 26) []),Gq 23 21 false (.not 22),Rq 24 (.pick 21 (.const (.bool true)) 23)]) (.cond 24 (.seq (.reg [Rq 6 (.mv (.const (.bool false)))]) (.ret)) (.skip))) (.seq (.reg [Rq 26 (.load true 4 4),Cq 27 27 ([26]),Mq 25 27,Eq1 28 25 0,Eq1 29 25 1,Mq 7 28,Mq 8 29]) (.seq (.seq (.reg [Mq 30 8,Bq 31 .neq 30 (Kq 0)]) (.cond 31 (.seq (.reg [Rq 6 (.mv (.const (.bool true)))]) (.ret)) (.skip))) (.seq (.reg [Mq 33 2,Cq 34 29 ([33,(Kq 65536)]),Mq 35 7,Rq 36 (.build [(.string ⟨#[]⟩),(.int .i64 0)] [(0,1,35),(1,1,(Kq 1))]),Rq 37 (.build Avm [(0,1,34),(4,2,36)]),Cq 38 28 ([37]),Mq 32 38,Eq1 39 32 0,Eq1 40 32 1,Mq 9 39,Mq 8 40]) (.seq (.reg [Rq 42 (.load true 12 3),Mq 43 9,Cq 44 22 ([42,43]),Mq 41 44,Eq1 45 41 0,Eq1 46 41 1,Eq1 47 41 2,Eq1 48 41 3,Mq 10 45,Mq 11 46,Mq 12 47,Mq 13 48]) (.seq (.seq (.reg [Mq 49 8,Bq 50 .neq 49 (Kq 0),Mq 51 50,Hq 52 51 false 13,Gq 53 51 false (.bin .neq 52 (Kq 0)),Rq 54 (.pick 51 (.const (.bool true)) 53)]) (.cond 54 (.seq (.reg [Mq 55 8,Bq 56 .eql 55 (Kq 0),Mq 57 56,Gq 58 57 true (.load true 12 3),Gq 59 57 true (.call (.func 23) [58]),Gq 60 57 true (.bin .neq 59 (Kq 0)),Rq 61 (.pick 57 60 (.const (.bool false))),Mq 6 61]) (.ret)) (.skip))) (.seq (.reg [Fq 62 5 3,Lq 63 62,Fq 64 3 4,Lq 65 64,Cq 66 30 ([63,65]),Mq 14 66]) (.seq (.seq (.reg [Fq 67 3 4,Lq 68 67,Rq 69 (.bin .eql 68 (.const (.string ⟨#[]⟩))),Mq 70 69,Gq 71 70 false (.fldA 3 4),Gq 72 70 false (.load false 1 71),Gq 73 70 false (.fldA 1 3),Gq 74 70 false (.load false 1 73),Gq 75 70 false (.bin .eql 72 74),Rq 76 (.pick 70 (.const (.bool true)) 75),Mq 77 76,Hq 78 77 false 14,Gq 79 77 false (.bin .lss 78 (Kq 0)),Rq 80 (.pick 77 (.const (.bool true)) 79)]) (.cond 80 (.seq (.reg [Mq 81 12,Rq 82 (.not 81),Mq 83 82,Hq 84 83 true 11,Gq 85 83 true (.bin .eql 84 (Kq 0)),Rq 86 (.pick 83 85 (.const (.bool false))),Mq 6 86]) (.ret)) (.skip))) (.seq (.reg [Mq 87 12,Mq 88 87,Hq 89 88 true 10,Hq 90 88 true 9,Gq 91 88 true (.bin .eql 89 90),Rq 92 (.pick 88 91 (.const (.bool false))),Mq 93 92,Hq 94 93 true 11,Gq 95 93 true (.fldA 5 3),Gq 96 93 true (.load false 1 95),Hq 97 93 true 14,Gq 98 93 true (.idxA 3 96 97),Gq 99 93 true (.fldA 1 98),Gq 100 93 true (.load false 1 99),Gq 101 93 true (.bin .eql 94 100),Rq 102 (.pick 93 101 (.const (.bool false))),Mq 6 102]) (.ret))))))))))
theorem D9:Ah Tryz.prog 5 3=some (L5,[6]):=by kernel_rfl
def N5:Ag:=
 .seq (.reg [Rq 0 (.mv (.const (.bool false)))]) (.seq (.reg [Rq 6 (.build [(.string ⟨#[]⟩),(.int .i64 0)] [(0,1,(.const (.string ⟨#[97,46,98]⟩))),(1,1,(Kq 1))]),Rq 7 (.build Avm [(0,1,(Kq 258)),(4,2,6)]),Cq 8 28 ([7]),Mq 5 8,Eq1 9 5 0,Eq1 10 5 1,Mq 1 9,Mq 2 10]) (.seq (.reg [Mq 12 1,Cq 13 13 ([12]),Mq 11 13,Eq1 14 11 0,Eq1 15 11 1,Rq 3 (.zbox 38 Avm),Sq 7 3 14,Mq 4 15]) (.seq (.reg [Mq 16 2,Bq 17 .eql 16 (Kq 0),Mq 18 17,Hq 19 18 true 4,Gq 20 18 true (.bin .eql 19 (Kq 0)),Rq 21 (.pick 18 20 (.const (.bool false))),Mq 22 21,Hq 23 22 true 1,Gq 24 22 true (.len true 23),Gq 25 22 true (.bin .eql 24 (Kq 21)),Rq 26 (.pick 22 25 (.const (.bool false))),Mq 27 26,Gq 28 27 true (.fldA 0 3),Gq 29 27 true (.load false 1 28),Gq 30 27 true (.bin .eql 29 (Kq 258)),Rq 31 (.pick 27 30 (.const (.bool false))),Mq 32 31,Gq 33 32 true (.fldA 4 3),Gq 34 32 true (.fldA 0 33),Gq 35 32 true (.load false 1 34),Gq 36 32 true (.bin .eql 35 (.const (.string ⟨#[97,46,98]⟩))),Rq 37 (.pick 32 36 (.const (.bool false))),Mq 0 37]) (.ret))))
theorem N9:Ah Tryz.prog 9 0=some (N5,[0]):=by kernel_rfl
def K6:Ag:=
 .seq (.reg [Nq 2 0]) (.seq (.seq (.reg [Mq 6 0,Rq 7 (.len false 6),Bq 8 .gtr 7 (Kq 20)]) (.cond 8 (.seq (.reg [Nq 2 2]) (.ret)) (.skip))) (.seq (.seq (.reg [Nq 3 0]) (.block 0 (.loop (.seq (.seq (.reg [Mq 9 3,Mq 10 0,Rq 11 (.len false 10),Bq 12 .lss 9 11]) (.cond 12 (.skip) (.exit 0))) (.seq (.block 1 (.seq (.reg [Mq 15 0,Mq 16 3,Iq 17 5 15 16,Rq 18 (.load true 5 17),Cq 19 57 ([18]),Mq 4 19]) (.seq (.reg [Mq 20 4,Bq 21 .neq 20 (Kq 0)]) (.cond 21 (.seq (.reg [Mq 22 4,Mq 2 22]) (.ret)) (.skip))))) (.reg [Mq 13 3,Bq 14 .add 13 (Kq 1),Mq 3 14])))))) (.seq (.seq (.reg [Nq 5 1]) (.block 2 (.loop (.seq (.seq (.reg [Mq 23 5,Mq 24 0,Rq 25 (.len false 24),Bq 26 .lss 23 25]) (.cond 26 (.skip) (.exit 2))) (.seq (.block 3 (.seq (.dreg [[Mq 29 0,Mq 30 5,Iq 31 5 29 30,Fq 32 0 31,Lq 33 32,Mq 34 0,Mq 35 5,Bq 36 .sub 35 (Kq 1),Iq 37 5 34 36,Fq 38 0 37,Lq 39 38],[Bq 40 .leq 33 39]]) (.cond 40 (.seq (.reg [Nq 2 4]) (.ret)) (.skip)))) (.reg [Mq 27 5,Bq 28 .add 27 (Kq 1),Mq 5 28])))))) (.seq (.reg [Nq 2 0]) (.ret)))))
theorem Km:Ah Tryz.prog 18 1=some (K6,[2]):=by kernel_rfl
def Ai4:Ag:=
 .seq (.reg [Rq 2 (.box 59 12 0),Rq 4 (.mv (.const (.string ⟨#[]⟩))),Nq 5 0,Rq 6 (.mv (.const (.bool false))),Nq 7 0]) (.seq (.reg [Rq 15 (.load true 12 2),Cq 16 60 ([15]),Mq 14 16,Eq1 17 14 0,Eq1 18 14 1,Mq 8 17,Mq 9 18]) (.seq (.seq (.reg [Mq 19 9,Bq 20 .neq 19 (Kq 0)]) (.cond 20 (.seq (.reg [Mq 21 9,Rq 4 (.mv (.const (.string ⟨#[]⟩))),Nq 5 0,Rq 6 (.mv (.const (.bool false))),Mq 7 21]) (.ret)) (.skip))) (.seq (.seq (.reg [Mq 23 8,Mq 24 1,Cq 25 61 ([23,24]),Mq 22 25,Eq1 26 22 0,Eq1 27 22 1,Mq 10 26,Mq 11 27]) (.seq (.reg [Mq 28 11]) (.cond 28 (.seq (.reg [Mq 29 1,Mq 30 10,Mq 4 29,Mq 5 30,Rq 6 (.mv (.const (.bool true))),Nq 7 0]) (.ret)) (.skip)))) (.seq (.dreg [[Mq 32 1,Mq 33 8,Fq 34 0 33,Fq 35 0 34,Fq 36 1 35,Lq 37 36,Mq 38 8,Fq 39 0 38,Fq 40 0 39,Fq 41 4 40,Lq 42 41,Mq 43 8,Fq 44 0 43,Fq 45 0 44,Fq 46 2 45,Lq 47 46,Mq 48 8,Fq 49 0 48,Fq 50 0 49,Fq 51 6 50,Rq 52 (.load true 5 51),Mq 53 8,Fq 54 0 53,Fq 55 0 54,Fq 56 11 55,Lq 57 56],[Cq 58 62 ([32,37,42,47,52,57])],[Mq 31 58],[Eq1 59 31 0,Eq1 60 31 1,Eq1 61 31 2,Mq 12 59,Mq 13 60],[Mq 9 61]]) (.seq (.reg [Mq 62 12,Mq 63 9,Mq 4 62,Nq 5 0,Rq 6 (.mv (.const (.bool false))),Mq 7 63]) (.ret))))))
theorem W8:Ah Tryz.prog 22 2=some (Ai4,[4,5,6,7]):=by kernel_rfl
def M6:Ag:=
 .seq (.reg [Rq 1 (.box 59 12 0),Nq 2 0]) (.seq (.seq (.reg [Fq 8 0 1,Lq 9 8,Cq 10 63 ([9]),Rq 11 (.not 10),Mq 12 11,Gq 13 12 false (.fldA 1 1),Gq 14 12 false (.load false 1 13),Gq 15 12 false (.call (.func 63) [14]),Gq 16 12 false (.not 15),Rq 17 (.pick 12 (.const (.bool true)) 16)]) (.cond 17 (.seq (.reg [Nq 2 1]) (.ret)) (.skip))) (.seq (.reg [Fq 18 2 1,Lq 19 18,Cq 20 18 ([19]),Mq 3 20]) (.seq (.seq (.reg [Mq 21 3,Bq 22 .eql 21 (Kq 0)]) (.cond 22 (.reg [Fq 23 3 1,Lq 24 23,Cq 25 64 ([24]),Mq 3 25]) (.skip))) (.seq (.seq (.reg [Mq 26 3,Bq 27 .eql 26 (Kq 0)]) (.cond 27 (.reg [Fq 28 4 1,Lq 29 28,Cq 30 65 ([29]),Mq 3 30]) (.skip))) (.seq (.seq (.reg [Mq 31 3,Bq 32 .eql 31 (Kq 0)]) (.cond 32 (.reg [Fq 33 5 1,Lq 34 33,Cq 35 66 ([34]),Mq 3 35]) (.skip))) (.seq (.seq (.reg [Mq 36 3,Bq 37 .eql 36 (Kq 0)]) (.cond 37 (.reg [Fq 38 6 1,Rq 39 (.load true 5 38),Cq 40 67 ([39]),Mq 3 40]) (.skip))) (.seq (.seq (.reg [Mq 41 3,Bq 42 .eql 41 (Kq 0)]) (.cond 42 (.reg [Fq 43 11 1,Lq 44 43,Cq 45 68 ([44]),Mq 3 45]) (.skip))) (.seq (.seq (.reg [Mq 46 3,Bq 47 .neq 46 (Kq 0)]) (.cond 47 (.seq (.reg [Mq 48 3,Mq 2 48]) (.ret)) (.skip))) (.seq (.reg [Fq 49 2 1,Lq 50 49,Fq 51 0 1,Lq 52 51,Cq 53 58 ([50,52]),Mq 4 53]) (.seq (.seq (.reg [Mq 54 4,Bq 55 .lss 54 (Kq 0)]) (.cond 55 (.seq (.reg [Nq 2 5]) (.ret)) (.skip))) (.seq (.seq (.reg [Fq 56 2 1,Lq 57 56,Mq 58 4,Iq 59 5 57 58,Fq 60 1 59,Lq 61 60,Bq 62 .eql 61 (Kq 2),Mq 63 62,Gq 64 63 false (.fldA 2 1),Gq 65 63 false (.load false 1 64),Hq 66 63 false 4,Gq 67 63 false (.idxA 5 65 66),Gq 68 63 false (.fldA 1 67),Gq 69 63 false (.load false 1 68),Gq 70 63 false (.bin .eql 69 (Kq 3)),Rq 71 (.pick 63 (.const (.bool true)) 70)]) (.cond 71 (.seq (.reg [Nq 2 4]) (.ret)) (.skip))) (.seq (.seq (.reg [Nq 5 0]) (.block 0 (.loop (.seq (.seq (.reg [Mq 72 5,Fq 73 3 1,Lq 74 73,Rq 75 (.len false 74),Bq 76 .lss 72 75]) (.cond 76 (.skip) (.exit 0))) (.seq (.block 1 (.seq (.reg [Fq 79 3 1,Lq 80 79,Mq 81 5,Iq 82 6 80 81,Fq 83 0 82,Rq 84 (.load true 5 83),Rq 6 (.zbox 24 Arg),Sq 5 6 84]) (.seq (.reg [Fq 85 2 1,Lq 86 85,Fq 87 0 6,Lq 88 87,Cq 89 58 ([86,88]),Mq 7 89]) (.seq (.dreg [[Mq 90 7],[Bq 91 .lss 90 (Kq 0)],[Mq 92 91],[Gq 93 92 false (.load true 5 6),Gq 94 92 false (.fldA 2 1),Gq 95 92 false (.load false 1 94),Hq 96 92 false 7,Gq 97 92 false (.idxA 5 95 96),Gq 98 92 false (.load true 5 97)],[Gq 99 92 false (.call (.func 59) [93,98])],[Rq 100 (.pick 92 (.const (.bool true)) 99)]]) (.cond 100 (.seq (.reg [Nq 2 4]) (.ret)) (.skip)))))) (.reg [Mq 77 5,Bq 78 .add 77 (Kq 1),Mq 5 78])))))) (.seq (.reg [Nq 2 0]) (.ret))))))))))))))
theorem Nj:Ah Tryz.prog 23 1=some (M6,[2]):=by kernel_rfl
def Ng:Ag:=
 .seq (.reg [Rq 0 (.mv (.const (.bool false)))]) (.seq (.reg [Cq 13 32 ([(.const (.string ⟨#[97]⟩)),(.const (.string ⟨#[99]⟩)),(Kq 1),(.const (.bool false))]),Mq 12 13,Eq1 14 12 0,Eq1 15 12 1,Rq 1 (.zbox 59 Jl),Sq 12 1 14,Mq 2 15]) (.seq (.reg [Cq 17 32 ([(.const (.string ⟨#[98]⟩)),(.const (.string ⟨#[99]⟩)),(Kq 2),(.const (.bool true))]),Mq 16 17,Eq1 18 16 0,Eq1 19 16 1,Rq 3 (.zbox 59 Jl),Sq 12 3 18,Mq 4 19]) (.seq (.reg [Rq 21 (.load true 12 3),Cq 22 34 ([21]),Mq 20 22,Eq1 23 20 0,Eq1 24 20 1,Rq 5 (.zbox 82 Agf),Sq 6 5 23,Mq 6 24]) (.seq (.reg [Rq 26 (.load true 12 1),Rq 27 (.load true 6 5),Cq 28 35 ([26,27]),Mq 25 28,Eq1 29 25 0,Eq1 30 25 1,Sq 12 1 29,Mq 7 30]) (.seq (.reg [Rq 32 (.load true 12 1),Cq 33 71 ([32,(.const (.string ⟨#[98]⟩))]),Mq 31 33,Eq1 34 31 0,Eq1 35 31 1,Sq 12 1 34,Mq 8 35]) (.seq (.reg [Rq 37 (.load true 12 1),Cq 38 72 ([37]),Mq 36 38,Eq1 39 36 0,Eq1 40 36 1,Eq1 41 36 2,Rq 9 (.zbox 59 Jl),Rq 10 (.zbox 82 Agf),Sq 12 9 39,Sq 6 10 40,Mq 11 41]) (.seq (.reg [Mq 42 2,Bq 43 .eql 42 (Kq 0),Mq 44 43,Hq 45 44 true 4,Gq 46 44 true (.bin .eql 45 (Kq 0)),Rq 47 (.pick 44 46 (.const (.bool false))),Mq 48 47,Hq 49 48 true 6,Gq 50 48 true (.bin .eql 49 (Kq 0)),Rq 51 (.pick 48 50 (.const (.bool false))),Mq 52 51,Hq 53 52 true 7,Gq 54 52 true (.bin .eql 53 (Kq 0)),Rq 55 (.pick 52 54 (.const (.bool false))),Mq 56 55,Hq 57 56 true 8,Gq 58 56 true (.bin .eql 57 (Kq 0)),Rq 59 (.pick 56 58 (.const (.bool false))),Mq 60 59,Hq 61 60 true 11,Gq 62 60 true (.bin .eql 61 (Kq 0)),Rq 63 (.pick 60 62 (.const (.bool false))),Mq 64 63,Gq 65 64 true (.fldA 2 1),Gq 66 64 true (.load false 1 65),Gq 67 64 true (.len false 66),Gq 68 64 true (.bin .eql 67 (Kq 2)),Rq 69 (.pick 64 68 (.const (.bool false))),Mq 70 69,Gq 71 70 true (.fldA 2 10),Gq 72 70 true (.load false 1 71),Gq 73 70 true (.len false 72),Gq 74 70 true (.bin .eql 73 (Kq 1)),Rq 75 (.pick 70 74 (.const (.bool false))),Mq 76 75,Gq 77 76 true (.fldA 2 10),Gq 78 76 true (.load false 1 77),Gq 79 76 true (.idxA 5 78 (Kq 0)),Gq 80 76 true (.fldA 1 79),Gq 81 76 true (.load false 1 80),Gq 82 76 true (.bin .eql 81 (Kq 2)),Rq 83 (.pick 76 82 (.const (.bool false))),Mq 0 83]) (.ret))))))))
theorem Nz:Ah Tryz.prog 25 0=some (Ng,[0]):=by kernel_rfl
def L3:Ag:=
 .seq (.reg [Rq 0 (.mv (.const (.bool false)))]) (.seq (.reg [Cq 4 73 ([(.const (.string ⟨#[116,46,115,46,115,101,114,118,105,99,101,46,99,46,109,101,115,104]⟩))]),Mq 3 4,Eq1 5 3 0,Eq1 6 3 1,Rq 1 (.zbox 67 Azw),Sq 4 1 5,Mq 2 6]) (.seq (.reg [Mq 7 2,Bq 8 .eql 7 (Kq 0),Mq 9 8,Gq 10 9 true (.load true 4 1),Gq 11 9 true (.build Azw [(0,1,(.const (.string ⟨#[115]⟩))),(1,1,(.const (.string ⟨#[116]⟩))),(3,1,(.const (.string ⟨#[99]⟩)))]),Gq 12 9 true (.eqS false [1,1,1,1] 10 11),Rq 13 (.pick 9 12 (.const (.bool false))),Mq 0 13]) (.ret)))
theorem Mg:Ah Tryz.prog 26 0=some (L3,[0]):=by kernel_rfl
def Pe:Ag:=
 .seq (.reg [Nq 4 0]) (.seq (.seq (.reg [Mq 5 0,Bq 6 .lss 5 (Kq 0)]) (.cond 6 (.reg [Mq 7 0,Bq 8 .add 7 (Kq 1),Rq 9 (.neg 8),Mq 0 9]) (.skip))) (.seq (.reg [Mq 10 0,Mq 11 1,Bq 12 .rem 10 11,Mq 4 12]) (.ret)))
theorem P9:Ah Tryz.prog 29 2=some (Pe,[4]):=by kernel_rfl
def Nh:Ag:=
 .seq (.reg [Nq 4 0]) (.seq (.seq (.reg [Nq 5 0]) (.block 0 (.loop (.seq (.seq (.reg [Mq 6 5,Mq 7 0,Rq 8 (.len false 7),Bq 9 .lss 6 8]) (.cond 9 (.skip) (.exit 0))) (.seq (.block 1 (.seq (.reg [Mq 12 0,Mq 13 5,Iq 14 3 12 13,Fq 15 0 14,Lq 16 15,Mq 17 1,Bq 18 .eql 16 17]) (.cond 18 (.seq (.reg [Mq 19 5,Mq 4 19]) (.ret)) (.skip)))) (.reg [Mq 10 5,Bq 11 .add 10 (Kq 1),Mq 5 11])))))) (.seq (.reg [Rq 4 (.mv (.const (.int .i64 (-1))))]) (.ret)))
theorem Nv:Ah Tryz.prog 30 2=some (Nh,[4]):=by kernel_rfl
def Ahh:Ag:=
 .seq (.reg [Rq 8 (.zbox 59 Jl),Nq 9 0]) (.seq (.reg [Mq 12 0,Mq 13 1,Rq 14 (.build Be8 [(4,1,(Kq 1000))]),Rq 15 (.build Jl [(0,1,12),(1,1,13),(6,5,14)]),Rq 10 (.zbox 59 Jl),Sq 12 10 15]) (.seq (.reg [Mq 16 0,Mq 17 2,Mq 18 3,Rq 19 (.build Arg [(0,1,16),(1,1,(Kq 1)),(2,1,(Kq 1)),(3,1,17),(4,1,18)]),Rq 20 (.mks 24 5 1 Arg [(0,19)]),Fq 21 2 10,Sq 1 21 20]) (.seq (.seq (.reg [Rq 22 (.load true 12 10),Cq 23 79 ([22]),Mq 11 23]) (.seq (.reg [Mq 24 11,Bq 25 .neq 24 (Kq 0)]) (.cond 25 (.seq (.reg [Rq 26 (.build Jl []),Mq 27 11,Sq 12 8 26,Mq 9 27]) (.ret)) (.skip)))) (.seq (.reg [Rq 28 (.load true 12 10),Sq 12 8 28,Nq 9 0]) (.ret)))))
theorem W1:Ce Tryz.prog 32 4=some (Ahh,[(8,some (true,12)),(9,none)]):=by kernel_rfl
def Ac7:Ag:=
 .seq (.reg [Rq 1 (.box 59 12 0),Rq 2 (.zbox 82 Agf),Nq 3 0]) (.seq (.reg [Rq 7 (.load true 12 1),Cq 8 60 ([7]),Mq 6 8,Eq1 9 6 0,Eq1 10 6 1,Mq 4 9,Mq 5 10]) (.seq (.seq (.reg [Mq 11 5,Bq 12 .neq 11 (Kq 0)]) (.cond 12 (.seq (.reg [Rq 13 (.build Agf []),Mq 14 5,Sq 6 2 13,Mq 3 14]) (.ret)) (.skip))) (.seq (.dreg [[Mq 15 4,Fq 16 0 15,Fq 17 0 16,Fq 18 0 17,Lq 19 18,Mq 20 4,Fq 21 0 20,Fq 22 0 21,Fq 23 2 22,Lq 24 23,Mq 25 4,Fq 26 0 25,Fq 27 0 26,Fq 28 4 27,Lq 29 28,Mq 30 4,Fq 31 0 30,Fq 32 0 31,Fq 33 5 32,Lq 34 33,Mq 35 4,Fq 36 0 35,Fq 37 0 36,Fq 38 11 37,Lq 39 38],[Rq 40 (.build Agf [(0,1,19),(1,1,(.const (.bool true))),(2,1,24),(3,1,29),(4,1,34),(5,1,39)])],[Sq 6 2 40],[Nq 3 0]]) (.ret))))
theorem Acd:Ce Tryz.prog 34 1=some (Ac7,[(2,some (true,6)),(3,none)]):=by kernel_rfl
def Aep:Ag:=
 .seq (.reg [Rq 2 (.box 59 12 0),Rq 3 (.box 82 6 1),Rq 4 (.zbox 59 Jl),Nq 5 0]) (.seq (.reg [Rq 16 (.load true 12 2),Cq 17 60 ([16]),Mq 15 17,Eq1 18 15 0,Eq1 19 15 1,Mq 6 18,Mq 7 19]) (.seq (.seq (.reg [Mq 20 7,Bq 21 .eql 20 (Kq 0)]) (.cond 21 (.reg [Rq 22 (.load true 6 3),Cq 23 82 ([22]),Mq 7 23]) (.skip))) (.seq (.seq (.reg [Mq 24 7,Bq 25 .neq 24 (Kq 0)]) (.cond 25 (.seq (.reg [Rq 26 (.build Jl []),Mq 27 7,Sq 12 4 26,Mq 5 27]) (.ret)) (.skip))) (.seq (.seq (.reg [Fq 28 2 3,Lq 29 28,Rq 30 (.len false 29),Nq 31 0]) (.block 0 (.loop (.seq (.reg [Bq 32 .lss 31 30]) (.seq (.cond 32 (.skip) (.exit 0)) (.seq (.block 1 (.seq (.reg [Iq 33 5 29 31,Rq 34 (.load true 5 33),Rq 9 (.zbox 24 Arg),Sq 5 9 34]) (.seq (.reg [Mq 35 6,Rq 36 (.load true 5 9),Cq 37 83 ([35,36]),Mq 10 37]) (.seq (.reg [Mq 38 10,Bq 39 .neq 38 (Kq 0)]) (.cond 39 (.seq (.reg [Rq 40 (.build Jl []),Mq 41 10,Sq 12 4 40,Mq 5 41]) (.ret)) (.skip)))))) (.reg [Bq 42 .add 31 (Kq 1),Mq 31 42]))))))) (.seq (.seq (.dreg [[],[Rq 54 (.mkm)],[Mq 44 6,Mq 45 6,Fq 46 0 45,Fq 47 0 46,Fq 48 4 47,Lq 49 48,Fq 50 3 3,Lq 51 50,Cq 52 84 ([49,51]),Mq 43 52,Eq1 53 43 0,Eq1 54 43 1,Fq 55 0 44,Fq 56 0 55,Fq 57 4 56,Sq 1 57 53],[Mq 7 54]]) (.seq (.reg [Mq 58 7,Bq 59 .neq 58 (Kq 0)]) (.cond 59 (.seq (.reg [Rq 60 (.build Jl []),Mq 61 7,Sq 12 4 60,Mq 5 61]) (.ret)) (.skip)))) (.seq (.seq (.dreg [[],[Rq 73 (.mkm)],[Mq 63 6,Mq 64 6,Fq 65 0 64,Fq 66 0 65,Fq 67 5 66,Lq 68 67,Fq 69 4 3,Lq 70 69,Cq 71 85 ([68,70]),Mq 62 71,Eq1 72 62 0,Eq1 73 62 1,Fq 74 0 63,Fq 75 0 74,Fq 76 5 75,Sq 1 76 72],[Mq 7 73]]) (.seq (.reg [Mq 77 7,Bq 78 .neq 77 (Kq 0)]) (.cond 78 (.seq (.reg [Rq 79 (.build Jl []),Mq 80 7,Sq 12 4 79,Mq 5 80]) (.ret)) (.skip)))) (.seq (.seq (.reg [Fq 81 5 3,Lq 82 81,Rq 83 (.len false 82),Nq 84 0]) (.block 2 (.loop (.seq (.reg [Bq 85 .lss 84 83]) (.seq (.cond 85 (.skip) (.exit 2)) (.seq (.block 3 (.seq (.reg [Iq 86 6 82 84,Rq 87 (.load true 6 86),Rq 12 (.zbox 152 Ayh),Sq 6 12 87]) (.seq (.reg [Mq 89 6,Fq 90 0 12,Lq 91 90,Cq 92 86 ([89,91]),Mq 88 92,Eq1 93 88 0,Eq1 94 88 1,Mq 13 93,Mq 14 94]) (.seq (.reg [Mq 95 14,Rq 96 (.not 95),Mq 97 96,Hq 98 97 true 6,Gq 99 97 true (.fldA 0 98),Gq 100 97 true (.fldA 0 99),Gq 101 97 true (.fldA 11 100),Gq 102 97 true (.load false 1 101),Gq 103 97 true (.len false 102),Gq 104 97 true (.bin .lss 103 (Kq 20)),Rq 105 (.pick 97 104 (.const (.bool false)))]) (.cond 105 (.dreg [[],[Cq 115 87 ([111,112,114])],[Mq 106 6,Mq 107 6,Fq 108 0 107,Fq 109 0 108,Fq 110 11 109,Lq 111 110,Mq 112 13,Rq 113 (.load true 6 12),Rq 114 (.mks 152 6 1 Ayh [(0,113)])],[Fq 116 0 106],[Fq 117 0 116],[Fq 118 11 117],[Sq 1 118 115]]) (.skip)))))) (.reg [Bq 119 .add 84 (Kq 1),Mq 84 119]))))))) (.seq (.reg [Mq 120 6,Fq 121 0 120,Fq 122 0 121,Rq 123 (.load true 12 122),Sq 12 4 123,Nq 5 0]) (.ret)))))))))
theorem Aft:Ce Tryz.prog 35 2=some (Aep,[(4,some (true,12)),(5,none)]):=by kernel_rfl
def Mz:Ag:=
 .seq (.reg [Rq 1 (.box 24 5 0),Nq 2 0]) (.seq (.block 0 (.seq (.reg [Fq 4 0 1,Lq 5 4,Cq 6 63 ([5]),Rq 7 (.not 6),Mq 3 7]) (.cond 3 (.seq (.reg [Nq 2 1]) (.ret)) (.seq (.reg [Fq 9 1 1,Lq 10 9,Cq 11 112 ([10,(Kq 1),(Kq 4)]),Rq 12 (.not 11),Mq 8 12]) (.cond 8 (.seq (.reg [Nq 2 7]) (.ret)) (.seq (.seq (.reg [Fq 14 2 1,Lq 15 14,Cq 16 112 ([15,(Kq 1),(Kq 1000000)]),Rq 17 (.not 16),Mq 13 17]) (.cond 13 (.skip) (.reg [Fq 18 3 1,Lq 19 18,Cq 20 116 ([19]),Rq 21 (.not 20),Mq 13 21]))) (.cond 13 (.seq (.reg [Nq 2 3]) (.ret)) (.skip)))))))) (.seq (.reg [Nq 2 0]) (.ret)))
theorem Mx:Ah Tryz.prog 57 1=some (Mz,[2]):=by kernel_rfl
def Of:Ag:=
 .seq (.reg [Nq 4 0]) (.seq (.seq (.reg [Nq 5 0]) (.block 0 (.loop (.seq (.seq (.reg [Mq 6 5,Mq 7 0,Rq 8 (.len false 7),Bq 9 .lss 6 8]) (.cond 9 (.skip) (.exit 0))) (.seq (.block 1 (.seq (.reg [Mq 12 0,Mq 13 5,Iq 14 5 12 13,Fq 15 0 14,Lq 16 15,Mq 17 1,Bq 18 .eql 16 17]) (.cond 18 (.seq (.reg [Mq 19 5,Mq 4 19]) (.ret)) (.skip)))) (.reg [Mq 10 5,Bq 11 .add 10 (Kq 1),Mq 5 11])))))) (.seq (.reg [Rq 4 (.mv (.const (.int .i64 (-1))))]) (.ret)))
theorem Og:Ah Tryz.prog 58 2=some (Of,[4]):=by kernel_rfl
def Le:Ag:=
 .seq (.reg [Rq 2 (.box 24 5 0),Rq 3 (.box 24 5 1),Rq 4 (.mv (.const (.bool false)))]) (.seq (.seq (.reg [Fq 5 2 2,Lq 6 5,Fq 7 2 3,Lq 8 7,Bq 9 .neq 6 8]) (.cond 9 (.seq (.reg [Fq 10 2 2,Lq 11 10,Fq 12 2 3,Lq 13 12,Bq 14 .gtr 11 13,Mq 4 14]) (.ret)) (.skip))) (.seq (.seq (.reg [Fq 15 1 2,Lq 16 15,Fq 17 1 3,Lq 18 17,Bq 19 .neq 16 18]) (.cond 19 (.seq (.reg [Fq 20 1 2,Lq 21 20,Fq 22 1 3,Lq 23 22,Bq 24 .gtr 21 23,Mq 4 24]) (.ret)) (.skip))) (.seq (.seq (.reg [Fq 25 3 2,Lq 26 25,Fq 27 3 3,Lq 28 27,Bq 29 .neq 26 28]) (.cond 29 (.seq (.reg [Fq 30 3 2,Lq 31 30,Fq 32 3 3,Lq 33 32,Bq 34 .gtr 31 33,Mq 4 34]) (.ret)) (.skip))) (.seq (.reg [Fq 35 4 2,Lq 36 35,Mq 37 36,Gq 38 37 true (.fldA 4 3),Gq 39 37 true (.load false 1 38),Gq 40 37 true (.not 39),Rq 41 (.pick 37 40 (.const (.bool false))),Mq 4 41]) (.ret)))))
theorem Lf:Ah Tryz.prog 59 2=some (Le,[4]):=by kernel_rfl
def Afa:Ag:=
 .seq (.reg [Rq 1 (.box 59 12 0),Rq 2 (.mv (.const (.pointer none))),Nq 3 0]) (.seq (.seq (.reg [Rq 5 (.load true 12 1),Cq 6 79 ([5]),Mq 4 6]) (.seq (.reg [Mq 7 4,Bq 8 .neq 7 (Kq 0)]) (.cond 8 (.seq (.reg [Mq 9 4,Rq 2 (.mv (.const (.pointer none))),Mq 3 9]) (.ret)) (.skip)))) (.seq (.dreg [[Fq 10 2 1,Lq 11 10,Cq 12 41 ([11]),Fq 13 3 1,Lq 14 13,Cq 15 47 ([14]),Fq 16 4 1,Lq 17 16,Cq 18 117 ([17]),Fq 19 2 1],[Sq 1 19 12],[Fq 20 3 1],[Sq 1 20 15],[Fq 21 4 1],[Sq 1 21 18]]) (.seq (.dreg [[Fq 22 5 1,Lq 23 22,Cq 24 118 ([23]),Fq 25 11 1,Lq 26 25],[Cq 27 119 ([26]),Fq 28 5 1],[Sq 1 28 24],[Fq 29 11 1],[Sq 1 29 27]]) (.seq (.reg [Rq 30 (.load true 12 1),Rq 31 (.build Jl [(0,12,30)]),Rq 32 (.box 127 12 31),Mq 2 32,Nq 3 0]) (.ret)))))
theorem F7:Ah Tryz.prog 60 1=some (Afa,[2,3]):=by kernel_rfl
def O0:Ag:=
 .seq (.reg [Nq 4 0,Rq 5 (.mv (.const (.bool false)))]) (.seq (.reg [Mq 11 1,Cq 12 13 ([11]),Mq 10 12,Eq1 13 10 0,Eq1 14 10 1,Rq 6 (.zbox 38 Avm),Sq 7 6 13,Mq 7 14]) (.seq (.seq (.reg [Mq 15 7,Bq 16 .neq 15 (Kq 0),Mq 17 16,Gq 18 17 false (.fldA 1 6),Gq 19 17 false (.load false 1 18),Rq 20 (.pick 17 (.const (.bool true)) 19),Mq 21 20,Gq 22 21 false (.fldA 6 6),Gq 23 21 false (.load false 1 22),Gq 24 21 false (.len false 23),Gq 25 21 false (.bin .gtr 24 (Kq 0)),Rq 26 (.pick 21 (.const (.bool true)) 25)]) (.cond 26 (.seq (.reg [Nq 4 0,Rq 5 (.mv (.const (.bool false)))]) (.ret)) (.skip))) (.seq (.reg [Fq 28 4 6,Fq 29 0 28,Lq 30 29,Cq 31 73 ([30]),Mq 27 31,Eq1 32 27 0,Eq1 33 27 1,Rq 8 (.zbox 67 Azw),Sq 4 8 32,Mq 7 33]) (.seq (.seq (.reg [Mq 34 7,Bq 35 .neq 34 (Kq 0),Mq 36 35,Gq 37 36 false (.fldA 3 8),Gq 38 36 false (.load false 1 37),Gq 39 36 false (.bin .eql 38 (.const (.string ⟨#[]⟩))),Rq 40 (.pick 36 (.const (.bool true)) 39)]) (.cond 40 (.seq (.reg [Nq 4 0,Rq 5 (.mv (.const (.bool false)))]) (.ret)) (.skip))) (.seq (.dreg [[Mq 42 0,Fq 43 0 42,Fq 44 0 43,Fq 45 5 44,Lq 46 45,Mq 47 0,Fq 48 0 47,Fq 49 0 48,Fq 50 1 49,Lq 51 50,Fq 52 3 8,Lq 53 52],[Cq 54 120 ([46,51,53])],[Mq 41 54],[Eq1 55 41 0,Eq1 56 41 1,Mq 9 55],[Mq 7 56]]) (.seq (.reg [Mq 57 9,Mq 58 7,Bq 59 .eql 58 (Kq 0),Mq 4 57,Mq 5 59]) (.ret)))))))
theorem O2:Ah Tryz.prog 61 2=some (O0,[4,5]):=by kernel_rfl
def Lg:Ag:=
 .seq (.reg [Nq 2 0]) (.seq (.seq (.reg [Mq 8 0,Rq 9 (.len false 8),Bq 10 .gtr 9 (Kq 20)]) (.cond 10 (.seq (.reg [Nq 2 2]) (.ret)) (.skip))) (.seq (.seq (.reg [Nq 3 0]) (.block 0 (.loop (.seq (.seq (.reg [Mq 11 3,Mq 12 0,Rq 13 (.len false 12),Bq 14 .lss 11 13]) (.cond 14 (.skip) (.exit 0))) (.seq (.block 1 (.seq (.reg [Mq 17 0,Mq 18 3,Iq 19 6 17 18,Fq 20 0 19,Rq 21 (.load true 5 20),Cq 22 57 ([21]),Mq 4 22]) (.seq (.reg [Mq 23 4,Bq 24 .neq 23 (Kq 0)]) (.cond 24 (.seq (.reg [Mq 25 4,Mq 2 25]) (.ret)) (.skip))))) (.reg [Mq 15 3,Bq 16 .add 15 (Kq 1),Mq 3 16])))))) (.seq (.seq (.reg [Nq 5 0]) (.block 2 (.loop (.seq (.seq (.reg [Mq 26 5,Mq 27 0,Rq 28 (.len false 27),Bq 29 .lss 26 28]) (.cond 29 (.skip) (.exit 2))) (.seq (.block 3 (.seq (.reg [Mq 32 0,Mq 33 5,Iq 34 6 32 33,Fq 35 5 34,Lq 36 35,Cq 37 112 ([36,(Kq 0),(Kq 100)]),Rq 38 (.not 37)]) (.cond 38 (.seq (.reg [Nq 2 3]) (.ret)) (.skip)))) (.reg [Mq 30 5,Bq 31 .add 30 (Kq 1),Mq 5 31])))))) (.seq (.seq (.reg [Nq 6 0]) (.block 4 (.loop (.seq (.seq (.reg [Mq 39 6,Mq 40 0,Rq 41 (.len false 40),Bq 42 .lss 39 41]) (.cond 42 (.skip) (.exit 4))) (.seq (.block 5 (.seq (.reg [Nq 7 0]) (.block 6 (.loop (.seq (.seq (.reg [Mq 45 7,Mq 46 6,Bq 47 .lss 45 46]) (.cond 47 (.skip) (.exit 6))) (.seq (.block 7 (.seq (.dreg [[Mq 50 0,Mq 51 7,Iq 52 6 50 51,Fq 53 0 52,Fq 54 0 53,Lq 55 54,Mq 56 0,Mq 57 6,Iq 58 6 56 57,Fq 59 0 58,Fq 60 0 59,Lq 61 60],[Bq 62 .eql 55 61]]) (.cond 62 (.seq (.reg [Nq 2 6]) (.ret)) (.skip)))) (.reg [Mq 48 7,Bq 49 .add 48 (Kq 1),Mq 7 49]))))))) (.reg [Mq 43 6,Bq 44 .add 43 (Kq 1),Mq 6 44])))))) (.seq (.reg [Nq 2 0]) (.ret))))))
theorem Lh:Ah Tryz.prog 64 1=some (Lg,[2]):=by kernel_rfl
def Kw:Ag:=
 .seq (.reg [Nq 2 0]) (.seq (.seq (.reg [Mq 6 0,Rq 7 (.len false 6),Bq 8 .gtr 7 (Kq 40)]) (.cond 8 (.seq (.reg [Nq 2 2]) (.ret)) (.skip))) (.seq (.seq (.reg [Nq 3 0]) (.block 0 (.loop (.seq (.seq (.reg [Mq 9 3,Mq 10 0,Rq 11 (.len false 10),Bq 12 .lss 9 11]) (.cond 12 (.skip) (.exit 0))) (.seq (.block 1 (.seq (.reg [Mq 15 0,Mq 16 3,Iq 17 9 15 16,Rq 18 (.load true 9 17),Cq 19 124 ([18]),Mq 4 19]) (.seq (.reg [Mq 20 4,Bq 21 .neq 20 (Kq 0)]) (.cond 21 (.seq (.reg [Mq 22 4,Mq 2 22]) (.ret)) (.skip))))) (.reg [Mq 13 3,Bq 14 .add 13 (Kq 1),Mq 3 14])))))) (.seq (.seq (.reg [Nq 5 1]) (.block 2 (.loop (.seq (.seq (.reg [Mq 23 5,Mq 24 0,Rq 25 (.len false 24),Bq 26 .lss 23 25]) (.cond 26 (.skip) (.exit 2))) (.seq (.block 3 (.seq (.dreg [[Mq 29 0,Mq 30 5,Bq 31 .sub 30 (Kq 1),Iq 32 9 29 31,Rq 33 (.load true 9 32),Mq 34 0,Mq 35 5,Iq 36 9 34 35,Rq 37 (.load true 9 36)],[Cq 38 125 ([33,37])],[Rq 39 (.not 38)]]) (.cond 39 (.seq (.reg [Nq 2 4]) (.ret)) (.skip)))) (.reg [Mq 27 5,Bq 28 .add 27 (Kq 1),Mq 5 28])))))) (.seq (.reg [Nq 2 0]) (.ret)))))
theorem La:Ah Tryz.prog 65 1=some (Kw,[2]):=by kernel_rfl
def Jz:Ag:=
 .seq (.reg [Nq 2 0]) (.seq (.seq (.reg [Mq 5 0,Rq 6 (.len false 5),Bq 7 .gtr 6 (Kq 6)]) (.cond 7 (.seq (.reg [Nq 2 2]) (.ret)) (.skip))) (.seq (.seq (.reg [Nq 3 0]) (.block 0 (.loop (.seq (.seq (.reg [Mq 8 3,Mq 9 0,Rq 10 (.len false 9),Bq 11 .lss 8 10]) (.cond 11 (.skip) (.exit 0))) (.seq (.block 1 (.seq (.seq (.reg [Mq 14 0,Mq 15 3,Iq 16 3 14 15,Fq 17 0 16,Lq 18 17,Cq 19 63 ([18]),Rq 20 (.not 19)]) (.cond 20 (.seq (.reg [Nq 2 1]) (.ret)) (.skip))) (.seq (.reg [Mq 21 0,Mq 22 3,Iq 23 3 21 22,Fq 24 1 23,Lq 25 24,Cq 26 116 ([25]),Rq 27 (.not 26),Mq 28 27,Hq 29 28 false 0,Hq 30 28 false 3,Gq 31 28 false (.idxA 3 29 30),Gq 32 28 false (.fldA 2 31),Gq 33 28 false (.load false 1 32),Gq 34 28 false (.call (.func 112) [33,(Kq 1),(Kq 1000000)]),Gq 35 28 false (.not 34),Rq 36 (.pick 28 (.const (.bool true)) 35)]) (.cond 36 (.seq (.reg [Nq 2 3]) (.ret)) (.skip))))) (.reg [Mq 12 3,Bq 13 .add 12 (Kq 1),Mq 3 13])))))) (.seq (.seq (.reg [Nq 4 1]) (.block 2 (.loop (.seq (.seq (.reg [Mq 37 4,Mq 38 0,Rq 39 (.len false 38),Bq 40 .lss 37 39]) (.cond 40 (.skip) (.exit 2))) (.seq (.block 3 (.seq (.dreg [[Mq 43 0,Mq 44 4,Iq 45 3 43 44,Fq 46 0 45,Lq 47 46,Mq 48 0,Mq 49 4,Bq 50 .sub 49 (Kq 1),Iq 51 3 48 50,Fq 52 0 51,Lq 53 52],[Bq 54 .leq 47 53]]) (.cond 54 (.seq (.reg [Nq 2 4]) (.ret)) (.skip)))) (.reg [Mq 41 4,Bq 42 .add 41 (Kq 1),Mq 4 42])))))) (.seq (.reg [Nq 2 0]) (.ret)))))
theorem Jw:Ah Tryz.prog 66 1=some (Jz,[2]):=by kernel_rfl
def Ma:Ag:=
 .seq (.reg [Rq 1 (.box 56 5 0),Nq 2 0]) (.seq (.seq (.reg [Fq 3 0 1,Lq 4 3,Cq 5 112 ([4,(.const (.int .i64 (-10000000))),(Kq 10000000)]),Rq 6 (.not 5),Mq 7 6,Gq 8 7 false (.fldA 1 1),Gq 9 7 false (.load false 1 8),Gq 10 7 false (.call (.func 112) [9,(.const (.int .i64 (-10000000))),(Kq 10000000)]),Gq 11 7 false (.not 10),Rq 12 (.pick 7 (.const (.bool true)) 11),Mq 13 12,Gq 14 13 false (.fldA 2 1),Gq 15 13 false (.load false 1 14),Gq 16 13 false (.call (.func 112) [15,(.const (.int .i64 (-10000000))),(Kq 10000000)]),Gq 17 13 false (.not 16),Rq 18 (.pick 13 (.const (.bool true)) 17),Mq 19 18,Gq 20 19 false (.fldA 3 1),Gq 21 19 false (.load false 1 20),Gq 22 19 false (.call (.func 112) [21,(Kq 0),(Kq 1000000)]),Gq 23 19 false (.not 22),Rq 24 (.pick 19 (.const (.bool true)) 23),Mq 25 24,Gq 26 25 false (.fldA 4 1),Gq 27 25 false (.load false 1 26),Gq 28 25 false (.call (.func 112) [27,(Kq 0),(Kq 1000)]),Gq 29 25 false (.not 28),Rq 30 (.pick 25 (.const (.bool true)) 29)]) (.cond 30 (.seq (.reg [Nq 2 3]) (.ret)) (.skip))) (.seq (.reg [Nq 2 0]) (.ret)))
theorem Mc:Ah Tryz.prog 67 1=some (Ma,[2]):=by kernel_rfl
def Me:Ag:=
 .seq (.reg [Nq 2 0]) (.seq (.seq (.reg [Mq 6 0,Rq 7 (.len false 6),Bq 8 .gtr 7 (Kq 20)]) (.cond 8 (.seq (.reg [Nq 2 2]) (.ret)) (.skip))) (.seq (.seq (.reg [Nq 3 0]) (.block 0 (.loop (.seq (.seq (.reg [Mq 9 3,Mq 10 0,Rq 11 (.len false 10),Bq 12 .lss 9 11]) (.cond 12 (.skip) (.exit 0))) (.seq (.block 1 (.seq (.seq (.reg [Mq 15 0,Mq 16 3,Iq 17 6 15 16,Fq 18 0 17,Lq 19 18,Cq 20 63 ([19]),Rq 21 (.not 20)]) (.cond 21 (.seq (.reg [Nq 2 1]) (.ret)) (.skip))) (.seq (.reg [Mq 22 0,Mq 23 3,Iq 24 6 22 23,Fq 25 1 24,Rq 26 (.load true 5 25),Cq 27 67 ([26]),Mq 4 27]) (.seq (.reg [Mq 28 4,Bq 29 .neq 28 (Kq 0)]) (.cond 29 (.seq (.reg [Mq 30 4,Mq 2 30]) (.ret)) (.skip)))))) (.reg [Mq 13 3,Bq 14 .add 13 (Kq 1),Mq 3 14])))))) (.seq (.seq (.reg [Nq 5 1]) (.block 2 (.loop (.seq (.seq (.reg [Mq 31 5,Mq 32 0,Rq 33 (.len false 32),Bq 34 .lss 31 33]) (.cond 34 (.skip) (.exit 2))) (.seq (.block 3 (.seq (.dreg [[Mq 37 0,Mq 38 5,Iq 39 6 37 38,Fq 40 0 39,Lq 41 40,Mq 42 0,Mq 43 5,Bq 44 .sub 43 (Kq 1),Iq 45 6 42 44,Fq 46 0 45,Lq 47 46],[Bq 48 .leq 41 47]]) (.cond 48 (.seq (.reg [Nq 2 4]) (.ret)) (.skip)))) (.reg [Mq 35 5,Bq 36 .add 35 (Kq 1),Mq 5 36])))))) (.seq (.reg [Nq 2 0]) (.ret)))))
theorem Mk:Ah Tryz.prog 68 1=some (Me,[2]):=by kernel_rfl
def Ach:Ag:=
 .seq (.reg [Rq 2 (.box 59 12 0),Rq 4 (.zbox 59 Jl),Nq 5 0]) (.seq (.reg [Rq 6 (.load true 12 2),Mq 7 1,Cq 8 131 ([6,7,(Kq 1),(Kq 2)]),Eq1 9 8 0,Eq1 10 8 1,Sq 12 4 9,Mq 5 10]) (.ret))
theorem Acl:Ce Tryz.prog 71 2=some (Ach,[(4,some (true,12)),(5,none)]):=by kernel_rfl
def Aed:Ag:=
 .seq (.reg [Rq 1 (.box 59 12 0),Rq 2 (.zbox 59 Jl),Rq 3 (.zbox 82 Agf),Nq 4 0]) (.seq (.reg [Rq 14 (.load true 12 1),Cq 15 60 ([14]),Mq 13 15,Eq1 16 13 0,Eq1 17 13 1,Mq 5 16,Mq 6 17]) (.seq (.seq (.reg [Mq 18 6,Bq 19 .neq 18 (Kq 0)]) (.cond 19 (.seq (.reg [Rq 20 (.build Jl []),Rq 21 (.build Agf []),Mq 22 6,Sq 12 2 20,Sq 6 3 21,Mq 4 22]) (.ret)) (.skip))) (.seq (.reg [Mq 24 5,Fq 25 0 24,Fq 26 0 25,Fq 27 2 26,Lq 28 27,Cq 29 132 ([28]),Mq 23 29,Eq1 30 23 0,Eq1 31 23 1,Mq 7 30,Mq 8 31]) (.seq (.reg [Mq 33 7,Rq 34 (.len false 33),Cq 35 133 ([34]),Mq 32 35,Eq1 36 32 0,Eq1 37 32 1,Mq 9 36,Mq 10 37]) (.seq (.reg [Mq 39 5,Fq 40 0 39,Fq 41 0 40,Fq 42 3 41,Lq 43 42,Mq 44 9,Rq 45 (.mm true (Kq 1) 44),Cq 46 12 ([43,(Kq 5),45]),Mq 38 46,Eq1 47 38 0,Eq1 48 38 1,Eq1 49 38 2,Mq 11 47,Mq 12 48,Mq 6 49]) (.seq (.seq (.reg [Mq 50 6,Bq 51 .neq 50 (Kq 0)]) (.cond 51 (.seq (.reg [Rq 52 (.build Jl []),Rq 53 (.build Agf []),Mq 54 6,Sq 12 2 52,Sq 6 3 53,Mq 4 54]) (.ret)) (.skip))) (.seq (.reg [Mq 55 5,Mq 56 12,Fq 57 0 55,Fq 58 0 57,Fq 59 3 58,Sq 1 59 56]) (.seq (.reg [Mq 60 11,Cq 61 134 ([60,(.func 135)])]) (.seq (.dreg [[],[Rq 66 (.mkm),Rq 67 (.mkm),Rq 68 (.mkm),Rq 69 (.mkm),Rq 70 (.mkm),Rq 71 (.mkm),Rq 72 (.mkm)],[Mq 62 5,Fq 63 0 62,Fq 64 0 63,Rq 65 (.load true 12 64),Mq 66 5,Fq 67 0 66,Fq 68 0 67,Fq 69 0 68,Lq 70 69,Mq 71 11,Rq 72 (.build Agf [(0,1,70),(2,1,71)]),Sq 12 2 65],[Sq 6 3 72],[Nq 4 0]]) (.ret))))))))))
theorem Aec:Ce Tryz.prog 72 1=some (Aed,[(2,some (true,12)),(3,some (true,6)),(4,none)]):=by kernel_rfl
def Ac0:Ag:=
 .seq (.reg [Rq 1 (.box 59 12 0),Nq 2 0]) (.seq (.seq (.reg [Fq 7 0 1,Lq 8 7,Cq 9 88 ([8]),Rq 10 (.not 9),Mq 11 10,Gq 12 11 false (.fldA 1 1),Gq 13 11 false (.load false 1 12),Gq 14 11 false (.call (.func 88) [13]),Gq 15 11 false (.not 14),Rq 16 (.pick 11 (.const (.bool true)) 15)]) (.cond 16 (.seq (.reg [Nq 2 1]) (.ret)) (.skip))) (.seq (.seq (.dreg [[Fq 17 2 1,Lq 18 17,Cq 19 153 ([18]),Fq 20 3 1,Lq 21 20,Cq 22 42 ([21]),Fq 23 4 1,Lq 24 23,Cq 25 154 ([24]),Fq 26 5 1,Lq 27 26,Cq 28 155 ([27]),Fq 29 6 1,Rq 30 (.load true 5 29),Cq 31 156 ([30]),Fq 32 11 1,Lq 33 32,Cq 34 157 ([33]),Rq 35 (.mks 27 1 6 [(.int .i64 0)] [(0,19),(1,22),(2,25),(3,28),(4,31),(5,34)]),Rq 36 (.len false 35),Nq 37 0]]) (.block 0 (.loop (.seq (.reg [Bq 38 .lss 37 36]) (.seq (.cond 38 (.skip) (.exit 0)) (.seq (.block 1 (.seq (.reg [Iq 39 1 35 37,Lq 40 39,Mq 4 40]) (.seq (.reg [Mq 41 4,Bq 42 .neq 41 (Kq 0)]) (.cond 42 (.seq (.reg [Mq 43 4,Mq 2 43]) (.ret)) (.skip))))) (.reg [Bq 44 .add 37 (Kq 1),Mq 37 44]))))))) (.seq (.reg [Fq 46 2 1,Lq 47 46,Fq 48 0 1,Lq 49 48,Cq 50 89 ([47,49]),Mq 45 50,Eq1 51 45 0,Eq1 52 45 1,Mq 5 51,Mq 6 52]) (.seq (.block 2 (.seq (.reg [Mq 54 6,Rq 55 (.not 54),Mq 53 55]) (.cond 53 (.seq (.reg [Nq 2 5]) (.ret)) (.seq (.seq (.reg [Fq 57 2 1,Lq 58 57,Mq 59 5,Iq 60 5 58 59,Fq 61 1 60,Lq 62 61,Bq 63 .eql 62 (Kq 2),Mq 64 63,Gq 65 64 false (.fldA 2 1),Gq 66 64 false (.load false 1 65),Hq 67 64 false 5,Gq 68 64 false (.idxA 5 66 67),Gq 69 64 false (.fldA 1 68),Gq 70 64 false (.load false 1 69),Gq 71 64 false (.bin .eql 70 (Kq 3)),Rq 72 (.pick 64 (.const (.bool true)) 71),Mq 56 72]) (.cond 56 (.skip) (.reg [Rq 73 (.load true 12 1),Cq 74 158 ([73]),Rq 75 (.not 74),Mq 56 75]))) (.cond 56 (.seq (.reg [Nq 2 4]) (.ret)) (.skip)))))) (.seq (.reg [Nq 2 0]) (.ret))))))
theorem Gx:Ah Tryz.prog 79 1=some (Ac0,[2]):=by kernel_rfl
def Q7:Ag:=
 .seq (.reg [Rq 4 (.zbox 59 Jl),Nq 5 0]) (.seq (.seq (.reg [Mq 6 1,Bq 7 .neq 6 (Kq 0)]) (.cond 7 (.seq (.reg [Rq 8 (.build Jl []),Mq 9 1,Sq 12 4 8,Mq 5 9]) (.ret)) (.skip))) (.seq (.reg [Mq 10 0,Fq 11 0 10,Fq 12 0 11,Rq 13 (.load true 12 12),Sq 12 4 13,Nq 5 0]) (.ret)))
theorem Re:Ce Tryz.prog 81 2=some (Q7,[(4,some (true,12)),(5,none)]):=by kernel_rfl
def X5:Ag:=
 .seq (.reg [Rq 1 (.box 82 6 0),Nq 2 0]) (.seq (.seq (.reg [Fq 5 0 1,Lq 6 5,Cq 7 88 ([6]),Rq 8 (.not 7),Mq 9 8,Gq 10 9 false (.fldA 1 1),Gq 11 9 false (.load false 1 10),Gq 12 9 false (.not 11),Hq 13 9 false 12,Gq 14 13 true (.fldA 3 1),Gq 15 13 true (.load false 1 14),Gq 16 13 true (.len false 15),Gq 17 13 true (.fldA 4 1),Gq 18 13 true (.load false 1 17),Gq 19 13 true (.len false 18),Gq 20 13 true (.bin .add 16 19),Gq 21 13 true (.fldA 5 1),Gq 22 13 true (.load false 1 21),Gq 23 13 true (.len false 22),Gq 24 13 true (.bin .add 20 23),Gq 25 13 true (.bin .gtr 24 (Kq 0)),Gq 26 9 false (.pick 13 25 (.const (.bool false))),Rq 27 (.pick 9 (.const (.bool true)) 26)]) (.cond 27 (.seq (.reg [Nq 2 1]) (.ret)) (.skip))) (.seq (.seq (.reg [Fq 28 1 1,Lq 29 28,Rq 30 (.not 29)]) (.cond 30 (.seq (.reg [Fq 31 2 1,Lq 32 31,Cq 33 162 ([32]),Mq 2 33]) (.ret)) (.skip))) (.seq (.seq (.dreg [[Fq 34 2 1,Lq 35 34,Cq 36 153 ([35]),Fq 37 3 1,Lq 38 37,Cq 39 154 ([38]),Fq 40 4 1,Lq 41 40,Cq 42 155 ([41]),Fq 43 5 1,Lq 44 43,Cq 45 157 ([44]),Rq 46 (.mks 27 1 4 [(.int .i64 0)] [(0,36),(1,39),(2,42),(3,45)]),Rq 47 (.len false 46),Nq 48 0]]) (.block 0 (.loop (.seq (.reg [Bq 49 .lss 48 47]) (.seq (.cond 49 (.skip) (.exit 0)) (.seq (.block 1 (.seq (.reg [Iq 50 1 46 48,Lq 51 50,Mq 4 51]) (.seq (.reg [Mq 52 4,Bq 53 .neq 52 (Kq 0)]) (.cond 53 (.seq (.reg [Mq 54 4,Mq 2 54]) (.ret)) (.skip))))) (.reg [Bq 55 .add 48 (Kq 1),Mq 48 55]))))))) (.seq (.reg [Nq 2 0]) (.ret)))))
theorem X4:Ah Tryz.prog 82 1=some (X5,[2]):=by kernel_rfl
def O1:Ag:=
 .seq (.reg [Rq 3 (.box 24 5 1),Nq 4 0]) (.seq (.dreg [[Mq 10 0,Fq 11 0 10,Fq 12 0 11,Fq 13 2 12,Lq 14 13,Rq 15 (.load true 5 3)],[Cq 16 10 ([14,15])],[Mq 9 16],[Eq1 17 9 0,Eq1 18 9 1,Eq1 19 9 2,Mq 5 17,Mq 6 18],[Mq 7 19]]) (.seq (.seq (.reg [Mq 20 7,Bq 21 .neq 20 (Kq 0),Mq 22 21,Hq 23 22 false 6,Gq 24 22 false (.not 23),Rq 25 (.pick 22 (.const (.bool true)) 24)]) (.cond 25 (.seq (.reg [Mq 26 7,Mq 4 26]) (.ret)) (.skip))) (.seq (.reg [Mq 27 0,Mq 28 5,Fq 29 0 27,Fq 30 0 29,Fq 31 2 30,Sq 1 31 28]) (.seq (.seq (.reg [Mq 32 0,Fq 33 0 3,Lq 34 33,Cq 35 163 ([32,34]),Mq 8 35]) (.seq (.dreg [[Mq 36 8],[Bq 37 .neq 36 (Kq 0)],[Mq 38 37],[Gq 39 38 false (.fldA 0 3),Gq 40 38 false (.load false 1 39),Hq 41 38 false 0,Gq 42 38 false (.fldA 0 41),Gq 43 38 false (.fldA 0 42),Gq 44 38 false (.fldA 0 43),Gq 45 38 false (.load false 1 44)],[Gq 46 38 false (.bin .neq 40 45)],[Rq 47 (.pick 38 (.const (.bool true)) 46)]]) (.cond 47 (.seq (.reg [Mq 48 8,Mq 4 48]) (.ret)) (.skip)))) (.seq (.dreg [[Mq 50 0,Fq 51 0 50,Fq 52 0 51,Fq 53 2 52,Lq 54 53,Mq 55 0,Fq 56 0 55,Fq 57 0 56,Fq 58 0 57,Lq 59 58],[Cq 60 36 ([54,59])],[Mq 49 60],[Eq1 61 49 0,Eq1 62 49 1,Eq1 63 49 2,Mq 5 61,Mq 6 62],[Mq 7 63]]) (.seq (.seq (.reg [Mq 64 7,Bq 65 .neq 64 (Kq 0),Mq 66 65,Hq 67 66 false 6,Gq 68 66 false (.not 67),Rq 69 (.pick 66 (.const (.bool true)) 68)]) (.cond 69 (.seq (.reg [Mq 70 7,Mq 4 70]) (.ret)) (.skip))) (.seq (.reg [Mq 71 0,Mq 72 5,Fq 73 0 71,Fq 74 0 73,Fq 75 2 74,Sq 1 75 72]) (.seq (.reg [Mq 76 0,Mq 77 0,Fq 78 0 77,Fq 79 0 78,Fq 80 0 79,Lq 81 80,Cq 82 163 ([76,81]),Mq 4 82]) (.ret)))))))))
theorem Ic:Ah Tryz.prog 83 2=some (O1,[4]):=by kernel_rfl
def O6:Ag:=
 .seq (.reg [Rq 6 (.mv (.const (.bool false)))]) (.seq (.reg [Mq 7 0,Mq 8 1,Bq 9 .geq 7 8,Mq 10 9,Hq 11 10 true 0,Hq 12 10 true 2,Gq 13 10 true (.bin .leq 11 12),Rq 14 (.pick 10 13 (.const (.bool false))),Mq 6 14]) (.ret))
theorem O7:Ah Tryz.prog 112 3=some (O6,[6]):=by kernel_rfl
def M4:Ag:=
 .seq (.reg [Rq 2 (.mv (.const (.bool false)))]) (.seq (.reg [Mq 3 0,Cq 4 112 ([3,(Kq 0),(Kq 4294967295)]),Mq 2 4]) (.ret))
theorem Nk:Ah Tryz.prog 116 1=some (M4,[2]):=by kernel_rfl
def L4:Ag:=
 .seq (.reg [Rq 1 (.box 77 9 0),Nq 2 0]) (.seq (.seq (.reg [Fq 3 0 1,Lq 4 3,Cq 5 63 ([4]),Rq 6 (.not 5),Mq 7 6,Gq 8 7 false (.fldA 1 1),Gq 9 7 false (.load false 1 8),Gq 10 7 false (.call (.func 63) [9]),Gq 11 7 false (.not 10),Rq 12 (.pick 7 (.const (.bool true)) 11),Mq 13 12,Gq 14 13 false (.fldA 2 1),Gq 15 13 false (.load false 1 14),Gq 16 13 false (.call (.func 63) [15]),Gq 17 13 false (.not 16),Rq 18 (.pick 13 (.const (.bool true)) 17),Mq 19 18,Gq 20 19 false (.fldA 3 1),Gq 21 19 false (.load false 1 20),Gq 22 19 false (.bin .neq 21 (.const (.string ⟨#[]⟩))),Hq 23 19 false 22,Gq 24 23 true (.fldA 3 1),Gq 25 23 true (.load false 1 24),Gq 26 23 true (.call (.func 63) [25]),Gq 27 23 true (.not 26),Gq 28 19 false (.pick 23 27 (.const (.bool false))),Rq 29 (.pick 19 (.const (.bool true)) 28)]) (.cond 29 (.seq (.reg [Nq 2 1]) (.ret)) (.skip))) (.seq (.seq (.reg [Fq 30 4 1,Lq 31 30,Cq 32 116 ([31]),Rq 33 (.not 32),Mq 34 33,Gq 35 34 false (.fldA 5 1),Gq 36 34 false (.load false 1 35),Gq 37 34 false (.call (.func 112) [36,(Kq 0),(Kq 65535)]),Gq 38 34 false (.not 37),Rq 39 (.pick 34 (.const (.bool true)) 38),Mq 40 39,Gq 41 40 false (.fldA 7 1),Gq 42 40 false (.load false 1 41),Gq 43 40 false (.call (.func 112) [42,(Kq 1),(Kq 1000000)]),Gq 44 40 false (.not 43),Rq 45 (.pick 40 (.const (.bool true)) 44)]) (.cond 45 (.seq (.reg [Nq 2 3]) (.ret)) (.skip))) (.seq (.reg [Nq 2 0]) (.ret))))
theorem L7:Ah Tryz.prog 124 1=some (L4,[2]):=by kernel_rfl
def Q9:Ag:=
 .seq (.reg [Rq 2 (.box 77 9 0),Rq 3 (.box 77 9 1),Rq 4 (.mv (.const (.bool false)))]) (.seq (.reg [Fq 5 0 2,Lq 6 5,Fq 7 0 3,Lq 8 7,Bq 9 .lss 6 8,Mq 10 9,Gq 11 10 false (.fldA 0 2),Gq 12 10 false (.load false 1 11),Gq 13 10 false (.fldA 0 3),Gq 14 10 false (.load false 1 13),Gq 15 10 false (.bin .eql 12 14),Hq 16 10 false 15,Gq 17 16 true (.fldA 1 2),Gq 18 16 true (.load false 1 17),Gq 19 16 true (.fldA 1 3),Gq 20 16 true (.load false 1 19),Gq 21 16 true (.bin .lss 18 20),Gq 22 10 false (.pick 16 21 (.const (.bool false))),Rq 23 (.pick 10 (.const (.bool true)) 22),Mq 4 23]) (.ret))
theorem Rd:Ah Tryz.prog 125 2=some (Q9,[4]):=by kernel_rfl
def Af8:Ag:=
 .seq (.reg [Rq 4 (.box 59 12 0),Rq 8 (.zbox 59 Jl),Nq 9 0]) (.seq (.reg [Rq 16 (.load true 12 4),Cq 17 60 ([16]),Mq 15 17,Eq1 18 15 0,Eq1 19 15 1,Mq 10 18,Mq 11 19]) (.seq (.seq (.reg [Mq 20 11,Bq 21 .neq 20 (Kq 0)]) (.cond 21 (.seq (.reg [Rq 22 (.build Jl []),Mq 23 11,Sq 12 8 22,Mq 9 23]) (.ret)) (.skip))) (.seq (.reg [Mq 25 10,Fq 26 0 25,Fq 27 0 26,Fq 28 2 27,Lq 29 28,Mq 30 1,Cq 31 89 ([29,30]),Mq 24 31,Eq1 32 24 0,Eq1 33 24 1,Mq 12 32,Mq 13 33]) (.seq (.block 0 (.seq (.reg [Mq 35 1,Cq 36 88 ([35]),Rq 37 (.not 36),Mq 34 37]) (.cond 34 (.seq (.reg [Rq 38 (.build Jl []),Sq 12 8 38,Nq 9 1]) (.ret)) (.seq (.reg [Mq 40 1,Mq 41 10,Fq 42 0 41,Fq 43 0 42,Fq 44 0 43,Lq 45 44,Bq 46 .eql 40 45,Mq 39 46]) (.cond 39 (.seq (.reg [Rq 47 (.build Jl []),Sq 12 8 47,Nq 9 6]) (.ret)) (.seq (.reg [Mq 49 13,Rq 50 (.not 49),Mq 48 50]) (.cond 48 (.seq (.reg [Rq 51 (.build Jl []),Sq 12 8 51,Nq 9 5]) (.ret)) (.seq (.reg [Mq 53 10,Fq 54 0 53,Fq 55 0 54,Fq 56 2 55,Lq 57 56,Mq 58 12,Iq 59 5 57 58,Fq 60 1 59,Lq 61 60,Mq 62 2,Bq 63 .neq 61 62,Mq 52 63]) (.cond 52 (.seq (.reg [Rq 64 (.build Jl []),Sq 12 8 64,Nq 9 4]) (.ret)) (.skip)))))))))) (.seq (.reg [Mq 65 10,Fq 66 0 65,Fq 67 0 66,Fq 68 2 67,Lq 69 68,Mq 70 12,Iq 71 5 69 70,Rq 72 (.load true 5 71),Rq 14 (.zbox 24 Arg),Sq 5 14 72]) (.seq (.reg [Mq 73 3,Fq 74 1 14,Sq 1 74 73]) (.seq (.reg [Mq 75 10,Mq 76 10,Rq 77 (.load true 5 14),Cq 78 83 ([76,77]),Cq 79 81 ([75,78]),Eq1 80 79 0,Eq1 81 79 1,Sq 12 8 80,Mq 9 81]) (.ret))))))))
theorem Aeb:Ce Tryz.prog 131 4=some (Af8,[(8,some (true,12)),(9,none)]):=by kernel_rfl
def V2:Ag:=
 .seq (.reg [Nq 2 0]) (.seq (.seq (.reg [Mq 7 0,Rq 8 (.len false 7),Bq 9 .gtr 8 (Kq 20)]) (.cond 9 (.seq (.reg [Nq 2 2]) (.ret)) (.skip))) (.seq (.seq (.reg [Mq 10 0,Rq 11 (.len false 10),Nq 12 0]) (.block 0 (.loop (.seq (.reg [Bq 13 .lss 12 11]) (.seq (.cond 13 (.skip) (.exit 0)) (.seq (.block 1 (.seq (.reg [Iq 14 6 10 12,Rq 15 (.load true 6 14),Rq 4 (.zbox 152 Ayh),Sq 6 4 15]) (.seq (.seq (.reg [Fq 16 0 4,Lq 17 16,Cq 18 88 ([17]),Rq 19 (.not 18)]) (.cond 19 (.seq (.reg [Nq 2 1]) (.ret)) (.skip))) (.seq (.reg [Fq 20 1 4,Rq 21 (.load true 5 20),Cq 22 156 ([21]),Mq 5 22]) (.seq (.reg [Mq 23 5,Bq 24 .neq 23 (Kq 0)]) (.cond 24 (.seq (.reg [Mq 25 5,Mq 2 25]) (.ret)) (.skip))))))) (.reg [Bq 26 .add 12 (Kq 1),Mq 12 26]))))))) (.seq (.seq (.reg [Nq 6 1]) (.block 2 (.loop (.seq (.seq (.reg [Mq 27 6,Mq 28 0,Rq 29 (.len false 28),Bq 30 .lss 27 29]) (.cond 30 (.skip) (.exit 2))) (.seq (.block 3 (.seq (.dreg [[Mq 33 0,Mq 34 6,Iq 35 6 33 34,Fq 36 0 35,Lq 37 36,Mq 38 0,Mq 39 6,Bq 40 .sub 39 (Kq 1),Iq 41 6 38 40,Fq 42 0 41,Lq 43 42],[Bq 44 .leq 37 43]]) (.cond 44 (.seq (.reg [Nq 2 4]) (.ret)) (.skip)))) (.reg [Mq 31 6,Bq 32 .add 31 (Kq 1),Mq 6 32])))))) (.seq (.reg [Nq 2 0]) (.ret)))))
theorem Np:Ah Tryz.prog 157 1=some (V2,[2]):=by kernel_rfl
def Yy:Ag:=
 .seq (.reg [Rq 1 (.box 59 12 0),Rq 2 (.mv (.const (.bool false)))]) (.seq (.seq (.reg [Fq 7 3 1,Lq 8 7,Rq 9 (.len false 8),Nq 10 0]) (.block 0 (.loop (.seq (.reg [Bq 11 .lss 10 9]) (.seq (.cond 11 (.skip) (.exit 0)) (.seq (.block 1 (.seq (.reg [Iq 12 6 8 10,Rq 13 (.load true 6 12),Rq 4 (.zbox 91 Be3),Sq 6 4 13]) (.seq (.reg [Fq 15 2 1,Lq 16 15,Fq 17 0 4,Fq 18 0 17,Lq 19 18,Cq 20 89 ([16,19]),Mq 14 20,Eq1 21 14 0,Eq1 22 14 1,Mq 5 21,Mq 6 22]) (.seq (.dreg [[Mq 23 6],[Rq 24 (.not 23)],[Mq 25 24],[Gq 26 25 false (.fldA 0 4),Gq 27 25 false (.load true 5 26),Gq 28 25 false (.fldA 2 1),Gq 29 25 false (.load false 1 28),Hq 30 25 false 5,Gq 31 25 false (.idxA 5 29 30),Gq 32 25 false (.load true 5 31)],[Gq 33 25 false (.call (.func 93) [27,32])],[Gq 34 25 false (.bin .gtr 33 (Kq 0))],[Rq 35 (.pick 25 (.const (.bool true)) 34)]]) (.cond 35 (.seq (.reg [Rq 2 (.mv (.const (.bool false)))]) (.ret)) (.skip)))))) (.reg [Bq 36 .add 10 (Kq 1),Mq 10 36]))))))) (.seq (.reg [Rq 2 (.mv (.const (.bool true)))]) (.ret)))
theorem Fm:Ah Tryz.prog 158 1=some (Yy,[2]):=by kernel_rfl
def Sp:Ag:=
 .seq (.reg [Nq 4 0]) (.seq (.reg [Mq 10 0,Fq 11 0 10,Fq 12 0 11,Fq 13 2 12,Lq 14 13,Mq 15 1,Cq 16 89 ([14,15]),Mq 9 16,Eq1 17 9 0,Eq1 18 9 1,Mq 5 17,Mq 6 18]) (.seq (.dreg [[Mq 20 0,Fq 21 0 20,Fq 22 0 21,Fq 23 3 22,Lq 24 23,Mq 25 0,Fq 26 0 25,Fq 27 0 26,Fq 28 2 27,Lq 29 28,Mq 30 5,Iq 31 5 29 30,Rq 32 (.load true 5 31)],[Cq 33 37 ([24,32])],[Mq 19 33],[Eq1 34 19 0,Eq1 35 19 1,Mq 7 34],[Mq 8 35]]) (.seq (.seq (.reg [Mq 36 8,Bq 37 .eql 36 (Kq 0)]) (.cond 37 (.reg [Mq 38 0,Mq 39 7,Fq 40 0 38,Fq 41 0 40,Fq 42 3 41,Sq 1 42 39]) (.skip))) (.seq (.reg [Mq 43 8,Mq 4 43]) (.ret)))))
theorem K0:Ah Tryz.prog 163 2=some (Sp,[4]):=by kernel_rfl
end Go.Proofs.YtkbjgdcdjccnaaaGreatDoor
