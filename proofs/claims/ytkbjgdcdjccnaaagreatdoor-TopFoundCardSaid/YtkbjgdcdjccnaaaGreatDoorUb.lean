/- Texts of this claim, joined. -/
import Derived.Test.YtkbjgdcdjccnaaaGreatDoorYAbsQ
import Derived.WalkKit
import Derived.Below
import Derived.WalkSmall
import Derived.Test.YtkbjgdcdjccnaaaGreatDoorRows
import Derived.WalkLawsBesides
import Derived.BigGuardPart
import Derived.Deep.Light
import Derived.Laws.IdiomStrings
import Derived.SizedLaws
import Derived.Deep.Slices
import Derived.Laws.CopyRow
import Derived.Laws.CopyOwn
import Derived.Deep.RegionLaw
import Derived.Lib.AppendZerosOnto
import Derived.Lib.Overlaps
import Derived.Laws.Externs
import Derived.OwnWalk
import Derived.Maps.AppendAt
import Derived.Deep.AppendLies
import Derived.Lib.Walk
import Derived.Lib.SliceRun
import Derived.Lib.JoinLaws
import Derived.Lib.AppendZeros
import Derived.WalkSpells
import Derived.Test.YtkbjgdcdjccnaaaGreatDoorUa
set_option linter.unusedSimpArgs false
set_option linter.unusedVariables false
namespace Go.Proofs.YtkbjgdcdjccnaaaGreatDoor
namespace Pl
def D4(a b:ByteArray):Int:=if slt a b then -1 else if slt b a then 1 else 0
theorem Wy{a b:ByteArray}(h:slt a b=true):D4 a b= -1:=by simp[D4,h]
theorem W0{a b:ByteArray}(h:slt b a=true):D4 a b=1:=by simp[D4,Up h,h]
theorem O0(a:ByteArray):D4 a a=0:=by simp[D4,Fh]
theorem S1{a b:ByteArray}:D4 a b<0↔slt a b=true:=by
 unfold D4;split
 ·simp_all
 ·split<;>simp_all
theorem E2{a b:ByteArray}:D4 a b=0↔a=b:=by
 unfold D4;split
 ·rename_i h;exact⟨fun e=>by omega,fun e=>by subst e;rw[Fh]at h;cases h⟩
 ·split
  ·rename_i h;exact⟨fun e=>by omega,fun e=>by subst e;rw[Fh]at h;cases h⟩
  ·rename_i h1 h2;exact⟨fun _=>Su (by simpa using h1) (by simpa using h2),fun _=>rfl⟩
section
variable {α:Type} {cf:α→Int} {l:List α}
def low(cf:α→Int):List α→Nat
 |[]=>0
 |x::r=>if cf x<0 then low cf r+1 else 0
def Ajj(cf:α→Int)(l:List α):Prop:=∀i j,(hi:i<l.length)→(hj:j<l.length)→i≤j→cf l[j]<0→cf l[i]<0
theorem As9:∀l:List α,low cf l≤l.length
 |[]=>ZT _
 |x::r=>by simp only[low,ZJ];split<;>have:=As9 r<;>omega
theorem Ajw:∀{l:List α} {i:Nat} (hi:i<l.length),i<low cf l→cf l[i]<0
 |x::r,0,_,h=>by
  simp only[low]at h;split at h
  ·assumption
  ·omega
 |x::r,i+1,hi,h=>by
  simp only[low]at h;split at h
  ·exact Ajw (l:=r) (by simpa using hi) (by omega)
  ·omega
theorem Aij:∀{l:List α} (h:low cf l<l.length),0≤cf l[low cf l]
 |[],h=>by simp at h
 |x::r,h=>by
  by_cases hx:cf x<0
  ·have e:low cf (x::r)=low cf r+1:=by simp[low,hx]
   have h':low cf r<r.length:=by rw[e]at h;simpa using h
   have:=Aij h';simp only[e,List.getElem_cons_succ];exact this
  ·have e:low cf (x::r)=0:=by simp[low,hx]
   simp only[e,List.getElem_cons_zero];omega
theorem Asb{a:Nat}(ha:a≤l.length)(h1:∀i,(hi:i<l.length)→i<a→cf l[i]<0)(h2:∀i,(hi:i<l.length)→a≤i→0≤cf l[i]):a=low cf l:=by
 have hl:=As9 (cf:=cf) l;rcases Nat.lt_trichotomy a (low cf l)with h|h|h
 ·have:=Ajw (cf:=cf) (l:=l) (i:=a) (by omega) h;have:=h2 a (by omega) (ZT _);omega
 ·exact h
 ·have:=Aij (cf:=cf) (l:=l) (by omega);have:=h1 (low cf l) (by omega) h;omega
def hit(cf:α→Int)(l:List α):Bool:=match l[low cf l]? with
 |some x=>decide (cf x=0)
 |none=>false
theorem Ajq(h:low cf l<l.length):hit cf l=decide (cf l[low cf l]=0):=by simp[hit,h]
theorem Am5(h:¬low cf l<l.length):hit cf l=false:=by
 have:l[low cf l]? =none:=XK (by omega);simp[hit,this]
end
end Pl
namespace Pl
section
variable {α:Type}
def firstErr(e:α→Int):List α→Int
 |[]=>0
 |x::r=>if e x=0 then firstErr e r else e x
def sorted(lt:α→α→Bool):List α→Bool
 |[]=>true
 |[_]=>true
 |x::y::r=>lt x y&&sorted lt (y::r)
def ckL(mx:Nat)(e:α→Int)(lt:α→α→Bool)(l:List α):Int:=
 if mx<l.length then 2 else if firstErr e l=0 then(if sorted lt l then 0 else 4)else firstErr e l
theorem D3{e:α→Int}:∀{l:List α},(∀i,(h:i<l.length)→e l[i]=0)→firstErr e l=0
 |[],_=>rfl
 |x::r,h=>by
  have h0:e x=0:=h 0 (by simp);simp only[firstErr,h0,if_true];exact D3 fun i hi=>h (i+1) (by simpa using hi)
theorem G5{e:α→Int}:∀{l:List α} {k:Nat} (hk:k<l.length),(∀i,(h:i<l.length)→i<k→e l[i]=0)→e l[k]≠0→firstErr e l=e l[k]
 |x::r,0,_,_,hne=>by
  simp only[List.getElem_cons_zero]at hne ⊢;simp[firstErr,hne]
 |x::r,k+1,hk,h,hne=>by
  have h0:e x=0:=h 0 (by simp) (by omega);simp only[firstErr,h0,if_true,List.getElem_cons_succ]at hne ⊢;exact G5 (by simpa using hk) (fun i hi hik=>h (i+1) (by simpa using hi) (by omega)) hne
theorem Pd{lt:α→α→Bool}:∀{l:List α},(∀i,(h:i+1<l.length)→lt l[i] l[i+1]=true)→sorted lt l=true
 |[],_=>rfl
 |[_],_=>rfl
 |x::y::r,h=>by
  simp only[sorted,Bool.and_eq_true_iff];exact⟨h 0 (by simp),Pd fun i hi=>h (i+1) (by simpa using hi)⟩
theorem Qt{lt:α→α→Bool}:∀{l:List α} {k:Nat} (hk:k+1<l.length),lt l[k] l[k+1]=false→sorted lt l=false
 |[_],k,hk,_=>by simp at hk
 |x::y::r,0,_,h=>by
  simp only[List.getElem_cons_zero,List.getElem_cons_succ]at h;simp[sorted,h]
 |x::y::r,k+1,hk,h=>by
  have:sorted lt (y::r)=false:=Qt (k:=k) (by simpa using hk) (by simpa using h);simp[sorted,this]
theorem Y4{lt:α→α→Bool}:∀{l:List α},sorted lt l=true→∀i,(h:i+1<l.length)→lt l[i] l[i+1]=true
 |[],_,i,h=>by simp at h
 |[_],_,i,h=>by simp at h
 |x::y::r,hs,0,_=>by
  simp only[sorted,Bool.and_eq_true_iff]at hs;exact hs.1
 |x::y::r,hs,i+1,h=>by
  simp only[sorted,Bool.and_eq_true_iff]at hs;exact Y4 hs.2 i (by simpa using h)
theorem Rp{e:α→Int}:∀{l:List α},firstErr e l=0→∀i,(h:i<l.length)→e l[i]=0
 |[],_,i,h=>by simp at h
 |x::r,hs,i,h=>by
  by_cases h0:e x=0
  ·simp only[firstErr,h0,if_true]at hs;cases i with
   |zero=>exact h0
   |succ i=>exact Rp hs i (by simpa using h)
  ·simp[firstErr,h0]at hs
variable {mx:Nat} {e:α→Int} {lt:α→α→Bool} {l:List α}
theorem Afd(h:mx<l.length):ckL mx e lt l=2:=by simp[ckL,h]
theorem Ak4(he:∀x,e x=0∨e x=1∨e x=3∨e x=7)(h:ckL mx e lt l=0):l.length≤mx∧(∀i,(hi:i<l.length)→e l[i]=0)∧sorted lt l=true:=by
 unfold ckL at h;split at h
 ·omega
 ·split at h
  ·rename_i h1 h2;split at h
   ·rename_i h3;exact⟨by omega,Rp h2,h3⟩
   ·omega
  ·rename_i h1 h2;exact absurd h h2
end
end Pl
namespace Pl
section
variable {α:Type}
def at_(p:α→Bool)(l:List α):Int:=match l.findIdx? p with
 |some i=>(i:Int)
 |none=> -1
theorem Ae4{p:α→Bool}{l:List α}{k:Nat}(hk:k<l.length)(h0:∀i,(h:i<l.length)→i<k→p l[i]=false)(h1:p l[k]=true):at_ p l=k:=by
 have:l.findIdx? p=some k:=by
  rw[List.findIdx?_eq_some_iff_getElem];exact⟨hk,h1,fun j hj=>by simp[h0 j (by omega) hj]⟩
 simp[at_,this]
theorem Akn{p:α→Bool}{l:List α}(h0:∀i,(h:i<l.length)→p l[i]=false):at_ p l= -1:=by
 have:l.findIdx? p=none:=by
  rw[List.findIdx?_eq_none_iff];intro x hx;obtain⟨i,hi,rfl⟩:=List.getElem_of_mem hx;exact h0 i hi
 simp[at_,this]
theorem Ajc{p:α→Bool}{l:List α}:(at_ p l= -1∧∀i,(h:i<l.length)→p l[i]=false)∨∃k,∃hk:k<l.length,at_ p l=(k:Int)∧p l[k]=true∧∀i,(h:i<l.length)→i<k→p l[i]=false:=by
 cases h:l.findIdx? p with
 |none=>
  left;refine⟨by simp[at_,h],fun i hi=>?_⟩;rw[List.findIdx?_eq_none_iff]at h;exact h _ (ZK hi)
 |some k=>
  right;rw[List.findIdx?_eq_some_iff_getElem]at h;obtain⟨hk,h1,h2⟩:=h;refine⟨k,hk,?_,h1,fun i hi hik=>by simpa using h2 i hik⟩;have:l.findIdx? p=some k:=by
   rw[List.findIdx?_eq_some_iff_getElem];exact⟨hk,h1,h2⟩
  simp[at_,this]
theorem Ahs{l:List α}{k:Nat}(hk:k<l.length):l.take (k+1)=l.take k++[l[k]]:=by
 rw[List.take_succ_eq_append_getElem hk]
end
end Pl
open Go.RowKit Pl
theorem Rz{n:Int}(h1:0≤n)(h2:n≤18446744073709551615):IntKind.u64.wrap n=n:=IntWalk.u64_in n ⟨h1,h2⟩
theorem Pr{n:Int}(h:0≤n):n.fdiv (2^(min (1:Int).toNat IntKind.u64.bits))=n/2:=by
 have e:(2:Int)^(min (1:Int).toNat IntKind.u64.bits)=2:=by decide
 rw[e,Int.fdiv_eq_ediv_of_nonneg _ (by decide)]
class FlatRow {α:Type} (enc:α→List V):Prop where
 flat:∀x,∀u∈enc x,∃v,u=.v v
theorem A7{α:Type}{f:α→List V}{l:List α}{k:Nat}(h:k<l.length):(l.map f)[k]? =some (f l[k]):=by simp[h]
theorem Axx{α:Type}{enc:α→List V}[hf:FlatRow enc]{x:α}:∀u∈enc x,Fl u:=fun u hu=>by
 obtain⟨v,rfl⟩:=hf.flat x u hu;exact Awh v
theorem Adf{α:Type}{enc:α→List V}[FlatRow enc]{l:List α}:∀row∈l.map enc,∀u∈row,Fl u:=fun row hr u hu=>by
 obtain⟨x,_,rfl⟩:=XO.1 hr;exact Axx u hu
theorem Bx{α:Type}{enc:α→List V}[FlatRow enc]{l:List α}:∀row∈l.map enc,∀u∈row,Cl u:=fun row hr u hu=>(Adf row hr u hu).cl
theorem Dt{α:Type}{enc:α→List V}[FlatRow enc]{c:Bool}{l:List α}:Cl (.sl c (l.map enc)):=Agx Bx
def vB:V→Bool
 |.v _=>true
 |_=>false
def vsB:List V→Bool
 |[]=>true
 |u::us=>bif vB u then vsB us else false
def clB:V→Bool
 |.v _=>true
 |.agg cs=>vsB cs
 |.tup cs=>vsB cs
 |.clo _ cs=>vsB cs
 |.sl false []=>true
 |_=>false
def Ajs:List (List V)→Bool
 |[]=>true
 |r::rs=>bif vsB r then Ajs rs else false
theorem Baa{u:V}(h:vB u=true):Fl u:=by
 cases u<;>first|exact Awh _|cases h
theorem Xw:∀{us:List V},vsB us=true→∀u∈us,Fl u
 |[],_,u,hu=>by cases hu
 |v::us,h,u,hu=>by
  unfold vsB at h;cases hv:vB v with
  |false=>rw[hv]at h;cases h
  |true=>
   rw[hv]at h;rcases XC.1 hu with rfl|hu
   ·exact Baa hv
   ·exact Xw h u hu
theorem Acz:∀{rs:List (List V)},Ajs rs=true→∀r∈rs,∀u∈r,Fl u
 |[],_,r,hr=>by cases hr
 |r'::rs,h,r,hr=>by
  unfold Ajs at h;cases hv:vsB r' with
  |false=>rw[hv]at h;cases h
  |true=>
   rw[hv]at h;rcases XC.1 hr with rfl|hr
   ·exact Xw hv
   ·exact Acz h r hr
theorem Aw3{f:FuncId}{cs:List V}(h:∀u∈cs,Fl u):Fl (.clo f cs):=fun w w' R R' G G' x hx=>by
 cases hx with
 |clo f cs xs hl hh=>exact .clo f cs xs hl fun i u x h1 h2=>h u (ZH h1) _ _ _ _ _ _ _ (hh i u x h1 h2)
theorem Azk{u:V}(h:clB u=true):Fl u:=by
 cases u with
 |v x=>exact Awh x
 |agg cs=>exact Aw6 (Xw h)
 |tup cs=>exact Ay1 (Xw h)
 |clo f cs=>exact Aw3 (Xw h)
 |sl c rows=>cases c<;>cases rows<;>first|exact Ay3|cases h
 |_=>cases h
theorem A9{u:V}(h:clB u=true):Cl u:=(Azk h).cl
theorem Ec{rs:List (List V)}(h:Ajs rs=true):∀r∈rs,∀u∈r,Cl u:=fun r hr u hu=>(Acz h r hr u hu).cl
theorem Lg{α:Type}{enc:α→List V}[FlatRow enc]{c:Bool}{l:List α}:∀row∈[[V.sl c (l.map enc)]],∀u∈row,Cl u:=by
 intro row hr u hu;simp only[XC,XD,or_false]at hr;subst hr;simp only[XC,XD,or_false]at hu;subst hu;exact Dt
def flB:List Par→Bool
 |[]=>true
 |.c u::ps=>bif clB u then flB ps else false
 |_=>false
theorem T3:∀{rs:List Par},flB rs=true→Ds rs
 |[],_=>fun r hr=>by cases hr
 |.c u::ps,h=>by
  unfold flB at h;cases hv:clB u with
  |false=>rw[hv]at h;cases h
  |true=>
   rw[hv]at h;intro r hr;rcases XC.1 hr with rfl|hr
   ·exact Azk hv
   ·exact T3 h r hr
 |.o _ _ _::_,h=>by cases h
theorem Afl{α:Type}{enc:α→List V}[FlatRow enc]{T:TypeId}{sz:Nat}{l:List α}:Ds [.o T sz (l.map enc)]:=by
 intro r hr;simp only[XC,XD,or_false]at hr;subst hr;exact Adf
theorem Amg{α:Type}{enc:α→List V}[FlatRow enc]{T:TypeId}{sz:Nat}{l:List α}{ps:List Par}(h:flB ps=true):Ds (.o T sz (l.map enc)::ps):=by
 intro r hr;rcases XC.1 hr with rfl|hr
 ·exact Adf
 ·exact T3 h r hr
theorem Gl{rs rs':List (List V)}(h:∀r∈rs,∀u∈r,Cl u)(h':∀r∈rs',∀u∈r,Cl u):∀r∈rs++rs',∀u∈r,Cl u:=fun r hr u hu=>by
 rcases XM.1 hr with h1|h1
 ·exact h r h1 u hu
 ·exact h' r h1 u hu
theorem Apo{H:Nat→Option Ent}{all:List Nat}{bor:Bool}{gone:List Nat}{id g:Nat}{T:TypeId}{sz:Nat}{rows:List (List V)}{us:List V}{ps:List Par}(he:H id=some ⟨g,.t T,sz,rows⟩)(hr:∀row∈rows,∀u∈row,Cl u)(hn:id∉gone)(ha:id∈all)(h:Av H all bor gone us ps):Av H all bor (id::gone) (.own id g::us) (.o T sz rows::ps):=
 Av.give (e:=⟨g,.t T,sz,rows⟩) he rfl rfl hr hn ha h
theorem L5{b:Bool}(h:(!b)=true):b=false:=by cases b;rfl;cases h
theorem Fb{b:Bool}(h:(!b)=false):b=true:=by cases b;cases h;rfl
theorem Ad{p:Prop}:false=true→p:=by simp
theorem Axi{n a b:Int}(h:decide (a≤n)=true):wi n a b=decide (n≤b):=by simp[wi,h]
theorem Ax2{n a b:Int}(h:decide (a≤n)=false):wi n a b=false:=by simp[wi,h]
theorem up1{n k:Nat}{p:(j:Nat)→(j<n)→Prop}(h0:∀j (h:j<n),j<k→p j h)(hk:∀h:k<n,p k h):∀j (h:j<n),j<k+1→p j h:=fun j h hj=>by
 rcases(by omega:j<k∨j=k)with g|rfl
 ·exact h0 j h g
 ·exact hk h
theorem up2{n k:Nat}{p:(j:Nat)→(j+1<n)→Prop}(h0:∀j (h:j+1<n),j<k→p j h)(hk:∀h:k+1<n,p k h):∀j (h:j+1<n),j<k+1→p j h:=fun j h hj=>by
 rcases(by omega:j<k∨j=k)with g|rfl
 ·exact h0 j h g
 ·exact hk h
theorem Fz{row:List V}(h:Ajs [row]=true):∀u∈row,Cl u:=fun u hu=>Ec h row (by simp) u hu
theorem Hy.cell1{env:Nat→V}{H:Nat→Option Ent}{a id gen k off sz:Nat}{agg:Bool}{e:Ent}{row:List V}{r:List RT}{u:V}{us:List V}(h1:env a=.ptr id gen k off)(h2:H id=some e)(h3:e.gen=gen)(h4:e.rows[k]? =some row)(h5:Nat.ble (off+sz) row.length=true)(hu:u=mkV agg ((row.drop off).take sz))(h:Hy env H r us):
  Hy env H ((a,some (agg,sz))::r) (u::us):=by rw[hu];exact .cell h1 h2 h3 h4 (Nat.le_of_ble_eq_true h5) h
theorem Hy.tmp1{env:Nat→V}{H:Nat→Option Ent}{t:Nat}{r:List RT}{u:V}{us:List V}(hu:u=env t)(h:Hy env H r us):Hy env H ((t,none)::r) (u::us):=by rw[hu];exact .tmp h
theorem Da{env:Nat→V}{H:Nat→Option Ent}{ts:List RT}{u v:V}(h1:Cl u)(h2:Cl v)(hG:Hy env H ts [u,v]):∃us gone,Hy env H ts us∧Av H gone true gone us [.c u,.c v]:=⟨_,[],hG,.same h1 (.same h2 (.nil _))⟩
class OneRow {α:Type} (enc:α→List V) (sz:outParam Nat):Prop where
 len:∀x,(enc x).length=sz
 one:∀x,∀u∈enc x,∃v,u=.v v∧v.oneCell'=true
theorem Alk{H:Nat→Option Ent}:∀{us:List V},(∀u∈us,∃v,u=.v v∧v.oneCell'=true)→Iu H us
 |[],_=>trivial
 |u::us,h=>by
  obtain⟨v,rfl,hv⟩:=h u (XB ..);exact⟨hv,Alk fun w hw=>h w (ZL _ hw)⟩
theorem Ac5{α:Type}{enc:α→List V}{sz:Nat}[OneRow enc sz]{H:Nat→Option Ent}{l:List α}:∀row∈l.map enc,row.length=sz∧Iu H row:=fun row hr=>by
 obtain⟨x,_,rfl⟩:=XO.1 hr;exact⟨OneRow.len x,Alk (OneRow.one x)⟩
theorem Axg{rs:List Bj}(h:rs.all Adk=true):∀p∈rs,Adk p=true:=List.all_eq_true.1 h
theorem Avr{rs rs':List (List V)}(h:∀r∈rs,∀u∈r,Cl u)(h':∀r∈rs',∀u∈r,Cl u):∀r∈rs++rs',∀u∈r,Cl u:=Gl h h'
theorem Asw{rs:List (List V)}{n:Nat}(h:∀r∈rs,∀u∈r,Cl u):∀r∈rs.take n,∀u∈r,Cl u:=fun r hr=>h r (List.mem_of_mem_take hr)
theorem Au2{rs:List (List V)}{n:Nat}(h:∀r∈rs,∀u∈r,Cl u):∀r∈rs.drop n,∀u∈r,Cl u:=fun r hr=>h r (List.mem_of_mem_drop hr)
theorem Atv{row:List V}{n:Nat}(h:Ajs [row]=true):∀r∈List.replicate n row,∀u∈r,Cl u:=fun r hr=>by
 obtain⟨_,rfl⟩:=List.mem_replicate.1 hr;exact Fz h
theorem Ari{H:Nat→Option Ent}{id g n sz:Nat}{e:Ent}{T:TypeId}{rows:List (List V)}{us:List V}(hu:us=[.osub id g 0 n])(he:H id=some e)(hg:e.gen=g)(hT:e.T=.t T)(hs:e.sz=sz)(hl:n≤e.rows.length)(hr:∀row∈e.rows,∀u∈row,Cl u)(hq:rows=e.rows.take n):Av H [id] true [id] us [.o T sz rows]:=by
 rw[hu,hq,←hs];exact .givv he hg hT hl hr (by simp) (by simp) (.nil _)
theorem Ad9{H:Nat→Option Ent}{id g sz:Nat}{e:Ent}{T:TypeId}{rows:List (List V)}{us:List V}(hu:us=[.own id g])(he:H id=some e)(hg:e.gen=g)(hT:e.T=.t T)(hs:e.sz=sz)(hr:∀row∈rows,∀u∈row,Cl u)(hq:e.rows=rows):Av H [id] true [id] us [.o T sz rows]:=by
 subst hq;rw[hu,←hs];exact .give he hg hT hr (by simp) (by simp) (.nil _)
theorem nI{a b:Nat}(h:Nat.ble a b=true:=by exact rfl):a≤b:=Nat.le_of_ble_eq_true h
theorem oI{rs:List Bj}(h:rs.all Adk=true:=by exact rfl):∀p∈rs,Adk p=true:=Axg h
theorem dI{l:List Nat}(h:ndB l=true:=by exact rfl):l.Nodup:=Ko h
theorem tI{p:Prop}(h:p:=by(repeat' (first|exact trivial|refine⟨rfl,?_⟩))):p:=h
theorem lI{p:Prop}(h:p:=by(simp only[ZE,ZF,ZJ,ZN,List.length_set,List.length_replicate,maxLen];omega)):p:=h
theorem fI{rs:List Par}(h:Ds rs:=by(first|exact T3 rfl|exact Afl|exact Amg rfl|exact flat_own2 rfl)):Ds rs:=h
theorem mfI{rs:List Bj}(h:∀p∈rs,Vi p:=by(intro p hp;simp only[B5,List.nil_append,List.append_nil,XC,XD,or_false]at hp;subst hp;first|exact Afl|exact T3 rfl)):∀p∈rs,Vi p:=h
theorem cBI{H:Nat→Option Ent}{all:List Nat}{cs cs':List V}(h:Cj H all cs cs':=by(repeat' (first|exact Cj.nil|refine Cj.same (by first|exact A9 rfl|exact Dt|exact cl_nil|assumption) ?_|refine Cj.nilsl _ ?_|refine Aiq rfl rfl (by first|exact Ec rfl|exact Bx|exact cl_setB rfl|exact cl_setG (cl_setB rfl) rfl|exact Gl Bx (Ec rfl)|exact Lg|exact cl_rl2) (by decide) ?_))):Cj H all cs cs':=h
theorem aI{H:Nat→Option Ent}{all gone:List Nat}{bor:Bool}{us:List V}{ps:List Par}(h:Av H all bor gone us ps:=by(repeat' (first|exact Av.nil _|exact Ml (by assumption)|refine Av.same (by first|exact A9 rfl|exact Dt|exact cl_nil|exact cl_one|exact cl_ll1|exact cl_ll2|exact Tp (by assumption)|exact O4 (by repeat' (first|exact Lt|refine Jm (by first|exact A9 rfl|exact Dt|exact cl_nil|assumption) ?_))) ?_|refine Av.nilsl _ ?_|refine Av.nilown _ _ (by decide) ?_|refine Av.borp rfl rfl rfl (Fz rfl) (by decide) ?_|refine Av.borc (by(repeat' (first|exact Aez|refine Aka rfl rfl rfl (by first|exact Fz rfl|exact cl_r1 rfl|exact cl_r1b) ?_ ?_|refine cap_m rfl (by decide) ?_|refine cap_c (by first|exact A9 rfl|exact Dt|exact cl_nil|exact cl_one|exact cl_ll1|exact cl_ll2|exact Tp (by assumption)|exact O4 (by repeat' (first|exact Lt|refine Jm (by first|exact A9 rfl|exact Dt|exact cl_nil|assumption) ?_))) ?_|decide))) ?_|refine Av.bora cBI ?_|refine Av.bor rfl rfl (Qv (by first|exact Ec rfl|exact Bx|exact cl_setB rfl|exact cl_setG (cl_setB rfl) rfl|exact Gl Bx (Ec rfl)|exact Lg|exact cl_rl2)) (by decide) ?_|refine Apo rfl (by first|exact Ec rfl|exact Bx|exact cl_setB rfl|exact cl_setG (cl_setB rfl) rfl|exact Gl Bx (Ec rfl)|exact Lg|exact cl_rl2) (by decide) (by decide) ?_))):Av H all bor gone us ps:=h
theorem aM{H:Nat→Option Ent}{all gone:List Nat}{bor:Bool}{us:List V}{ps:List Bj}(h:Bk H all bor gone us ps:=by(repeat' (first|exact Bk.nil _|refine Ij (by first|exact A9 rfl|exact Dt|exact cl_nil|exact cl_one|exact cl_ll1|exact cl_ll2|exact Tp (by assumption)|exact O4 (by repeat' (first|exact Lt|refine Jm (by first|exact A9 rfl|exact Dt|exact cl_nil|assumption) ?_))) ?_|refine aM_nilsl _ ?_|refine aM_nilown _ _ (by decide) ?_|refine aM_mf rfl (Fz rfl) (by decide) (by decide) rfl ?_|refine aM_pf rfl (Fz rfl) (by decide) (by decide) ?_|refine Bah rfl (by decide) (by decide) ?_|refine Azo rfl (by decide) (by decide) ?_|refine Aul rfl rfl rfl (Fz rfl) (by decide) ?_|refine Al3 (by(repeat' (first|exact Aez|refine Aka rfl rfl rfl (by first|exact Fz rfl|exact cl_r1 rfl|exact cl_r1b) ?_ ?_|refine cap_m rfl (by decide) ?_|refine cap_c (by first|exact A9 rfl|exact Dt|exact cl_nil|exact cl_one|exact cl_ll1|exact cl_ll2|exact Tp (by assumption)|exact O4 (by repeat' (first|exact Lt|refine Jm (by first|exact A9 rfl|exact Dt|exact cl_nil|assumption) ?_))) ?_|decide))) ?_|refine Acx cBI ?_|refine Awz rfl rfl (Qv (by first|exact Ec rfl|exact Bx|exact cl_setB rfl|exact cl_setG (cl_setB rfl) rfl|exact Gl Bx (Ec rfl)|exact Lg|exact cl_rl2)) (by decide) ?_|refine aM_give rfl (by first|exact Ec rfl|exact Bx|exact cl_setB rfl|exact cl_setG (cl_setB rfl) rfl|exact Gl Bx (Ec rfl)|exact Lg|exact cl_rl2) (by decide) (by decide) ?_|refine Aun rfl (by first|exact Ec rfl|exact Bx|exact cl_setB rfl|exact cl_setG (cl_setB rfl) rfl|exact Gl Bx (Ec rfl)|exact Lg|exact cl_rl2) (by decide) (by decide) (by simp) ?_))):Bk H all bor gone us ps:=h
theorem hxI{α:Type}{a b:α}{p:Prop}(hn:a=b)(h:a=b→p:=by(intro hq;(repeat' (first|exact trivial|refine⟨rfl,?_⟩|refine⟨(by show some (Ent.mk _ _ _ _)=some (Ent.mk _ _ _ _);(first|(rw[hq];done)|(rw[hq];rfl)|(rw[hq,ZI];done)|(rw[hq,ZI];rfl)|(rw[hq,ZI,ZI];done)|(rw[hq,ZI,ZI];rfl))),?_⟩|refine⟨(by show V.v _=V.v _;(first|(rw[hq];done)|(rw[hq];rfl)|(rw[hq,ZI];done)|(rw[hq,ZI];rfl)|(rw[hq,ZI,ZI];done)|(rw[hq,ZI,ZI];rfl))),?_⟩|refine⟨(by show V.sl _ _=V.sl _ _;(first|(rw[hq];done)|(rw[hq];rfl)|(rw[hq,ZI];done)|(rw[hq,ZI];rfl)|(rw[hq,ZI,ZI];done)|(rw[hq,ZI,ZI];rfl))),?_⟩)))):p:=h hn
structure Axz(q:Prop):Prop where
 out:q
theorem goI{p q:Prop}(h:q)(e:Axz q→p:=by(intro hq;(conv=>whnf);(repeat' ((first|refine⟨rfl,?_⟩|refine⟨_,A7 (by assumption),?_⟩|refine⟨_,(by exact Sm),?_⟩|refine⟨_,D7 (by omega) (by omega),?_⟩|refine⟨_,Rz (by omega) (by omega),?_⟩|refine⟨by decide,_,Pr (by omega),?_⟩);(conv=>whnf)));exact hq.out)):p:=e ⟨h⟩
theorem G0{p q:Prop}(h:q)(e:Axz q→p:=by(intro hq;(conv=>whnf);(repeat' ((first|refine⟨rfl,?_⟩|refine⟨_,A7 (by assumption),?_⟩|refine⟨_,(by exact Sm),?_⟩|refine⟨_,D7 (by omega) (by omega),?_⟩|refine⟨_,Rz (by omega) (by omega),?_⟩|refine⟨by decide,_,Pr (by omega),?_⟩);(conv=>whnf)));exact hq.out)):p:=e ⟨h⟩
theorem wI{p:Prop}(h:p:=by exact Baq (gone:=[]) (gone1:=[]) rfl aI (by decide) (by decide) (by decide) rfl aM):p:=h
theorem cX{A:List Par→Bool→List Nat→Prop}{F:List Par→List Par→Prop}{B L:List Par→Prop}{K:List Par→List Nat→Prop}{ps rs:List Par}(hF:F ps rs)(hK:K rs [])(hA:A ps false []:=by exact aI)(hL:L rs:=by exact nI):∃ps rs bor gone,A ps bor gone∧F ps rs∧(bor=true→B rs)∧L rs∧K rs gone:=⟨ps,rs,false,[],hA,hF,Ad,hL,hK⟩
theorem cY{A:List Par→Bool→List Nat→Prop}{F:List Par→List Par→Prop}{B L:List Par→Prop}{K:List Par→List Nat→Prop}{ps rs:List Par}(hF:F ps rs)(hK:K rs [])(hA:A ps true []:=by exact aI)(hB:B rs:=by exact fI)(hL:L rs:=by exact nI):∃ps rs bor gone,A ps bor gone∧F ps rs∧(bor=true→B rs)∧L rs∧K rs gone:=⟨ps,rs,true,[],hA,hF,fun _=>hB,hL,hK⟩
theorem G1{α0:Type}{p:Prop}{q:α0→Prop}(h:∀a0,q a0)(e:(∀a0,Axz (q a0))→p:=by(intro hq;(conv=>whnf);(repeat' ((first|refine⟨rfl,?_⟩|refine⟨_,A7 (by assumption),?_⟩|refine⟨_,(by exact Sm),?_⟩|refine⟨_,D7 (by omega) (by omega),?_⟩|refine⟨_,Rz (by omega) (by omega),?_⟩|refine⟨by decide,_,Pr (by omega),?_⟩);(conv=>whnf)));intro g0;(conv=>whnf);(repeat' ((first|refine⟨rfl,?_⟩|refine⟨_,A7 (by assumption),?_⟩|refine⟨_,(by exact Sm),?_⟩|refine⟨_,D7 (by omega) (by omega),?_⟩|refine⟨_,Rz (by omega) (by omega),?_⟩|refine⟨by decide,_,Pr (by omega),?_⟩);(conv=>whnf)));exact(hq g0).out)):p:=e fun a0=>⟨h a0⟩
namespace Pl
section
variable {α:Type} {lt:α→α→Bool} {cf:α→Int} {l:List α}
theorem Ot(htr:∀x y z,lt x y=true→lt y z=true→lt x z=true)(hs:sorted lt l=true):∀j i,(hj:j<l.length)→(hij:i<j)→lt (l[i]'(by omega)) l[j]=true:=by
 intro j
 induction j with
 |zero=>intro i _ h;omega
 |succ j ih=>
  intro i hj hij;have h1:=Y4 hs j hj;rcases(by omega:i<j∨i=j)with g|rfl
  ·exact htr _ _ _ (ih i (by omega) g) h1
  ·exact h1
def Abc(cf:α→Int)(l:List α):Prop:=∀i j,(hj:j<l.length)→(hij:i<j)→cf l[j]≤0→cf (l[i]'(by omega))<0
theorem Afm(htr:∀x y z,lt x y=true→lt y z=true→lt x z=true)(hcf:∀x y,lt x y=true→cf y≤0→cf x<0)(hs:sorted lt l=true):Abc cf l:=
 fun i j hj hij h=>hcf _ _ (Ot htr hs j i hj hij) h
theorem Abc.mono(h:Abc cf l):Ajj cf l:=fun i j hi hj hij hc=>by
 rcases(by omega:i<j∨i=j)with g|rfl
 ·exact h i j hj g (by omega)
 ·exact hc
theorem Xi(h:hit cf l=true):low cf l<l.length:=by
 rcases Nat.lt_or_ge (low cf l) l.length with g|g
 ·exact g
 ·rw[Am5 (by omega)]at h;cases h
theorem Aqg(h:hit cf l=true):cf (l[low cf l]'(Xi h))=0:=by
 have:=Ajq (Xi h);rw[this]at h;simpa using h
theorem Amw{x:α}(hx:x∈l.take (low cf l)):cf x<0:=by
 obtain⟨i,hi,rfl⟩:=List.getElem_of_mem hx;rw[ZM]at hi;rw[List.getElem_take];exact Ajw (by omega) (by omega)
theorem Ain(hm:Abc cf l)(h:hit cf l=false){x:α}(hx:x∈l.drop (low cf l)):0<cf x:=by
 obtain⟨i,hi,rfl⟩:=List.getElem_of_mem hx;rw[List.length_drop]at hi;rw[List.getElem_drop];have hlo:low cf l<l.length:=by omega
 have h0:=Aij hlo;have h1:cf l[low cf l]≠0:=by
  rw[Ajq hlo]at h;simpa using h
 rcases Nat.eq_zero_or_pos i with rfl|hp
 ·simp only[Nat.add_zero];omega
 ·have:=hm (low cf l) (low cf l+i) (by omega) (by omega);omega
theorem Aph{k:Nat}(hk:k<l.length):l=l.take k++l[k]::l.drop (k+1):=by
 rw[←List.drop_eq_getElem_cons hk,List.take_append_drop]
def Afb(cf:α→Int)(g:α)(l:List α):List α:=if hit cf l=true then l.set (low cf l) g else l.take (low cf l)++[g]++l.drop (low cf l)
end
end Pl
namespace Pl
structure Ord{α:Type}(lt:α→α→Bool)(cf:α→α→Int):Prop where
 neg:∀g x,cf g x<0↔lt x g=true
 pos:∀g x,0<cf g x↔lt g x=true
 trans:∀x y z,lt x y=true→lt y z=true→lt x z=true
 left:∀g x y,cf g x=0→lt x y=lt g y
 right:∀g x y,cf g x=0→lt y x=lt y g
section
variable {α:Type} {lt:α→α→Bool} {cf:α→α→Int} {l:List α}
theorem Ord.smono(o:Ord lt cf)(hs:sorted lt l=true)(g:α):Abc (cf g) l:=
 Afm o.trans (fun x y h hy=>by
  rw[o.neg];rcases(by omega:cf g y<0∨cf g y=0)with q|q
  ·exact o.trans _ _ _ h ((o.neg g y).1 q)
  ·rw[←o.right g y x q];exact h) hs
theorem W8(h:∀j i,(hj:j<l.length)→(hij:i<j)→lt (l[i]'(by omega)) l[j]=true):sorted lt l=true:=
 Pd fun i hi=>h (i+1) i hi (by omega)
theorem Aib(ht:∀x y z,lt x y=true→lt y z=true→lt x z=true):sorted lt l=true↔l.Pairwise (fun x y=>lt x y=true):=by
 constructor
 ·intro h;rw[List.pairwise_iff_getElem];intro i j hi hj hij;exact Ot ht h j i hj hij
 ·intro h;rw[List.pairwise_iff_getElem]at h;exact W8 fun j i hj hij=>h i j (by omega) hj hij
theorem Ord.put(o:Ord lt cf)(hs:sorted lt l=true)(g:α):sorted lt (Afb (cf g) g l)=true:=by
 have hm:=o.smono hs g;rw[Aib o.trans]at hs ⊢;unfold Afb;split
 ·rename_i h;have hl:=Xi h;have h0:=Aqg h;rw[List.set_eq_take_append_cons_drop,if_pos hl];have e:=Aph hl;rw[e]at hs;rw[List.pairwise_append,List.pairwise_cons]at hs ⊢;refine⟨hs.1,⟨fun y hy=>?_,hs.2.1.2⟩,fun x hx y hy=>?_⟩
  ·rw[←o.left g _ y h0];exact hs.2.1.1 y hy
  ·rcases XC.1 hy with rfl|hy
   ·rw[←o.right _ _ x h0];exact hs.2.2 x hx _ (XB ..)
   ·exact hs.2.2 x hx y (ZL _ hy)
 ·rename_i h;have hf:hit (cf g) l=false:=by simpa using h
  have e:l=l.take (low (cf g) l)++l.drop (low (cf g) l):=(List.take_append_drop _ _).symm;rw[e,List.pairwise_append]at hs;rw[ZS,List.pairwise_append,List.singleton_append,List.pairwise_cons];refine⟨hs.1,⟨fun y hy=>(o.pos g y).1 (Ain hm hf hy),hs.2.1⟩,fun x hx y hy=>?_⟩;rcases XC.1 hy with rfl|hy
  ·exact(o.neg _ x).1 (Amw hx)
  ·exact hs.2.2 x hx y hy
def upd(cf:α→α→Int)(nw:α→α→Bool)(l:List α)(g:α):List α:=
 match l[low (cf g) l]? with
 |some x=>if hit (cf g) l=true∧nw g x=false then l else Afb (cf g) g l
 |none=>Afb (cf g) g l
theorem Amu(nw:α→α→Bool)(g:α):upd cf nw l g=l∨upd cf nw l g=Afb (cf g) g l:=by
 unfold upd;split
 ·split
  ·exact .inl rfl
  ·exact .inr rfl
 ·exact .inr rfl
def Ayo(cf:α→α→Int)(nw:α→α→Bool)(a b:List α):List α:=b.foldl (upd cf nw) a
theorem Ord.upd(o:Ord lt cf)(nw:α→α→Bool)(hs:sorted lt l=true)(g:α):sorted lt (upd cf nw l g)=true:=by
 rcases Amu (cf:=cf) (l:=l) nw g with h|h
 ·rw[h];exact hs
 ·rw[h];exact o.put hs g
theorem Ord.join(o:Ord lt cf)(nw:α→α→Bool):∀(b:List α) {a:List α},sorted lt a=true→sorted lt (Ayo cf nw a b)=true
 |[],a,h=>h
 |g::b,a,h=>o.join nw b (o.upd nw h g)
end
end Pl
namespace Pl
section
variable {α:Type} {cf:α→α→Int} {nw:α→α→Bool} {l:List α} {g:α}
end
end Pl
namespace Pl

end Pl
namespace Pl
def okB(n:Int):Bool:=decide ((97≤n∧n≤122)∨(48≤n∧n≤57)∨n=45∨n=95)
def lab(s:List UInt8):Bool:=s.all (fun c=>okB c.toNat)&&decide (1≤s.length∧s.length≤30)
theorem Akz{s:List UInt8}(h:∀i,(hi:i<s.length)→okB (s[i]).toNat=true)(h1:1≤s.length)(h2:s.length≤30):lab s=true:=by
 unfold lab;rw[Bool.and_eq_true_iff];refine⟨List.all_eq_true.2 fun c hc=>?_,by simp;omega⟩;obtain⟨i,hi,rfl⟩:=List.getElem_of_mem hc;exact h i hi
theorem At2{s:List UInt8}{i:Nat}(hi:i<s.length)(h:okB (s[i]).toNat=false):lab s=false:=by
 unfold lab;rw[Bool.and_eq_false_iff];left;rw[List.all_eq_false];exact⟨s[i],ZK hi,by simp[h]⟩
theorem Af1{s:List UInt8}(h:¬(1≤s.length∧s.length≤30)):lab s=false:=by
 unfold lab;simp only[h,decide_false,Bool.and_false]
theorem Aps{n:Int}(h:¬((97≤n∧n≤122)∨(48≤n∧n≤57)∨n=45∨n=95)):okB n=false:=by
 unfold okB;simpa using h
theorem Al6{n:Int}(h:(97≤n∧n≤122)∨(48≤n∧n≤57)∨n=45∨n=95):okB n=true:=by
 unfold okB;simpa using h
end Pl
theorem hid{p:Prop}(h:p):Hid p:=h
theorem Kt{k:IntKind}{a b:Int}(h:a=b):Ending.returned (.int k a)=.returned (.int k b):=by rw[h]
theorem Kb{a b:Bool}(h:a=b):Ending.returned (.bool a)=.returned (.bool b):=by rw[h]
theorem keep_all{W w1:World}{g:Nat}{f:Nat→Option Value}(hb:Below W.heap.size W w1)(hlt:g<W.heap.size)(h:∀i,W.cell? ⟨g,i,none⟩=f i):∀i,w1.cell? ⟨g,i,none⟩=f i:=
 fun i=>(hb.cell (p:=⟨g,i,none⟩) hlt).trans (h i)
theorem J8{α:Type}{enc:α→List Value}{sz:Nat}(hs:∀x,(enc x).length=sz):∀l:List α,(l.flatMap enc).length=l.length*sz
 |[]=>by simp
 |x::r=>by rw[List.flatMap_cons,ZF,hs,J8 hs r,ZJ,Nat.add_mul];omega
theorem Rf{α:Type}{enc:α→List Value}{sz:Nat}(hs:∀x,(enc x).length=sz):∀{l:List α} (i j:Nat) (hi:i<l.length) (hj:j<sz),(l.flatMap enc)[i*sz+j]? =(enc l[i])[j]?
 |x::r,0,j,_,hj=>by
  rw[List.flatMap_cons,Nat.zero_mul,Nat.zero_add,ZQ (by rw[hs];exact hj)];rfl
 |x::r,i+1,j,hi,hj=>by
  rw[List.flatMap_cons,ZP (by rw[hs,Nat.add_mul];omega),hs,show(i+1)*sz+j-sz=i*sz+j by rw[Nat.add_mul];omega];exact Rf hs i j (by simpa using hi) hj
def Blk(w:World)(g:Nat)(t:TypeId)(cs:Array Value):Prop:=w.heap[g]? =some (.cells cs t (0,0))
section
variable {w w':World} {g:Nat} {t:TypeId} {cs:Array Value}
theorem Blk.lt(h:Blk w g t cs):g<w.heap.size:=by
 rcases Nat.lt_or_ge g w.heap.size with hlt|hge
 ·exact hlt
 ·unfold Blk at h;rw[Array.getElem?_eq_none hge]at h;cases h
theorem Blk.cell(h:Blk w g t cs)(i:Nat):w.cell? ⟨g,i,none⟩=cs[i]? :=by
 unfold Blk at h;simp[World.cell?,h]
theorem Blk.frozen(h:Blk w g t cs)(i:Nat):w.frozen? ⟨g,i,none⟩=false:=by
 unfold Blk at h;simp[World.frozen?,h]
theorem Blk.new(w:World)(t:TypeId)(cs:Array Value):Blk (w.alloc (.cells cs t)) w.heap.size t cs:=heap_alloc_new w _
theorem Blk.new_(w:World)(t:TypeId)(cs:Array Value){g:Nat}(h:g=w.heap.size):Blk (w.alloc (.cells cs t)) g t cs:=h▸heap_alloc_new w _
theorem Blk.drew(h:Blk w g t cs):Blk w.drew g t cs:=h
theorem Blk.drewN(h:Blk w g t cs)(n:Nat):Blk (w.drewN n) g t cs:=h
theorem Blk.alloc(h:Blk w g t cs)(o:Obj):Blk (w.alloc o) g t cs:=(Below.heap_alloc w o g h.lt).trans h
theorem Blk.set_(h:Blk w g t cs)(i:Nat)(u:Value):Blk (w.setCell ⟨g,i,none⟩ u) g t (cs.setIfInBounds i u):=by
 unfold Blk at h ⊢;simp[World.setCell,Array.getElem?_modify,h]
theorem Blk.far(h:Blk w g t cs){p:Addr}(hp:g≠p.block)(u:Value):Blk (w.setCell p u) g t cs:=(Below.heap_setCell w p u g hp).trans h
theorem Blk.grown{row:Option Nat}(h:Blk w g t cs)(hb:w.grownBy w' row)(hg:some g≠row):Blk w' g t cs:=(hb.block g h.lt hg).trans h
end
theorem Q5(a:ByteArray)(w:World):Calls Tryz.prog 200 #[.string a] w fun e w'=>e=.returned (.bool false)∧w=w':=by
 have h:(a.toList==a.toList)=true:=by simp
 go_enter Tryz.func200,Tryz.ntmps200
 go_wp2
 go_ret
 exact⟨Kb (by simp),rfl⟩
theorem Ael(a b:ByteArray)(w:World):Calls Tryz.prog 136 #[.string a,.string b] w fun e w'=>e=.returned (.int .i64 (D4 a b))∧w=w':=by
 rcases Bool.eq_false_or_eq_true (slt a b)with h|h
 ·have HE:=hid (Wy h);unfold slt at h
  go_enter Tryz.func136,Tryz.ntmps136
  go_wp2_with (go_at_call 200;refine(Q5 _ _).mono ?_;rintro e w' ⟨rfl,rfl⟩)
  go_ret
  exact⟨Kt HE.out.symm,rfl⟩
 ·rcases Bool.eq_false_or_eq_true (slt b a)with g|g
  ·have HE:=hid (W0 g);have h2:(a.toList==b.toList)=false:=Adl (fun e=>by subst e;rw[Fh]at g;cases g);unfold slt at h;clear g
   go_enter Tryz.func136,Tryz.ntmps136
   go_wp2_with (go_at_call 200;refine(Q5 _ _).mono ?_;rintro e w' ⟨rfl,rfl⟩)
   go_ret
   exact⟨Kt HE.out.symm,rfl⟩
  ·obtain rfl:=Su h g;have HE:=hid (O0 a);have h2:(a.toList==a.toList)=true:=by simp
   unfold slt at h;clear g
   go_enter Tryz.func136,Tryz.ntmps136
   go_wp2_with (go_at_call 200;refine(Q5 _ _).mono ?_;rintro e w' ⟨rfl,rfl⟩)
   go_ret
   exact⟨Kt HE.out.symm,rfl⟩
def Dy(a b:Int):Int:=if a<b then -1 else if b<a then 1 else 0
theorem Ql(a:Int)(w:World):Calls Tryz.prog 102 #[.int .i64 a] w fun e w'=>e=.returned (.bool false)∧w=w':=by
 have h:(a==a)=true:=by simp
 go_enter Tryz.func102,Tryz.ntmps102
 go_wp2
 go_ret
 exact⟨Kb (by simp),rfl⟩
theorem Agq(a b:Int)(w:World):Calls Tryz.prog 46 #[.int .i64 a,.int .i64 b] w fun e w'=>e=.returned (.int .i64 (Dy a b))∧w=w':=by
 by_cases h:a<b
 ·have HE:Hid (Dy a b= -1):=hid (by simp[Dy,h])
  go_enter Tryz.func46,Tryz.ntmps46
  go_wp2_with (go_at_call 102;refine(Ql _ _).mono ?_;rintro e w' ⟨rfl,rfl⟩)
  go_ret
  exact⟨Kt HE.out.symm,rfl⟩
 ·by_cases g:b<a
  ·have HE:Hid (Dy a b=1):=hid (by simp[Dy,h,g])
   go_enter Tryz.func46,Tryz.ntmps46
   go_wp2_with (go_at_call 102;refine(Ql _ _).mono ?_;rintro e w' ⟨rfl,rfl⟩)
   go_ret
   exact⟨Kt HE.out.symm,rfl⟩
  ·have HE:Hid (Dy a b=0):=hid (by simp[Dy,h,g])
   go_enter Tryz.func46,Tryz.ntmps46
   go_wp2_with (go_at_call 102;refine(Ql _ _).mono ?_;rintro e w' ⟨rfl,rfl⟩)
   go_ret
   exact⟨Kt HE.out.symm,rfl⟩
def Cc:List Int→Int
 |[]=>0
 |x::r=>if x=0 then Cc r else x
theorem Q9:∀{l:List Int} {k:Nat} (hk:k<l.length),(∀i,(h:i<l.length)→i<k→l[i]=0)→l[k]≠0→Cc l=l[k]
 |x::r,0,_,_,hne=>by
  simp only[List.getElem_cons_zero]at hne ⊢;simp[Cc,hne]
 |x::r,k+1,hk,h,hne=>by
  have h0:x=0:=h 0 (by simp) (by omega);subst h0;simp only[Cc,if_true,List.getElem_cons_succ]at hne ⊢;exact Q9 (by simpa using hk) (fun i hi hik=>h (i+1) (by simpa using hi) (by omega)) hne
theorem M1:∀{l:List Int},(∀i,(h:i<l.length)→l[i]=0)→Cc l=0
 |[],_=>rfl
 |x::r,h=>by
  have h0:x=0:=h 0 (by simp);subst h0;simp only[Cc,if_true];exact M1 fun i hi=>h (i+1) (by simpa using hi)
def Bar(l:List Int)(i:Value):Prop:=∃k:Nat,k≤l.length∧i=.int .i64 k∧∀j,(h:j<l.length)→j<k→l[j]=0
set_option maxRecDepth 100000 in
theorem Avx(g:Nat)(vs:List Int)(w:World)(hg:Blk w g 3 (vs.map (Value.int .i64)).toArray)(hn:vs.length≤1000):
  Calls Tryz.prog 45 #[.slice (some ⟨g,0,none⟩) vs.length vs.length] w fun e w'=>e=.returned (.int .i64 (Cc vs))∧w=w':=by
 have HG:=hid hg;clear hg
 go_enter Tryz.func45,Tryz.ntmps45
 go_wp2
 go_loop [8] (fun i=>Bar vs i) (fun i=>vs.length-(intOf i).toNat)
 case atStart=>exact⟨0,ZU _,rfl,fun j _ h=>absurd h (by omega)⟩
 case round=>
  obtain⟨k,hk,rfl,h0⟩:=hrel;have H0:=hid h0;clear h0;by_cases hlt:k<vs.length
  ·have g0:w.cell? ⟨g,k,none⟩=some (.int .i64 vs[k]):=by
    rw[HG.out.cell];simp[hlt]
   by_cases hz:vs[k]=0
   ·have hb:(vs[k]==0)=true:=by simpa using hz
    have HN:Hid (∀j,(h:j<vs.length)→j<k+1→vs[j]=0):=hid (fun j hj hjk=>by
     rcases(by omega:j<k∨j=k)with q|rfl
     ·exact H0.out j hj q
     ·exact hz)
    clear hz;generalize vs[k]=x at *
    go_wp2
    go_round
    case rel=>exact⟨k+1,by omega,by go_num,HN.out⟩
    case measure=>simp[intOf];omega
   ·have hb:(vs[k]==0)=false:=by simpa using hz
    have HE:=hid (Q9 hlt H0.out hz);clear hz;generalize vs[k]=x at *
    go_wp2
    go_ret
    exact⟨Kt HE.out.symm,rfl⟩
  ·have HE:=hid (M1 (l:=vs) (fun j h=>H0.out j h (by omega)))
   go_wp2
   go_ret
   exact⟨Kt HE.out.symm,rfl⟩
theorem Agr{s:ByteArray}{k:Nat}(h:∀j,(hj:j<s.data.toList.length)→j<k→okB (s.data.toList[j]).toNat=true)(hlt:k<s.size)(hk:okB (s[k]).toNat=true):
  ∀j,(hj:j<s.data.toList.length)→j<k+1→okB (s.data.toList[j]).toNat=true:=by
 intro j hj hjk;rcases(by omega:j<k∨j=k)with g|rfl
 ·exact h j hj g
 ·exact hk
theorem Ry(s:ByteArray):s.toList.isEmpty=decide (s.size=0):=by
 rw[ByteArray.toList_eq,Bool.eq_iff_iff,List.isEmpty_iff_length_eq_zero,decide_eq_true_eq,Array.length_toList];rfl
theorem Aq3{s:ByteArray}(h1:1≤s.size∧s.size≤30→lab s.data.toList=true)(h2:¬(1≤s.size∧s.size≤30)→lab s.data.toList=false)(e:s.toList.isEmpty=false):decide ((s.size:Int)≤30)=lab s.data.toList:=by
 have e0:s.size≠0:=by simpa[Ry]using e
 by_cases g:s.size≤30
 ·rw[h1 ⟨by omega,g⟩];simp;omega
 ·rw[h2 (by omega)];simp;omega
theorem Aqt{s:ByteArray}(h2:¬(1≤s.size∧s.size≤30)→lab s.data.toList=false)(e:s.toList.isEmpty=true):false=lab s.data.toList:=by
 have e0:s.size=0:=by simpa[Ry]using e
 rw[h2 (by omega)]
theorem Are(w:World)(C:Array Value)(t:TypeId)(fr:Nat×Nat)(k:Nat):(w.alloc (.cells C t fr)).drew.cell? ⟨w.heap.size,k,none⟩=C[k]? :=by
 have h:(w.alloc (.cells C t fr)).drew.heap[w.heap.size]? =some (.cells C t fr):=heap_alloc_new w _;unfold World.cell?;rw[h];rfl
theorem Al8{s:ByteArray}{k:Nat}(hlt:k<s.size)(hk:okB (s[k]).toNat=false):false=lab s.data.toList:=
 (At2 (i:=k) (s:=s.data.toList) (by simpa using hlt) hk).symm
theorem Ar5 (s : ByteArray) (w : World) (hs : s.size ≤ 9223372036854775807) :
    Calls Tryz.prog 63 #[.string s] w fun e w' => e = .returned (.bool (lab s.data.toList)) ∧ w = w' := by
  go_enter Tryz.func63, Tryz.ntmps63
  go_wp2
  go_loop [3] (fun i => ∃ k : Nat, k ≤ s.size ∧ i = .int .i64 k ∧ ∀ j, (hj : j < s.data.toList.length) → j < k → okB (s.data.toList[j]).toNat = true) (fun i => s.size - (intOf i).toNat)
  case atStart => exact ⟨0, ZU _, rfl, fun j _ h => absurd h (by omega)⟩
  case round =>
    obtain ⟨k, hk, rfl, hall⟩ := hrel
    have HA := hid hall
    clear hall
    by_cases hlt : k < s.size
    · go_wp2
      all_goals first
        | (go_round
           case rel => exact ⟨k + 1, by omega, by go_num, Agr HA.out hlt (Al6 (by go_light; clear HA; first | omega | (simp_all; done) | (simp_all; omega)))⟩
           case measure => simp [intOf]; omega)
        | (go_ret
           exact ⟨Kb (Al8 hlt (Aps (by go_light; clear HA; first | omega | (simp_all; done) | (simp_all; omega)))), rfl⟩)
    · have HL := fun (g : 1 ≤ s.size ∧ s.size ≤ 30) => Akz (s := s.data.toList) (fun i hi => HA.out i hi (by simp at hi; omega)) (by simpa using g.1) (by simpa using g.2)
      have HN := fun (g : ¬ (1 ≤ s.size ∧ s.size ≤ 30)) => Af1 (s := s.data.toList) (by simpa using g)
      have HL := hid HL
      have HN := hid HN
      clear HA
      go_wp2
      all_goals go_ret
      all_goals exact ⟨Kb (by
        go_light
        by_cases g : 1 ≤ s.size ∧ s.size ≤ 30
        · rw [HL.out g] <;> first | rfl | (simp <;> omega)
        · rw [HN.out g] <;> first | rfl | (simp <;> omega)), rfl⟩
theorem Ang(s:ByteArray)(w:World):∃(cap:Nat) (C:Array Value) (fr:Nat×Nat),
  (convert 9 173 (.string s)).run Tryz.prog w=.ok (.slice (some ⟨w.heap.size,0,none⟩) s.size cap) (w.drew.alloc (.cells C 5 fr))∧
  ∀j,(h:j<s.size)→C[j]? =some (.int .u8 ((s[j]).toNat:Int)):=by
 refine⟨_,_,_,run_bytes_of_string w 9 173 5 s Tryz.underlying9 Tryz.underlying173 Tryz.underlying5,?_⟩;intro j h;exact bytesRow_at s _ j h
set_option maxRecDepth 100000 in
theorem Ag9 (s : ByteArray) (w : World) (hs : s.size ≤ 9223372036854775807) :
    Calls Tryz.prog 88 #[.string s] w fun e w' => e = .returned (.bool (lab s.data.toList)) ∧ Below w.heap.size w w' ∧ w.drawn ≤ w'.drawn := by
  obtain ⟨cap, C, fr, hrun, hC⟩ := Ang s w
  have HC := hid hC
  clear hC
  have hB : Below w.heap.size w (w.alloc (.cells C 5 fr)).drew ∧ w.drawn ≤ (w.alloc (.cells C 5 fr)).drew.drawn := ⟨(by repeat (first | exact Below.refl _ _ | assumption | refine Below.drew ?_ | refine below_drewN ?_ _ | refine Below.alloc ?_ (by simp; try omega) _ | refine Below.setCell ?_ (by simp; try omega) _)), Nat.le_succ _⟩
  have HB := hid hB
  clear hB
  go_enter Tryz.func88, Tryz.ntmps88
  go_wp2
  go_loop [8] (fun i => ∃ k : Nat, k ≤ s.size ∧ i = .int .i64 k ∧ ∀ j, (hj : j < s.data.toList.length) → j < k → okB (s.data.toList[j]).toNat = true) (fun i => s.size - (intOf i).toNat)
  case atStart => exact ⟨0, ZU _, rfl, fun j _ h => absurd h (by omega)⟩
  case round =>
    obtain ⟨k, hk, rfl, hall⟩ := hrel
    have HA := hid hall
    clear hall
    by_cases hlt : k < s.size
    · have hcell : (w.alloc (.cells C 5 fr)).drew.cell? ⟨w.heap.size, k, none⟩ = some (.int .u8 ((s[k]).toNat : Int)) := (Are w C 5 fr k).trans (HC.out k hlt)
      have hby : ((s[k]).toNat : Int) ≤ 255 := by have := (s[k]).toNat_lt; omega
      clear hrun
      go_wp2
      all_goals first
        | (go_round
           case rel => exact ⟨k + 1, by omega, by go_num, Agr HA.out hlt (Al6 (by go_light; clear HA; first | omega | (simp_all; done) | (simp_all; omega)))⟩
           case measure => simp [intOf]; omega)
        | (go_ret
           exact ⟨Kb (Al8 hlt (Aps (by go_light; clear HA; first | omega | (simp_all; done) | (simp_all; omega)))), HB.out⟩)
    · have HL := fun (g : 1 ≤ s.size ∧ s.size ≤ 30) => Akz (s := s.data.toList) (fun i hi => HA.out i hi (by simp at hi; omega)) (by simpa using g.1) (by simpa using g.2)
      have HN := fun (g : ¬ (1 ≤ s.size ∧ s.size ≤ 30)) => Af1 (s := s.data.toList) (by simpa using g)
      have HL := hid HL
      have HN := hid HN
      clear HA
      go_wp2
      all_goals go_ret
      all_goals first
        | exact ⟨Kb (Aq3 HL.out HN.out ‹s.toList.isEmpty = false›), HB.out⟩
        | exact ⟨Kb (Aqt HN.out ‹s.toList.isEmpty = true›), HB.out⟩
theorem C2(s:ByteArray)(hs:s.size≤9223372036854775807):Fun Tryz.prog 88 [.c (.v (.string s))] [.c (.v (.bool (lab s.data.toList)))]:=
 Mf (xs:=[.string s]) (Cn Tryz.func88 (by kernel_rfl) (by kernel_rfl)) fun w=>(Ag9 s w hs).mono fun e w' h=>⟨h.1,h.2.1⟩
theorem Xq(a b:ByteArray):Fun Tryz.prog 136 [.c (.v (.string a)),.c (.v (.string b))] [.c (.v (.int .i64 (D4 a b)))]:=
 Mf (xs:=[.string a,.string b]) (Cn Tryz.func136 (by kernel_rfl) (by kernel_rfl)) fun w=>(Ael a b w).mono fun e w' ⟨h1,h2⟩=>⟨h1,h2▸Below.refl _ _⟩
theorem S3(a b:Int):Fun Tryz.prog 46 [.c (.v (.int .i64 a)),.c (.v (.int .i64 b))] [.c (.v (.int .i64 (Dy a b)))]:=
 Mf (xs:=[.int .i64 a,.int .i64 b]) (Cn Tryz.func46 (by kernel_rfl) (by kernel_rfl)) fun w=>(Agq a b w).mono fun e w' ⟨h1,h2⟩=>⟨h1,h2▸Below.refl _ _⟩
theorem Jj{α:Type}(e:α→Int)(a:α):firstErr e [a]=e a:=by
 by_cases h:e a=0<;>simp[firstErr,h]
theorem Af2{α:Type}{mx:Nat}{e:α→Int}{lt:α→α→Bool}{l:List α}(h1:¬mx<l.length)(h2:firstErr e l≠0):ckL mx e lt l=firstErr e l:=by simp[ckL,h1,h2]
theorem Aqx{α:Type}{mx:Nat}{e:α→Int}{lt:α→α→Bool}{l:List α}(h1:¬mx<l.length)(h2:firstErr e l=0)(h3:sorted lt l=false):ckL mx e lt l=4:=by simp[ckL,h1,h2,h3]
theorem Am6{α:Type}{mx:Nat}{e:α→Int}{lt:α→α→Bool}{l:List α}(h1:¬mx<l.length)(h2:firstErr e l=0)(h3:sorted lt l=true):ckL mx e lt l=0:=by simp[ckL,h1,h2,h3]
theorem Aub(a:Int):Dy a a=0:=by simp[Dy]
theorem At8{a b:Int}(h:a≠b):Dy a b≠0:=by
 unfold Dy;split
 ·decide
 ·split
  ·decide
  ·omega
theorem Xy{a b:Int}:0<Dy a b↔b<a:=by
 unfold Dy;split
 ·constructor<;>intro h<;>omega
 ·split<;>(constructor<;>intro h<;>omega)
theorem Yn{a b:ByteArray}:0<D4 a b↔slt b a=true:=by
 constructor
 ·intro h;rcases Bool.eq_false_or_eq_true (slt b a)with q|q
  ·exact q
  ·rcases Bool.eq_false_or_eq_true (slt a b)with p|p
   ·rw[Wy p]at h;omega
   ·have:=Su p q;rw[this,O0]at h;omega
 ·intro h;rw[W0 h];decide
def b2i(b:Bool):Int:=if b then 1 else 0
def Arf(n:Int):List V:=[.v (.int .i64 n)]
instance:FlatRow Arf:=⟨fun x u hu=>by simp[Arf]at hu;exact⟨_,hu⟩⟩
theorem Ars(c:Bool)(l:List Int)(hl:l.length≤9223372036854775807):Fun Tryz.prog 45 [.c (.sl c (l.map Arf))] [.c (.v (.int .i64 (Cc l)))]:=by
 refine A4 Aas rfl ?_;refine G0 ?_;(refine⟨[],none,{k:Nat//k≤l.length∧∀j,(h:j<l.length)→j<k→l[j]=0},[3,6,7],fun⟨k,hk,h0⟩=>[(8,.v (.int .i64 k))],[],fun⟨k,hk,h0⟩=>[],fun⟨k,hk,h0⟩=>l.length-k,trivial,fun _=>⟨trivial,fun _=>⟨⟨0,by omega,fun j _ h=>by omega⟩,tI,A2 _ _,tI,A3 _ _⟩⟩,fun⟨k,hk,h0⟩=>?_⟩);refine G0 ?_;rw[ZE];(refine Ag (fun h=>?_) (fun h=>?_)<;>rw[h])
 ·have hlt:k<l.length:=by simpa using h
  refine G0 ?_;refine⟨k,_,rfl,A7 hlt,?_⟩;refine G0 ?_;(refine Ag (fun h=>?_) (fun h=>?_)<;>rw[h])
  ·refine G0 ?_;rw[Q9 hlt h0 (by simpa using h)];(exact⟨[],aI⟩)
  ·refine G0 ?_;(exact⟨none,trivial,fun _=>⟨⟨k+1,by omega,up1 (p:=fun j h=>l[j]=0) h0 (fun _=>by simpa using h)⟩,by show l.length-(k+1)<l.length-k;omega,tI,tI,tI,tI⟩⟩)
 ·have hge:¬k<l.length:=by simpa using h
  refine G0 ?_;rw[M1 (l:=l) (fun i hi=>h0 i hi (by omega))];(exact⟨[],aI⟩)
namespace Pl
structure Mb where
 n:ByteArray
 st:Int
 lf:Int
 ad:Int
 sv:Bool
def Mb.enc(m:Mb):List Value:=[.string m.n,.int .i64 m.st,.int .i64 m.lf,.int .i64 m.ad,.bool m.sv]
def Mb.row(m:Mb):List V:=[.v (.string m.n),.v (.int .i64 m.st),.v (.int .i64 m.lf),.v (.int .i64 m.ad),.v (.bool m.sv)]
theorem Mb.enc_len(m:Mb):m.enc.length=5:=rfl
theorem Mb.enc_one(m:Mb):∀u∈m.enc,u.oneCell'=true:=by
 intro u hu;simp[Mb.enc]at hu;rcases hu with rfl|rfl|rfl|rfl|rfl<;>rfl
instance:FlatRow Mb.row:=⟨fun x u hu=>by simp[Mb.row]at hu;rcases hu with rfl|rfl|rfl|rfl|rfl<;>exact⟨_,rfl⟩⟩
def Mb.ok(m:Mb):Prop:=m.n.size≤9223372036854775807
def Mb.err(m:Mb):Int:=if lab m.n.data.toList then(if wi m.st 1 4 then(if wi m.lf 1 1000000&&wi m.ad 0 4294967295 then 0 else 3)else 7)else 1
def Mb.lt(g h:Mb):Bool:=slt g.n h.n
def I3(l:List Mb):Int:=ckL 20 Mb.err Mb.lt l
def Mb.cf(name:ByteArray)(g:Mb):Int:=D4 g.n name
def Mb.kf(g x:Mb):Int:=Mb.cf g.n x
def Mb.cmp(g x:Mb):Int:=Cc [Dy g.lf x.lf,Dy g.st x.st,Dy g.ad x.ad,Dy (b2i g.sv) (b2i x.sv)]
def Mb.nw(g x:Mb):Bool:=decide (0<Mb.cmp g x)
def Mb.is(name:ByteArray)(m:Mb):Bool:=m.n.toList==name.toList
def Mb.same(g h:Mb):Bool:=(g.n.toList==h.n.toList)&&((g.st==h.st)&&((g.lf==h.lf)&&((g.ad==h.ad)&&((g.sv==h.sv)&&true))))
theorem Mb.err_cases(m:Mb):m.err=0∨m.err=1∨m.err=3∨m.err=7:=by
 unfold Mb.err;split
 ·split
  ·split<;>simp
  ·simp
 ·simp
theorem Mb.lt_trans(x y z:Mb)(h1:Mb.lt x y=true)(h2:Mb.lt y z=true):Mb.lt x z=true:=Jp h1 h2
theorem Mb.lt_cf(name:ByteArray)(x y:Mb)(h:Mb.lt x y=true)(hy:Mb.cf name y≤0):Mb.cf name x<0:=by
 unfold Mb.cf at *;rw[S1];rcases Bool.eq_false_or_eq_true (slt y.n name)with g|g
 ·exact Jp h g
 ·have h0:D4 y.n name=0:=by
   rcases(by omega:D4 y.n name<0∨D4 y.n name=0)with q|q
   ·rw[S1]at q;rw[q]at g;cases g
   ·exact q
  rw[E2]at h0;rw[←h0];exact h
theorem Ah2{l:List Mb}(h:I3 l=0):l.length≤20∧(∀i,(hi:i<l.length)→(l[i]).err=0)∧sorted Mb.lt l=true:=Ak4 Mb.err_cases h
theorem Mb.smono{l:List Mb}(h:sorted Mb.lt l=true)(name:ByteArray):Abc (Mb.cf name) l:=Afm Mb.lt_trans (Mb.lt_cf name) h
def Mb.ne(m x:Mb):Bool:= !(x.n.toList==m.n.toList)
theorem Mb.is_eq(name:ByteArray):Mb.is name=fun x=>decide (Mb.cf name x=0):=by
 funext x;unfold Mb.is Mb.cf;by_cases h:x.n=name
 ·rw[h,O0];simp
 ·have h2:D4 x.n name≠0:=fun e=>h (E2.1 e);rw[Adl h];simp[h2]
theorem Mb.ne_eq(m:Mb):Mb.ne m=fun x=>decide (Mb.kf m x≠0):=by
 funext x;have:=congrFun (Mb.is_eq m.n) x;unfold Mb.is at this;unfold Mb.ne Mb.kf;rw[this];simp
end Pl
namespace Pl
structure Ru where
 m:Mb
 t:Int
def Ru.row(r:Ru):List V:=[.v (.string r.m.n),.v (.int .i64 r.m.st),.v (.int .i64 r.m.lf),.v (.int .i64 r.m.ad),.v (.bool r.m.sv),.v (.int .i64 r.t)]
instance:FlatRow Ru.row:=⟨fun x u hu=>by simp[Ru.row]at hu;rcases hu with rfl|rfl|rfl|rfl|rfl|rfl<;>exact⟨_,rfl⟩⟩
instance:OneRow Ru.row 6:=⟨fun _=>rfl,fun x u hu=>by simp[Ru.row]at hu;rcases hu with rfl|rfl|rfl|rfl|rfl|rfl<;>exact⟨_,rfl,rfl⟩⟩
instance:OneRow Mb.row 5:=⟨fun _=>rfl,fun x u hu=>by simp[Mb.row]at hu;rcases hu with rfl|rfl|rfl|rfl|rfl<;>exact⟨_,rfl,rfl⟩⟩
def Ru.ok(r:Ru):Prop:=r.m.ok
end Pl
namespace Pl
def ents(l:List (ByteArray×V)):List (Value×V):=l.map fun p=>(.string p.1,p.2)
def look(k:ByteArray):List (ByteArray×V)→Nat→Option (Nat×V)
 |[],_=>none
 |(a,v)::es,i=>if k=a then some (i,v)else look k es (i+1)
theorem Di(k:ByteArray):∀(l:List (ByteArray×V)) (i:Nat),Fy .string (.string k) (ents l) i=some (look k l i)
 |[],i=>rfl
 |(a,v)::es,i=>by
  have ih:=Di k es (i+1);unfold ents at ih;by_cases h:k=a
  ·subst h;have hb:(k==k)=true:=(Go.MapKept.bytes_beq k k).2 rfl;simp[ents,Fy,look,Instr.sameNow,hb]
  ·have hb:(k==a)=false:=by
    cases q:(k==a)with
    |true=>exact absurd ((Go.MapKept.bytes_beq k a).1 q) h
    |false=>rfl
   simp only[ents,List.map_cons,Fy,look,Instr.sameNow,hb,if_neg h];exact ih
def put(l:List (ByteArray×V))(k:ByteArray)(v:V):List (ByteArray×V):=match look k l 0 with
 |some (i,_)=>l.set i (k,v)
 |none=>l++[(k,v)]
theorem Yv(l:List (ByteArray×V))(k:ByteArray)(v:V):Qi (ents l) (.string k) v (look k l 0)=ents (put l k v):=by
 unfold put Qi;cases h:look k l 0 with
 |none=>simp[ents]
 |some p=>obtain⟨i,u⟩:=p;simp[ents,List.map_set]
theorem O1{k:ByteArray}:∀{l:List (ByteArray×V)} {i j:Nat} {v:V},look k l i=some (j,v)→i≤j∧l[j-i]? =some (k,v)
 |[],i,j,v,h=>by simp[look]at h
 |(a,u)::es,i,j,v,h=>by
  unfold look at h;split at h
  ·rename_i e;simp only[ZD,Prod.mk.injEq]at h;obtain⟨rfl,rfl⟩:=h;subst e;exact⟨ZT _,by simp⟩
  ·obtain⟨h1,h2⟩:=O1 h;exact⟨by omega,by rw[show j-i=(j-(i+1))+1 by omega];simpa using h2⟩
theorem Uc{k:ByteArray}:∀{l:List (ByteArray×V)} {i:Nat},look k l i=none↔k∉l.map (·.1)
 |[],i=>by simp[look]
 |(a,u)::es,i=>by
  unfold look;split
  ·rename_i e;subst e;simp
  ·rename_i e;rw[Uc (l:=es) (i:=i+1)];simp[e]
open Classical in
theorem Aq8{l:List (ByteArray×V)}{k:ByteArray}{v:V}:(put l k v).map (·.1)=if k∈l.map (·.1)then l.map (·.1)else l.map (·.1)++[k]:=by
 unfold put;cases h:look k l 0 with
 |none=>rw[if_neg (Uc.1 h)];simp
 |some p=>
  obtain⟨i,u⟩:=p;have hk:k∈l.map (·.1):=Classical.byContradiction fun q=>by rw[Uc.2 q]at h;cases h
  rw[if_pos hk];obtain⟨_,h2⟩:=O1 h;simp only[Nat.sub_zero]at h2;show(l.set i (k,v)).map (·.1)=l.map (·.1);rw[List.map_set];apply List.ext_getElem?;intro j;rw[List.getElem?_set];split
  ·rename_i e;subst e;split
   ·simp[h2]
   ·rename_i q;simp at q;simp[q]
  ·rfl
structure Aff(l:List (ByteArray×V))(ns:List ByteArray):Prop where
 mem:∀n,n∈l.map (·.1)↔n∈ns
 le:l.length≤ns.length
 all:l.length=ns.length↔ns.Nodup
 cl:∀p∈l,Cl p.2
theorem Aff.nil:Aff [] []:=⟨by simp,by simp,by simp,by simp⟩
theorem Aff.put{l:List (ByteArray×V)}{ns:List ByteArray}(h:Aff l ns)(k:ByteArray)(v:V)(hv:Cl v):Aff (put l k v) (ns++[k]):=by
 have hk:=Aq8 (l:=l) (k:=k) (v:=v);have hlen:(Pl.put l k v).length=((Pl.put l k v).map (·.1)).length:=by simp
 have hm:=h.mem k;refine⟨fun n=>?_,?_,?_,fun p hp=>?_⟩
 ·rw[hk];split
  ·rename_i q;rw[h.mem n];simp;intro e;subst e;exact hm.1 q
  ·simp only[XM,h.mem n]
 ·rw[hlen,hk];have:=h.le;split<;>simp<;>omega
 ·rw[hlen,hk];split
  ·rename_i q;have:=h.le;constructor
   ·intro e;simp at e;omega
   ·intro e;have:=(List.nodup_append.1 e).2.2 k (hm.1 q) k (by simp);exact absurd rfl this
  ·rename_i q;have hq:k∉ns:=fun e=>q (hm.2 e);simp only[ZF,ZE,ZJ,ZN];rw[List.nodup_append];constructor
   ·intro e;refine⟨h.all.1 (by omega),by simp,?_⟩;intro a ha b hb e';simp at hb;subst hb;subst e';exact hq ha
   ·intro e;have:=h.all.2 e.1;omega
 ·unfold Pl.put at hp;split at hp
  ·rcases List.mem_or_eq_of_mem_set hp with q|rfl
   ·exact h.cl p q
   ·exact hv
  ·rcases XM.1 hp with q|q
   ·exact h.cl p q
   ·simp at q;subst q;exact hv
end Pl
namespace Pl
theorem Ajl{α:Type}(p:α→Bool)(l:List α):decide (0≤at_ p l)=l.any p:=by
 rcases Ajc (p:=p) (l:=l)with⟨h1,h2⟩|⟨k,hk,h1,h2,_⟩
 ·rw[h1];cases hq:l.any p with
  |false=>rfl
  |true=>
   obtain⟨x,hx,hp⟩:=List.any_eq_true.1 hq;obtain⟨i,hi,rfl⟩:=List.getElem_of_mem hx;rw[h2 i hi]at hp;cases hp
 ·rw[h1];have:l.any p=true:=List.any_eq_true.2 ⟨_,ZK hk,h2⟩;rw[this];simp
def keep{α:Type}(p:α→Bool)(l:List α):List α:=l.filter fun x=> !p x
theorem keep_all{α:Type}{p:α→Bool}{l:List α}(h:∀i,(h:i<l.length)→p l[i]=false):keep p l=l:=by
 unfold keep;rw[List.filter_eq_self];intro x hx;obtain⟨i,hi,rfl⟩:=List.getElem_of_mem hx;simp[h i hi]
theorem Ux{α:Type}{p:α→Bool}{l:List α}{k:Nat}(h:k<l.length):keep p (l.take (k+1))=if p l[k]=true then keep p (l.take k)else keep p (l.take k)++[l[k]]:=by
 unfold keep;rw[XT,ZC h,List.filter_append];cases q:p l[k]<;>simp[q]
structure Jb{α:Type}(p:α→Bool)(l l':List α)(i j:Nat):Prop where
 ij:i<j
 jl:j≤l.length
 len:l'.length=l.length
 ahead:l'.take i=keep p (l.take j)
 behind:∀k,(h:k<l.length)→j≤k→l'[k]'(by rw[len];exact h)=l[k]
theorem Jb.start{α:Type}{p:α→Bool}{l:List α}{k:Nat}(hk:k<l.length)(h1:p l[k]=true)(h0:∀i,(h:i<l.length)→i<k→p l[i]=false):Jb p l l k (k+1):=by
 refine⟨by omega,by omega,rfl,?_,fun _ _ _=>rfl⟩;rw[Ux hk,if_pos h1,keep_all];intro i hi;simp at hi;simp only[List.getElem_take];exact h0 i (by omega) (by omega)
theorem Jb.gone{α:Type}{p:α→Bool}{l l':List α}{i j:Nat}(h:Jb p l l' i j)(hj:j<l.length)(hp:p l[j]=true):Jb p l l' i (j+1):=by
 refine⟨by have:=h.ij;omega,by omega,h.len,?_,fun k hk hkj=>h.behind k hk (by omega)⟩;rw[Ux hj,if_pos hp];exact h.ahead
theorem Jb.stays{α:Type}{p:α→Bool}{l l':List α}{i j:Nat}(h:Jb p l l' i j)(hj:j<l.length)(hp:p l[j]=false):Jb p l (l'.set i l[j]) (i+1) (j+1):=by
 have hij:=h.ij;have hlen:=h.len;refine⟨by omega,by omega,by simp[hlen],?_,fun k hk hkj=>?_⟩
 ·rw[Ux hj,if_neg (by simp[hp]),XT,List.take_set_of_le (ZT _),h.ahead];congr 1;rw[List.getElem?_set_self (by omega)];rfl
 ·rw[List.getElem_set_ne (by omega)];exact h.behind k hk (by omega)
theorem Jb.fin{α:Type}{p:α→Bool}{l l':List α}{i j:Nat}(h:Jb p l l' i j)(hj:¬j<l.length):l'.take i=keep p l:=by
 rw[h.ahead,List.take_of_length_le (by omega)]
theorem Ao7{α:Type}(l:List α)(i:Nat):l.eraseIdx i=l.take i++l.drop (i+1):=List.eraseIdx_eq_take_drop_succ l i
theorem Aio{α β:Type}{f:α→β}{l:List α}{i:Nat}(hi:i<l.length){z:β}{t:List β}{k:Nat}:
  (l.eraseIdx i).map f=(((((l.map f).take i++((l.map f).drop (i+1)).take ((l.map f).length-(i+1))++(l.map f).drop (i+((l.map f).length-(i+1)))).take (0+(i+((l.map f).length-(i+1)))))++List.replicate k z++t)).take (i+((l.map f).length-(i+1))):=by
 have h1:((l.map f).drop (i+1)).take ((l.map f).length-(i+1))=(l.map f).drop (i+1):=List.take_of_length_le (by simp);have h2:((l.map f).take i++(l.map f).drop (i+1)).length=i+((l.map f).length-(i+1)):=by simp;omega
 rw[h1,Nat.zero_add,←h2,List.take_left,ZS,List.take_left,Ao7,ZI,List.map_take,List.map_drop]
end Pl
namespace Pl
def Ru.err(r:Ru):Int:=r.m.err
def Ru.bad(r:Ru):Bool:= !(wi r.t 0 100)
def Ru.nm(r:Ru):ByteArray:=r.m.n
def Ru.is(n:ByteArray)(r:Ru):Bool:=r.m.n.toList==n.toList
open Classical in
noncomputable def Az1(l:List Ru):Int:=if 20<l.length then 2 else if firstErr Ru.err l≠0 then firstErr Ru.err l else if l.any Ru.bad=true then 3 else if(l.map Ru.nm).Nodup then 0 else 6
structure Bc0(l:List Ru):Prop where
 len:l.length≤20
 each:firstErr Ru.err l=0
 rng:∀i,(h:i<l.length)→0≤l[i].t∧l[i].t≤100
 nd:(l.map Ru.nm).Nodup
def tt(l:List Ru)(i:Nat):Int:=(l[i]?.map Ru.t).getD 0
def Bbh(l:List Ru)(i k:Nat):Bool:=decide (tt l i<tt l k)||(tt l i==tt l k&&decide (k<i))
structure Bbz(l:List Ru)(o:List Nat):Prop where
 len:o.length=l.length
 nd:o.Nodup
 mem:∀i,i∈o↔i<l.length
 pw:∀(i j:Nat) (hi:i<o.length) (hj:j<o.length),i<j→Bbh l o[i] o[j]=true
end Pl
namespace Pl
structure Good{α:Type}(c:α→α→Int):Prop where
 anti:∀a b,c b a= - c a b
 pp:∀a b d,0<c a b→0<c b d→0<c a d
 zp:∀a b d,c a b=0→0<c b d→0<c a d
 pz:∀a b d,0<c a b→c b d=0→0<c a d
 zz:∀a b d,c a b=0→c b d=0→c a d=0
theorem Uu{a b:Int}:Dy a b=0↔a=b:=⟨fun h=>Classical.byContradiction fun hn=>At8 hn h,fun h=>h▸Aub a⟩
theorem Afj{α:Type}(f:α→Int):Good fun g x=>Dy (f g) (f x) where
 anti:=fun a b=>by unfold Dy;split<;>(try split)<;>(try split)<;>omega
 pp:=fun a b d h k=>by rw[Xy]at *;omega
 zp:=fun a b d h k=>by rw[Xy]at *;rw[Uu]at h;omega
 pz:=fun a b d h k=>by rw[Xy]at *;rw[Uu]at k;omega
 zz:=fun a b d h k=>by rw[Uu]at *;omega
theorem An8(a b:ByteArray):D4 b a= - D4 a b:=by
 rcases Bool.eq_false_or_eq_true (slt a b)with h|h
 ·rw[Wy h,W0 h];rfl
 ·rcases Bool.eq_false_or_eq_true (slt b a)with k|k
  ·rw[Wy k,W0 k]
  ·have:=Su h k;rw[this,O0];rfl
theorem Aq5{α:Type}(f:α→ByteArray):Good fun g x=>D4 (f g) (f x) where
 anti:=fun a b=>An8 _ _
 pp:=fun a b d h k=>by rw[Yn]at *;exact Jp k h
 zp:=fun a b d h k=>by rw[Yn]at *;rw[E2]at h;rw[h];exact k
 pz:=fun a b d h k=>by rw[Yn]at *;rw[E2]at k;rw[←k];exact h
 zz:=fun a b d h k=>by rw[E2]at *;exact h.trans k
theorem Pi(x:Int)(r:List Int):Cc (x::r)=if x=0 then Cc r else x:=rfl
theorem Abu{α:Type}:∀(cs:List (α→α→Int)),(∀c∈cs,Good c)→Good fun g x=>Cc (cs.map fun c=>c g x)
 |[],_=>⟨fun _ _=>rfl,fun _ _ _ h=>by simp[Cc]at h,fun _ _ _ _ h=>by simp[Cc]at h,fun _ _ _ h=>by simp[Cc]at h,fun _ _ _ _ _=>rfl⟩
 |c::cs,h=>by
  have hc:=h c (by simp);have ih:=Abu cs fun c hm=>h c (by simp[hm]);refine⟨fun a b=>?_,fun a b d p q=>?_,fun a b d p q=>?_,fun a b d p q=>?_,fun a b d p q=>?_⟩<;>simp only[List.map_cons,Pi]at *
  ·rw[hc.anti a b];by_cases h0:c a b=0
   ·rw[if_pos (by omega),if_pos h0];exact ih.anti a b
   ·rw[if_neg (by omega),if_neg h0]
  all_goals
   rcases Classical.em (c a b=0)with h1|h1<;>rcases Classical.em (c b d=0)with h2|h2<;>(try simp only[h1,h2,if_true,if_false]at p q)
  all_goals first
   |(have h3:=hc.zz _ _ _ h1 h2;rw[if_pos h3];first|exact ih.pp _ _ _ p q|exact ih.zp _ _ _ p q|exact ih.pz _ _ _ p q|exact ih.zz _ _ _ p q)
   |(have h3:=hc.zp _ _ _ h1 q;rw[if_neg (by omega)];exact h3)
   |(have h3:=hc.pz _ _ _ p h2;rw[if_neg (by omega)];exact h3)
   |(have h3:=hc.pp _ _ _ p q;rw[if_neg (by omega)];exact h3)
   |omega
theorem Aly:∀{l:List Int},Cc l=0→∀x∈l,x=0
 |[],_,x,hx=>by cases hx
 |y::l,h,x,hx=>by
  rw[Pi]at h;split at h
  ·rename_i h0;rcases XC.1 hx with rfl|hx
   ·exact h0
   ·exact Aly h x hx
  ·rename_i h0;exact absurd h h0
structure Bbg{α:Type}(cf:α→α→Int)(nw:α→α→Bool):Prop where
 irr:∀x,nw x x=false
 trans:∀x y z,nw x y=true→nw y z=true→nw x z=true
 tot:∀x y,cf x y=0→nw x y=false→nw y x=false→x=y
section
variable {α:Type} {lt:α→α→Bool} {cf:α→α→Int} {nw:α→α→Bool}
end
end Pl
namespace Pl
structure Gw where
 c:ByteArray
 a:Int
 v:Int
def Gw.enc(g:Gw):List Value:=[.string g.c,.int .i64 g.a,.int .i64 g.v]
def Gw.row(g:Gw):List V:=[.v (.string g.c),.v (.int .i64 g.a),.v (.int .i64 g.v)]
theorem Gw.enc_len(g:Gw):g.enc.length=3:=rfl
theorem Gw.enc_one(g:Gw):∀u∈g.enc,u.oneCell'=true:=by
 intro u hu;simp[Gw.enc]at hu;rcases hu with rfl|rfl|rfl<;>rfl
instance:FlatRow Gw.row:=⟨fun x u hu=>by simp[Gw.row]at hu;rcases hu with rfl|rfl|rfl<;>exact⟨_,rfl⟩⟩
def Gw.ok(g:Gw):Prop:=g.c.size≤9223372036854775807
def Gw.err(g:Gw):Int:=if lab g.c.data.toList then(if wi g.a 0 4294967295&&wi g.v 1 1000000 then 0 else 3)else 1
def Gw.lt(g h:Gw):Bool:=slt g.c h.c
def Ayu(l:List Gw):Int:=ckL 6 Gw.err Gw.lt l
def Gw.cf(name:ByteArray)(g:Gw):Int:=D4 g.c name
def Gw.kf(g x:Gw):Int:=Gw.cf g.c x
def Gw.cmp(g x:Gw):Int:=Cc [Dy g.v x.v,Dy g.a x.a]
def Gw.nw(g x:Gw):Bool:=decide (0<Gw.cmp g x)
def Gw.is(name:ByteArray)(m:Gw):Bool:=m.c.toList==name.toList
def Gw.same(g h:Gw):Bool:=(g.c.toList==h.c.toList)&&((g.a==h.a)&&((g.v==h.v)&&true))
def Gw.ne(m x:Gw):Bool:= !(x.c.toList==m.c.toList)
theorem Gw.is_eq(name:ByteArray):Gw.is name=fun x=>decide (Gw.cf name x=0):=by
 funext x;unfold Gw.is Gw.cf;by_cases h:x.c=name
 ·rw[h,O0];simp
 ·have h2:D4 x.c name≠0:=fun e=>h (E2.1 e);rw[Adl h];simp[h2]
theorem Gw.ne_eq(m:Gw):Gw.ne m=fun x=>decide (Gw.kf m x≠0):=by
 funext x;have:=congrFun (Gw.is_eq m.c) x;unfold Gw.is at this;unfold Gw.ne Gw.kf;rw[this];simp
structure Rt where
 c:ByteArray
 a:Int
def Rt.row(r:Rt):List V:=[.v (.string r.c),.v (.int .i64 r.a)]
instance:FlatRow Rt.row:=⟨fun x u hu=>by simp[Rt.row]at hu;rcases hu with rfl|rfl<;>exact⟨_,rfl⟩⟩
def Rt.same(g h:Rt):Bool:=(g.c.toList==h.c.toList)&&((g.a==h.a)&&true)
end Pl
namespace Pl
structure Sv where
 nd:ByteArray
 id:ByteArray
 nm:ByteArray
 tg:ByteArray
 ad:Int
 pt:Int
 ps:Bool
 vs:Int
 gn:Bool
def Sv.enc(m:Sv):List Value:=[.string m.nd,.string m.id,.string m.nm,.string m.tg,.int .i64 m.ad,.int .i64 m.pt,.bool m.ps,.int .i64 m.vs,.bool m.gn]
def Sv.row(m:Sv):List V:=[.v (.string m.nd),.v (.string m.id),.v (.string m.nm),.v (.string m.tg),.v (.int .i64 m.ad),.v (.int .i64 m.pt),.v (.bool m.ps),.v (.int .i64 m.vs),.v (.bool m.gn)]
theorem Sv.enc_len(m:Sv):m.enc.length=9:=rfl
theorem Sv.enc_one(m:Sv):∀u∈m.enc,u.oneCell'=true:=by
 intro u hu;simp[Sv.enc]at hu;rcases hu with rfl|rfl|rfl|rfl|rfl|rfl|rfl|rfl|rfl<;>rfl
instance:FlatRow Sv.row:=⟨fun x u hu=>by simp[Sv.row]at hu;rcases hu with rfl|rfl|rfl|rfl|rfl|rfl|rfl|rfl|rfl<;>exact⟨_,rfl⟩⟩
def Sv.ok(m:Sv):Prop:=m.nd.size≤9223372036854775807∧m.id.size≤9223372036854775807∧m.nm.size≤9223372036854775807∧m.tg.size≤9223372036854775807
def emp(s:ByteArray):Bool:=s.toList==(ByteArray.mk #[]).toList
def Wg(s:ByteArray):Bool:=emp s||lab s.data.toList
def Sv.err(m:Sv):Int:=if lab m.nd.data.toList then(if lab m.id.data.toList then(if lab m.nm.data.toList then(if Wg m.tg then(if wi m.ad 0 4294967295 then(if wi m.pt 0 65535 then(if wi m.vs 1 1000000 then 0 else 3)else 3)else 3)else 1)else 1)else 1)else 1
def Sv.cf(nd id:ByteArray)(x:Sv):Int:=Cc [D4 x.nd nd,D4 x.id id]
def Sv.kf(g x:Sv):Int:=Sv.cf g.nd g.id x
def Sv.lt(g h:Sv):Bool:=decide (Sv.cf h.nd h.id g<0)
def ckSv(l:List Sv):Int:=ckL 40 Sv.err Sv.lt l
def Sv.cmp(g x:Sv):Int:=Cc [Dy g.vs x.vs,Dy (b2i g.gn) (b2i x.gn),D4 g.nm x.nm,D4 g.tg x.tg,Dy g.ad x.ad,Dy g.pt x.pt,Dy (b2i g.ps) (b2i x.ps)]
def Sv.nw(g x:Sv):Bool:=decide (0<Sv.cmp g x)
def Sv.is(nd id:ByteArray)(m:Sv):Bool:=(m.nd.toList==nd.toList)&&(m.id.toList==id.toList)
def Sv.same(g h:Sv):Bool:=(g.nd.toList==h.nd.toList)&&((g.id.toList==h.id.toList)&&((g.nm.toList==h.nm.toList)&&((g.tg.toList==h.tg.toList)&&((g.ad==h.ad)&&((g.pt==h.pt)&&((g.ps==h.ps)&&((g.vs==h.vs)&&((g.gn==h.gn)&&true))))))))
theorem Sv.err_cases(m:Sv):m.err=0∨m.err=1∨m.err=3∨m.err=7:=by
 unfold Sv.err
 repeat' split
 all_goals simp
theorem Arz{a b c d:ByteArray}(h:a=b):Cc [D4 a b,D4 c d]=D4 c d:=by
 subst h;by_cases h:D4 c d=0<;>simp[Cc,O0,h]
theorem Ar1{a b c d:ByteArray}(h:a≠b):Cc [D4 a b,D4 c d]=D4 a b:=by
 have:D4 a b≠0:=fun e=>h (E2.1 e);simp[Cc,this]
theorem Sv.cf_neg{nd id:ByteArray}{x:Sv}:Sv.cf nd id x<0↔slt x.nd nd=true∨(x.nd=nd∧slt x.id id=true):=by
 unfold Sv.cf;by_cases h:x.nd=nd
 ·rw[Arz h,S1,h];simp[Fh]
 ·rw[Ar1 h,S1];simp[h]
theorem Sv.cf_zero{nd id:ByteArray}{x:Sv}:Sv.cf nd id x=0↔x.nd=nd∧x.id=id:=by
 unfold Sv.cf;by_cases h:x.nd=nd
 ·rw[Arz h,E2];simp[h]
 ·rw[Ar1 h,E2];simp[h]
theorem Sv.lt_iff{x y:Sv}:Sv.lt x y=true↔slt x.nd y.nd=true∨(x.nd=y.nd∧slt x.id y.id=true):=by
 unfold Sv.lt;rw[decide_eq_true_iff,Sv.cf_neg]
theorem Sv.lt_trans(x y z:Sv)(h1:Sv.lt x y=true)(h2:Sv.lt y z=true):Sv.lt x z=true:=by
 rw[Sv.lt_iff]at *;rcases h1 with h1|⟨e1,h1⟩<;>rcases h2 with h2|⟨e2,h2⟩
 ·exact .inl (Jp h1 h2)
 ·exact .inl (e2▸h1)
 ·exact .inl (by rw[e1];exact h2)
 ·exact .inr ⟨e1.trans e2,Jp h1 h2⟩
theorem Nw{l:List Sv}(h:ckSv l=0):l.length≤40∧(∀i,(hi:i<l.length)→(l[i]).err=0)∧sorted Sv.lt l=true:=Ak4 Sv.err_cases h
def Sv.ne(m x:Sv):Bool:= !(Sv.is m.nd m.id x)
theorem Sv.is_eq(nd id:ByteArray):Sv.is nd id=fun x=>decide (Sv.cf nd id x=0):=by
 funext x;unfold Sv.is;by_cases h:x.nd=nd∧x.id=id
 ·rw[h.1,h.2];have:Sv.cf nd id x=0:=Sv.cf_zero.2 h;simp[this]
 ·have h2:¬Sv.cf nd id x=0:=fun e=>h (Sv.cf_zero.1 e);have h3:(x.nd.toList==nd.toList&&x.id.toList==id.toList)=false:=by
   cases hb:(x.nd.toList==nd.toList&&x.id.toList==id.toList)with
   |false=>rfl
   |true=>rw[ZO,Adm,Adm]at hb;exact absurd hb h
  rw[h3];simp[h2]
theorem Sv.ne_eq(m:Sv):Sv.ne m=fun x=>decide (Sv.kf m x≠0):=by
 funext x;have:=congrFun (Sv.is_eq m.nd m.id) x;unfold Sv.ne Sv.kf;rw[this];simp
theorem Aw1(row:List V)(h:Ama [.s,.s,.s,.s,.i,.i,.b,.i,.b] row):∃m:Sv,row=m.row∧m.ok:=by
 obtain⟨u0,_,rfl,f0,h⟩:=Fp h;obtain⟨u1,_,rfl,f1,h⟩:=Fp h;obtain⟨u2,_,rfl,f2,h⟩:=Fp h;obtain⟨u3,_,rfl,f3,h⟩:=Fp h;obtain⟨u4,_,rfl,f4,h⟩:=Fp h;obtain⟨u5,_,rfl,f5,h⟩:=Fp h;obtain⟨u6,_,rfl,f6,h⟩:=Fp h;obtain⟨u7,_,rfl,f7,h⟩:=Fp h;obtain⟨u8,_,rfl,f8,h⟩:=Fp h;obtain rfl:=Apa h;obtain⟨a,rfl,ha⟩:=Am4 f0;obtain⟨b,rfl,hb⟩:=Am4 f1;obtain⟨c,rfl,hc⟩:=Am4 f2;obtain⟨d,rfl,hd⟩:=Am4 f3;obtain⟨e,rfl,_⟩:=Ap6 f4;obtain⟨f,rfl,_⟩:=Ap6 f5;obtain⟨g,rfl⟩:=Aux f6;obtain⟨i,rfl,_⟩:=Ap6 f7;obtain⟨j,rfl⟩:=Aux f8;exact⟨⟨a,b,c,d,e,f,g,i,j⟩,rfl,ha,hb,hc,hd⟩
end Pl
namespace Pl
def Ld(n:Nat):Nat→Nat
 |0=>0
 |k+1=>if(k+1)*(k+1)≤n then k+1 else Ld n k
def isq(n:Nat):Nat:=Ld n n
theorem Anx(n k:Nat):Ld n k*Ld n k≤n:=by
 induction k with
 |zero=>simp[Ld]
 |succ k ih=>
  unfold Ld;split
  ·assumption
  ·exact ih
theorem Ao9(n k:Nat)(h:n<(k+1)*(k+1)):n<(Ld n k+1)*(Ld n k+1):=by
 induction k with
 |zero=>simpa[Ld]using h
 |succ k ih=>
  unfold Ld;split
  ·exact h
  ·exact ih (by omega)
theorem Ay2(n:Nat):isq n*isq n≤n:=Anx n n
theorem Ax5(n:Nat):n<(isq n+1)*(isq n+1):=Ao9 n n (by rw[Nat.add_mul];omega)
def rt(n:Int):Int:=(isq n.toNat:Int)
theorem Ab3(n:Int):0≤rt n:=Int.natCast_nonneg _
theorem Auz(n:Int)(h:0≤n):rt n*rt n≤n:=by
 have:=Ay2 n.toNat;unfold rt;have e:((isq n.toNat*isq n.toNat:Nat):Int)≤(n.toNat:Int):=Int.ofNat_le.2 this;rw[Int.natCast_mul]at e;omega
theorem Av2(n:Int)(h:0≤n):n<(rt n+1)*(rt n+1):=by
 have:=Ax5 n.toNat;unfold rt;have e:(n.toNat:Int)<((isq n.toNat+1)*(isq n.toNat+1):Nat):=Int.ofNat_lt.2 this;rw[Int.natCast_mul]at e;simp only[Int.natCast_add,Int.natCast_one]at e;omega
theorem Wr{a b:Int}(h0:0≤a)(h:a≤b):a*a≤b*b:=Int.mul_le_mul h h h0 (by omega)
theorem Aqm{a b:Int}(h0:0≤b)(h:a*a<(b+1)*(b+1)):a≤b:=by
 rcases Int.lt_or_le b a with g|g
 ·have:=Wr (show 0≤b+1 by omega) (show b+1≤a by omega);omega
 ·exact g
theorem Aks{n r:Int}(h:0≤n)(h0:0≤r)(h2:n<(r+1)*(r+1)):rt n≤r:=by
 have:=Auz n h;exact Aqm h0 (by omega)
theorem Ake{n r:Int}(h:0≤n)(h2:r*r≤n):r≤rt n:=by
 have:=Av2 n h;exact Aqm (Ab3 n) (by omega)
theorem Asr{n r:Int}(h0:0≤r)(h1:r*r≤n)(h2:n<(r+1)*(r+1)):rt n=r:=by
 have hn:0≤n:=Int.le_trans (Int.mul_nonneg h0 h0) h1;have a:=Aks hn h0 h2;have b:=Ake hn h1;omega
theorem Axy(n:Int)(h:0≤n)(hm:n≤9223372036854775807):rt n≤3037000499:=Aks h (by omega) (by omega)
theorem Ie{n x:Int}(hn:0≤n)(hx:1≤x):0≤n/x∧x*(n/x)≤n∧n<x*(n/x)+x:=by
 have:=Int.mul_ediv_add_emod n x;have:=Int.emod_nonneg n (show x≠0 by omega);have:=Int.emod_lt_of_pos n (show 0<x by omega);exact⟨Int.ediv_nonneg hn (by omega),by omega,by omega⟩
theorem Baw{a b s:Int}(h0:0≤a)(h1:0≤b)(h:a+b≤2*s):a*b≤s*s:=by
 have h2:(a+b)*(a+b)≤(2*s)*(2*s):=Wr (by omega) h;have h3:0≤(a-b)*(a-b):=by
  rcases Int.le_total 0 (a-b)with g|g
  ·exact Int.mul_nonneg g g
  ·exact Int.mul_nonneg_of_nonpos_of_nonpos g g
 have e:(a-b)*(a-b)=(a+b)*(a+b)-4*(a*b):=by grind
 have e2:(2*s)*(2*s)=4*(s*s):=by grind
 omega
theorem Ba4{n x:Int}(hn:0≤n)(hm:n≤9223372036854775807)(hx:1≤x)(h:x≤n/x):x≤3037000499:=by
 obtain⟨a,b,c⟩:=Ie hn hx;have:x*x≤x*(n/x):=Int.mul_le_mul_of_nonneg_left h (by omega);exact Aqm (by omega) (by omega)
theorem Ax9{n x:Int}(hn:0≤n)(hx:1≤x)(h:n/x<x):rt n≤x:=by
 obtain⟨a,b,c⟩:=Ie hn hx;have:x*(n/x)≤x*(x-1):=Int.mul_le_mul_of_nonneg_left (by omega) (by omega);have e:x*(x-1)=x*x-x:=by grind
 have e2:(x+1)*(x+1)=x*x+2*x+1:=by grind
 exact Aks hn (by omega) (by omega)
theorem Ax6{n x:Int}(hn:1≤n)(hx:1≤x)(h:rt n≤x):n/x≤rt n+2:=by
 have a:=Av2 n (by omega);have b:1≤rt n:=Ake (by omega) (by omega);refine Int.ediv_le_of_le_mul (by omega) ?_;have e:(rt n+1)*(rt n+1)=(rt n+2)*rt n+1:=by grind
 have:(rt n+2)*rt n≤(rt n+2)*x:=Int.mul_le_mul_of_nonneg_left h (by omega);omega
theorem Atg{n x:Int}(hn:0≤n)(hx:1≤x):rt n≤(x+n/x)/2:=by
 obtain⟨a,b,c⟩:=Ie hn hx;have s:=Auz n hn;rcases Int.lt_or_le ((x+n/x)/2) (rt n)with g|g
 ·have:=Baw (a:=x) (b:=n/x+1) (s:=rt n) (by omega) (by omega) (by omega);have e:x*(n/x+1)=x*(n/x)+x:=by grind
  omega
 ·exact g
theorem Aqc{n x:Int}(hn:0≤n)(hx:1≤x)(h:rt n≤x)(g:x≤(x+n/x)/2):x=rt n:=by
 obtain⟨a,b,c⟩:=Ie hn hx;have:x*x≤x*(n/x):=Int.mul_le_mul_of_nonneg_left (by omega) (by omega);have:=Ake (n:=n) (r:=x) hn (by omega);omega
end Pl
namespace Pl
def sq3(x y z x' y' z':Int):Int:=(x-x')*(x-x')+(y-y')*(y-y')+(z-z')*(z-z')
def flat(x y z x' y' z':Int):Int:=rt (sq3 x y z x' y' z')
theorem N4{x y z h s:Int}:Aek x y z h s=true↔(-10000000≤x∧x≤10000000)∧(-10000000≤y∧y≤10000000)∧(-10000000≤z∧z≤10000000)∧(0≤h∧h≤1000000)∧(0≤s∧s≤1000):=by
 unfold Aek;simp only[ZO,Acv,and_assoc]
theorem Awm{x b:Int}(h1: -b≤x)(h2:x≤b):0≤x*x∧x*x≤b*b:=by
 rcases Int.le_total 0 x with h|h
 ·exact⟨Int.mul_nonneg h h,Wr h h2⟩
 ·have:=Wr (a:= -x) (b:=b) (by omega) (by omega);rw[Int.neg_mul_neg]at this;exact⟨Int.mul_nonneg_of_nonpos_of_nonpos h h,this⟩
theorem O8{x x':Int}(h1: -10000000≤x)(h2:x≤10000000)(h3: -10000000≤x')(h4:x'≤10000000):0≤(x-x')*(x-x')∧(x-x')*(x-x')≤400000000000000:=
 Awm (x:=x-x') (b:=20000000) (by omega) (by omega)
theorem Avt{x y z x' y' z':Int}(a1:0≤(x-x')*(x-x')∧(x-x')*(x-x')≤400000000000000)(a2:0≤(y-y')*(y-y')∧(y-y')*(y-y')≤400000000000000)(a3:0≤(z-z')*(z-z')∧(z-z')*(z-z')≤400000000000000):0≤sq3 x y z x' y' z'∧sq3 x y z x' y' z'≤1200000000000000:=by unfold sq3;omega
theorem Aud{x y z x' y' z':Int}(h:0≤sq3 x y z x' y' z'∧sq3 x y z x' y' z'≤1200000000000000):0≤flat x y z x' y' z'∧flat x y z x' y' z'≤34641017:=
 ⟨Ab3 _,Aks h.1 (by omega) (by omega)⟩
theorem Aso{x y z h s x' y' z' h' s':Int}(o:Aek x y z h s=true)(o':Aek x' y' z' h' s'=true):0≤flat x y z x' y' z'∧flat x y z x' y' z'≤34641017:=by
 obtain⟨⟨a1,a2⟩,⟨a3,a4⟩,⟨a5,a6⟩,_,_⟩:=N4.1 o;obtain⟨⟨b1,b2⟩,⟨b3,b4⟩,⟨b5,b6⟩,_,_⟩:=N4.1 o';exact Aud (Avt (O8 a1 a2 b1 b2) (O8 a3 a4 b3 b4) (O8 a5 a6 b5 b6))
def far(x y z h x' y' z' h':Int):Int:=flat x y z x' y' z'+h+h'
end Pl
namespace Pl
structure Pc where
 x:Int
 y:Int
 z:Int
 h:Int
 s:Int
def Pc.row(p:Pc):List V:=[.v (.int .i64 p.x),.v (.int .i64 p.y),.v (.int .i64 p.z),.v (.int .i64 p.h),.v (.int .i64 p.s)]
instance:FlatRow Pc.row:=⟨fun x u hu=>by simp[Pc.row]at hu;rcases hu with rfl|rfl|rfl|rfl|rfl<;>exact⟨_,rfl⟩⟩
def Pc.ok(p:Pc):Prop:=True
def Pc.okb(p:Pc):Bool:=Aek p.x p.y p.z p.h p.s
def Pc.err(p:Pc):Int:=Ahk p.x p.y p.z p.h p.s
theorem Pc.err_ok{p:Pc}(h:p.okb=true):p.err=0:=by unfold Pc.err Ahk;unfold Pc.okb at h;rw[if_pos h]
theorem Pc.err_bad{p:Pc}(h:p.okb=false):p.err=3:=by unfold Pc.err Ahk;unfold Pc.okb at h;rw[if_neg (by rw[h];decide)]
theorem Pc.err_iff{p:Pc}:p.err=0↔p.okb=true:=by
 cases h:p.okb with
 |true=>simp[Pc.err_ok h]
 |false=>simp[Pc.err_bad h]
def Pc.flat(a b:Pc):Int:=Pl.flat a.x a.y a.z b.x b.y b.z
def Pc.far(a b:Pc):Int:=Pl.far a.x a.y a.z a.h b.x b.y b.z b.h
theorem Aw8{a b:Pc}(h:a.okb=true)(h':b.okb=true):(0≤a.flat b∧a.flat b≤34641017)∧(0≤a.far b∧a.far b≤36641017):=by
 have f:=Aso h h';obtain⟨_,_,_,⟨a7,a8⟩,_⟩:=N4.1 h;obtain⟨_,_,_,⟨b7,b8⟩,_⟩:=N4.1 h';refine⟨f,?_⟩;unfold Pc.far Pl.far;omega
end Pl
section
open Go.ChangeShapes Go.WideShapes Go.ChangeAt

end
namespace Pl
structure Wh where
 nd:ByteArray
 pl:Pc
def Wh.enc(x:Wh):List Value:=[.string x.nd,.int .i64 x.pl.x,.int .i64 x.pl.y,.int .i64 x.pl.z,.int .i64 x.pl.h,.int .i64 x.pl.s]
def Wh.row(x:Wh):List V:=[.v (.string x.nd),.v (.int .i64 x.pl.x),.v (.int .i64 x.pl.y),.v (.int .i64 x.pl.z),.v (.int .i64 x.pl.h),.v (.int .i64 x.pl.s)]
theorem Wh.enc_len(x:Wh):x.enc.length=6:=rfl
theorem Wh.enc_one(x:Wh):∀u∈x.enc,u.oneCell'=true:=by
 intro u hu;simp[Wh.enc]at hu;rcases hu with rfl|rfl|rfl|rfl|rfl|rfl<;>rfl
instance:FlatRow Wh.row:=⟨fun x u hu=>by simp[Wh.row]at hu;rcases hu with rfl|rfl|rfl|rfl|rfl|rfl<;>exact⟨_,rfl⟩⟩
instance:OneRow Wh.row 6:=⟨fun _=>rfl,fun x u hu=>by simp[Wh.row]at hu;rcases hu with rfl|rfl|rfl|rfl|rfl|rfl<;>exact⟨_,rfl,rfl⟩⟩
def Wh.ok(x:Wh):Prop:=x.nd.size≤9223372036854775807
end Pl
namespace Pl
def Wh.err(x:Wh):Int:=if lab x.nd.data.toList then x.pl.err else 1
def Wh.lt(g h:Wh):Bool:=slt g.nd h.nd
def Azi(l:List Wh):Int:=ckL 20 Wh.err Wh.lt l
structure Nd where
 nm:ByteArray
 ce:ByteArray
 ms:List Mb
 rs:List Ru
 sv:List Sv
 gs:List Gw
 pl:Pc
 wh:List Wh
def Nd.row(n:Nd):List V:=[.v (.string n.nm),.v (.string n.ce),.sl false (n.ms.map Mb.row),.sl false (n.rs.map Ru.row),.sl false (n.sv.map Sv.row),.sl false (n.gs.map Gw.row),
 .v (.int .i64 n.pl.x),.v (.int .i64 n.pl.y),.v (.int .i64 n.pl.z),.v (.int .i64 n.pl.h),.v (.int .i64 n.pl.s),.sl false (n.wh.map Wh.row)]
structure Nd.ok(n:Nd):Prop where
 nm:n.nm.size≤9223372036854775807
 ce:n.ce.size≤9223372036854775807
 msl:n.ms.length≤9223372036854775807
 ms:∀x∈n.ms,x.ok
 rsl:n.rs.length≤9223372036854775807
 rs:∀x∈n.rs,x.ok
 svl:n.sv.length≤9223372036854775807
 sv:∀x∈n.sv,x.ok
 gsl:n.gs.length≤9223372036854775807
 gs:∀x∈n.gs,x.ok
 whl:n.wh.length≤9223372036854775807
 wh:∀x∈n.wh,x.ok
def Ayk(ms:List Mb)(r:Ru):Bool:=match ms[low (Mb.cf r.m.n) ms]? with
 |some m=>hit (Mb.cf r.m.n) ms&&decide (Mb.cmp r.m m≤0)
 |none=>false
noncomputable def Nd.cks(n:Nd):List Int:=[I3 n.ms,Az1 n.rs,ckSv n.sv,Ayu n.gs,n.pl.err,Azi n.wh]
def Nd.mine(n:Nd):Int:=match n.ms[low (Mb.cf n.nm) n.ms]? with
 |some m=>if m.st=2∨m.st=3 then 4 else if n.rs.all (Ayk n.ms)then 0 else 4
 |none=>4
noncomputable def Nd.err(n:Nd):Int:=
 if lab n.nm.data.toList=false∨lab n.ce.data.toList=false then 1
 else if firstErr (fun e=>e) n.cks≠0 then firstErr (fun e=>e) n.cks
 else if hit (Mb.cf n.nm) n.ms=false then 5 else n.mine
structure Nd.Good(n:Nd):Prop where
 nm:lab n.nm.data.toList=true
 ce:lab n.ce.data.toList=true
 ms:I3 n.ms=0
 rs:Az1 n.rs=0
 sv:ckSv n.sv=0
 gs:Ayu n.gs=0
 pl:n.pl.okb=true
 wh:Azi n.wh=0
 hit:hit (Mb.cf n.nm) n.ms=true
 st:∀m,n.ms[low (Mb.cf n.nm) n.ms]? =some m→m.st≠2∧m.st≠3
 ru:∀r∈n.rs,Ayk n.ms r=true
end Pl
theorem Od(n a b:Int):Fun Tryz.prog 96 [.c (.v (.int .i64 n)),.c (.v (.int .i64 a)),.c (.v (.int .i64 b))] [.c (.v (.bool (wi n a b)))]:=by
 refine A4 Be rfl ?_;refine G0 ?_;(refine Ag (fun h=>?_) (fun h=>?_)<;>rw[h])
 ·refine G0 ?_;rw[Axi h];(exact⟨[],aI⟩)
 ·refine G0 ?_;rw[Ax2 h];(exact⟨[],aI⟩)
theorem Arq(m:Mb)(hm:m.ok):Fun Tryz.prog 39 [.c (.agg m.row)] [.c (.v (.int .i64 m.err))]:=by
 refine A4 Gd rfl ?_;refine G1 ?_;intro gg;refine .inl (cX (C2 _ hm) ?_);refine G1 ?_;intro gg;(refine Ag (fun h1=>?_) (fun h1=>?_)<;>rw[h1])
 ·refine G0 ?_
  (rw[show m.err=1 from by(first|(simp_all;done)|(unfold Mb.err;simp_all))];(exact⟨[],aI⟩))
 ·refine G0 ?_;refine .inl (cX (Od _ _ _) ?_);refine G1 ?_;intro gg;(refine Ag (fun h2=>?_) (fun h2=>?_)<;>rw[h2])
  ·refine G0 ?_
   (rw[show m.err=7 from by(first|(simp_all;done)|(unfold Mb.err;simp_all))];(exact⟨[],aI⟩))
  ·refine G0 ?_;refine .inl (cX (Od _ _ _) ?_);refine G1 ?_;intro gg;(refine Ag (fun h3=>?_) (fun h3=>?_)<;>rw[h3])
   ·refine G0 ?_
    (rw[show m.err=3 from by(first|(simp_all;done)|(unfold Mb.err;simp_all))];(exact⟨[],aI⟩))
   ·refine G0 ?_;refine .inl (cX (Od _ _ _) ?_);refine G1 ?_;intro gg;(refine Ag (fun h4=>?_) (fun h4=>?_)<;>rw[h4])
    ·refine G0 ?_
     (rw[show m.err=3 from by(first|(simp_all;done)|(unfold Mb.err;simp_all))];(exact⟨[],aI⟩))
    ·refine G0 ?_
     (rw[show m.err=0 from by(first|(simp_all;done)|(unfold Mb.err;simp_all))];(exact⟨[],aI⟩))
theorem Vj(b:Bool):Fun Tryz.prog 176 [.c (.v (.bool b))] [.c (.v (.int .i64 (b2i b)))]:=by
 refine A4 T8 rfl ?_;refine G0 ?_;(refine Ag (fun h=>?_) (fun h=>?_)<;>rw[h])
 ·refine G0 ?_;(exact⟨[],aI⟩)
 ·refine G0 ?_;(exact⟨[],aI⟩)
theorem Sg(g x:Mb):Fun Tryz.prog 93 [.c (.agg g.row),.c (.agg x.row)] [.c (.v (.int .i64 (Mb.cmp g x)))]:=by
 refine A4 Ta rfl ?_;(refine goI ?_;repeat (intro gg;refine goI ?_));(refine⟨_,_,false,aI,S3 _ _,Ad,nI,?_⟩);refine G1 ?_;intro gg;(refine⟨_,_,false,aI,S3 _ _,Ad,nI,?_⟩);refine G1 ?_;intro gg;(refine⟨_,_,false,aI,S3 _ _,Ad,nI,?_⟩);refine G1 ?_;intro gg;(refine⟨_,_,false,aI,Vj _,Ad,nI,?_⟩);refine G1 ?_;intro gg;refine .inl (cX (Vj _) ?_);refine G1 ?_;intro gg;refine .inl (cX (S3 _ _) ?_);(refine goI ?_;repeat (intro gg;refine goI ?_));(refine .inl ⟨_,_,true,[],aI,Ars false [Dy g.lf x.lf,Dy g.st x.st,Dy g.ad x.ad,Dy (b2i g.sv) (b2i x.sv)] (by simp),(fun _=>fI),nI,?_⟩);refine G1 ?_;intro gg;(exact⟨[],aI⟩)
section
variable {α:Type} {enc:α→List Value} {sz:Nat} {w w':World} {A:Option Addr} {l:List α}
def RL(enc:α→List Value)(sz:Nat)(w:World)(A:Option Addr)(l:List α):Prop:=
 0<l.length→∃b off,A=some ⟨b,off,none⟩∧b<w.heap.size∧∀i,(h:i<l.length)→∀j u,(enc l[i])[j]? =some u→w.cell? ⟨b,off+i*sz+j,none⟩=some u
theorem RL.nil:RL enc sz w A []:=fun h=>absurd h (by simp)
theorem RL.at_(h:RL enc sz w A l){k:Nat}(hk:k<l.length):∃b off,A=some ⟨b,off,none⟩∧b<w.heap.size∧∀j u,(enc l[k])[j]? =some u→w.cell? ⟨b,off+k*sz+j,none⟩=some u:=by
 obtain⟨b,off,hA,hb,hc⟩:=h (by omega);exact⟨b,off,hA,hb,hc k hk⟩
theorem Arb{w:World}{base base':Nat}{e:TypeId}{v:Value}{n:Nat}{xs:List Value}(h:w.ownsRow base e sz v n xs)(hb:base'≤base):w.ownsRow base' e sz v n xs:=by
 obtain⟨h1,h2⟩:=h;refine⟨h1,?_⟩;rcases h2 with h2|⟨g,cap,cur,hv,hg,r⟩
 ·exact .inl h2
 ·exact .inr ⟨g,cap,cur,hv,by omega,r⟩
end
section
variable {P:Program}
theorem An0(w:World)(dT sT ty elem:TypeId)(sz:Nat)(g o dLen dCap:Nat)(a:Addr)(sLen sCap:Nat)(cur:Array Value)(t:TypeId)(cs:List Value)(hu:P.underlying dT=some (.slice elem))(hs:(P.info? elem).map (·.size)=some sz)(hg:w.heap[g]? =some (.cells cur t (0,0)))(hn:cs.length=Nat.min sLen dLen*sz)(hsrc:∀j v,cs[j]? =some v→w.cell? (a.add j)=some v)(hfit:o+cs.length≤cur.size)(h1:∀v∈cs,v.oneCell'=true):
  (Builtin.copy_ #[dT,sT] ty #[.slice (some ⟨g,o,none⟩) dLen dCap,.slice (some a) sLen sCap]).run P w=
   .ok (goInt (Nat.min sLen dLen)) (w.setRow g (splice cur.toList o cs).toArray):=by
 have hl:=run_loadCells_list (P:=P) w a cs hsrc;have hst:=run_storeCells_at P g o t cs 0 cur w hg (by simpa using hfit) h1;rw[hn]at hl;cases hq:P.info? elem with
 |none=>simp[hq]at hs
 |some i=>
  have hi:i.size=sz:=by simpa[hq]using hs
  simp only[Builtin.copy_,Builtin.lenOf,Builtin.firstCells,sizeOf,typeInfo];simp[run_underlying hu,hq,hi,hl,hst,splice]
theorem Ag0{w:World}{o:Oper}{a:Act}{K:Act→World→Prop}{Q:Exit→Act→World→Prop}(d s:Operand)(dT sT:TypeId)(ho:o.op=.call {callee:=.builtin .copy,args:= #[d,s],argTypes:= #[dT,sT]})(elem:TypeId)(sz:Nat)(hu:P.underlying dT=some (.slice elem))(hsz:(P.info? elem).map (·.size)=some sz)(g off dLen dCap:Nat)(ad:Addr)(sLen sCap:Nat)(hd:a.eval d=.slice (some ⟨g,off,none⟩) dLen dCap)(hs:a.eval s=.slice (some ad) sLen sCap)(cur:Array Value)(t:TypeId)(hg:Blk w g t cur)(cs:List Value)(hn:cs.length=Nat.min sLen dLen*sz)(hsrc:∀j v,cs[j]? =some v→w.cell? (ad.add j)=some v)(hfit:off+cs.length≤cur.size)(h1:∀v∈cs,v.oneCell'=true)(h:∀w',Blk w' g t (splice cur.toList off cs).toArray→w.grownBy w' (some g)→w.drawn≤w'.drawn→K (a.put o.dst (goInt (Nat.min sLen dLen))) w'):o.wp P a w K Q:=by
 have hrun:=An0 (P:=P) w dT sT o.type elem sz g off dLen dCap ad sLen sCap cur t cs hu hsz hg hn hsrc hfit h1;unfold Oper.wp;simp[execOp,ho,resolve,invoke,builtin,hd,hs,hrun,Result.andThen];refine h _ ?_ ⟨rfl,rfl,rfl,by simp[World.setRow],fun k hk hne=>setRow_other w g k _ (fun e=>hne (by rw[e]))⟩ (ZT _);exact setRow_heap w g _ _ t _ hg
theorem Jf{w:World}{ops:Array Oper}{Bl:List Oper}{o:Oper}{a:Act}{Q:Exit→Act→World→Prop}(hgd:o.guard=none)(d s:Operand)(dT sT:TypeId)(ho:o.op=.call {callee:=.builtin .copy,args:= #[d,s],argTypes:= #[dT,sT]})(elem:TypeId)(sz:Nat)(hu:P.underlying dT=some (.slice elem))(hsz:(P.info? elem).map (·.size)=some sz)(g off dLen dCap:Nat)(ad:Addr)(sLen sCap:Nat)(hd:a.eval d=.slice (some ⟨g,off,none⟩) dLen dCap)(hs:a.eval s=.slice (some ad) sLen sCap)(cur:Array Value)(t:TypeId)(hg:Blk w g t cur)(cs:List Value)(hn:cs.length=Nat.min sLen dLen*sz)(hsrc:∀j v,cs[j]? =some v→w.cell? (ad.add j)=some v)(hfit:off+cs.length≤cur.size)(h1:∀v∈cs,v.oneCell'=true)(h:∀w',Blk w' g t (splice cur.toList off cs).toArray→w.grownBy w' (some g)→w.drawn≤w'.drawn→wpList P ops Q Bl (a.put o.dst (goInt (Nat.min sLen dLen))) w'):wpList P ops Q (o::Bl) a w:=
 wpList_plain hgd fun _ hK=>Ag0 d s dT sT ho elem sz hu hsz g off dLen dCap ad sLen sCap hd hs cur t hg cs hn hsrc hfit h1 fun w' hb hw hd=>hK _ _ (h w' hb hw hd)
theorem Aci{w:World}{base:Nat}{e:TypeId}{size:Nat}{v:Value}{n:Nat}{xs:List Value}(h:w.ownsRow base e size v n xs):w.ownsRow 0 e size v n xs:=by
 refine⟨h.1,?_⟩;rcases h.2 with q|⟨g,cap,cur,hv,hg,r⟩
 ·exact .inl q
 ·exact .inr ⟨g,cap,cur,hv,ZU _,r⟩
theorem Ha(w:World){ops:Array Oper}{Bl:List Oper}{o:Oper}{a:Act}{Q:Exit→Act→World→Prop}(hgd:o.guard=none)(s x:Operand)(t:TypeId)(ho:o.op=.call {callee:=.builtin .append,args:= #[s,x],argTypes:= #[t,t]})(base:Nat)(e:TypeId)(i:TypeInfo)(z:Value)(size bytes:Nat)(ht:P.underlying t=some (.slice e))(hi:P.info? e=some i)(hz:i.zero=some z)(hsize:i.size=size)(hby:i.bytes=bytes)(hzs:z.cells.size=size)(hsz:0<size)(v:Value)(n:Nat)(xs:List Value)(hs:a.eval s=v)(hown:w.ownsRow base e size v n xs)(ad:Addr)(m c:Nat)(news:List Value)(hx:a.eval x=.slice (some ad) m c)(hl:news.length=m*size)(hnews:∀j u,news[j]? =some u→w.cell? (ad.add j)=some u)(h1:∀u∈news,u.oneCell'=true)(h63:n+m≤maxLen)(hbytes:(n+m)*bytes≤140737488355328)(hbase:base≤w.heap.size)(h:∀v' w',w'.ownsRow base e size v' (n+m) (xs++news)→w.grownBy w' v.ownBlock→w.drawn≤w'.drawn→(v'.ownBlock=v.ownBlock∨v'.ownBlock=some w.heap.size)→wpList P ops Q Bl (a.put o.dst v') w'):
  wpList P ops Q (o::Bl) a w:=by
 refine wpList_plain hgd fun K hK=>?_;obtain⟨v',w',hr,h2,h3,h4,h5⟩:=run_append_own_at (P:=P) w base t o.type e i z size bytes ht hi hz hsize hby hzs hsz v n xs hown ad m c news hl hnews h1 h63 hbytes hbase;subst hsize hby;have hd:=Qb w t o.type e i z ht hi hz hsz (Aci hown) ad m c news hl hnews h1 h63 hbytes hr;rw[←hs,←hx]at hr;exact Dp (My ho rfl rfl rfl hr) (hK _ _ (h v' w' h2 h3 hd h5))
theorem M3{w:World}{ops:Array Oper}{o:Oper}{a:Act}{K:Act→World→Prop}{Q:Exit→Act→World→Prop}{E:Prop}(hgd:o.guard=none)(d s:Operand)(dT sT:TypeId)(ho:o.op=.call {callee:=.builtin .copy,args:= #[d,s],argTypes:= #[dT,sT]})(elem:TypeId)(sz:Nat)(hu:P.underlying dT=some (.slice elem))(hsz:(P.info? elem).map (·.size)=some sz)(g off dLen dCap:Nat)(ad:Addr)(sLen sCap:Nat)(hd:a.eval d=.slice (some ⟨g,off,none⟩) dLen dCap)(hs:a.eval s=.slice (some ad) sLen sCap)(cur:Array Value)(t:TypeId)(hg:Blk w g t cur)(cs:List Value)(hn:cs.length=Nat.min sLen dLen*sz)(hsrc:∀j v,cs[j]? =some v→w.cell? (ad.add j)=some v)(hfit:off+cs.length≤cur.size)(h1:∀v∈cs,v.oneCell'=true)(h:∀w',Blk w' g t (splice cur.toList off cs).toArray→w.grownBy w' (some g)→w.drawn≤w'.drawn→K (a.put o.dst (goInt (Nat.min sLen dLen))) w'):
  if Region.wanted o (yielded ops a.tmps)=true then Oper.wp P o a w K Q else E:=by
 have hw:Region.wanted o (yielded ops a.tmps)=true:=by simp[Region.wanted,hgd]
 rw[if_pos hw];exact Ag0 d s dT sT ho elem sz hu hsz g off dLen dCap ad sLen sCap hd hs cur t hg cs hn hsrc hfit h1 h
end
theorem Wu{w:World}{a:Addr}{v:Value}(h:w.cell? a=some v):a.block<w.heap.size:=World.block_lt_of_cell? w _ h
theorem Iy{w:World}{base:Nat}{e:TypeId}{size:Nat}{v:Value}{n:Nat}{xs:List Value}(h:w.ownsRow base e size v n xs):∃A c,v=.slice A n c:=by
 rcases h.2 with⟨rfl,rfl⟩|⟨g,cap,cur,rfl,_⟩
 ·exact⟨_,_,rfl⟩
 ·exact⟨_,_,rfl⟩
theorem Eu{w:World}{base:Nat}{e:TypeId}{size:Nat}{v:Value}{n:Nat}{xs:List Value}(h:w.ownsRow base e size v n xs):∀k,v.ownBlock=some k→base≤k:=fun k hk=>(h.lt k hk).1
theorem J3{w:World}{g:Nat}{t:TypeId}{cur:Array Value}{n:Nat}{xs:List Value}(h:Blk w g t cur)(hx:cur.toList.take n=xs)(p:Nat):
  ∀j v,(xs.drop p)[j]? =some v→w.cell? ((⟨g,p,none⟩:Addr).add j)=some v:=fun j v hj=>by
 have e:(⟨g,p,none⟩:Addr).add j=⟨g,p+j,none⟩:=by unfold Addr.add;split<;>simp_all
 rw[e,h.cell];rw[List.getElem?_drop,←hx]at hj;have hlt:p+j<n:=by
  have:=(ZB.1 hj).1;rw[ZM]at this;omega
 rw[XA hlt]at hj;simpa using hj
def LB(A:Option Addr)(b:Nat):Prop:=∃a,A=some a∧a.block=b
theorem Al4{A:Option Addr}{n c k:Nat}(h:(Value.slice A n c).ownBlock=some k):LB A k:=by
 cases A with
 |none=>cases h
 |some a=>exact⟨a,rfl,by simpa[Value.ownBlock]using h⟩
theorem Akm{w a:World}{base:Nat}{e:TypeId}{size:Nat}{v:Value}{n:Nat}{xs:List Value}{L:Nat→Prop}(h:w.ownsRow base e size v n xs)(hL:∀k,v.ownBlock=some k→L k):∀k,v.ownBlock=some k→L k∨a.heap.size≤k:=fun k hk=>.inl (hL k hk)
theorem Fr.drew{L:Nat→Prop}{a w:World}(h:Fr L a w):Fr L a w.drew:=⟨h.os,h.tape,h.output,h.size,h.block⟩
theorem Fr.alloc{L:Nat→Prop}{a w:World}(h:Fr L a w)(o:Obj):Fr L a (w.alloc o):=h.grown (World.grownBy_alloc w o none) (by simp) (ZT _)
theorem U7{w:World}{g:Nat}{t:TypeId}{cur:Array Value}{n:Nat}{xs:List Value}(h:Blk w g t cur)(hx:cur.toList.take n=xs):∀j v,xs[j]? =some v→w.cell? ((⟨g,0,none⟩:Addr).add j)=some v:=fun j v hj=>J3 h hx 0 j v (by rwa[List.drop_zero])
theorem Ve{α:Type}(cur xs vs:List α)(p n:Nat)(hx:cur.take n=xs)(hn:n≤cur.length)(hp:p≤n)(hr:n+vs.length≤cur.length):
  (splice (splice cur (p+vs.length) (xs.drop p)) p vs).take (n+vs.length)=xs.take p++vs++xs.drop p:=by
 have hxl:xs.length=n:=by rw[←hx,ZM];omega
 have e0:cur.take p=xs.take p:=by rw[←hx,List.take_take,Nat.min_eq_left hp]
 unfold splice;have hA:((cur.take (p+vs.length)++(xs.drop p++cur.drop (p+vs.length+(xs.drop p).length))).take p)=xs.take p:=by
  rw[List.take_append_of_le_length (by rw[ZM];omega),List.take_take,Nat.min_eq_left (by omega),e0]
 have hB:((cur.take (p+vs.length)++(xs.drop p++cur.drop (p+vs.length+(xs.drop p).length))).drop (p+vs.length))=xs.drop p++cur.drop (p+vs.length+(xs.drop p).length):=by
  have hlen:(cur.take (p+vs.length)).length=p+vs.length:=by rw[ZM];omega
  conv=>lhs;arg 1;rw[←hlen]
  rw[List.drop_left]
 rw[hA,hB,←ZS,←ZS];rw[List.take_append_of_le_length (by simp;omega)];exact List.take_of_length_le (by simp;omega)
theorem W6{α:Type}(Z xs vs:List α)(p n:Nat)(hz:Z.take p=xs.take p)(hxl:xs.length=n)(hp:p≤n)(hr:n+vs.length≤Z.length):
  (splice (splice Z p vs) (p+vs.length) (xs.drop p)).take (n+vs.length)=xs.take p++vs++xs.drop p:=by
 unfold splice;have hpl:p≤Z.length:=by omega
 have hA:((Z.take p++(vs++Z.drop (p+vs.length))).take (p+vs.length))=xs.take p++vs:=by
  rw[←ZS,List.take_append_of_le_length (by simp;omega),hz];exact List.take_of_length_le (by simp;omega)
 rw[hA,←ZS,List.take_append_of_le_length (by simp;omega)];exact List.take_of_length_le (by simp;omega)
theorem Ae6:(Tryz.prog.info? 24).map (fun i=>(i.zero,i.size,i.bytes))=some (some (.agg #[.string ⟨#[]⟩,.int .i64 0,.int .i64 0,.int .i64 0,.bool false]),5,48):=by kernel_rfl
theorem W2:(Tryz.prog.info? 24).map (·.size)=some 5:=by kernel_rfl
theorem Aw9:∀w,(Go.sizeOf 24).run Tryz.prog w=.ok 5 w:=by
 intro w;obtain⟨i0,hi0,hz0,hzs,hzb⟩:=info_parts Ae6;simp[sizeOf,typeInfo,hi0,hzs]
theorem Aik(vb g:Nat)(vc lb cb off:Nat)(vs cur:Array Value)(w:World)(hv:Blk w vb 24 vs)(hg:Blk w g 24 cur)(hne:vb≠g)(hcur:cur.size≠0):
  (callFunc 177 #[.slice (some ⟨vb,0,none⟩) 1 vc,.slice (some ⟨g,off,none⟩) lb cb]).run Tryz.prog w=.ok (.value (.bool false)) w:=by
 rw[run_callFunc_extern Tryz.func177 (by kernel_rfl) (by kernel_rfl) (by kernel_rfl) (e:=Extern.SlicesOverlaps.overlaps #[22,22] #[4]) (by kernel_rfl),
  Lib.run_overlaps_apart w 22 4 24 Tryz.underlying22 5 Aw9 ⟨vb,0,none⟩ ⟨g,off,none⟩ 1 vc lb cb hne 24 24 vs.size cur.size
   (by unfold Blk at hv;simp[World.shape?,hv]) (by unfold Blk at hg;simp[World.shape?,hg]) hcur (hv.frozen _) (hv.frozen _)]
 rfl
def Ak7(L:Nat→Prop)(base n i:Nat)(xs vs:List Value)(w:World)(e:Ending)(w':World):Prop:=
 ∃A' c',e=.returned (.slice A' (n+1) c')∧w'.ownsRow base 24 5 (.slice A' (n+1) c') (n+1) (xs.take (i*5)++vs++xs.drop (i*5))∧Fr L w w'∧∀k,(Value.slice A' (n+1) c').ownBlock=some k→L k∨w.heap.size≤k
set_option maxHeartbeats 1000000 in
set_option maxRecDepth 100000 in
theorem Ao4(base:Nat)(A:Option Addr)(n c:Nat)(xs:List Value)(vb vc:Nat)(vcur:Array Value)(vs:List Value)(w:World)(hown:w.ownsRow base 24 5 (.slice A n c) n xs)(hbase:base≤w.heap.size)(hn:n≤1000)(hv:Blk w vb 24 vcur)(hvc:vcur.toList.take 5=vs)(hvl:vs.length=5)(h1:∀v∈vs,v.oneCell'=true):
  Calls Tryz.prog 97 #[.slice A n c,.int .i64 n,.slice (some ⟨vb,0,none⟩) 1 vc] w (Ak7 (LB A) base n n xs vs w):=by
 obtain⟨i0,hi0,hz0,hzs,hzb⟩:=info_parts Ae6;have hnc:n≤c∧c≤9223372036854775807:=by
  rcases hown.2 with⟨hv,hz⟩|⟨g,cap,cur,hv,_,_,h,h',_⟩
  ·injection hv;omega
  ·injection hv with _ _ e;subst e;exact⟨h,h'⟩
 obtain⟨hnc,hc63⟩:=hnc;have hxs:xs.length=n*5:=hown.1;have HXS:=hid hxs;have HVL:=hid hvl;have HV:=hid hv;have HO:=hid hown;have HZ0:=hid hz0;have HZS:=hid hzs;have HZB:=hid hzb;have HI0:=hid hi0;clear hxs hvl hv hown hz0 hzs hzb hi0;have hnn:((n:Int)==(n:Int))=true:=by simp
 go_enter Tryz.func97,Tryz.ntmps97
 go_wp2_with (at_builtin;refine Ha _ rfl _ _ 22 rfl base 24 i0 _ 5 48 Tryz.underlying22 HI0.out HZ0.out HZS.out HZB.out rfl (by decide) _ _ _ rfl HO.out ⟨vb,0,none⟩ 1 vc vs rfl (by simpa using HVL.out) (U7 HV.out hvc) h1 (by simp only[maxLen];omega) (by omega) hbase ?_;intro v1 w1 hown1 hg1 hd1 hat1)
 all_goals go_ret
 all_goals
  obtain⟨A',c',rfl⟩:=Iy hown1;refine⟨A',c',rfl,?_,(Fr.refl _ _).grown hg1 (Akm HO.out (fun k hk=>Al4 (n:=n) (c:=c) hk)) hd1,fun k hk=>?_⟩;rotate_left
  ·rcases hat1 with h|h
   ·exact .inl (Al4 (n:=n) (c:=c) (h.symm.trans hk))
   ·have:=h.symm.trans hk;injection this with this
    exact .inr (by omega)
  rw[List.take_of_length_le (by have:=HXS.out;omega),List.drop_of_length_le (by have:=HXS.out;omega),List.append_nil];exact hown1
set_option maxHeartbeats 2000000 in
set_option maxRecDepth 100000 in
theorem Ajr(base g:Nat)(n c i:Nat)(cur:Array Value)(xs:List Value)(vb vc:Nat)(vcur:Array Value)(vs:List Value)(w:World)(hg:Blk w g 24 cur)(hbg:base≤g)(hcs:cur.size=c*5)(hcx:cur.toList.take (n*5)=xs)(hi:i<n)(hr:n+1≤c)(hc63:c≤9223372036854775807)(hn:n≤1000)(hv:Blk w vb 24 vcur)(hvc:vcur.toList.take 5=vs)(hne:vb≠g)(hvl:vs.length=5)(h1:∀v∈vs,v.oneCell'=true)(h1x:∀v∈xs,v.oneCell'=true):
  Calls Tryz.prog 97 #[.slice (some ⟨g,0,none⟩) n c,.int .i64 i,.slice (some ⟨vb,0,none⟩) 1 vc] w (Ak7 (LB (some ⟨g,0,none⟩)) base n i xs vs w):=by
 have hcl:cur.toList.length=c*5:=by rw[Array.length_toList];exact hcs
 have hxl:xs.length=n*5:=by rw[←hcx,ZM,hcl];omega
 have hov:∀lb cb,(callFunc 177 #[.slice (some ⟨vb,0,none⟩) 1 vc,.slice (some ⟨g,(i+1)*5,none⟩) lb cb]).run Tryz.prog w=.ok (.value (.bool false)) w:=fun lb cb=>Aik vb g vc lb cb ((i+1)*5) vcur cur w hv hg hne (by omega);have HB2:Hid ((splice (splice cur.toList ((i+1)*5) (xs.drop (i*5))) (i*5) vs).take ((n+1)*5)=xs.take (i*5)++vs++xs.drop (i*5)):=by
  refine hid ?_;have h:=Ve cur.toList xs vs (i*5) (n*5) hcx (by rw[hcl];omega) (by omega) (by rw[hcl,hvl];omega);rw[hvl]at h;rw[Nat.add_mul,Nat.add_mul,Nat.one_mul];exact h
 have HC1:Hid ((xs.drop (i*5)).length=Nat.min (n+1-i) (n-i)*5):=by
  refine hid ?_;rw[List.length_drop,hxl,show Nat.min (n+1-i) (n-i)=n-i from Nat.min_eq_right (by omega),Nat.sub_mul]
 have HC2:=hid (fun j v (hj:(xs.drop (i*5))[j]? =some v)=>J3 hg.drew hcx (i*5) j v hj);have HC3:Hid ((i+1)*5+(xs.drop (i*5)).length≤cur.size):=hid (by rw[List.length_drop];omega);have HC3':Hid ((i+1)*5+(xs.drop (i*5)).length≤cur.toList.length):=hid (by rw[List.length_drop,hcl];omega);have HC4:=hid (fun v (hv:v∈xs.drop (i*5))=>h1x v (List.mem_of_mem_drop hv));have HC5:Hid (vs.length=Nat.min 1 (n+1-i)*5):=by
  refine hid ?_;rw[hvl,show Nat.min 1 (n+1-i)=1 from Nat.min_eq_left (by omega)]
 have HC6:Hid (i*5+vs.length≤(splice cur.toList ((i+1)*5) (xs.drop (i*5))).toArray.size):=by
  refine hid ?_;rw[List.size_toArray,length_splice _ _ _ (by rw[hcl,←hcs];exact HC3.out),hcl,hvl];omega
 have HXL:=hid hxl;have HVL:=hid hvl;have HG:=hid hg;have HV:=hid hv;have HCS:=hid hcs;have HNE:=hid hne;have HCX:=hid hcx;clear hxl hvl hg hv hcs hne hcx;have hw1:IntKind.i64.wrap ((i:Int)+1)=(i:Int)+1:=by rw[IntWalk.i64_in _ (by omega)]
 have hb1:(0:Int)≤(i:Int)+1:=by omega
 have htn:((i:Int)+1).toNat=i+1:=by omega
 have hb3:(i:Int)≤(n:Int)+1:=by omega
 have hb4:(i:Int)+1≤(n:Int)+1:=by omega
 have hb5:(i:Int)≤(n:Int):=by omega
 have hb6:¬c=i:=by omega
 have hb7:¬c=i+1:=by omega
 have hb8:((i:Int)==(n:Int))=false:=by simp;omega
 go_enter Tryz.func97,Tryz.ntmps97
 go_wp2_with (simp only[hov])
 go_region_law (refine M3 rfl (.tmp 73) (.tmp 76) 22 22 rfl 24 5 Tryz.underlying22 W2 g ((i+1)*5) (n-i) (c-(i+1)) ⟨g,i*5,none⟩ (n+1-i) (c-i) (by simp[Act.eval,Act.put]) (by simp[Act.eval,Act.put]) cur 24 HG.out.drew (xs.drop (i*5)) HC1.out HC2.out HC3.out HC4.out ?_;intro w1 hk1 hg1 hd1)
 have HK1:=hid hk1;have HG1:=hid hg1;have HV1:=hid (HV.out.drew.grown hg1 (fun e=>HNE.out (by injection e)));clear hk1 hg1
 go_wp2_with (refine Jf rfl (.tmp 80) (.tmp 81) 22 22 rfl 24 5 Tryz.underlying22 W2 g (i*5) (n+1-i) (c-i) ⟨vb,0,none⟩ 1 vc (by simp[Act.eval]) (by simp[Act.eval]) _ 24 HK1.out vs HC5.out (U7 HV1.out hvc) HC6.out h1 ?_;intro w2 hk2 hg2 hd2)
 go_ret
 refine⟨_,_,rfl,⟨?_,.inr ⟨g,c,_,rfl,hbg,hk2,by omega,by simpa[maxLen]using hc63,?_,?_⟩⟩,?_,fun k hk=>.inl ⟨_,rfl,by injection hk with hk⟩⟩
 ·simp only[ZF,ZM,List.length_drop];have:=HXL.out;have:=HVL.out;omega
 ·have h1:=length_splice cur.toList ((i+1)*5) (xs.drop (i*5)) HC3'.out;have h2:=length_splice (splice cur.toList ((i+1)*5) (xs.drop (i*5))) (i*5) vs (by simpa using HC6.out);rw[List.size_toArray,List.toList_toArray,h2,h1];simpa using HCS.out
 ·rw[List.toList_toArray,List.toList_toArray];exact HB2.out
 ·have hlt:=HG.out.lt;exact((Fr.refl _ w).drew.grown HG1.out (fun k hk=>.inl (⟨_,rfl,by injection hk with hk⟩)) hd1).grown hg2 (fun k hk=>.inl (⟨_,rfl,by injection hk with hk⟩)) hd2
set_option maxHeartbeats 2000000 in
set_option maxRecDepth 100000 in
theorem Ahq(base g:Nat)(n c i:Nat)(cur:Array Value)(xs:List Value)(vb vc:Nat)(vcur:Array Value)(vs:List Value)(w:World)(hg:Blk w g 24 cur)(hbase:base≤w.heap.size)(hcs:cur.size=c*5)(hcx:cur.toList.take (n*5)=xs)(hi:i<n)(hnc:n≤c)(hr:c<n+1)(hn:n≤1000)(hv:Blk w vb 24 vcur)(hvc:vcur.toList.take 5=vs)(hvl:vs.length=5)(h1:∀v∈vs,v.oneCell'=true)(h1x:∀v∈xs,v.oneCell'=true):
  Calls Tryz.prog 97 #[.slice (some ⟨g,0,none⟩) n c,.int .i64 i,.slice (some ⟨vb,0,none⟩) 1 vc] w (Ak7 (LB (some ⟨g,0,none⟩)) base n i xs vs w):=by
 obtain⟨i0,hi0,hz0,hzs,hzb⟩:=info_parts Ae6;have hcl:cur.toList.length=c*5:=by rw[Array.length_toList];exact hcs
 have hxl:xs.length=n*5:=by rw[←hcx,ZM,hcl];omega
 have hold:(Builtin.firstCells i0.size i (.slice (some ⟨g,0,none⟩) i c)).run Tryz.prog w.drew=.ok (xs.take (i*5)).toArray w.drew:=by
  rw[hzs];exact run_firstCells_some w.drew 5 i ⟨g,0,none⟩ i c (xs.take (i*5)) (by rw[ZM];omega) (fun j v hj=>by
   have hj':(xs.drop 0)[j]? =some v:=by
    rw[List.drop_zero];rw[List.getElem?_take]at hj;split at hj
    ·exact hj
    ·cases hj
   exact J3 hg.drew hcx 0 j v hj')
 have hkk:(n:Int)+1-(i:Int)=((n+1-i:Nat):Int):=by omega
 have hik:i+(n+1-i)=n+1:=by omega
 obtain⟨G,hG⟩:∃G,G=grownCap w (n+1) c 24:=⟨_,rfl⟩;have hGn:n+1≤G:=by rw[hG];exact grownCap_ge w _ _ _
 have hG63:G≤9223372036854775807:=by
  have:=grownCap_le_maxLen w (n+1) c 24 (by unfold maxLen;omega);rw[←hG]at this;unfold maxLen at this;omega
 obtain⟨ROW,hROW⟩:∃ROW:Array Value,ROW=(xs.take (i*5)).toArray++Builtin.zeroCells (Value.agg #[.string ⟨#[]⟩,.int .i64 0,.int .i64 0,.int .i64 0,.bool false]).cells (n+1-i)++Builtin.zeroCells (Value.agg #[.string ⟨#[]⟩,.int .i64 0,.int .i64 0,.int .i64 0,.bool false]).cells (G-(n+1)):=⟨_,rfl⟩;have hrz:∀ty,(Builtin.append_ #[22,3] ty #[.slice (some ⟨g,0,none⟩) i c,.int .i64 ((n:Int)+1-(i:Int))]).run Tryz.prog w=
   .ok (.slice (some ⟨w.heap.size,0,none⟩) (n+1) G) (w.drew.alloc (.cells ROW 24)):=fun ty=>by
  have h:=Lib.run_append_grow_zeros w 22 3 ty 24 i0 _ .i64 .i64 Tryz.underlying22 Tryz.underlying3 hi0 hz0 (some ⟨g,0,none⟩) i c (xs.take (i*5)) hold (n+1-i) (by omega) (by omega) (by omega) (by omega) (by rw[hzb];omega) (by rw[hzb,hik];exact growslice_fits hr (by omega));rw[hik]at h;rw[hkk,hROW,hG];exact h
 have hRs:ROW.size=G*5:=by
  rw[hROW];simp[Builtin.zeroCells,Value.cells];omega
 have hRl:ROW.toList.length=G*5:=by rw[Array.length_toList];exact hRs
 have hRt:ROW.toList.take (i*5)=xs.take (i*5):=by
  rw[hROW,Array.toList_append,Array.toList_append,ZS,List.take_append_of_le_length (by simp;omega),List.toList_toArray,List.take_take,Nat.min_self]
 have HB2:Hid ((splice (splice ROW.toList (i*5) vs) ((i+1)*5) (xs.drop (i*5))).take ((n+1)*5)=xs.take (i*5)++vs++xs.drop (i*5)):=by
  refine hid ?_;have h:=W6 ROW.toList xs vs (i*5) (n*5) hRt hxl (by omega) (by rw[hRl,hvl];omega);rw[hvl]at h;rw[Nat.add_mul,Nat.add_mul,Nat.one_mul];exact h
 have hgl:=hg.lt;have hvlt:=hv.lt;have HN:=hid (Blk.new_ w.drew 24 ROW (g:=w.heap.size) rfl);have HV:=hid ((hv.drew).alloc (.cells ROW 24));have HG0:=hid ((hg.drew).alloc (.cells ROW 24));have HC1:Hid (vs.length=Nat.min 1 (n+1-i)*5):=by
  refine hid ?_;rw[hvl,show Nat.min 1 (n+1-i)=1 from Nat.min_eq_left (by omega)]
 have HC2:Hid (i*5+vs.length≤ROW.size):=hid (by rw[hRs,hvl];omega);have HC2':Hid (i*5+vs.length≤ROW.toList.length):=hid (by rw[hRl,hvl];omega);have HC3:Hid ((xs.drop (i*5)).length=Nat.min (n-i) (n-i)*5):=by
  refine hid ?_;rw[List.length_drop,hxl,show Nat.min (n-i) (n-i)=n-i from Nat.min_self _,Nat.sub_mul]
 have HC4:Hid ((i+1)*5+(xs.drop (i*5)).length≤(splice ROW.toList (i*5) vs).toArray.size):=by
  refine hid ?_;rw[List.size_toArray,length_splice _ _ _ HC2'.out,hRl,List.length_drop];omega
 have HC5:=hid (fun v (hv:v∈xs.drop (i*5))=>h1x v (List.mem_of_mem_drop hv));have HRL:=hid hRl;have HXL:=hid hxl;have HVL:=hid hvl;have HCX:=hid hcx;have HRS:=hid hRs;have HNE:Hid (w.heap.size≠g):=hid (by omega);have HNV:Hid (w.heap.size≠vb):=hid (by omega);clear hRl hxl hvl hcx hRs hold hi0 hz0 hzs hzb hkk hik hROW hG hg hv hcs hcl hRt;have hw1:IntKind.i64.wrap ((i:Int)+1)=(i:Int)+1:=by rw[IntWalk.i64_in _ (by omega)]
 have hb1:(0:Int)≤(i:Int)+1:=by omega
 have htn:((i:Int)+1).toNat=i+1:=by omega
 have hb3:(i:Int)≤(n:Int)+1:=by omega
 have hb4:(i:Int)+1≤(n:Int)+1:=by omega
 have hb5:(i:Int)≤(n:Int):=by omega
 have hb6:¬c=i:=by omega
 have hb7:¬G=i+1:=by omega
 have hb9:¬G=i:=by omega
 have hb8:((i:Int)==(n:Int))=false:=by simp;omega
 go_enter Tryz.func97,Tryz.ntmps97
 go_wp2_with (first
  |(at_builtin;refine Lib.wpList_append_run _ rfl _ _ _ _ rfl _ _ rfl rfl _ _ (hrz _) ?_;clear hrz)
  |(refine Jf rfl (.tmp 43) (.tmp 44) 22 22 rfl 24 5 Tryz.underlying22 W2 w.heap.size (i*5) (n+1-i) (G-i) ⟨vb,0,none⟩ 1 vc (by simp[Act.eval]) (by simp[Act.eval]) ROW 24 HN.out.drew vs HC1.out (U7 HV.out.drew hvc) HC2.out h1 ?_;intro w1 hk1 hg1 hd1))
 have HK1:=hid hk1;have HG1:=hid hg1;have HG0':=hid ((show Blk (w.alloc (.cells ROW 24)).drew g 24 cur from HG0.out).grown hg1 (fun e=>HNE.out (by injection e with e;exact e.symm)));have HC2a:=hid (fun j v (hj:(xs.drop (i*5))[j]? =some v)=>J3 HG0'.out.drew HCX.out (i*5) j v hj);clear hk1 hg1
 go_region_law (refine M3 rfl (.tmp 50) (.tmp 53) 22 22 rfl 24 5 Tryz.underlying22 W2 w.heap.size ((i+1)*5) (n-i) (G-(i+1)) ⟨g,i*5,none⟩ (n-i) (c-i) (by simp[Act.eval,Act.put]) (by simp[Act.eval,Act.put]) _ 24 HK1.out.drew (xs.drop (i*5)) HC3.out HC2a.out HC4.out HC5.out ?_;intro w2 hk2 hg2 hd2)
 have HK2:=hid hk2;have HG2:=hid hg2;clear hk2 hg2
 go_wp2
 go_ret
 refine⟨_,_,rfl,⟨?_,.inr ⟨w.heap.size,G,_,rfl,hbase,HK2.out,hGn,by simpa[maxLen]using hG63,?_,?_⟩⟩,?_,fun k hk=>.inr (Nat.le_of_eq (show w.heap.size=k by injection hk))⟩
 ·simp only[ZF,ZM,List.length_drop];have:=HXL.out;have:=HVL.out;omega
 ·have h1:=length_splice ROW.toList (i*5) vs HC2'.out;have h2:=length_splice (splice ROW.toList (i*5) vs) ((i+1)*5) (xs.drop (i*5)) (by simpa using HC4.out);rw[List.size_toArray,List.toList_toArray,h2,h1];simpa using HRS.out
 ·rw[List.toList_toArray,List.toList_toArray];exact HB2.out
 ·exact((((Fr.refl _ w).alloc _).drew.grown HG1.out (fun k hk=>.inr (by injection hk with hk;omega)) hd1).drew).grown HG2.out (fun k hk=>.inr (by injection hk with hk;omega)) hd2
theorem Anz(base:Nat)(A:Option Addr)(n c i:Nat)(xs:List Value)(vb vc:Nat)(vcur:Array Value)(vs:List Value)(w:World)(hown:w.ownsRow base 24 5 (.slice A n c) n xs)(hbase:base≤w.heap.size)(hi:i≤n)(hn:n≤1000)(hv:Blk w vb 24 vcur)(hvc:vcur.toList.take 5=vs)(hne:(Value.slice A n c).ownBlock≠some vb)(hvl:vs.length=5)(h1:∀v∈vs,v.oneCell'=true)(h1x:∀v∈xs,v.oneCell'=true):
  Calls Tryz.prog 97 #[.slice A n c,.int .i64 i,.slice (some ⟨vb,0,none⟩) 1 vc] w (Ak7 (LB A) base n i xs vs w):=by
 by_cases hin:i=n
 ·subst hin;exact Ao4 base A i c xs vb vc vcur vs w hown hbase hn hv hvc hvl h1
 ·obtain⟨hl,h2⟩:=hown;rcases h2 with⟨_,h0⟩|⟨g,cap,cur,hA,hbg,hh,hnc,hm,hsz,htk⟩
  ·omega
  ·injection hA with hA _ hcap;subst hA;subst hcap;have hne':vb≠g:=fun e=>hne (by subst e;rfl);by_cases hr:n+1≤c
   ·exact Ajr base g n c i cur xs vb vc vcur vs w hh hbg hsz htk (by omega) hr (by simpa[maxLen]using hm) hn hv hvc hne' hvl h1 h1x
   ·exact Ahq base g n c i cur xs vb vc vcur vs w hh hbase hsz htk (by omega) hnc (by omega) hn hv hvc hvl h1 h1x
def Bas(base n:Nat)(xs:List Value)(w:World)(e:Ending)(w':World):Prop:=
 ∃A' c',e=.returned (.slice A' n c')∧w'.ownsRow base 24 5 (.slice A' n c') n xs∧Below base w w'∧w.drawn≤w'.drawn
set_option maxRecDepth 100000 in
theorem Ao0(A:Option Addr)(n c:Nat)(xs:List Value)(w:World)(hA:A=none→n=0)(hn:n≤1000)(hxl:xs.length=n*5)(hx:∀ad,A=some ad→∀j u,xs[j]? =some u→w.cell? (ad.add j)=some u)(h1:∀v∈xs,v.oneCell'=true):
  Calls Tryz.prog 41 #[.slice A n c] w (Bas w.heap.size n xs w):=by
 obtain⟨i0,hi0,hz0,hzs,hzb⟩:=info_parts Ae6;cases A with
 |none=>
  obtain rfl:=hA rfl;obtain rfl:xs=[]:=XR (by simpa using hxl);clear hx hxl hi0 hz0 hzs hzb h1;have hnl:=fun(w:World)=>Lib.run_eql_slice_nil (P:=Tryz.prog) w 22 24 none 0 c 0 0 Tryz.underlying22
  go_enter Tryz.func41,Tryz.ntmps41
  go_wp2
  go_ret
  exact⟨none,0,rfl,World.ownsRow_nil _ _ _ _,Below.refl _ _,ZT _⟩
 |some ad=>
  have HX:=hid (hx ad rfl);have HXL:=hid hxl;have HZ0:=hid hz0;have HZS:=hid hzs;have HZB:=hid hzb;have HI0:=hid hi0;clear hx hxl hA hi0 hz0 hzs hzb;have hnl:=fun(w:World)=>Lib.run_eql_slice_nil (P:=Tryz.prog) w 22 24 (some ad) n c 0 0 Tryz.underlying22
  go_enter Tryz.func41,Tryz.ntmps41
  have hown0:(w.alloc (.cells #[] 24)).ownsRow w.heap.size 24 5 (.slice (some ⟨w.heap.size,0,none⟩) 0 0) 0 []:=
   ⟨by simp,.inr ⟨w.heap.size,0, #[],rfl,ZT _,heap_alloc_new w _,by omega,by simp[maxLen],by simp,by simp⟩⟩
  have HO:=hid hown0;have HX1:=hid (fun j u (hj:xs[j]? =some u)=>(World.cell?_alloc_lt w (.cells #[] 24) (ad.add j) (Wu (HX.out j u hj))).trans (HX.out j u hj));clear hown0
  go_wp2_with (at_builtin;refine Ha _ rfl _ _ 22 rfl w.heap.size 24 i0 _ 5 48 Tryz.underlying22 HI0.out HZ0.out HZS.out HZB.out rfl (by decide) _ _ _ rfl HO.out ad n c xs rfl HXL.out HX1.out h1 (by simp only[maxLen];omega) (by omega) (by simp) ?_;intro v1 w1 hown1 hg1 hd1 hat1)
  go_ret
  rw[Nat.zero_add,List.nil_append]at hown1;obtain⟨A',c',rfl⟩:=Iy hown1;exact⟨A',c',rfl,hown1,((Below.refl _ _).alloc (ZT _) _).grown hg1 (by simp) (Eu HO.out),hd1⟩
section
variable {α:Type} {enc:α→List Value} {sz:Nat} {w w':World} {R:Nat→Prop}
theorem Fr.imp{L L':Nat→Prop}(h:Fr L w w')(hl:∀k,L k→L' k):Fr L' w w':=⟨h.os,h.tape,h.output,h.size,fun k hk hn=>h.block k hk fun hl'=>hn (hl k hl')⟩
theorem Rm{u:V}{xs:List Value}(hp:Ik w R [.c u] xs):∃v,xs=[v]∧RV w R noG u v:=by
 have hl:=hp.len
 match xs,hl with
 |[v],_=>exact⟨v,rfl,hp.ok 0 _ _ rfl rfl⟩
theorem Ri(he:∀x,(enc x).length=sz){cl:Bool}{l:List α}{v:Value}(h:RV w R noG (.sl cl (l.map fun x=>(enc x).map .v)) v):
  ∃A c,v=.slice A l.length c∧(A=none→l.length=0)∧∀ad,A=some ad→∀j u,(l.flatMap enc)[j]? =some u→w.cell? (ad.add j)=some u:=by
 generalize hrows:(l.map fun x=>(enc x).map V.v)=rows at h;cases h with
 |nil _ a cap hc=>
  obtain rfl:l=[]:=by simpa using hrows
  exact⟨a,cap,rfl,fun _=>rfl,fun ad _ j u hu=>by simp at hu⟩
 |sl _ _ b off cap sz' f hR hcap hclip hs hcell hh=>
  have hlen:rows.length=l.length:=by rw[←hrows];simp
  rw[hlen];refine⟨some ⟨b,off,none⟩,cap,rfl,(by intro h;cases h),fun ad had j u hu=>?_⟩;injection had with had;subst had
  rw[Aeg _ _ rfl];have hj:j<l.length*sz:=by
   have:=(ZB.1 hu).1
   rwa[J8 he]at this
  have hsz:0<sz:=by rcases Nat.eq_zero_or_pos sz with h|h;(subst h;omega);exact h
  have hd:j/sz<l.length:=Nat.div_lt_of_lt_mul (by rw[Nat.mul_comm];exact hj);have hm:j%sz<sz:=Nat.mod_lt _ hsz;have e2:j=j/sz*sz+j%sz:=by rw[Nat.mul_comm];exact(Nat.div_add_mod j sz).symm
  have hrow:rows[j/sz]? =some ((enc l[j/sz]).map V.v):=by rw[←hrows];simp[hd]
  have hsz':sz'=sz:=by rw[←hs _ (ZH hrow)];simp[he]
  subst hsz';rw[e2,Rf he (j/sz') (j%sz') hd hm]at hu;have hu':((enc l[j/sz']).map V.v)[j%sz']? =some (.v u):=by rw[XJ,hu];rfl
  have h1:=hcell _ _ _ _ hrow hu';have h2:=Bt (hh _ _ _ _ hrow hu');rw[h2]at h1;show w.cell? ⟨b,off+j,none⟩=some u;rw[e2,←Nat.add_assoc];exact h1
theorem Ai6(he:∀x,(enc x).length=sz)(h1:∀x,∀v∈enc x,v.oneCell'=true)(l:List α):Ci w R noG (l.flatMap enc) sz (l.map fun x=>(enc x).map V.v):=by
 refine⟨fun row hr=>?_,fun i j row u g1 g2=>?_⟩
 ·obtain⟨x,_,rfl⟩:=XO.1 hr;simp[he]
 ·have hi:i<l.length:=by have:=(ZB.1 g1).1;simpa using this
  have e:row=(enc l[i]).map V.v:=by simp[hi]at g1;exact g1.symm
  subst e;rw[XJ]at g2;cases hq:(enc l[i])[j]? with
  |none=>rw[hq]at g2;cases g2
  |some y=>
   rw[hq]at g2;simp at g2;subst g2;have hj:j<sz:=by rw[←he l[i]];exact(ZB.1 hq).1
   exact⟨y,by rw[Rf he i j hi hj];exact hq,h1 _ y (ZH hq),.v y⟩
theorem Ac4(he:∀x,(enc x).length=sz){l:List α}{xs:List Value}(hl:xs.length=l.length*sz)(h:Ci w R noG xs sz (l.map fun x=>(enc x).map V.v)):xs=l.flatMap enc:=by
 apply List.ext_getElem?;intro j;by_cases hj:j<l.length*sz
 ·have hsz:0<sz:=by rcases Nat.eq_zero_or_pos sz with h|h;(subst h;omega);exact h
  have hd:j/sz<l.length:=Nat.div_lt_of_lt_mul (by rw[Nat.mul_comm];exact hj);have hm:j%sz<sz:=Nat.mod_lt _ hsz;have e2:j=j/sz*sz+j%sz:=by rw[Nat.mul_comm];exact(Nat.div_add_mod j sz).symm
  have hrow:(l.map fun x=>(enc x).map V.v)[j/sz]? =some ((enc l[j/sz]).map V.v):=by simp[hd]
  have hy:(enc l[j/sz])[j%sz]? =some ((enc l[j/sz])[j%sz]'(by rw[he];exact hm)):=ZC (by rw[he];exact hm);obtain⟨x,h1,_,h2⟩:=h.2 (j/sz) (j%sz) _ _ hrow (by rw[XJ,hy];rfl);rw[Bt h2]at h1;rw[e2,h1,Rf he _ _ hd hm,hy]
 ·rw[XK (by omega),XK (by rw[J8 he];omega)]
theorem Agt(he:∀x,(enc x).length=sz)(l:List α)(x:α)(i:Nat):(l.flatMap enc).take (i*sz)++enc x++(l.flatMap enc).drop (i*sz)=(l.take i++[x]++l.drop i).flatMap enc:=by
 have h:∀(i:Nat) (l:List α),(l.flatMap enc).take (i*sz)=(l.take i).flatMap enc∧(l.flatMap enc).drop (i*sz)=(l.drop i).flatMap enc:=by
  intro i
  induction i with
  |zero=>intro l;simp
  |succ i ih=>
   intro l;cases l with
   |nil=>simp
   |cons y l=>
    have hy:=he y;have:=ih l;rw[List.flatMap_cons,Nat.add_mul,Nat.one_mul];constructor
    ·rw[List.take_append,hy,List.take_of_length_le (by rw[hy];omega),show i*sz+sz-sz=i*sz by omega,this.1,List.take_succ_cons,List.flatMap_cons]
    ·rw[List.drop_append,hy,List.drop_of_length_le (by rw[hy];omega),show i*sz+sz-sz=i*sz by omega,this.2,List.drop_succ_cons,List.nil_append]
 rw[(h i l).1,(h i l).2];simp
theorem H8{T:TypeId}{base:Nat}(he:∀x,(enc x).length=sz)(h1:∀x,∀v∈enc x,v.oneCell'=true)(hsz:0<sz){l:List α}{A:Option Addr}{c:Nat}{L:Nat→Prop}(hlt:∀b,R b→b<w.heap.size)(hown:w'.ownsRow base T sz (.slice A l.length c) l.length (l.flatMap enc))(hfr:Fr L w w')(hk:∀k,(Value.slice A l.length c).ownBlock=some k→L k∨w.heap.size≤k)(hn:∀k,(Value.slice A l.length c).ownBlock=some k→¬R k):
  ∃(ys:List Value) (R':Nat→Prop),Ending.returned (.slice A l.length c)=.returned (Fx ys)∧Fr L w w'∧(∀b,R b→R' b)∧
   (∀b,R' b→R b∨(b<w'.heap.size∧(L b∨w.heap.size≤b)))∧Ik w' R' [.o T sz (l.map fun x=>(enc x).map V.v)] ys∧(∀b,Ax [.o T sz (l.map fun x=>(enc x).map V.v)] ys b→L b∨w.heap.size≤b):=by
 have hpb:∀b,Ax [.o T sz (l.map fun x=>(enc x).map V.v)] [.slice A l.length c] b→(Value.slice A l.length c).ownBlock=some b:=by
  rintro b ⟨i,T',sz',rows',x,g1,g2,g3⟩
  cases i with
  |zero=>simp at g2;subst g2;exact g3
  |succ i=>simp at g1
 refine⟨[.slice A l.length c],R,rfl,hfr,fun _ h=>h,fun b h=>.inl h,⟨rfl,?_,?_,?_⟩,fun b hb=>hk b (hpb b hb)⟩
 ·intro i p x g1 g2;cases i with
  |zero=>
   simp at g1 g2;subst g1 g2;exact⟨hsz,_,by rw[ZE];exact Arb hown (ZU _),Ai6 he h1 l⟩
  |succ i=>simp at g1
 ·intro i j T1 sz1 rows1 T2 sz2 rows2 x y b hij g1 g2;cases i with
  |zero=>cases j with
   |zero=>exact absurd rfl hij
   |succ j=>simp at g2
  |succ i=>simp at g1
 ·intro b hb;exact hn b (hpb b hb)
theorem Ah0{T:TypeId}(he:∀x,(enc x).length=sz){l:List α}{x:α}{z:Value}{xs:List Value}(hp:Ik w R [.o T sz (l.map fun x=>(enc x).map V.v),.c (.v z),.o T sz [(enc x).map V.v]] xs):
  ∃v0 v2,xs=[v0,z,v2]∧w.ownsRow 0 T sz v0 l.length (l.flatMap enc)∧w.ownsRow 0 T sz v2 1 (enc x)∧(∀b,v0.ownBlock=some b→v2.ownBlock≠some b)∧∀b,Ax [.o T sz (l.map fun x=>(enc x).map V.v),.c (.v z),.o T sz [(enc x).map V.v]] xs b→¬R b:=by
 have hl:=hp.len
 match xs,hl with
 |[v0,v1,v2],_=>
  obtain⟨_,x0,h0,h0'⟩:=hp.ok 0 _ _ rfl rfl;have h1:RV w R noG (.v z) v1:=hp.ok 1 _ _ rfl rfl;obtain⟨_,x2,h2,h2'⟩:=hp.ok 2 _ _ rfl rfl;obtain rfl:=Bt h1;rw[ZE]at h0;obtain rfl:=Ac4 he h0.1 h0';have h2'':Ci w R noG x2 sz ([x].map fun x=>(enc x).map V.v):=h2';have e2:=Ac4 he (l:=[x]) h2.1 h2'';simp only[List.flatMap_cons,List.flatMap_nil,List.append_nil]at e2;rw[e2]at h2;exact⟨v0,v2,rfl,h0,h2,fun b g1 g2=>hp.apart 0 2 _ _ _ _ _ _ _ _ b (by omega) rfl rfl rfl rfl g1 g2,hp.free⟩
end
theorem Afh{α:Type}(enc:α→List Value)(he:∀x,(enc x).length=5)(h1:∀x,∀v∈enc x,v.oneCell'=true)(cl:Bool)(l:List α)(hl:l.length≤1000):
  Fun Tryz.prog 41 [.c (.sl cl (l.map fun x=>(enc x).map .v))] [.o 24 5 (l.map fun x=>(enc x).map .v)]:=by
 refine⟨Cn Tryz.func41 (by kernel_rfl) (by kernel_rfl),fun w R xs hlt hp=>?_⟩;obtain⟨v,rfl,hv⟩:=Rm hp;obtain⟨A,c,rfl,hA,hx⟩:=Ri he hv;have hone:∀v∈l.flatMap enc,v.oneCell'=true:=fun v hv=>by
  obtain⟨g,_,hg⟩:=List.mem_flatMap.1 hv;exact h1 g v hg
 refine(Ao0 A l.length c (l.flatMap enc) w hA hl (J8 he l) hx hone).mono ?_
 rintro e w' ⟨A',c',rfl,hown,hb,hd⟩
 exact H8 he h1 (by decide) hlt hown (G7 hb) (fun k hk=>.inr (Eu hown k hk)) (fun k hk=>by have:=Eu hown k hk;intro h;have:=hlt k h;omega)
set_option maxHeartbeats 1000000 in
theorem Ads{α:Type}(enc:α→List Value)(he:∀x,(enc x).length=5)(h1:∀x,∀v∈enc x,v.oneCell'=true)(l:List α)(x:α)(i:Nat)(hi:i≤l.length)(hl:l.length≤1000):
  Fun Tryz.prog 97 [.o 24 5 (l.map fun x=>(enc x).map .v),.c (.v (.int .i64 i)),.o 24 5 [(enc x).map .v]] [.o 24 5 ((l.take i++[x]++l.drop i).map fun x=>(enc x).map .v)]:=by
 refine⟨Cn Tryz.func97 (by kernel_rfl) (by kernel_rfl),fun w R xs hlt hp=>?_⟩;obtain⟨v0,v2,rfl,o0,o2,hap,hf0⟩:=Ah0 (enc:=enc) he hp;obtain⟨A,c,rfl⟩:=Iy o0;rcases o2.2 with⟨_,h0⟩|⟨g,cap,cur,rfl,_,hh,hcap,_,hsz,htk⟩
 ·omega
 have hone:∀v∈l.flatMap enc,v.oneCell'=true:=fun v hv=>by
  obtain⟨g,_,hg⟩:=List.mem_flatMap.1 hv;exact h1 g v hg
 refine(Anz 0 A l.length c i (l.flatMap enc) g cap cur (enc x) w o0 (ZU _) hi hl hh (by rw[Nat.one_mul]at htk;exact htk) (fun e=>hap g e rfl) (he x) (h1 x) hone).mono ?_
 rintro e w' ⟨A',c',rfl,hown,hb,hk⟩
 rw[Agt he l x i,show l.length+1=(l.take i++[x]++l.drop i).length by simp;omega]at hown;rw[show l.length+1=(l.take i++[x]++l.drop i).length by simp;omega]at hk ⊢;have hL:∀k,LB A k→Ax [.o 24 5 (l.map fun x=>(enc x).map .v),.c (.v (.int .i64 i)),.o 24 5 [(enc x).map .v]] [.slice A l.length c,.int .i64 i,.slice (some ⟨g,0,none⟩) 1 cap] k:=fun k ⟨a,ha,hq⟩=>⟨0,_,_,_,_,rfl,rfl,by subst ha;simp only[Value.ownBlock];rw[hq]⟩;exact H8 he h1 (by decide) hlt hown (hb.imp hL) (fun k hk'=>(hk k hk').imp (hL k) (fun h=>h)) (fun k hk'=>by
  rcases hk k hk' with h|h
  ·exact hf0 k (hL k h)
  ·intro h';have:=hlt k h';omega)
theorem Anu(c:Bool)(l:List Mb)(hl:l.length≤9223372036854775807)(hw:∀m∈l,m.ok):Fun Tryz.prog 95 [.c (.sl c (l.map Mb.row))] [.c (.v (.int .i64 (firstErr Mb.err l)))]:=by
 refine A4 B8 rfl ?_;refine G0 ?_;rw[ZE];(refine⟨[],none,{k:Nat//k≤l.length∧∀j,(h:j<l.length)→j<k→(l[j]).err=0},[6,7],fun⟨k,hk,h0⟩=>[(8,.v (.int .i64 k))],[],fun⟨k,hk,h0⟩=>[],fun⟨k,hk,h0⟩=>l.length-k,trivial,fun _=>⟨trivial,fun _=>⟨⟨0,by omega,fun j _ h=>by omega⟩,tI,A2 _ _,tI,A3 _ _⟩⟩,fun⟨k,hk,h0⟩=>?_⟩);refine G0 ?_;(refine Ag (fun h=>?_) (fun h=>?_)<;>rw[h])
 ·have hlt:k<l.length:=by simpa using h
  refine G0 ?_;refine⟨k,_,rfl,A7 hlt,?_⟩;refine G1 ?_;intro gg;refine .inl (cX (Arq _ (hw _ (ZK hlt))) ?_);refine G1 ?_;intro gg;(refine Ag (fun h=>?_) (fun h=>?_)<;>rw[h])
  ·refine G0 ?_;rw[G5 hlt h0 (by simpa using h)];(exact⟨[],aI⟩)
  ·refine G0 ?_;(exact⟨none,trivial,fun _=>⟨⟨k+1,by omega,up1 (p:=fun j h=>(l[j]).err=0) h0 (fun _=>by simpa using h)⟩,by show l.length-(k+1)<l.length-k;omega,tI,tI,tI,tI⟩⟩)
 ·have hge:¬k<l.length:=by simpa using h
  refine G0 ?_;rw[D3 (l:=l) (fun i hi=>h0 i hi (by omega))];(exact⟨[],aI⟩)
def Azm(l:List Mb):List V:=[.sl false (l.map Mb.row)]
theorem Ahp(c:Bool)(ls:List (List Mb))(hls:ls.length≤9223372036854775807)(hl:∀l∈ls,l.length≤9223372036854775807)(hw:∀l∈ls,∀m∈l,m.ok):Fun Tryz.prog 38 [.c (.sl c (ls.map Azm))] [.c (.v (.int .i64 (firstErr I3 ls)))]:=by
 refine A4 Bs rfl ?_;refine G0 ?_;rw[ZE];(refine⟨[],none,{k:Nat//k≤ls.length∧∀j,(h:j<ls.length)→j<k→I3 (ls[j])=0},[7,8],fun⟨k,hk,h0⟩=>[(9,.v (.int .i64 k))],[],fun⟨k,hk,h0⟩=>[],fun⟨k,hk,h0⟩=>ls.length-k,trivial,fun _=>⟨trivial,fun _=>⟨⟨0,by omega,fun j _ h=>by omega⟩,tI,A2 _ _,tI,A3 _ _⟩⟩,fun⟨k,hk,h0⟩=>?_⟩);refine G0 ?_;(refine Ag (fun h=>?_) (fun h=>?_)<;>rw[h])
 ·have hlt:k<ls.length:=by simpa using h
  refine G0 ?_;refine⟨k,_,rfl,A7 hlt,?_⟩;refine G0 ?_;have HL:=hl _ (ZK hlt);have HW:=hw _ (ZK hlt);have HE:=G5 (e:=I3) hlt h0;have HN:I3 ls[k]=0→∀j,(h:j<ls.length)→j<k+1→I3 (ls[j])=0:=fun e=>up1 (p:=fun j h=>I3 (ls[j])=0) h0 (fun _=>e);generalize ls[k]=l at *;rw[ZE];(refine Ag (fun h1=>?_) (fun h1=>?_)<;>rw[h1])
  ·refine G0 ?_;have e:I3 l=2:=Afd (by have:=ZV h1;omega);rw[HE (by rw[e];decide),e];(exact⟨[],aI⟩)
  ·have h1':¬20<l.length:=(by have:=ZW h1;omega);refine G0 ?_;refine .inl (cX (Anu false l HL HW) ?_);refine G1 ?_;intro gg;(refine Ag (fun h2=>?_) (fun h2=>?_)<;>rw[h2])
   ·have h2':firstErr Mb.err l≠0:=by simpa using h2
    refine G0 ?_;have e:I3 l=firstErr Mb.err l:=Af2 h1' h2';rw[HE (by rw[e];exact h2'),e];(exact⟨[],aI⟩)
   ·have h2':firstErr Mb.err l=0:=by simpa using h2
    refine G0 ?_;(refine⟨[],none,{k:Nat//(k<l.length∨k=0)∧∀i,(h:i+1<l.length)→i<k→Mb.lt l[i] l[i+1]=true},[4,7,8,9],fun⟨q,hq,g0⟩=>[(6,.v (.int .i64 ((q:Int)+1)))],[],fun⟨q,hq,g0⟩=>[],fun⟨q,hq,g0⟩=>l.length-q,trivial,fun _=>⟨trivial,fun _=>⟨⟨0,by omega,fun j _ h=>by omega⟩,tI,A2 _ _,tI,A3 _ _⟩⟩,fun⟨q,hq,g0⟩=>?_⟩);refine G0 ?_;rw[ZE];(refine Ag (fun h3=>?_) (fun h3=>?_)<;>rw[h3])
    ·have hlt3:q+1<l.length:=(by have:=ZV h3;omega);refine G0 ?_;refine⟨q+1,_,by omega,A7 hlt3,?_⟩;refine G0 ?_;refine⟨q,_,by omega,A7 (by omega),?_⟩;refine G0 ?_;rw[Avs];(refine Ag (fun h4=>?_) (fun h4=>?_)<;>rw[h4])
     ·refine G0 ?_;have e:I3 l=4:=Aqx h1' h2' (Qt hlt3 (by simpa[Mb.lt]using h4));rw[HE (by rw[e];decide),e];(exact⟨[],aI⟩)
     ·refine G0 ?_;(exact⟨none,trivial,fun _=>⟨⟨q+1,by omega,up2 (p:=fun i h=>Mb.lt l[i] l[i+1]=true) g0 (fun _=>by simpa[Mb.lt]using h4)⟩,by show l.length-(q+1)<l.length-q;omega,tI,tI,tI,tI⟩⟩)
    ·have hge3:¬q+1<l.length:=(by have:=ZW h3;omega);refine G0 ?_;have e:I3 l=0:=Am6 h1' h2' (Pd fun i hi=>g0 i hi (by omega));(exact⟨none,trivial,fun _=>⟨⟨k+1,by omega,HN e⟩,by show ls.length-(k+1)<ls.length-k;omega,tI,tI,tI,tI⟩⟩)
 ·have hge:¬k<ls.length:=by simpa using h
  refine G0 ?_;rw[D3 (l:=ls) (fun i hi=>h0 i hi (by omega))];(exact⟨[],aI⟩)
theorem Ajd(l:List Mb)(hl:l.length≤9223372036854775807)(hw:∀m∈l,m.ok):Fun Tryz.prog 153 [.c (.sl false (l.map Mb.row))] [.c (.v (.int .i64 (I3 l)))]:=by
 refine A4 Db rfl ?_;refine G1 ?_;intro gg;(refine .inl ⟨_,_,true,[],aI,Ahp false [l] (by simp) (by simpa using hl) (by simpa using hw),(fun _=>fI),nI,?_⟩);rw[Jj];refine G1 ?_;intro gg;(exact⟨[],aI⟩)
theorem Alv(g:Mb)(name:ByteArray):Fun Tryz.prog 175 [.c (.agg g.row),.c (.v (.string name))] [.c (.v (.int .i64 (Mb.cf name g)))]:=by
 refine A4 Ah rfl ?_;refine G1 ?_;intro gg;refine .inl (cX (Xq _ _) ?_);refine G1 ?_;intro gg;(exact⟨[],aI⟩)
theorem Asu(c:Bool)(l:List Mb)(name:ByteArray)(hl:l.length≤1000)(hm:Ajj (Mb.cf name) l):Fun Tryz.prog 174 [.c (.sl c (l.map Mb.row)),.c (.v (.string name)),.c (.v (.func (.func 175) #[] #[]))] [.c (.v (.int .i64 (low (Mb.cf name) l))),.c (.v (.bool (hit (Mb.cf name) l)))]:=by
 refine A4 Ac rfl ?_;refine G0 ?_;rw[ZE];(refine⟨[],none,{p:Nat×Nat//p.1≤p.2∧p.2≤l.length∧(∀k,(h:k<l.length)→k<p.1→Mb.cf name l[k]<0)∧(∀k,(h:k<l.length)→p.2≤k→0≤Mb.cf name l[k])},[0,1,2,8],fun⟨⟨i,j⟩,h1,h2,h3,h4⟩=>[(9,.v (.int .i64 i)),(10,.v (.int .i64 j))],[],fun⟨⟨i,j⟩,h1,h2,h3,h4⟩=>[],fun⟨⟨i,j⟩,h1,h2,h3,h4⟩=>j-i,trivial,fun _=>⟨trivial,fun _=>⟨⟨(0,l.length),by omega,by omega,fun k _ h=>absurd h (by omega),fun k h h'=>absurd h (by omega)⟩,tI,A2 _ _,tI,A3 _ _⟩⟩,fun⟨⟨i,j⟩,h1,h2,h3,h4⟩=>?_⟩);dsimp only at h1 h2 h3 h4;refine G0 ?_;(refine Ag (fun h=>?_) (fun h=>?_)<;>rw[h])
 ·have hlt:i<j:=(by have:=ZV h;omega);have hk:(i+j)/2<l.length:=by omega
  refine G0 ?_;refine⟨(i+j)/2,_,by omega,A7 hk,?_⟩;refine G0 ?_;refine .inl (cX (Alv _ _) ?_);refine G1 ?_;intro gg;(refine Ag (fun h5=>?_) (fun h5=>?_)<;>rw[h5])
  ·have h5':Mb.cf name l[(i+j)/2]<0:=by simpa using h5
   refine G0 ?_;(exact⟨none,trivial,fun _=>⟨⟨((i+j)/2+1,j),by dsimp only;omega,h2,fun k hk' hka=>hm k ((i+j)/2) hk' hk (by dsimp only at hka;omega) h5',h4⟩,by show j-((i+j)/2+1)<j-i;omega,tI,tI,tI,tI⟩⟩)
  ·have h5':¬Mb.cf name l[(i+j)/2]<0:=by simpa using h5
   refine G0 ?_;(exact⟨none,trivial,fun _=>⟨⟨(i,(i+j)/2),by dsimp only;omega,by dsimp only;omega,h3,fun k hk' hka=>Int.not_lt.1 (fun h'=>h5' (hm ((i+j)/2) k hk hk' hka h'))⟩,by show(i+j)/2-i<j-i;omega,tI,tI,tI,tI⟩⟩)
 ·have hij:i=j:=(by have:=ZW h;omega);subst hij;have HE:=Asb (cf:=Mb.cf name) h2 h3 h4;refine G0 ?_;(refine Ag (fun h5=>?_) (fun h5=>?_)<;>rw[h5])
  ·have hin:i<l.length:=(by have:=ZV h5;omega);have HH:hit (Mb.cf name) l=decide (Mb.cf name l[i]=0):=by
    have hin':low (Mb.cf name) l<l.length:=by rw[←HE];exact hin
    rw[Ajq hin'];simp only[←HE]
   refine G0 ?_;refine⟨i,_,rfl,A7 hin,?_⟩;refine G0 ?_;refine .inl (cX (Alv _ _) ?_);refine G1 ?_;intro gg;rw[←HE,HH];(exact⟨[],aI⟩)
  ·have HH:hit (Mb.cf name) l=false:=Am5 (by rw[←HE];exact(by have:=ZW h5;omega));refine G0 ?_;rw[←HE,HH];(exact⟨[],aI⟩)
theorem Abm(c:Bool)(l:List Mb)(name:ByteArray)(hl:l.length≤1000)(hm:Ajj (Mb.cf name) l):Fun Tryz.prog 89 [.c (.sl c (l.map Mb.row)),.c (.v (.string name))] [.c (.v (.int .i64 (low (Mb.cf name) l))),.c (.v (.bool (hit (Mb.cf name) l)))]:=by
 refine A4 A5 rfl ?_;refine G0 ?_;refine .inl (cX (Asu c l name hl hm) ?_);refine G1 ?_;intro gg;(exact⟨[],aI⟩)
theorem K4(cl:Bool)(l:List Ru)(hl:l.length≤1000):Fun Tryz.prog 47 [.c (.sl cl (l.map Ru.row))] [.o 91 6 (l.map Ru.row)]:=by
 refine A4 Gk rfl ?_;(refine goI ?_;repeat (intro gg;refine goI ?_));rename_i b;have hb:=gg;cases b with
 |true=>
  have e:l.map Ru.row=[]:=hb rfl;refine G0 ?_;rw[e];(exact⟨[],aI⟩)
 |false=>
  refine G1 ?_;intro gg;refine⟨Ac5,?_⟩;refine G0 ?_;refine⟨lI,lI,?_⟩;refine G1 ?_;intro gg;(exact⟨[80],aI⟩)
theorem Ant(l:List Ru)(i:Nat)(hi:i<l.length)(hl:l.length≤1000):Fun Tryz.prog 94 [.o 91 6 (l.map Ru.row),.c (.v (.int .i64 i)),.c (.v (.int .i64 ((i:Int)+1)))] [.o 91 6 ((l.eraseIdx i).map Ru.row)]:=by
 have hlen:(l.map Ru.row).length=l.length:=by simp
 refine A4 F5 rfl ?_;refine G0 ?_;refine⟨2,i,i+1,rfl,⟨_,rfl⟩,⟨_,rfl⟩,by omega,by show i+1≤(l.map Ru.row).length;omega,?_⟩;refine⟨_,l.length,.i64,rfl,rfl,by rw[←hlen];rfl,by omega,by show l.length≤(l.map Ru.row).length;omega,?_⟩;refine G0 ?_;rw[show(((i:Int)==(i:Int)+1)=false)from by simp;omega];refine G0 ?_;refine⟨0,i,rfl,rfl,⟨_,rfl⟩,by omega,by show i≤(l.map Ru.row).length;omega,rfl,?_⟩;refine G0 ?_;refine⟨i+1,(l.map Ru.row).length,rfl,⟨_,rfl⟩,rfl,by show i+1≤(l.map Ru.row).length;omega,by show(l.map Ru.row).length≤(l.map Ru.row).length;omega,rfl,?_⟩;refine G0 ?_;refine⟨by omega,by omega,by show(l.map Ru.row).length≤(l.map Ru.row).length;omega,?_⟩;refine G0 ?_;have e2:((l.map Ru.row).take i++((l.map Ru.row).drop (i+1)).take ((l.map Ru.row).length-(i+1))++(l.map Ru.row).drop (i+((l.map Ru.row).length-(i+1)))).length=l.length:=by
  simp only[ZF,ZM,List.length_drop,hlen];omega
 refine⟨i+((l.map Ru.row).length-(i+1)),(l.map Ru.row).length,rfl,⟨_,rfl⟩,⟨_,rfl⟩,by omega,?_,rfl,by omega,?_⟩
 ·show 0+(l.map Ru.row).length≤((l.map Ru.row).take i++((l.map Ru.row).drop (i+1)).take ((l.map Ru.row).length-(i+1))++(l.map Ru.row).drop (i+((l.map Ru.row).length-(i+1)))).length;rw[Nat.zero_add,hlen];rw[hlen]at e2;exact Nat.le_of_eq e2.symm
 refine G0 ?_;refine⟨by omega,?_,?_⟩
 ·show 0+(l.map Ru.row).length≤((l.map Ru.row).take i++((l.map Ru.row).drop (i+1)).take ((l.map Ru.row).length-(i+1))++(l.map Ru.row).drop (i+((l.map Ru.row).length-(i+1)))).length;rw[Nat.zero_add,hlen];rw[hlen]at e2;exact Nat.le_of_eq e2.symm
 refine G0 ?_;refine⟨[0],Ari rfl rfl rfl rfl rfl ?_ ?_ ?_⟩
 ·refine XI ?_ (Nat.le_of_eq (congrArg List.length (ZS _ _ _)).symm);rw[ZF,ZM];refine XI (m:=i+((l.map Ru.row).length-(i+1))) (by omega) (XI (Nat.le_min.2 ⟨by omega,?_⟩) (Nat.le_add_right _ _));show _≤((l.map Ru.row).take i++((l.map Ru.row).drop (i+1)).take ((l.map Ru.row).length-(i+1))++(l.map Ru.row).drop (i+((l.map Ru.row).length-(i+1)))).length;rw[hlen];rw[hlen]at e2;rw[e2];omega
 ·repeat' (first|exact Bx|exact Atv rfl|apply Avr|apply Asw|apply Au2)
 ·exact Aio hi
def Ru.same(g h:Ru):Bool:=(g.m.n.toList==h.m.n.toList)&&((g.m.st==h.m.st)&&((g.m.lf==h.m.lf)&&((g.m.ad==h.m.ad)&&((g.m.sv==h.m.sv)&&((g.t==h.t)&&true)))))
theorem Adr:(Tryz.prog.info? 77).map (fun i=>(i.zero,i.size,i.bytes))=some (some (.agg #[.string ⟨#[]⟩,.string ⟨#[]⟩,.string ⟨#[]⟩,.string ⟨#[]⟩,.int .i64 0,.int .i64 0,.bool false,.int .i64 0,.bool false]),9,104):=by kernel_rfl
theorem W1:(Tryz.prog.info? 77).map (·.size)=some 9:=by kernel_rfl
theorem Axc:∀w,(Go.sizeOf 77).run Tryz.prog w=.ok 9 w:=by
 intro w;obtain⟨i0,hi0,hz0,hzs,hzb⟩:=info_parts Adr;simp[sizeOf,typeInfo,hi0,hzs]
theorem Ahw(vb g:Nat)(vc lb cb off:Nat)(vs cur:Array Value)(w:World)(hv:Blk w vb 77 vs)(hg:Blk w g 77 cur)(hne:vb≠g)(hcur:cur.size≠0):
  (callFunc 218 #[.slice (some ⟨vb,0,none⟩) 1 vc,.slice (some ⟨g,off,none⟩) lb cb]).run Tryz.prog w=.ok (.value (.bool false)) w:=by
 rw[run_callFunc_extern Tryz.func218 (by kernel_rfl) (by kernel_rfl) (by kernel_rfl) (e:=Extern.SlicesOverlaps.overlaps #[53,53] #[4]) (by kernel_rfl),
  Lib.run_overlaps_apart w 53 4 77 Tryz.underlying53 9 Axc ⟨vb,0,none⟩ ⟨g,off,none⟩ 1 vc lb cb hne 77 77 vs.size cur.size
   (by unfold Blk at hv;simp[World.shape?,hv]) (by unfold Blk at hg;simp[World.shape?,hg]) hcur (hv.frozen _) (hv.frozen _)]
 rfl
def Akb(L:Nat→Prop)(base n i:Nat)(xs vs:List Value)(w:World)(e:Ending)(w':World):Prop:=
 ∃A' c',e=.returned (.slice A' (n+1) c')∧w'.ownsRow base 77 9 (.slice A' (n+1) c') (n+1) (xs.take (i*9)++vs++xs.drop (i*9))∧Fr L w w'∧∀k,(Value.slice A' (n+1) c').ownBlock=some k→L k∨w.heap.size≤k
set_option maxHeartbeats 1000000 in
set_option maxRecDepth 100000 in
theorem Ao5(base:Nat)(A:Option Addr)(n c:Nat)(xs:List Value)(vb vc:Nat)(vcur:Array Value)(vs:List Value)(w:World)(hown:w.ownsRow base 77 9 (.slice A n c) n xs)(hbase:base≤w.heap.size)(hn:n≤1000)(hv:Blk w vb 77 vcur)(hvc:vcur.toList.take 9=vs)(hvl:vs.length=9)(h1:∀v∈vs,v.oneCell'=true):
  Calls Tryz.prog 165 #[.slice A n c,.int .i64 n,.slice (some ⟨vb,0,none⟩) 1 vc] w (Akb (LB A) base n n xs vs w):=by
 obtain⟨i0,hi0,hz0,hzs,hzb⟩:=info_parts Adr;have hnc:n≤c∧c≤9223372036854775807:=by
  rcases hown.2 with⟨hv,hz⟩|⟨g,cap,cur,hv,_,_,h,h',_⟩
  ·injection hv;omega
  ·injection hv with _ _ e;subst e;exact⟨h,h'⟩
 obtain⟨hnc,hc63⟩:=hnc;have hxs:xs.length=n*9:=hown.1;have HXS:=hid hxs;have HVL:=hid hvl;have HV:=hid hv;have HO:=hid hown;have HZ0:=hid hz0;have HZS:=hid hzs;have HZB:=hid hzb;have HI0:=hid hi0;clear hxs hvl hv hown hz0 hzs hzb hi0;have hnn:((n:Int)==(n:Int))=true:=by simp
 go_enter Tryz.func165,Tryz.ntmps165
 go_wp2_with (at_builtin;refine Ha _ rfl _ _ 53 rfl base 77 i0 _ 9 104 Tryz.underlying53 HI0.out HZ0.out HZS.out HZB.out rfl (by decide) _ _ _ rfl HO.out ⟨vb,0,none⟩ 1 vc vs rfl (by simpa using HVL.out) (U7 HV.out hvc) h1 (by simp only[maxLen];omega) (by omega) hbase ?_;intro v1 w1 hown1 hg1 hd1 hat1)
 all_goals go_ret
 all_goals
  obtain⟨A',c',rfl⟩:=Iy hown1;refine⟨A',c',rfl,?_,(Fr.refl _ _).grown hg1 (Akm HO.out (fun k hk=>Al4 (n:=n) (c:=c) hk)) hd1,fun k hk=>?_⟩;rotate_left
  ·rcases hat1 with h|h
   ·exact .inl (Al4 (n:=n) (c:=c) (h.symm.trans hk))
   ·have:=h.symm.trans hk;injection this with this
    exact .inr (by omega)
  rw[List.take_of_length_le (by have:=HXS.out;omega),List.drop_of_length_le (by have:=HXS.out;omega),List.append_nil];exact hown1
set_option maxHeartbeats 2000000 in
set_option maxRecDepth 100000 in
theorem Aic(base g:Nat)(n c i:Nat)(cur:Array Value)(xs:List Value)(vb vc:Nat)(vcur:Array Value)(vs:List Value)(w:World)(hg:Blk w g 77 cur)(hbg:base≤g)(hcs:cur.size=c*9)(hcx:cur.toList.take (n*9)=xs)(hi:i<n)(hr:n+1≤c)(hc63:c≤9223372036854775807)(hn:n≤1000)(hv:Blk w vb 77 vcur)(hvc:vcur.toList.take 9=vs)(hne:vb≠g)(hvl:vs.length=9)(h1:∀v∈vs,v.oneCell'=true)(h1x:∀v∈xs,v.oneCell'=true):
  Calls Tryz.prog 165 #[.slice (some ⟨g,0,none⟩) n c,.int .i64 i,.slice (some ⟨vb,0,none⟩) 1 vc] w (Akb (LB (some ⟨g,0,none⟩)) base n i xs vs w):=by
 have hcl:cur.toList.length=c*9:=by rw[Array.length_toList];exact hcs
 have hxl:xs.length=n*9:=by rw[←hcx,ZM,hcl];omega
 have hov:∀lb cb,(callFunc 218 #[.slice (some ⟨vb,0,none⟩) 1 vc,.slice (some ⟨g,(i+1)*9,none⟩) lb cb]).run Tryz.prog w=.ok (.value (.bool false)) w:=fun lb cb=>Ahw vb g vc lb cb ((i+1)*9) vcur cur w hv hg hne (by omega);have HB2:Hid ((splice (splice cur.toList ((i+1)*9) (xs.drop (i*9))) (i*9) vs).take ((n+1)*9)=xs.take (i*9)++vs++xs.drop (i*9)):=by
  refine hid ?_;have h:=Ve cur.toList xs vs (i*9) (n*9) hcx (by rw[hcl];omega) (by omega) (by rw[hcl,hvl];omega);rw[hvl]at h;rw[Nat.add_mul,Nat.add_mul,Nat.one_mul];exact h
 have HC1:Hid ((xs.drop (i*9)).length=Nat.min (n+1-i) (n-i)*9):=by
  refine hid ?_;rw[List.length_drop,hxl,show Nat.min (n+1-i) (n-i)=n-i from Nat.min_eq_right (by omega),Nat.sub_mul]
 have HC2:=hid (fun j v (hj:(xs.drop (i*9))[j]? =some v)=>J3 hg.drew hcx (i*9) j v hj);have HC3:Hid ((i+1)*9+(xs.drop (i*9)).length≤cur.size):=hid (by rw[List.length_drop];omega);have HC3':Hid ((i+1)*9+(xs.drop (i*9)).length≤cur.toList.length):=hid (by rw[List.length_drop,hcl];omega);have HC4:=hid (fun v (hv:v∈xs.drop (i*9))=>h1x v (List.mem_of_mem_drop hv));have HC5:Hid (vs.length=Nat.min 1 (n+1-i)*9):=by
  refine hid ?_;rw[hvl,show Nat.min 1 (n+1-i)=1 from Nat.min_eq_left (by omega)]
 have HC6:Hid (i*9+vs.length≤(splice cur.toList ((i+1)*9) (xs.drop (i*9))).toArray.size):=by
  refine hid ?_;rw[List.size_toArray,length_splice _ _ _ (by rw[hcl,←hcs];exact HC3.out),hcl,hvl];omega
 have HXL:=hid hxl;have HVL:=hid hvl;have HG:=hid hg;have HV:=hid hv;have HCS:=hid hcs;have HNE:=hid hne;have HCX:=hid hcx;clear hxl hvl hg hv hcs hne hcx;have hw1:IntKind.i64.wrap ((i:Int)+1)=(i:Int)+1:=by rw[IntWalk.i64_in _ (by omega)]
 have hb1:(0:Int)≤(i:Int)+1:=by omega
 have htn:((i:Int)+1).toNat=i+1:=by omega
 have hb3:(i:Int)≤(n:Int)+1:=by omega
 have hb4:(i:Int)+1≤(n:Int)+1:=by omega
 have hb5:(i:Int)≤(n:Int):=by omega
 have hb6:¬c=i:=by omega
 have hb7:¬c=i+1:=by omega
 have hb8:((i:Int)==(n:Int))=false:=by simp;omega
 go_enter Tryz.func165,Tryz.ntmps165
 go_wp2_with (simp only[hov])
 go_region_law (refine M3 rfl (.tmp 73) (.tmp 76) 53 53 rfl 77 9 Tryz.underlying53 W1 g ((i+1)*9) (n-i) (c-(i+1)) ⟨g,i*9,none⟩ (n+1-i) (c-i) (by simp[Act.eval,Act.put]) (by simp[Act.eval,Act.put]) cur 77 HG.out.drew (xs.drop (i*9)) HC1.out HC2.out HC3.out HC4.out ?_;intro w1 hk1 hg1 hd1)
 have HK1:=hid hk1;have HG1:=hid hg1;have HV1:=hid (HV.out.drew.grown hg1 (fun e=>HNE.out (by injection e)));clear hk1 hg1
 go_wp2_with (refine Jf rfl (.tmp 80) (.tmp 81) 53 53 rfl 77 9 Tryz.underlying53 W1 g (i*9) (n+1-i) (c-i) ⟨vb,0,none⟩ 1 vc (by simp[Act.eval]) (by simp[Act.eval]) _ 77 HK1.out vs HC5.out (U7 HV1.out hvc) HC6.out h1 ?_;intro w2 hk2 hg2 hd2)
 go_ret
 refine⟨_,_,rfl,⟨?_,.inr ⟨g,c,_,rfl,hbg,hk2,by omega,by simpa[maxLen]using hc63,?_,?_⟩⟩,?_,fun k hk=>.inl ⟨_,rfl,by injection hk with hk⟩⟩
 ·simp only[ZF,ZM,List.length_drop];have:=HXL.out;have:=HVL.out;omega
 ·have h1:=length_splice cur.toList ((i+1)*9) (xs.drop (i*9)) HC3'.out;have h2:=length_splice (splice cur.toList ((i+1)*9) (xs.drop (i*9))) (i*9) vs (by simpa using HC6.out);rw[List.size_toArray,List.toList_toArray,h2,h1];simpa using HCS.out
 ·rw[List.toList_toArray,List.toList_toArray];exact HB2.out
 ·have hlt:=HG.out.lt;exact((Fr.refl _ w).drew.grown HG1.out (fun k hk=>.inl (⟨_,rfl,by injection hk with hk⟩)) hd1).grown hg2 (fun k hk=>.inl (⟨_,rfl,by injection hk with hk⟩)) hd2
set_option maxHeartbeats 2000000 in
set_option maxRecDepth 100000 in
theorem Ajz(base g:Nat)(n c i:Nat)(cur:Array Value)(xs:List Value)(vb vc:Nat)(vcur:Array Value)(vs:List Value)(w:World)(hg:Blk w g 77 cur)(hbase:base≤w.heap.size)(hcs:cur.size=c*9)(hcx:cur.toList.take (n*9)=xs)(hi:i<n)(hnc:n≤c)(hr:c<n+1)(hn:n≤1000)(hv:Blk w vb 77 vcur)(hvc:vcur.toList.take 9=vs)(hvl:vs.length=9)(h1:∀v∈vs,v.oneCell'=true)(h1x:∀v∈xs,v.oneCell'=true):
  Calls Tryz.prog 165 #[.slice (some ⟨g,0,none⟩) n c,.int .i64 i,.slice (some ⟨vb,0,none⟩) 1 vc] w (Akb (LB (some ⟨g,0,none⟩)) base n i xs vs w):=by
 obtain⟨i0,hi0,hz0,hzs,hzb⟩:=info_parts Adr;have hcl:cur.toList.length=c*9:=by rw[Array.length_toList];exact hcs
 have hxl:xs.length=n*9:=by rw[←hcx,ZM,hcl];omega
 have hold:(Builtin.firstCells i0.size i (.slice (some ⟨g,0,none⟩) i c)).run Tryz.prog w.drew=.ok (xs.take (i*9)).toArray w.drew:=by
  rw[hzs];exact run_firstCells_some w.drew 9 i ⟨g,0,none⟩ i c (xs.take (i*9)) (by rw[ZM];omega) (fun j v hj=>by
   have hj':(xs.drop 0)[j]? =some v:=by
    rw[List.drop_zero];rw[List.getElem?_take]at hj;split at hj
    ·exact hj
    ·cases hj
   exact J3 hg.drew hcx 0 j v hj')
 have hkk:(n:Int)+1-(i:Int)=((n+1-i:Nat):Int):=by omega
 have hik:i+(n+1-i)=n+1:=by omega
 obtain⟨G,hG⟩:∃G,G=grownCap w (n+1) c 77:=⟨_,rfl⟩;have hGn:n+1≤G:=by rw[hG];exact grownCap_ge w _ _ _
 have hG63:G≤9223372036854775807:=by
  have:=grownCap_le_maxLen w (n+1) c 77 (by unfold maxLen;omega);rw[←hG]at this;unfold maxLen at this;omega
 obtain⟨ROW,hROW⟩:∃ROW:Array Value,ROW=(xs.take (i*9)).toArray++Builtin.zeroCells (Value.agg #[.string ⟨#[]⟩,.string ⟨#[]⟩,.string ⟨#[]⟩,.string ⟨#[]⟩,.int .i64 0,.int .i64 0,.bool false,.int .i64 0,.bool false]).cells (n+1-i)++Builtin.zeroCells (Value.agg #[.string ⟨#[]⟩,.string ⟨#[]⟩,.string ⟨#[]⟩,.string ⟨#[]⟩,.int .i64 0,.int .i64 0,.bool false,.int .i64 0,.bool false]).cells (G-(n+1)):=⟨_,rfl⟩;have hrz:∀ty,(Builtin.append_ #[53,3] ty #[.slice (some ⟨g,0,none⟩) i c,.int .i64 ((n:Int)+1-(i:Int))]).run Tryz.prog w=
   .ok (.slice (some ⟨w.heap.size,0,none⟩) (n+1) G) (w.drew.alloc (.cells ROW 77)):=fun ty=>by
  have h:=Lib.run_append_grow_zeros w 53 3 ty 77 i0 _ .i64 .i64 Tryz.underlying53 Tryz.underlying3 hi0 hz0 (some ⟨g,0,none⟩) i c (xs.take (i*9)) hold (n+1-i) (by omega) (by omega) (by omega) (by omega) (by rw[hzb];omega) (by rw[hzb,hik];exact growslice_fits hr (by omega));rw[hik]at h;rw[hkk,hROW,hG];exact h
 have hRs:ROW.size=G*9:=by
  rw[hROW];simp[Builtin.zeroCells,Value.cells];omega
 have hRl:ROW.toList.length=G*9:=by rw[Array.length_toList];exact hRs
 have hRt:ROW.toList.take (i*9)=xs.take (i*9):=by
  rw[hROW,Array.toList_append,Array.toList_append,ZS,List.take_append_of_le_length (by simp;omega),List.toList_toArray,List.take_take,Nat.min_self]
 have HB2:Hid ((splice (splice ROW.toList (i*9) vs) ((i+1)*9) (xs.drop (i*9))).take ((n+1)*9)=xs.take (i*9)++vs++xs.drop (i*9)):=by
  refine hid ?_;have h:=W6 ROW.toList xs vs (i*9) (n*9) hRt hxl (by omega) (by rw[hRl,hvl];omega);rw[hvl]at h;rw[Nat.add_mul,Nat.add_mul,Nat.one_mul];exact h
 have hgl:=hg.lt;have hvlt:=hv.lt;have HN:=hid (Blk.new_ w.drew 77 ROW (g:=w.heap.size) rfl);have HV:=hid ((hv.drew).alloc (.cells ROW 77));have HG0:=hid ((hg.drew).alloc (.cells ROW 77));have HC1:Hid (vs.length=Nat.min 1 (n+1-i)*9):=by
  refine hid ?_;rw[hvl,show Nat.min 1 (n+1-i)=1 from Nat.min_eq_left (by omega)]
 have HC2:Hid (i*9+vs.length≤ROW.size):=hid (by rw[hRs,hvl];omega);have HC2':Hid (i*9+vs.length≤ROW.toList.length):=hid (by rw[hRl,hvl];omega);have HC3:Hid ((xs.drop (i*9)).length=Nat.min (n-i) (n-i)*9):=by
  refine hid ?_;rw[List.length_drop,hxl,show Nat.min (n-i) (n-i)=n-i from Nat.min_self _,Nat.sub_mul]
 have HC4:Hid ((i+1)*9+(xs.drop (i*9)).length≤(splice ROW.toList (i*9) vs).toArray.size):=by
  refine hid ?_;rw[List.size_toArray,length_splice _ _ _ HC2'.out,hRl,List.length_drop];omega
 have HC5:=hid (fun v (hv:v∈xs.drop (i*9))=>h1x v (List.mem_of_mem_drop hv));have HRL:=hid hRl;have HXL:=hid hxl;have HVL:=hid hvl;have HCX:=hid hcx;have HRS:=hid hRs;have HNE:Hid (w.heap.size≠g):=hid (by omega);have HNV:Hid (w.heap.size≠vb):=hid (by omega);clear hRl hxl hvl hcx hRs hold hi0 hz0 hzs hzb hkk hik hROW hG hg hv hcs hcl hRt;have hw1:IntKind.i64.wrap ((i:Int)+1)=(i:Int)+1:=by rw[IntWalk.i64_in _ (by omega)]
 have hb1:(0:Int)≤(i:Int)+1:=by omega
 have htn:((i:Int)+1).toNat=i+1:=by omega
 have hb3:(i:Int)≤(n:Int)+1:=by omega
 have hb4:(i:Int)+1≤(n:Int)+1:=by omega
 have hb5:(i:Int)≤(n:Int):=by omega
 have hb6:¬c=i:=by omega
 have hb7:¬G=i+1:=by omega
 have hb9:¬G=i:=by omega
 have hb8:((i:Int)==(n:Int))=false:=by simp;omega
 go_enter Tryz.func165,Tryz.ntmps165
 go_wp2_with (first
  |(at_builtin;refine Lib.wpList_append_run _ rfl _ _ _ _ rfl _ _ rfl rfl _ _ (hrz _) ?_;clear hrz)
  |(refine Jf rfl (.tmp 43) (.tmp 44) 53 53 rfl 77 9 Tryz.underlying53 W1 w.heap.size (i*9) (n+1-i) (G-i) ⟨vb,0,none⟩ 1 vc (by simp[Act.eval]) (by simp[Act.eval]) ROW 77 HN.out.drew vs HC1.out (U7 HV.out.drew hvc) HC2.out h1 ?_;intro w1 hk1 hg1 hd1))
 have HK1:=hid hk1;have HG1:=hid hg1;have HG0':=hid ((show Blk (w.alloc (.cells ROW 77)).drew g 77 cur from HG0.out).grown hg1 (fun e=>HNE.out (by injection e with e;exact e.symm)));have HC2a:=hid (fun j v (hj:(xs.drop (i*9))[j]? =some v)=>J3 HG0'.out.drew HCX.out (i*9) j v hj);clear hk1 hg1
 go_region_law (refine M3 rfl (.tmp 50) (.tmp 53) 53 53 rfl 77 9 Tryz.underlying53 W1 w.heap.size ((i+1)*9) (n-i) (G-(i+1)) ⟨g,i*9,none⟩ (n-i) (c-i) (by simp[Act.eval,Act.put]) (by simp[Act.eval,Act.put]) _ 77 HK1.out.drew (xs.drop (i*9)) HC3.out HC2a.out HC4.out HC5.out ?_;intro w2 hk2 hg2 hd2)
 have HK2:=hid hk2;have HG2:=hid hg2;clear hk2 hg2
 go_wp2
 go_ret
 refine⟨_,_,rfl,⟨?_,.inr ⟨w.heap.size,G,_,rfl,hbase,HK2.out,hGn,by simpa[maxLen]using hG63,?_,?_⟩⟩,?_,fun k hk=>.inr (Nat.le_of_eq (show w.heap.size=k by injection hk))⟩
 ·simp only[ZF,ZM,List.length_drop];have:=HXL.out;have:=HVL.out;omega
 ·have h1:=length_splice ROW.toList (i*9) vs HC2'.out;have h2:=length_splice (splice ROW.toList (i*9) vs) ((i+1)*9) (xs.drop (i*9)) (by simpa using HC4.out);rw[List.size_toArray,List.toList_toArray,h2,h1];simpa using HRS.out
 ·rw[List.toList_toArray,List.toList_toArray];exact HB2.out
 ·exact((((Fr.refl _ w).alloc _).drew.grown HG1.out (fun k hk=>.inr (by injection hk with hk;omega)) hd1).drew).grown HG2.out (fun k hk=>.inr (by injection hk with hk;omega)) hd2
theorem Ame(base:Nat)(A:Option Addr)(n c i:Nat)(xs:List Value)(vb vc:Nat)(vcur:Array Value)(vs:List Value)(w:World)(hown:w.ownsRow base 77 9 (.slice A n c) n xs)(hbase:base≤w.heap.size)(hi:i≤n)(hn:n≤1000)(hv:Blk w vb 77 vcur)(hvc:vcur.toList.take 9=vs)(hne:(Value.slice A n c).ownBlock≠some vb)(hvl:vs.length=9)(h1:∀v∈vs,v.oneCell'=true)(h1x:∀v∈xs,v.oneCell'=true):
  Calls Tryz.prog 165 #[.slice A n c,.int .i64 i,.slice (some ⟨vb,0,none⟩) 1 vc] w (Akb (LB A) base n i xs vs w):=by
 by_cases hin:i=n
 ·subst hin;exact Ao5 base A i c xs vb vc vcur vs w hown hbase hn hv hvc hvl h1
 ·obtain⟨hl,h2⟩:=hown;rcases h2 with⟨_,h0⟩|⟨g,cap,cur,hA,hbg,hh,hnc,hm,hsz,htk⟩
  ·omega
  ·injection hA with hA _ hcap;subst hA;subst hcap;have hne':vb≠g:=fun e=>hne (by subst e;rfl);by_cases hr:n+1≤c
   ·exact Aic base g n c i cur xs vb vc vcur vs w hh hbg hsz htk (by omega) hr (by simpa[maxLen]using hm) hn hv hvc hne' hvl h1 h1x
   ·exact Ajz base g n c i cur xs vb vc vcur vs w hh hbase hsz htk (by omega) hnc (by omega) hn hv hvc hvl h1 h1x
def Azr(base n:Nat)(xs:List Value)(w:World)(e:Ending)(w':World):Prop:=
 ∃A' c',e=.returned (.slice A' n c')∧w'.ownsRow base 77 9 (.slice A' n c') n xs∧Below base w w'∧w.drawn≤w'.drawn
set_option maxRecDepth 100000 in
theorem An6(A:Option Addr)(n c:Nat)(xs:List Value)(w:World)(hA:A=none→n=0)(hn:n≤1000)(hxl:xs.length=n*9)(hx:∀ad,A=some ad→∀j u,xs[j]? =some u→w.cell? (ad.add j)=some u)(h1:∀v∈xs,v.oneCell'=true):
  Calls Tryz.prog 117 #[.slice A n c] w (Azr w.heap.size n xs w):=by
 obtain⟨i0,hi0,hz0,hzs,hzb⟩:=info_parts Adr;cases A with
 |none=>
  obtain rfl:=hA rfl;obtain rfl:xs=[]:=XR (by simpa using hxl);clear hx hxl hi0 hz0 hzs hzb h1;have hnl:=fun(w:World)=>Lib.run_eql_slice_nil (P:=Tryz.prog) w 53 77 none 0 c 0 0 Tryz.underlying53
  go_enter Tryz.func117,Tryz.ntmps117
  go_wp2
  go_ret
  exact⟨none,0,rfl,World.ownsRow_nil _ _ _ _,Below.refl _ _,ZT _⟩
 |some ad=>
  have HX:=hid (hx ad rfl);have HXL:=hid hxl;have HZ0:=hid hz0;have HZS:=hid hzs;have HZB:=hid hzb;have HI0:=hid hi0;clear hx hxl hA hi0 hz0 hzs hzb;have hnl:=fun(w:World)=>Lib.run_eql_slice_nil (P:=Tryz.prog) w 53 77 (some ad) n c 0 0 Tryz.underlying53
  go_enter Tryz.func117,Tryz.ntmps117
  have hown0:(w.alloc (.cells #[] 77)).ownsRow w.heap.size 77 9 (.slice (some ⟨w.heap.size,0,none⟩) 0 0) 0 []:=
   ⟨by simp,.inr ⟨w.heap.size,0, #[],rfl,ZT _,heap_alloc_new w _,by omega,by simp[maxLen],by simp,by simp⟩⟩
  have HO:=hid hown0;have HX1:=hid (fun j u (hj:xs[j]? =some u)=>(World.cell?_alloc_lt w (.cells #[] 77) (ad.add j) (Wu (HX.out j u hj))).trans (HX.out j u hj));clear hown0
  go_wp2_with (at_builtin;refine Ha _ rfl _ _ 53 rfl w.heap.size 77 i0 _ 9 104 Tryz.underlying53 HI0.out HZ0.out HZS.out HZB.out rfl (by decide) _ _ _ rfl HO.out ad n c xs rfl HXL.out HX1.out h1 (by simp only[maxLen];omega) (by omega) (by simp) ?_;intro v1 w1 hown1 hg1 hd1 hat1)
  go_ret
  rw[Nat.zero_add,List.nil_append]at hown1;obtain⟨A',c',rfl⟩:=Iy hown1;exact⟨A',c',rfl,hown1,((Below.refl _ _).alloc (ZT _) _).grown hg1 (by simp) (Eu HO.out),hd1⟩
theorem Agp{α:Type}(enc:α→List Value)(he:∀x,(enc x).length=9)(h1:∀x,∀v∈enc x,v.oneCell'=true)(cl:Bool)(l:List α)(hl:l.length≤1000):
  Fun Tryz.prog 117 [.c (.sl cl (l.map fun x=>(enc x).map .v))] [.o 77 9 (l.map fun x=>(enc x).map .v)]:=by
 refine⟨Cn Tryz.func117 (by kernel_rfl) (by kernel_rfl),fun w R xs hlt hp=>?_⟩;obtain⟨v,rfl,hv⟩:=Rm hp;obtain⟨A,c,rfl,hA,hx⟩:=Ri he hv;have hone:∀v∈l.flatMap enc,v.oneCell'=true:=fun v hv=>by
  obtain⟨g,_,hg⟩:=List.mem_flatMap.1 hv;exact h1 g v hg
 refine(An6 A l.length c (l.flatMap enc) w hA hl (J8 he l) hx hone).mono ?_
 rintro e w' ⟨A',c',rfl,hown,hb,hd⟩
 exact H8 he h1 (by decide) hlt hown (G7 hb) (fun k hk=>.inr (Eu hown k hk)) (fun k hk=>by have:=Eu hown k hk;intro h;have:=hlt k h;omega)
set_option maxHeartbeats 1000000 in
theorem Aea{α:Type}(enc:α→List Value)(he:∀x,(enc x).length=9)(h1:∀x,∀v∈enc x,v.oneCell'=true)(l:List α)(x:α)(i:Nat)(hi:i≤l.length)(hl:l.length≤1000):
  Fun Tryz.prog 165 [.o 77 9 (l.map fun x=>(enc x).map .v),.c (.v (.int .i64 i)),.o 77 9 [(enc x).map .v]] [.o 77 9 ((l.take i++[x]++l.drop i).map fun x=>(enc x).map .v)]:=by
 refine⟨Cn Tryz.func165 (by kernel_rfl) (by kernel_rfl),fun w R xs hlt hp=>?_⟩;obtain⟨v0,v2,rfl,o0,o2,hap,hf0⟩:=Ah0 (enc:=enc) he hp;obtain⟨A,c,rfl⟩:=Iy o0;rcases o2.2 with⟨_,h0⟩|⟨g,cap,cur,rfl,_,hh,hcap,_,hsz,htk⟩
 ·omega
 have hone:∀v∈l.flatMap enc,v.oneCell'=true:=fun v hv=>by
  obtain⟨g,_,hg⟩:=List.mem_flatMap.1 hv;exact h1 g v hg
 refine(Ame 0 A l.length c i (l.flatMap enc) g cap cur (enc x) w o0 (ZU _) hi hl hh (by rw[Nat.one_mul]at htk;exact htk) (fun e=>hap g e rfl) (he x) (h1 x) hone).mono ?_
 rintro e w' ⟨A',c',rfl,hown,hb,hk⟩
 rw[Agt he l x i,show l.length+1=(l.take i++[x]++l.drop i).length by simp;omega]at hown;rw[show l.length+1=(l.take i++[x]++l.drop i).length by simp;omega]at hk ⊢;have hL:∀k,LB A k→Ax [.o 77 9 (l.map fun x=>(enc x).map .v),.c (.v (.int .i64 i)),.o 77 9 [(enc x).map .v]] [.slice A l.length c,.int .i64 i,.slice (some ⟨g,0,none⟩) 1 cap] k:=fun k ⟨a,ha,hq⟩=>⟨0,_,_,_,_,rfl,rfl,by subst ha;simp only[Value.ownBlock];rw[hq]⟩;exact H8 he h1 (by decide) hlt hown (hb.imp hL) (fun k hk'=>(hk k hk').imp (hL k) (fun h=>h)) (fun k hk'=>by
  rcases hk k hk' with h|h
  ·exact hf0 k (hL k h)
  ·intro h';have:=hlt k h';omega)
end Go.Proofs.YtkbjgdcdjccnaaaGreatDoor
