/- Texts of this claim, joined. -/
import Derived.Shelf.Strings.OnBuilder
import Derived.Test.YtkbjgdcdjccnaaaGreatDoorProg
import Derived.Test.YtkbjgdcdjccnaaaGreatDoorRows
import Derived.Test.YtkbjgdcdjccnaaaGreatDoorYAbsQ
import Derived.Shelf.Strings.BuilderK
import Derived.Maps.AppendAt
import Derived.Lib.AppendStr
import Derived.Test.YtkbjgdcdjccnaaaGreatDoorUa
import Derived.Test.YtkbjgdcdjccnaaaGreatDoorUb
import Derived.Test.YtkbjgdcdjccnaaaGreatDoorUc
set_option linter.unusedSimpArgs false
set_option linter.unusedVariables false
namespace Go.Proofs.YtkbjgdcdjccnaaaGreatDoor
open Go.RowKit Pl
def Bg(s:ByteArray):List ByteArray:=if(s.toList==(⟨#[]⟩:ByteArray).toList)=true then []else Cu 46 s
def As(s:ByteArray):Int:=if(Bg s).any (fun x=> !lab x.data.toList)=true then 1 else if 8<(Bg s).length then 2 else if 120<s.size then 2 else 0
theorem Ac3(s:ByteArray)(c:UInt8)(hs:s.size≤1000000000000):Fun Tryz.prog 137 [.c (.v (.string s)),.c (.v (.string ⟨#[c]⟩))] [.o 9 1 ((Cu c s).map Bm)]:=by
 refine A4 Tj rfl ?_;refine G0 ?_;refine .inl (cX (Acl s c hs) ?_);refine G1 ?_;intro gg;(exact⟨[112],aI⟩)
theorem Zs(s:ByteArray)(hs:s.size≤1000000000000):Fun Tryz.prog 145 [.c (.v (.string s))] [.c (.sl false ((Bg s).map Bm))]:=by
 refine A4 Aa3 rfl ?_;refine G0 ?_;(refine Ag (fun h=>?_) (fun h=>?_)<;>rw[h])
 ·refine G0 ?_;rw[show Bg s=[]from if_pos h];(exact⟨[],aI⟩)
 ·refine G0 ?_;refine .inl (cX (Ac3 s 46 hs) ?_);refine G1 ?_;intro gg;rw[show Bg s=Cu 46 s from if_neg (by rw[h];decide)];(exact⟨[],aI⟩)
theorem Ap4(s:ByteArray)(hs:s.size≤9223372036854775807):Fun Tryz.prog 146 [.c (.v (.string s))] [.c (.v (.bool (!lab s.data.toList)))]:=by
 refine A4 Xl rfl ?_;refine G0 ?_;refine .inl (cX (C2 s hs) ?_);refine G1 ?_;intro gg;(exact⟨[],aI⟩)
theorem X1(cl:Bool)(l:List ByteArray)(f:FuncId)(p:ByteArray→Bool)(hl:l.length≤9223372036854775807)(hf:∀s∈l,Fun Tryz.prog f [.c (.v (.string s))] [.c (.v (.bool (p s)))]):
  Fun Tryz.prog 202 [.c (.sl cl (l.map Bm)),.c (.v (.func (.func f) #[] #[]))] [.c (.v (.int .i64 (at_ p l)))]:=by
 refine A4 He rfl ?_;refine G0 ?_;rw[ZE];(refine⟨[],none,{k:Nat//k≤l.length∧∀j,(h:j<l.length)→j<k→p l[j]=false},[0,1,7],fun⟨k,hk,h0⟩=>[(8,.v (.int .i64 k))],[],fun⟨k,hk,h0⟩=>[],fun⟨k,hk,h0⟩=>l.length-k,trivial,fun _=>⟨trivial,fun _=>⟨⟨0,by omega,fun j _ h=>by omega⟩,tI,A2 _ _,tI,A3 _ _⟩⟩,fun⟨k,hk,h0⟩=>?_⟩);refine G0 ?_;(refine Ag (fun h=>?_) (fun h=>?_)<;>rw[h])
 ·have hlt:k<l.length:=(by have:=ZV h;omega);refine G0 ?_;refine⟨k,_,rfl,A7 hlt,?_⟩;refine G0 ?_;refine .inl (cX (hf _ (ZK hlt)) ?_);refine G1 ?_;intro gg;(refine Ag (fun h2=>?_) (fun h2=>?_)<;>rw[h2])
  ·refine G0 ?_;rw[Ae4 hlt h0 h2];(exact⟨[],aI⟩)
  ·refine G0 ?_;(exact⟨none,trivial,fun _=>⟨⟨k+1,by omega,up1 (p:=fun j h=>p l[j]=false) h0 (fun _=>h2)⟩,by show l.length-(k+1)<l.length-k;omega,tI,tI,tI,tI⟩⟩)
 ·have hge:¬k<l.length:=(by have:=ZW h;omega);refine G0 ?_;rw[Akn (p:=p) (l:=l) (fun i hi=>h0 i hi (by omega))];(exact⟨[],aI⟩)
theorem Qg(cl:Bool)(l:List ByteArray)(f:FuncId)(p:ByteArray→Bool)(hl:l.length≤9223372036854775807)(hf:∀s∈l,Fun Tryz.prog f [.c (.v (.string s))] [.c (.v (.bool (p s)))]):
  Fun Tryz.prog 138 [.c (.sl cl (l.map Bm)),.c (.v (.func (.func f) #[] #[]))] [.c (.v (.bool (l.any p)))]:=by
 have hI:=X1 cl l f p hl hf;refine A4 F6 rfl ?_;refine G0 ?_;refine .inl (cX hI ?_);refine G1 ?_;intro gg;rw[Ajl];(exact⟨[],aI⟩)
theorem Aji(s:ByteArray)(a b:Nat):(s.extract a b).size≤s.size:=by rw[ByteArray.size_extract];omega
theorem Jh{s x:ByteArray}(h:x∈Bg s):x.size≤s.size:=by
 unfold Bg at h;split at h
 ·cases h
 ·unfold Cu at h;rcases XM.1 h with h|h
  ·obtain⟨k,_,rfl⟩:=XO.1 h;exact XI (Aji _ _ _) (Oy 46 s k)
  ·simp only[XC,XD,or_false]at h;subst h;exact Oy 46 s _
theorem Nv(s:ByteArray):(Bg s).length≤s.size+1:=by
 unfold Bg;split
 ·simp
 ·rw[Q3];have:=Aj7 s 46;omega
theorem Lr(s:ByteArray)(hs:s.size≤1000000000000):Fun Tryz.prog 76 [.c (.v (.string s))] [.c (.v (.int .i64 (As s)))]:=by
 have hL:=Nv s;have hC:=Qg false (Bg s) 146 (fun x=> !lab x.data.toList) (by omega) (fun x hx=>Ap4 x (by have:=Jh hx;omega));refine A4 Ad4 rfl ?_;refine G0 ?_;refine .inl (cX (Zs s hs) ?_);refine G1 ?_;intro gg;refine .inl (cX hC ?_);refine G1 ?_;intro gg;(refine Ag (fun h=>?_) (fun h=>?_)<;>rw[h])
 ·refine G0 ?_;rw[show As s=1 from if_pos h];(exact⟨[],aI⟩)
 ·have e:As s=if 8<(Bg s).length then 2 else if 120<s.size then 2 else 0:=if_neg (by rw[h];decide)
  refine G0 ?_;rw[ZE];(refine Ag (fun h2=>?_) (fun h2=>?_)<;>rw[h2])
  ·refine G0 ?_;rw[e,if_pos (by have:=ZV h2;omega)];(exact⟨[],aI⟩)
  ·rw[if_neg (by have:=ZW h2;omega)]at e;refine G0 ?_;(refine Ag (fun h3=>?_) (fun h3=>?_)<;>rw[h3])
   ·refine G0 ?_;rw[e,if_pos (by have:=ZV h3;omega)];(exact⟨[],aI⟩)
   ·refine G0 ?_;rw[e,if_neg (by have:=ZW h3;omega)];(exact⟨[],aI⟩)
namespace Pl
open Go
def F7(c:UInt8)(s:ByteArray):Nat→List ByteArray×Nat
 |0=>([],0)
 |i+1=>if s.data.toList[i]? =some c then((F7 c s i).1++[s.extract (F7 c s i).2 i],i+1)else F7 c s i
theorem Azb{l:List UInt8}{c:UInt8}:∀{m:Nat},l[m]? =some c→(∀j,j<m→l[j]?≠some c)→Lib.indexByte l c=(m:Int):=by
 induction l with
 |nil=>intro m h;simp at h
 |cons b l ih=>
  intro m h1 h2;unfold Lib.indexByte;cases m with
  |zero=>
   simp at h1;subst h1;simp
  |succ m=>
   have hne:¬((b==c)=true):=fun e=>by
    have:b=c:=by simpa using e
    exact h2 0 (by omega) (by simp[this])
   rw[if_neg hne];have:=ih (m:=m) (by simpa using h1) (fun j hj=>by simpa using h2 (j+1) (by omega));have hn:¬((Lib.indexByte l c== -1)=true):=by rw[this];simp
   rw[if_neg hn,this];simp
theorem Ur(s:ByteArray)(f:Nat):(s.extract f s.size).data.toList=s.data.toList.drop f:=by
 rw[Ft,List.take_of_length_le (by simp)]
theorem Tx(c:UInt8)(s:ByteArray):∀i,i≤s.size→(F7 c s i).2≤i∧(∀j,(F7 c s i).2≤j→j<i→s.data.toList[j]?≠some c)∧
  ∃k,k≤cnb s c∧(F7 c s i).1=(List.range k).map (Qh c s)∧Bl c s k=s.extract (F7 c s i).2 s.size∧k≤i
 |0,_=>⟨ZT _,fun j _ h=>by omega,0,ZU _,rfl,by show s=s.extract 0 s.size;simp,ZT _⟩
 |i+1,hi=>by
  obtain⟨h1,h2,k,h3,h4,h5,h6⟩:=Tx c s i (by omega);by_cases hc:s.data.toList[i]? =some c
  ·have e:F7 c s (i+1)=((F7 c s i).1++[s.extract (F7 c s i).2 i],i+1):=if_pos hc;rw[e];generalize (F7 c s i).2=f at *;have hl:(Bl c s k).data.toList=s.data.toList.drop f:=by rw[h5,Ur]
   have hx:ixb (Bl c s k) c=((i-f:Nat):Int):=by
    unfold ixb;rw[hl];refine Azb ?_ (fun j hj=>?_)
    ·rw[List.getElem?_drop,show f+(i-f)=i by omega];exact hc
    ·rw[List.getElem?_drop];exact h2 _ (by omega) (by omega)
   have hk:k<cnb s c:=by
    rcases Nat.lt_or_ge k (cnb s c)with q|q
    ·exact q
    ·have hq:=J1 c s k h3;have h0:(Bl c s k).data.toList.count c=0:=by have:cnb (Bl c s k) c=(Bl c s k).data.toList.count c:=rfl;omega
     have:=Avl.2 h0;unfold ixb at hx;omega
   refine⟨ZT _,fun j h h'=>by omega,k+1,hk,?_,?_,by omega⟩
   ·show(F7 c s i).1++[s.extract f i]=_;rw[h4,List.range_succ,ZI];congr 1;show [s.extract f i]=[Qh c s k];congr 1;show _=(Bl c s k).extract 0 (ixb (Bl c s k) c).toNat;rw[hx,h5,ByteArray.extract_extract];congr 1;simp;omega
   ·show(Bl c s k).extract ((ixb (Bl c s k) c).toNat+1) (Bl c s k).size=s.extract (i+1) s.size;rw[hx,h5,ByteArray.extract_extract];congr 1
    ·simp;omega
    ·rw[ByteArray.size_extract];omega
  ·have e:F7 c s (i+1)=F7 c s i:=if_neg hc;rw[e];refine⟨by omega,fun j h h'=>?_,k,h3,h4,h5,by omega⟩;rcases Nat.lt_or_ge j i with q|q
   ·exact h2 j h q
   ·have:j=i:=by omega
    subst this;exact hc
theorem Aqq(c:UInt8)(s:ByteArray):(F7 c s s.size).1++[s.extract (F7 c s s.size).2 s.size]=Cu c s:=by
 obtain⟨h1,h2,k,h3,h4,h5,_⟩:=Tx c s s.size (ZT _);have h0:(Bl c s k).data.toList.count c=0:=by
  rw[h5,Ur,List.count_eq_zero];intro hm;obtain⟨j,hj,e⟩:=List.getElem_of_mem hm;have hj':(s.data.toList.drop (F7 c s s.size).2)[j]? =some c:=by rw[ZC hj,e]
  rw[List.getElem?_drop]at hj';have hlt:=(ZB.1 hj').1;exact h2 _ (by omega) (by simpa using hlt) hj'
 have hk:k=cnb s c:=by
  have:=J1 c s k h3;have:cnb (Bl c s k) c=(Bl c s k).data.toList.count c:=rfl;omega
 subst hk;rw[h4,←h5];rfl
theorem As0(c:UInt8)(s:ByteArray){i:Nat}(h:i≤s.size):(F7 c s i).1.length≤i∧(F7 c s i).2≤i:=by
 obtain⟨h1,_,k,_,h4,_,h6⟩:=Tx c s i h;refine⟨?_,h1⟩;rw[h4];simp;exact h6
end Pl
theorem Au7{s:ByteArray}{k:Nat}(h:k<s.size):∃c,s[k]? =some c∧s.data.toList[k]? =some c:=⟨s[k],by simp[h],by simp[h];rfl⟩
namespace Pl
structure Qr where
 sv:ByteArray
 tg:ByteArray
 nd:ByteArray
 ce:ByteArray
def Qr.row(q:Qr):List V:=[.v (.string q.sv),.v (.string q.tg),.v (.string q.nd),.v (.string q.ce)]
instance:FlatRow Qr.row:=⟨fun x u hu=>by simp[Qr.row]at hu;rcases hu with rfl|rfl|rfl|rfl<;>exact⟨_,rfl⟩⟩
def Qr.ok(q:Qr):Prop:=q.sv.size≤9223372036854775807∧q.tg.size≤9223372036854775807∧q.nd.size≤9223372036854775807∧q.ce.size≤9223372036854775807
def em(x:ByteArray):Bool:=x.toList==(⟨#[]⟩:ByteArray).toList
def B3:ByteArray:=⟨#[115,101,114,118,105,99,101]⟩
def Cx:ByteArray:=⟨#[110,111,100,101]⟩
def Bh:ByteArray:=⟨#[109,101,115,104]⟩
def Aa2(l:List ByteArray)(x:ByteArray):Bool:=l.any fun w=>x.toList==w.toList
def Yz(x:ByteArray):Bool:=bif em x then false else !lab x.data.toList
def Qr.all(q:Qr):List ByteArray:=[q.sv,q.tg,q.nd,q.ce]
def Qr.c1(q:Qr):Bool:=bif (em q.sv==em q.nd)then true else(bif em q.sv then !em q.tg else false)
def Qr.c2(q:Qr):Bool:=q.all.any Yz
def Qr.c3(q:Qr):Bool:=bif Aa2 [B3,Cx,Bh] q.ce then true else bif Aa2 [B3,Cx,Bh] q.sv then true else bif Aa2 [B3,Cx,Bh] q.tg then true else Aa2 [B3,Cx] q.nd
def Qr.err(q:Qr):Int:=bif q.c1 then 1 else bif q.c2 then 1 else bif q.c3 then 7 else 0
end Pl
theorem Aje(cl:Bool)(l:List ByteArray)(v:ByteArray)(hl:l.length≤9223372036854775807):
  Fun Tryz.prog 203 [.c (.sl cl (l.map Bm)),.c (.v (.string v))] [.c (.v (.int .i64 (at_ (fun w=>v.toList==w.toList) l)))]:=by
 refine A4 It rfl ?_;refine G0 ?_;rw[ZE];(refine⟨[],none,{k:Nat//k≤l.length∧∀j,(h:j<l.length)→j<k→(v.toList==l[j].toList)=false},[0,1,7],fun⟨k,hk,h0⟩=>[(8,.v (.int .i64 k))],[],fun⟨k,hk,h0⟩=>[],fun⟨k,hk,h0⟩=>l.length-k,trivial,fun _=>⟨trivial,fun _=>⟨⟨0,by omega,fun j _ h=>by omega⟩,tI,A2 _ _,tI,A3 _ _⟩⟩,fun⟨k,hk,h0⟩=>?_⟩);refine G0 ?_;(refine Ag (fun h=>?_) (fun h=>?_)<;>rw[h])
 ·have hlt:k<l.length:=(by have:=ZV h;omega);refine G0 ?_;refine⟨k,_,rfl,A7 hlt,?_⟩;refine G0 ?_;(refine Ag (fun h2=>?_) (fun h2=>?_)<;>rw[h2])
  ·refine G0 ?_;rw[Ae4 (p:=fun w=>v.toList==w.toList) hlt h0 h2];(exact⟨[],aI⟩)
  ·refine G0 ?_;(exact⟨none,trivial,fun _=>⟨⟨k+1,by omega,up1 (p:=fun j h=>(v.toList==l[j].toList)=false) h0 (fun _=>h2)⟩,by show l.length-(k+1)<l.length-k;omega,tI,tI,tI,tI⟩⟩)
 ·have hge:¬k<l.length:=(by have:=ZW h;omega);refine G0 ?_;rw[Akn (p:=fun w=>v.toList==w.toList) (l:=l) (fun i hi=>h0 i hi (by omega))];(exact⟨[],aI⟩)
theorem Acb(cl:Bool)(l:List ByteArray)(v:ByteArray)(hl:l.length≤9223372036854775807):
  Fun Tryz.prog 141 [.c (.sl cl (l.map Bm)),.c (.v (.string v))] [.c (.v (.bool (Aa2 l v)))]:=by
 refine A4 Hr rfl ?_;refine G0 ?_;refine .inl (cX (Aje cl l v hl) ?_);refine G1 ?_;intro gg;rw[Ajl];(exact⟨[],aI⟩)
theorem Auj(s:ByteArray)(hs:s.size≤9223372036854775807):Fun Tryz.prog 139 [.c (.v (.string s))] [.c (.v (.bool (Yz s)))]:=by
 refine A4 Ut rfl ?_;refine G0 ?_;(refine Ag (fun h=>?_) (fun h=>?_)<;>rw[h])
 ·have he:em s=false:=L5 h;refine G0 ?_;refine .inl (cX (C2 s hs) ?_);refine G1 ?_;intro gg;rw[show Yz s= !lab s.data.toList by unfold Yz;rw[he];rfl];(exact⟨[],aI⟩)
 ·have he:em s=true:=Fb h;refine G0 ?_;rw[show Yz s=false by unfold Yz;rw[he];rfl];(exact⟨[],aI⟩)
theorem K2(s:ByteArray)(l:List ByteArray)(hl:l.length≤9223372036854775807):Fun Tryz.prog 140 [.c (.v (.string s)),.c (.sl false (l.map Bm))] [.c (.v (.bool (Aa2 l s)))]:=by
 refine A4 Uw rfl ?_;refine G0 ?_;refine .inl (cX (Acb false l s hl) ?_);refine G1 ?_;intro gg;(exact⟨[],aI⟩)
theorem W9(q:Qr)(hq:q.ok):Fun Tryz.prog 74 [.c (.agg q.row)] [.c (.v (.int .i64 q.err))]:=by
 have hF:=Qg false q.all 139 Yz (by simp[Qr.all]) (fun x hx=>Auj x (by
  obtain⟨h1,h2,h3,h4⟩:=hq;simp only[Qr.all,XC,XD,or_false]at hx;rcases hx with rfl|rfl|rfl|rfl<;>assumption))
 refine A4 Y0 rfl ?_;refine G1 ?_;intro gg;(refine Ag (fun h1=>?_) (fun h1=>?_)<;>rw[h1])
 ·have e1:(em q.sv==em q.nd)=true:=h1;have hc1:q.c1=true:=by unfold Qr.c1;rw[e1];rfl
  refine G0 ?_;rw[show q.err=1 by unfold Qr.err;rw[hc1];rfl];(exact⟨[],aI⟩)
 ·have e1:(em q.sv==em q.nd)=false:=h1;refine G0 ?_;(refine Ag (fun h2=>?_) (fun h2=>?_)<;>rw[h2])
  ·have e2:em q.sv=true:=h2;refine G0 ?_;(refine Ag (fun h3=>?_) (fun h3=>?_)<;>rw[h3])
   ·have e3:(!em q.tg)=true:=h3;have hc1:q.c1=true:=by unfold Qr.c1;rw[e1,e2,e3];rfl
    refine G0 ?_;rw[show q.err=1 by unfold Qr.err;rw[hc1];rfl];(exact⟨[],aI⟩)
   ·have e3:(!em q.tg)=false:=h3;have hc1:q.c1=false:=by unfold Qr.c1;rw[e1,e2,e3];rfl
    refine G1 ?_;intro gg;refine .inl (cY hF ?_);refine G1 ?_;intro gg;(refine Ag (fun h4=>?_) (fun h4=>?_)<;>rw[h4])
    ·refine G0 ?_;rw[show q.err=1 by unfold Qr.err;rw[hc1,show q.c2=true from h4];rfl];(exact⟨[],aI⟩)
    ·have hc2:q.c2=false:=h4;refine G1 ?_;intro gg;(refine .inl ⟨_,_,true,[],aI,K2 q.ce [B3,Cx,Bh] (by simp),(fun _=>fI),nI,?_⟩);refine G1 ?_;intro gg;(refine Ag (fun k1=>?_) (fun k1=>?_)<;>rw[k1])
     ·refine G0 ?_;rw[show q.err=7 by unfold Qr.err Qr.c3;rw[hc1,hc2,k1];rfl];(exact⟨[],aI⟩)
     ·refine G1 ?_;intro gg;(refine .inl ⟨_,_,true,[],aI,K2 q.sv [B3,Cx,Bh] (by simp),(fun _=>fI),nI,?_⟩);refine G1 ?_;intro gg;(refine Ag (fun k2=>?_) (fun k2=>?_)<;>rw[k2])
      ·refine G0 ?_;rw[show q.err=7 by unfold Qr.err Qr.c3;rw[hc1,hc2,k1,k2];rfl];(exact⟨[],aI⟩)
      ·refine G1 ?_;intro gg;(refine .inl ⟨_,_,true,[],aI,K2 q.tg [B3,Cx,Bh] (by simp),(fun _=>fI),nI,?_⟩);refine G1 ?_;intro gg;(refine Ag (fun k3=>?_) (fun k3=>?_)<;>rw[k3])
       ·refine G0 ?_;rw[show q.err=7 by unfold Qr.err Qr.c3;rw[hc1,hc2,k1,k2,k3];rfl];(exact⟨[],aI⟩)
       ·refine G1 ?_;intro gg;(refine .inl ⟨_,_,true,[],aI,K2 q.nd [B3,Cx] (by simp),(fun _=>fI),nI,?_⟩);refine G1 ?_;intro gg;(refine Ag (fun k4=>?_) (fun k4=>?_)<;>rw[k4])
        ·refine G0 ?_;rw[show q.err=7 by unfold Qr.err Qr.c3;rw[hc1,hc2,k1,k2,k3,k4];rfl];(exact⟨[],aI⟩)
        ·refine G0 ?_;rw[show q.err=0 by unfold Qr.err Qr.c3;rw[hc1,hc2,k1,k2,k3,k4];rfl];(exact⟨[],aI⟩)
  ·have e2:em q.sv=false:=h2;have hc1:q.c1=false:=by unfold Qr.c1;rw[e1,e2];rfl
   refine G1 ?_;intro gg;refine .inl (cY hF ?_);refine G1 ?_;intro gg;(refine Ag (fun h4=>?_) (fun h4=>?_)<;>rw[h4])
   ·refine G0 ?_;rw[show q.err=1 by unfold Qr.err;rw[hc1,show q.c2=true from h4];rfl];(exact⟨[],aI⟩)
   ·have hc2:q.c2=false:=h4;refine G1 ?_;intro gg;(refine .inl ⟨_,_,true,[],aI,K2 q.ce [B3,Cx,Bh] (by simp),(fun _=>fI),nI,?_⟩);refine G1 ?_;intro gg;(refine Ag (fun k1=>?_) (fun k1=>?_)<;>rw[k1])
    ·refine G0 ?_;rw[show q.err=7 by unfold Qr.err Qr.c3;rw[hc1,hc2,k1];rfl];(exact⟨[],aI⟩)
    ·refine G1 ?_;intro gg;(refine .inl ⟨_,_,true,[],aI,K2 q.sv [B3,Cx,Bh] (by simp),(fun _=>fI),nI,?_⟩);refine G1 ?_;intro gg;(refine Ag (fun k2=>?_) (fun k2=>?_)<;>rw[k2])
     ·refine G0 ?_;rw[show q.err=7 by unfold Qr.err Qr.c3;rw[hc1,hc2,k1,k2];rfl];(exact⟨[],aI⟩)
     ·refine G1 ?_;intro gg;(refine .inl ⟨_,_,true,[],aI,K2 q.tg [B3,Cx,Bh] (by simp),(fun _=>fI),nI,?_⟩);refine G1 ?_;intro gg;(refine Ag (fun k3=>?_) (fun k3=>?_)<;>rw[k3])
      ·refine G0 ?_;rw[show q.err=7 by unfold Qr.err Qr.c3;rw[hc1,hc2,k1,k2,k3];rfl];(exact⟨[],aI⟩)
      ·refine G1 ?_;intro gg;(refine .inl ⟨_,_,true,[],aI,K2 q.nd [B3,Cx] (by simp),(fun _=>fI),nI,?_⟩);refine G1 ?_;intro gg;(refine Ag (fun k4=>?_) (fun k4=>?_)<;>rw[k4])
       ·refine G0 ?_;rw[show q.err=7 by unfold Qr.err Qr.c3;rw[hc1,hc2,k1,k2,k3,k4];rfl];(exact⟨[],aI⟩)
       ·refine G0 ?_;rw[show q.err=0 by unfold Qr.err Qr.c3;rw[hc1,hc2,k1,k2,k3,k4];rfl];(exact⟨[],aI⟩)

theorem Rg(l:List ByteArray)(f:FuncId)(p:ByteArray→Bool)(hl:l.length≤1000)(hf:∀x∈l,Fun Tryz.prog f [.c (.v (.string x))] [.c (.v (.bool (p x)))]):
  Fun Tryz.prog 143 [.o 9 1 (l.map Bm),.c (.v (.func (.func f) #[] #[]))] [.o 9 1 ((keep p l).map Bm)]:=by
 refine A4 Gs rfl ?_;refine G0 ?_;(refine .inl ⟨_,_,true,[],aI,X1 false l f p (by omega) hf,(fun _=>fI),nI,?_⟩);rcases Ajc (p:=p) (l:=l)with⟨h1,h2⟩|⟨k,hk,h1,h2,h3⟩
 ·rw[h1,Pl.keep_all (p:=p) (l:=l) h2];refine G1 ?_;intro gg;(exact⟨[0],aI⟩)
 ·rw[h1];refine G1 ?_;intro gg;(refine⟨[],none,{q:List ByteArray×Nat×Nat//Jb p l q.1 q.2.1 q.2.2},[0,1,36,37,39,40,41],fun⟨⟨l',i,j⟩,hm⟩=>[(5,.v (.int .i64 i)),(6,.v (.int .i64 j))],[],fun⟨⟨l',i,j⟩,hm⟩=>[(0,⟨0,9,1,l'.map Bm⟩)],fun⟨⟨l',i,j⟩,hm⟩=>l.length-j,trivial,fun _=>⟨trivial,fun _=>⟨⟨(l,k,k+1),Jb.start hk h2 h3⟩,tI,A2 _ _,tI,A3 _ _⟩⟩,fun⟨⟨l',i,j⟩,hm⟩=>?_⟩);refine G0 ?_;have hm:Jb p l l' i j:=hm;have hlen:l'.length=l.length:=hm.len;(refine Ag (fun h=>?_) (fun h=>?_)<;>rw[h])
  ·have hlt:j<l'.length:=by have:=ZV h;simpa using this
   refine G0 ?_;refine⟨j,_,rfl,A7 hlt,?_⟩;refine G0 ?_;have hj:j<l.length:=by omega
   have hx:l'[j]=l[j]:=hm.behind j hj (ZT _);rw[hx];refine .inl (cX (hf _ (ZK hj)) ?_);refine G1 ?_;intro gg;(refine Ag (fun h4=>?_) (fun h4=>?_)<;>rw[h4])
   ·have h4':p l[j]=false:=L5 h4;have hi:i<l'.length:=by have:=hm.ij;omega
    refine G0 ?_;refine⟨i,_,rfl,A7 hi,?_⟩;refine G0 ?_;have e:(l'.map Bm).set i (Bm l[j])=(l'.set i l[j]).map Bm:=List.map_set.symm;exact⟨none,trivial,fun gr=>⟨⟨(l'.set i l[j],i+1,j+1),hm.stays hj h4'⟩,by show l.length-(j+1)<l.length-j;omega,tI,tI,⟨congrArg (fun r=>some (Ent.mk 0 9 1 r)) e,trivial⟩,tI⟩⟩
   ·have h4':p l[j]=true:=Fb h4;refine G0 ?_;(exact⟨none,trivial,fun _=>⟨⟨(l',i,j+1),hm.gone hj h4'⟩,by show l.length-(j+1)<l.length-j;omega,tI,tI,tI,tI⟩⟩)
  ·have hge:¬j<l'.length:=by have:=ZW h;simpa using this
   have hi:i≤l'.length:=by have:=hm.ij;have:=hm.jl;omega
   refine G0 ?_;refine⟨1,i,(l'.map Bm).length,rfl,⟨_,rfl⟩,rfl,by simpa using hi,ZT _,?_⟩;refine G0 ?_;refine⟨by simpa using hi,ZT _,?_⟩;refine G0 ?_;refine⟨0,0,i,rfl,rfl,⟨_,rfl⟩,ZU _,?_,rfl,rfl,fun g=>?_⟩
   ·show i≤((l'.map Bm).take i++List.replicate ((l'.map Bm).length-i) _++(l'.map Bm).drop (l'.map Bm).length).length;simp only[ZF,ZM,ZE,List.length_replicate];omega
   refine G0 ?_;refine⟨[0],Ad9 rfl rfl rfl rfl rfl Bx ?_⟩;show((l'.map Bm).take i++List.replicate ((l'.map Bm).length-i) _++(l'.map Bm).drop (l'.map Bm).length).take i=(keep p l).map Bm;rw[ZS,List.take_append_of_le_length (by simp;omega),List.take_take,Nat.min_self,←hm.fin (by omega),List.map_take]
section
open Go.Shelf
def Tryz.lays156_ren:Go.Shelf.Ren:=⟨fun|156=>142|165=>204|166=>205|169=>150|240=>248|241=>249|276=>267|277=>268|n=>n,fun|31=>171|9=>9|3=>3|4=>4|0=>0|20=>20|72=>201|76=>253|70=>199|37=>173|75=>252|127=>256|164=>302|5=>5|80=>114|n=>n,fun|n=>n⟩
theorem Tryz.lays156:Go.Proofs.Lays.n156 Tryz.prog Tryz.lays156_ren:={
 mixed:=by kernel_rfl
 f156:=Tryz.func142.trans (congrArg some (by kernel_rfl))
 f165:=Tryz.func204.trans (congrArg some (by kernel_rfl))
 f166:=Tryz.func205.trans (congrArg some (by kernel_rfl))
 f169:=Tryz.func150.trans (congrArg some (by kernel_rfl))
 f240:=Tryz.func248.trans (congrArg some (by kernel_rfl))
 f241:=Tryz.func249.trans (congrArg some (by kernel_rfl))
 f276:=Tryz.func267.trans (congrArg some (by kernel_rfl))
 f277:=Tryz.func268.trans (congrArg some (by kernel_rfl))
 t0:=Tryz.underlying0
 a0:=Tryz.isAgg0
 z0:=Tryz.sizeOf0
 v0:=Tryz.zeroValue0
 t3:=Tryz.underlying3
 a3:=Tryz.isAgg3
 z3:=Tryz.sizeOf3
 v3:=Tryz.zeroValue3
 t4:=Tryz.underlying4
 a4:=Tryz.isAgg4
 z4:=Tryz.sizeOf4
 v4:=Tryz.zeroValue4
 t9:=Tryz.underlying9
 a9:=Tryz.isAgg9
 z9:=Tryz.sizeOf9
 v9:=Tryz.zeroValue9
 t20:=Tryz.underlying20
 a20:=Tryz.isAgg20
 z20:=Tryz.sizeOf20
 v20:=Tryz.zeroValue20
 t31:=Tryz.underlying171
 a31:=Tryz.isAgg171
 z31:=Tryz.sizeOf171
 v31:=Tryz.zeroValue171
 t37:=Tryz.underlying173
 a37:=Tryz.isAgg173
 z37:=Tryz.sizeOf173
 v37:=Tryz.zeroValue173
 t70:=Tryz.underlying199
 a70:=Tryz.isAgg199
 z70:=Tryz.sizeOf199
 v70:=Tryz.zeroValue199
 t72:=Tryz.underlying201
 a72:=Tryz.isAgg201
 z72:=Tryz.sizeOf201
 v72:=Tryz.zeroValue201
 t75:=Tryz.underlying252
 a75:=Tryz.isAgg252
 z75:=Tryz.sizeOf252
 v75:=Tryz.zeroValue252
 t76:=Tryz.underlying253
 a76:=Tryz.isAgg253
 z76:=Tryz.sizeOf253
 v76:=Tryz.zeroValue253
 t127:=Tryz.underlying256
 a127:=Tryz.isAgg256
 z127:=Tryz.sizeOf256
 v127:=Tryz.zeroValue256
 t164:=Tryz.underlying302
 a164:=Tryz.isAgg302
 z164:=Tryz.sizeOf302
 v164:=Tryz.zeroValue302}
theorem Tryz.Builder_Extra_156:Builder.Extra Tryz.prog Tryz.lays156_ren:={
 sizeBuilder:=by kernel_rfl
 liesBuilder:=by kernel_rfl
 t5:=Tryz.underlying5
 a5:=Tryz.isAgg5
 z5:=Tryz.sizeOf5
 v5:=Tryz.zeroValue5
 infoByte:=by kernel_rfl
 cellsByte:=by kernel_rfl
 sizeByte:=by kernel_rfl
 neB5:=by decide}
end
def Dc(sep:ByteArray)(xs:List ByteArray):ByteArray:=⟨(Lib.join (xs.map (·.data.toList)) sep.data.toList).toArray⟩
theorem Sx(cl:Bool)(xs:List ByteArray)(sep:ByteArray)(hN:xs.length≤140737488355328)(hlen:(Dc sep xs).size≤140737488355328):
  Fun Tryz.prog 142 [.c (.sl cl (xs.map Bm)),.c (.v (.string sep))] [.c (.v (.string (Dc sep xs)))]:=by
 refine⟨Cn Tryz.func142 (by kernel_rfl) (by kernel_rfl),fun w R ys hlt hp=>?_⟩;have fin:∀w',Fr (Ax [.c (.sl cl (xs.map Bm)),.c (.v (.string sep))] ys) w w'→∃(zs:List Value) (R':Nat→Prop),Ending.returned (Value.string (Dc sep xs))=.returned (Fx zs)∧Fr (Ax [.c (.sl cl (xs.map Bm)),.c (.v (.string sep))] ys) w w'∧(∀b,R b→R' b)∧
   (∀b,R' b→R b∨(b<w'.heap.size∧(Ax [.c (.sl cl (xs.map Bm)),.c (.v (.string sep))] ys b∨w.heap.size≤b)))∧Ik w' R' [.c (.v (.string (Dc sep xs)))] zs∧(∀b,Ax [.c (.v (.string (Dc sep xs)))] zs b→Ax [.c (.sl cl (xs.map Bm)),.c (.v (.string sep))] ys b∨w.heap.size≤b):=fun w' hfr=>by
  refine⟨[.string (Dc sep xs)],R,rfl,hfr,fun _ h=>h,fun b h=>.inl h,⟨rfl,?_,?_,?_⟩,?_⟩
  ·intro i p x h1 h2;cases i with
   |zero=>simp at h1 h2;subst h1 h2;exact .v _
   |succ i=>simp at h1
  ·intro i j T sz rows T' sz' rows' x y b _ h1;cases i with
   |zero=>simp at h1
   |succ i=>simp at h1
  ·intro b hb;exact absurd hb (Li fun p hp=>by simp at hp;exact⟨_,hp⟩)
  ·intro b hb;exact absurd hb (Li fun p hp=>by simp at hp;exact⟨_,hp⟩)
 have hl:=hp.len
 match ys,hl,hp,fin with
 |[y0,y1],_,hp,fin=>
  have h0:RV w R noG (.sl cl (xs.map Bm)) y0:=hp.ok 0 _ _ rfl rfl;have h1:RV w R noG (.v (.string sep)) y1:=hp.ok 1 _ _ rfl rfl;have e1:=Bt h1;subst e1;have hnone:∀(a:Option Addr) (cap:Nat),xs=[]→y0=.slice a 0 cap→Calls Tryz.prog 142 [y0,.string sep].toArray w fun e w'=>∃(zs:List Value) (R':Nat→Prop),e=.returned (Fx zs)∧Fr (Ax [.c (.sl cl (xs.map Bm)),.c (.v (.string sep))] [y0,.string sep]) w w'∧(∀b,R b→R' b)∧
   (∀b,R' b→R b∨(b<w'.heap.size∧(Ax [.c (.sl cl (xs.map Bm)),.c (.v (.string sep))] [y0,.string sep] b∨w.heap.size≤b)))∧Ik w' R' [.c (.v (.string (Dc sep xs)))] zs∧(∀b,Ax [.c (.v (.string (Dc sep xs)))] zs b→Ax [.c (.sl cl (xs.map Bm)),.c (.v (.string sep))] [y0,.string sep] b∨w.heap.size≤b):=fun a cap hx hy=>by
   have h:=Any.strings_Join_none Tryz.lays156 Tryz.Builder_Extra_156 a cap sep w;change Calls Tryz.prog 142 _ w _ at h;rw[←hy]at h;refine h.mono ?_
   rintro e w' ⟨rfl,rfl⟩
   have e2:Dc sep xs=⟨#[]⟩:=by rw[hx];rfl
   rw[←e2];exact fin w' (Fr.refl _ _)
  obtain⟨rows,hr'⟩:∃rows,rows=xs.map Bm:=⟨_,rfl⟩;rw[←hr']at h0;have hr:=hr'.symm;clear hr';have hlen0:rows.length=xs.length:=by rw[←hr];simp
  cases h0 with
  |nil clip a cap hc=>
   exact hnone a cap (by simpa using hr) rfl
  |sl clip rows b off cap sz f hR hcap hclip hs hcell hh=>
   by_cases hx:xs=[]
   ·exact hnone _ cap hx (by rw[hlen0,hx];rfl)
   ·have hsz:sz=1:=by
     obtain⟨x,xs',rfl⟩:=List.exists_cons_of_ne_nil hx;exact(hs (Bm x) (by rw[←hr];simp)).symm
    subst hsz;have h:=Any.strings_Join Tryz.lays156 Tryz.Builder_Extra_156 b off cap xs sep w (fun j x hj=>by
     have hrow:rows[j]? =some (Bm x):=by rw[←hr,XJ,hj];rfl
     have h2:=hcell j 0 (Bm x) (.v (.string x)) hrow rfl;rw[Bt (hh j 0 (Bm x) (.v (.string x)) hrow rfl)]at h2;rw[←h2,Nat.mul_one,Nat.add_zero]) (hlt b hR) hN (by omega) (by
      have:(Dc sep xs).size=(Lib.join (xs.map (·.data.toList)) sep.data.toList).length:=by
       show(Lib.join (xs.map (·.data.toList)) sep.data.toList).toArray.size=_;simp
      omega)
    change Calls Tryz.prog 142 _ w _ at h;rw[←hlen0]at h;refine h.mono ?_
    rintro e w' ⟨rfl,hb⟩
    exact fin w' (G7 hb)
namespace Pl
def dot:ByteArray:=⟨#[46]⟩
def Aqy:ByteArray:=⟨#[46,110,111,100,101,46]⟩
def Ab8:ByteArray:=⟨#[46,115,101,114,118,105,99,101,46]⟩
def Qr.base(q:Qr):ByteArray:=bif em q.nd then(bif em q.tg then q.sv++Ab8 else(q.tg++dot)++(q.sv++Ab8))else q.nd++Aqy
def Qr.pr(q:Qr):ByteArray:=(bif em q.ce then q.base else q.base++(q.ce++dot))++Bh
def Qr.words(q:Qr):List ByteArray:=bif em q.nd then [q.tg,q.sv,B3,q.ce,Bh]else [q.nd,Cx,q.ce,Bh]
theorem L4{a b:ByteArray}(h:a.data.toList=b.data.toList):a=b:=by
 obtain⟨a⟩:=a;obtain⟨b⟩:=b;congr 1;exact Array.ext' h
theorem Sn(a b:ByteArray):(a++b).data.toList=a.data.toList++b.data.toList:=by simp[ByteArray.data_append]
theorem Jy{x:ByteArray}:em x=true↔x=⟨#[]⟩:=by
 unfold em;rw[ZR];exact⟨fun h=>toList_inj h,fun h=>by rw[h]⟩
theorem X5{x:ByteArray}(h:x.size≠0):em x=false:=by
 cases q:em x with
 |false=>rfl
 |true=>rw[Jy]at q;exact absurd (congrArg ByteArray.size q) h
theorem Aom{x:ByteArray}(h:lab x.data.toList=true):x.size≤30:=by
 unfold lab at h;simp at h;have:x.data.toList.length=x.size:=by rw[Array.length_toList];rfl
 omega
structure Qr.small(q:Qr):Prop where
 sv:q.sv.size≤30
 tg:q.tg.size≤30
 nd:q.nd.size≤30
 ce:q.ce.size≤30
theorem Rs{q:Qr}(h:q.err=0):q.small∧(em q.sv==em q.nd)=false∧(em q.sv=true→em q.tg=true):=by
 unfold Qr.err at h;cases h1:q.c1 with
 |true=>rw[h1]at h;cases h
 |false=>
  cases h2:q.c2 with
  |true=>rw[h1,h2]at h;cases h
  |false=>
   have key:∀x∈q.all,x.size≤30:=fun x hx=>by
    have:=List.any_eq_false.1 h2 x hx;unfold Yz at this;cases he:em x with
    |true=>rw[Jy.1 he];decide
    |false=>rw[he]at this;exact Aom (by simpa using this)
   refine⟨⟨key _ (by simp[Qr.all]),key _ (by simp[Qr.all]),key _ (by simp[Qr.all]),key _ (by simp[Qr.all])⟩,?_,?_⟩
   ·unfold Qr.c1 at h1;cases q1:(em q.sv==em q.nd)with
    |true=>rw[q1]at h1;cases h1
    |false=>rfl
   ·intro q2;unfold Qr.c1 at h1;cases q1:(em q.sv==em q.nd)with
    |true=>rw[q1]at h1;cases h1
    |false=>rw[q1,q2]at h1;simpa using h1
theorem Akf{q:Qr}(h:q.err=0):Dc dot (keep em q.words)=q.pr:=by
 obtain⟨_,h1,h2⟩:=Rs h;have es:em B3=false:=X5 (by decide);have en:em Cx=false:=X5 (by decide);have emm:em Bh=false:=X5 (by decide);apply L4;unfold Qr.words Qr.pr Qr.base Dc keep;cases hn:em q.nd with
 |false=>
  cases hc:em q.ce<;>simp only[cond_false,cond_true,List.filter_cons,List.filter_nil,hn,hc,en,emm,Bool.not_false,Bool.not_true,if_true,Bool.false_eq_true,if_false]<;>simp[Lib.join,List.intercalate,Sn,dot,Aqy,Cx,Bh]
 |true=>
  have hs:em q.sv=false:=by rw[hn]at h1;simpa using h1
  cases hc:em q.ce<;>cases ht:em q.tg<;>simp only[cond_false,cond_true,List.filter_cons,List.filter_nil,hs,hc,ht,es,emm,Bool.not_false,Bool.not_true,if_true,Bool.false_eq_true,if_false]<;>simp[Lib.join,List.intercalate,Sn,dot,Ab8,B3,Bh]
theorem Aln{q:Qr}(h:q.err=0):q.pr.size≤200:=by
 have hs:=(Rs h).1;have h1:=hs.sv;have h2:=hs.tg;have h3:=hs.nd;have h4:=hs.ce;have e1:dot.size=1:=rfl;have e2:Ab8.size=9:=rfl;have e3:Aqy.size=6:=rfl;have e4:Bh.size=4:=rfl;unfold Qr.pr Qr.base;cases em q.nd<;>cases em q.tg<;>cases em q.ce<;>simp only[cond_true,cond_false,XP,e1,e2,e3,e4]<;>omega
def Ao(q:Qr):ByteArray×Int:=if q.err≠0 then(⟨#[]⟩,q.err)else if As q.pr≠0 then(⟨#[]⟩,As q.pr)else(q.pr,0)
theorem Ahj{q:Qr}(h:q.err≠0):Ao q=(⟨#[]⟩,q.err):=by simp[Ao,h]
theorem Ag7{q:Qr}(h:q.err=0)(h2:As q.pr≠0):Ao q=(⟨#[]⟩,As q.pr):=by simp[Ao,h,h2]
theorem Tz{q:Qr}(h:q.err=0)(h2:As q.pr=0):Ao q=(q.pr,0):=by simp[Ao,h,h2]
end Pl
theorem Alu(x:ByteArray):Fun Tryz.prog 144 [.c (.v (.string x))] [.c (.v (.bool (em x)))]:=by
 refine A4 Q2 rfl ?_;refine G0 ?_;(exact⟨[],aI⟩)
def fP1:FuncId:=144
theorem Ah8(q:Qr)(h:q.err=0):Fun Tryz.prog 75 [.c (.agg q.row)] [.c (.v (.string q.pr))]:=by
 have hj:=Akf h;have hsz:=Aln h;have hk:∀l:List ByteArray,l.length≤5→(keep em l).length≤140737488355328:=fun l hl=>XI (List.length_filter_le _ _) (by omega);rw[←hj]at hsz ⊢;refine A4 Uk rfl ?_;refine G1 ?_;intro gg;(refine Ag (fun h1=>?_) (fun h1=>?_)<;>rw[h1])
 ·have e:q.words=[q.nd,Cx,q.ce,Bh]:=by
   have:em q.nd=false:=L5 h1;unfold Qr.words;rw[this];rfl
  rw[e]at hsz ⊢;(refine goI ?_;repeat (intro gg;refine goI ?_));refine⟨by simp[maxLen],by simp,?_⟩;refine G1 ?_;intro gg;(refine .inl ⟨_,_,true,[144],aI,Rg [q.nd,Cx,q.ce,Bh] fP1 em (by simp) (fun x _=>Alu x),(fun _=>fI),nI,?_⟩);refine G1 ?_;intro gg;(refine .inl ⟨_,_,true,[],aI,Sx false (keep em [q.nd,Cx,q.ce,Bh]) dot (hk _ (by simp)) (by omega),(fun _=>fI),nI,?_⟩);refine G1 ?_;intro gg;(exact⟨[],aI⟩)
 ·have e:q.words=[q.tg,q.sv,B3,q.ce,Bh]:=by
   have:em q.nd=true:=Fb h1;unfold Qr.words;rw[this];rfl
  rw[e]at hsz ⊢;(refine goI ?_;repeat (intro gg;refine goI ?_));refine⟨by simp[maxLen],by simp,?_⟩;refine G1 ?_;intro gg;(refine .inl ⟨_,_,true,[224],aI,Rg [q.tg,q.sv,B3,q.ce,Bh] fP1 em (by simp) (fun x _=>Alu x),(fun _=>fI),nI,?_⟩);refine G1 ?_;intro gg;(refine .inl ⟨_,_,true,[],aI,Sx false (keep em [q.tg,q.sv,B3,q.ce,Bh]) dot (hk _ (by simp)) (by omega),(fun _=>fI),nI,?_⟩);refine G1 ?_;intro gg;(exact⟨[],aI⟩)
theorem Dk(q:Qr)(hq:q.ok):Fun Tryz.prog 27 [.c (.agg q.row)] [.c (.v (.string (Ao q).1)),.c (.v (.int .i64 (Ao q).2))]:=by
 refine A4 Xf rfl ?_;refine G1 ?_;intro gg;refine .inl (cX (W9 q hq) ?_);refine G1 ?_;intro gg;(refine Ag (fun h1=>?_) (fun h1=>?_)<;>rw[h1])
 ·have h1':q.err≠0:=by simpa using h1
  rw[Ahj h1'];refine G0 ?_;(exact⟨[],aI⟩)
 ·have h1':q.err=0:=by simpa using h1
  have hsz:=Aln h1';refine G0 ?_;refine .inl (cX (Ah8 q h1') ?_);refine G1 ?_;intro gg;(refine .inl ⟨_,_,false,[],aI,Lr q.pr (by omega),Ad,nI,?_⟩);refine G1 ?_;intro gg;(refine Ag (fun h2=>?_) (fun h2=>?_)<;>rw[h2])
  ·have h2':As q.pr≠0:=by simpa using h2
   rw[Ag7 h1' h2'];refine G0 ?_;(exact⟨[],aI⟩)
  ·have h2':As q.pr=0:=by simpa using h2
   rw[Tz h1' h2'];refine G0 ?_;(exact⟨[],aI⟩)
namespace Pl
open Go
theorem Af9{c:UInt8}:∀{x y A B:List UInt8},c∉x→c∉y→x++c::A=y++c::B→x=y∧A=B
 |[],[],A,B,_,_,h=>⟨rfl,by simpa using h⟩
 |[],b::y,A,B,_,hy,h=>by
  simp at h hy;exact absurd h.1 hy.1
 |a::x,[],A,B,hx,_,h=>by
  simp at h hx;exact absurd h.1.symm hx.1
 |a::x,b::y,A,B,hx,hy,h=>by
  simp only[List.cons_append,List.cons.injEq]at h;obtain⟨h1,h2⟩:=Af9 (fun q=>hx (ZL _ q)) (fun q=>hy (ZL _ q)) h.2;exact⟨by rw[h.1,h1],h2⟩
theorem Lx(x y:List UInt8)(r:List (List UInt8))(c:UInt8):Lib.join (x::y::r) [c]=x++c::Lib.join (y::r) [c]:=by
 simp[Lib.join,List.intercalate]
theorem Agm{c:UInt8}:∀{xs ys:List (List UInt8)},xs≠[]→ys≠[]→(∀x∈xs,c∉x)→(∀y∈ys,c∉y)→Lib.join xs [c]=Lib.join ys [c]→xs=ys
 |[],_,h,_,_,_,_=>absurd rfl h
 |_,[],_,h,_,_,_=>absurd rfl h
 |[x],[y],_,_,_,_,h=>by rw[Lib.join_one,Lib.join_one]at h;rw[h]
 |[x],y::y'::r,_,_,hx,_,h=>by
  rw[Lib.join_one,Lx]at h;exact absurd (by rw[h];simp) (hx x (by simp))
 |x::x'::r,[y],_,_,_,hy,h=>by
  rw[Lib.join_one,Lx]at h;exact absurd (by rw[←h];simp) (hy y (by simp))
 |x::x'::r,y::y'::r',_,_,hx,hy,h=>by
  rw[Lx,Lx]at h;obtain⟨h1,h2⟩:=Af9 (hx x (by simp)) (hy y (by simp)) h;rw[h1,Agm (by simp) (by simp) (fun z hz=>hx z (ZL _ hz)) (fun z hz=>hy z (ZL _ hz)) h2]
theorem Ahe{x:List UInt8}(h:lab x=true):(46:UInt8)∉x:=fun hm=>by
 unfold lab at h;rw[ZO]at h;have:=List.all_eq_true.1 h.1 _ hm;exact absurd this (by decide)
theorem Aay(c:UInt8)(s:ByteArray):∀i,i≤s.size→((F7 c s i).1.map fun x=>x.data.toList++[c]).flatten=s.data.toList.take (F7 c s i).2
 |0,_=>by simp[F7]
 |i+1,h=>by
  have ih:=Aay c s i (by omega);have hle:=(As0 c s (i:=i) (by omega)).2;unfold F7;split
  ·rename_i hc;rw[ZI,List.flatten_append,ih];simp only[List.map_cons,List.map_nil,List.flatten_cons,List.flatten_nil,List.append_nil];rw[Ft,XT,hc];have:s.data.toList.take (F7 c s i).2++(s.data.toList.take i).drop (F7 c s i).2=s.data.toList.take i:=by
    have e:(s.data.toList.take i).take (F7 c s i).2=s.data.toList.take (F7 c s i).2:=by rw[List.take_take,Nat.min_eq_left hle]
    rw[←e,List.take_append_drop]
   rw[←ZS,this];rfl
  ·exact ih
theorem Abi(c:UInt8)(y:List UInt8):∀xs:List (List UInt8),Lib.join (xs++[y]) [c]=(xs.map fun x=>x++[c]).flatten++y
 |[]=>by simp[Lib.join_one]
 |[x]=>by rw[List.singleton_append,Lx,Lib.join_one];simp
 |x::x'::r=>by
  have ih:=Abi c y (x'::r);rw[List.cons_append,List.cons_append,Lx,←List.cons_append,ih];simp
theorem Af8(s:ByteArray):Dc dot (Cu 46 s)=s:=by
 apply L4;rw[←Aqq];show(Lib.join (((F7 46 s s.size).1++[s.extract (F7 46 s s.size).2 s.size]).map (·.data.toList)) [46]).toArray.toList=_;rw[ZI];have h:=Abi 46 (s.extract (F7 46 s s.size).2 s.size).data.toList ((F7 46 s s.size).1.map (·.data.toList));have h2:=Aay 46 s s.size (ZT _);simp only[List.map_map]at h;have h3:s.data.toList.take (F7 46 s s.size).2++(s.extract (F7 46 s s.size).2 s.size).data.toList=s.data.toList:=by rw[Ur,List.take_append_drop]
 rw[show((fun x:List UInt8=>x++[46])∘fun x:ByteArray=>x.data.toList)=fun x:ByteArray=>x.data.toList++[46]from rfl,h2,h3]at h;rw[List.toList_toArray];exact h
theorem Ans{s:ByteArray}(h:As s=0):∀x∈Bg s,lab x.data.toList=true:=fun x hx=>by
 unfold As at h;split at h
 ·omega
 ·rename_i h1;have h1:(Bg s).any (fun x=> !lab x.data.toList)=false:=by simpa using h1
  have:=List.any_eq_false.1 h1 x hx;simpa using this
theorem Auh{xs ys:List ByteArray}(h:xs.map (·.data.toList)=ys.map (·.data.toList)):xs=ys:=by
 induction xs generalizing ys with
 |nil=>cases ys with
  |nil=>rfl
  |cons y ys=>simp at h
 |cons x xs ih=>cases ys with
  |nil=>simp at h
  |cons y ys=>
   simp only[List.map_cons,List.cons.injEq]at h;rw[L4 h.1,ih h.2]
theorem Ane{s:ByteArray}{xs:List ByteArray}(h0:xs≠[])(h1:∀x∈xs,lab x.data.toList=true)(h2:∀x∈Cu 46 s,lab x.data.toList=true)(h:Dc dot xs=s):Cu 46 s=xs:=by
 have hp:Cu 46 s≠[]:=by simp[Cu]
 refine Auh (Agm (c:=46) (by simpa using hp) (by simpa using h0) (fun x hx=>?_) (fun x hx=>?_) ?_)
 ·obtain⟨y,hy,rfl⟩:=XO.1 hx;exact Ahe (h2 y hy)
 ·obtain⟨y,hy,rfl⟩:=XO.1 hx;exact Ahe (h1 y hy)
 ·have e:=(Af8 s).trans h.symm;have:=congrArg (fun b:ByteArray=>b.data.toList) e;simpa[Dc,dot]using this
theorem Qc{s:ByteArray}(h:em s=false):Bg s=Cu 46 s:=by
 unfold Bg;rw[if_neg (by unfold em at h;rw[h];simp)]
def isW(x:ByteArray):Bool:=bif x.toList==B3.toList then true else x.toList==Cx.toList
def noQ:Qr:=⟨⟨#[]⟩,⟨#[]⟩,⟨#[]⟩,⟨#[]⟩⟩
def q0 (l : List ByteArray) (k : Nat) : Qr :=
  ⟨if l.getD k ⟨#[]⟩ = B3 then l.getD (k - 1) ⟨#[]⟩ else ⟨#[]⟩, if l.getD k ⟨#[]⟩ = B3 ∧ k = 2 then l.getD 0 ⟨#[]⟩ else ⟨#[]⟩,
   if l.getD k ⟨#[]⟩ = Cx ∧ k = 1 then l.getD 0 ⟨#[]⟩ else ⟨#[]⟩, if k + 1 < l.length then l.getD (k + 1) ⟨#[]⟩ else ⟨#[]⟩⟩
structure Qy(l:List ByteArray)(k:Nat):Prop where
 lt:k<l.length
 near:l.length≤k+2
 w:isW (l.getD k ⟨#[]⟩)=true
 last:k+1<l.length→isW (l.getD (k+1) ⟨#[]⟩)=false
theorem Qy.uniq{l:List ByteArray}{k k':Nat}(h:Qy l k)(h':Qy l k'):k=k':=by
 have a1:=h.lt;have a2:=h.near;have b1:=h'.lt;have b2:=h'.near;rcases(by omega:k=k'∨k'=k+1∨k=k'+1)with q|q|q
 ·exact q
 ·have:=h.last (by omega);rw[←q,h'.w]at this;cases this
 ·have:=h'.last (by omega);rw[←q,h.w]at this;cases this
def Ai9(ls:List ByteArray):List Qr:=match ls with
 |[a,_,_]=>[⟨a,⟨#[]⟩,⟨#[]⟩,⟨#[]⟩⟩,⟨⟨#[]⟩,⟨#[]⟩,a,⟨#[]⟩⟩]
 |[a,b,c,_]=>[⟨a,⟨#[]⟩,⟨#[]⟩,c⟩,⟨⟨#[]⟩,⟨#[]⟩,a,c⟩,⟨b,a,⟨#[]⟩,⟨#[]⟩⟩]
 |[a,b,c,d,_]=>[⟨b,a,⟨#[]⟩,d⟩]
 |_=>[]
theorem Ep{q:Qr}{s:ByteArray}(h:Ao q=(s,0)):q.err=0∧As q.pr=0∧q.pr=s:=by
 unfold Ao at h;split at h
 ·rename_i h1;simp only[Prod.mk.injEq]at h;exact absurd h.2 h1
 ·rename_i h1;split at h
  ·rename_i h2;simp only[Prod.mk.injEq]at h;exact absurd h.2 h2
  ·rename_i h2;simp only[Prod.mk.injEq]at h;exact⟨Classical.byContradiction h1,Classical.byContradiction h2,h.1⟩
theorem Aty{q:Qr}:keep em q.words≠[]:=fun h=>by
 have hm:Bh∈keep em q.words:=by
  unfold keep;rw[List.mem_filter];exact⟨by unfold Qr.words;cases em q.nd<;>simp,by rw[X5 (by decide)];rfl⟩
 rw[h]at hm;cases hm
theorem Aoi{q:Qr}(h:q.err=0):∀x∈keep em q.words,lab x.data.toList=true:=fun x hx=>by
 have hall:∀y∈q.all,em y=false→lab y.data.toList=true:=fun y hy he=>by
  unfold Qr.err at h;cases h1:q.c1 with
  |true=>rw[h1]at h;cases h
  |false=>
   cases h2:q.c2 with
   |true=>rw[h1,h2]at h;cases h
   |false=>
    have:=List.any_eq_false.1 h2 y hy;unfold Yz at this;rw[he]at this;simpa using this
 unfold keep at hx;rw[List.mem_filter]at hx;obtain⟨hx1,hx2⟩:=hx;have he:em x=false:=by simpa using hx2
 have ls:lab B3.data.toList=true:=by decide
 have ln:lab Cx.data.toList=true:=by decide
 have lm:lab Bh.data.toList=true:=by decide
 unfold Qr.words at hx1;cases hn:em q.nd with
 |true=>
  rw[hn]at hx1;simp only[cond_true,XC,XD,or_false]at hx1;rcases hx1 with rfl|rfl|rfl|rfl|rfl
  ·exact hall _ (by simp[Qr.all]) he
  ·exact hall _ (by simp[Qr.all]) he
  ·exact ls
  ·exact hall _ (by simp[Qr.all]) he
  ·exact lm
 |false=>
  rw[hn]at hx1;simp only[cond_false,XC,XD,or_false]at hx1;rcases hx1 with rfl|rfl|rfl|rfl
  ·exact hall _ (by simp[Qr.all]) he
  ·exact ln
  ·exact hall _ (by simp[Qr.all]) he
  ·exact lm
theorem Sw{q:Qr}{s:ByteArray}(h:Ao q=(s,0)):Cu 46 s=keep em q.words:=by
 obtain⟨h1,h2,h3⟩:=Ep h;rw[h3]at h2;have hj:=(Akf h1).trans h3;have hs:em s=false:=by
  cases q2:em s with
  |false=>rfl
  |true=>
   have e:=Jy.1 q2;have hsz:q.pr.size=0:=by rw[h3,e];rfl
   unfold Qr.pr at hsz;rw[XP]at hsz;have:Bh.size=4:=rfl;omega
 refine Ane Aty (Aoi h1) (fun x hx=>Ans h2 x (by rw[Qc hs];exact hx)) hj
theorem S5:isW B3=true:=by unfold isW;simp
theorem Afr:isW Cx=true:=by unfold isW;cases (Cx.toList==B3.toList)<;>simp
theorem Avm{q:Qr}(h:q.err=0):isW q.ce=false:=by
 unfold Qr.err at h;cases h1:q.c1 with
 |true=>rw[h1]at h;cases h
 |false=>
  cases h2:q.c2 with
  |true=>rw[h1,h2]at h;cases h
  |false=>
   cases h3:q.c3 with
   |true=>rw[h1,h2,h3]at h;cases h
   |false=>
    have h4:Aa2 [B3,Cx,Bh] q.ce=false:=by
     unfold Qr.c3 at h3;cases q1:Aa2 [B3,Cx,Bh] q.ce with
     |false=>rfl
     |true=>rw[q1]at h3;cases h3
    have k1:=List.any_eq_false.1 h4 B3 (by simp);have k2:=List.any_eq_false.1 h4 Cx (by simp);unfold isW;cases q1:(q.ce.toList==B3.toList)with
    |true=>exact absurd q1 k1
    |false=>simpa using k2
theorem D5:B3≠Cx:=fun h=>absurd (congrArg ByteArray.size h) (by decide)
theorem Mh{q:Qr}{s:ByteArray}(h:Ao q=(s,0)):∃l k,Cu 46 s=l++[Bh]∧Qy l k∧1≤k∧k≤2∧q=q0 l k∧q∈Ai9 (Cu 46 s):=by
 have hp:=Sw h;obtain⟨h1,h2,h3⟩:=Ep h;obtain⟨_,hc1,hc2⟩:=Rs h1;have hw:=Avm h1;have es:em B3=false:=X5 (by decide);have en:em Cx=false:=X5 (by decide);have emm:em Bh=false:=X5 (by decide);rw[hp];obtain⟨sv,tg,nd,ce⟩:=q;unfold Qr.words keep;dsimp only at *;cases hn:em nd with
 |false=>
  have hsv:em sv=true:=by rw[hn]at hc1;simpa using hc1
  have htg:=hc2 hsv;have e1:=Jy.1 hsv;have e2:=Jy.1 htg;subst e1 e2;cases hc:em ce with
  |true=>
   have e3:=Jy.1 hc;subst e3;refine⟨[nd,Cx],1,?_,⟨by simp,by simp,Afr,by simp⟩,by omega,by omega,?_,?_⟩
   ·simp[hn,hc,en,emm]
   ·simp[q0,D5.symm]
   ·simp[hn,hc,en,emm,Ai9]
  |false=>
   refine⟨[nd,Cx,ce],1,?_,⟨by simp,by simp,Afr,fun _=>hw⟩,by omega,by omega,?_,?_⟩
   ·simp[hn,hc,en,emm]
   ·simp[q0,D5.symm]
   ·simp[hn,hc,en,emm,Ai9]
 |true=>
  have hsv:em sv=false:=by rw[hn]at hc1;simpa using hc1
  have e1:=Jy.1 hn;subst e1;cases ht:em tg with
  |true=>
   have e2:=Jy.1 ht;subst e2;cases hc:em ce with
   |true=>
    have e3:=Jy.1 hc;subst e3;refine⟨[sv,B3],1,?_,⟨by simp,by simp,S5,by simp⟩,by omega,by omega,?_,?_⟩
    ·simp[hsv,hc,es,emm]
    ·simp[q0,D5]
    ·simp[hsv,hc,es,emm,Ai9]
   |false=>
    refine⟨[sv,B3,ce],1,?_,⟨by simp,by simp,S5,fun _=>hw⟩,by omega,by omega,?_,?_⟩
    ·simp[hn,hsv,hc,es,emm]
    ·simp[q0,D5]
    ·simp[hn,hsv,hc,es,emm,Ai9]
  |false=>
   cases hc:em ce with
   |true=>
    have e3:=Jy.1 hc;subst e3;refine⟨[tg,sv,B3],2,?_,⟨by simp,by simp,S5,by simp⟩,by omega,by omega,?_,?_⟩
    ·simp[hsv,ht,hc,es,emm]
    ·simp[q0,D5]
    ·simp[hsv,ht,hc,es,emm,Ai9]
   |false=>
    refine⟨[tg,sv,B3,ce],2,?_,⟨by simp,by simp,S5,fun _=>hw⟩,by omega,by omega,?_,?_⟩
    ·simp[hsv,ht,hc,es,emm]
    ·simp[q0,D5]
    ·simp[hsv,ht,hc,es,emm,Ai9]
theorem Ahv{q q':Qr}{s:ByteArray}(h:Ao q=(s,0))(h':Ao q'=(s,0)):q=q':=by
 obtain⟨l,k,a1,a2,_,_,a3,_⟩:=Mh h;obtain⟨l',k',b1,b2,_,_,b3,_⟩:=Mh h';have e:l=l':=by rw[a1]at b1;exact(List.append_inj' b1 rfl).1
 subst e;rw[a3,b3,a2.uniq b2]
open Classical in
noncomputable def A8(s:ByteArray):Qr×Int:=if As s≠0 then(noQ,As s)else if(Cu 46 s).getLast?≠some Bh then(noQ,8)else if h:∃q,Ao q=(s,0)then(h.choose,0)else(noQ,1)
theorem Xr{s:ByteArray}(h:As s≠0):A8 s=(noQ,As s):=by unfold A8;rw[if_pos h]
theorem Zk{s:ByteArray}(h:As s=0)(h2:(Cu 46 s).getLast?≠some Bh):A8 s=(noQ,8):=by unfold A8;rw[if_neg (by simp[h]),if_pos h2]
theorem Ow{s:ByteArray}(h:As s=0)(h2:(Cu 46 s).getLast? =some Bh)(h3:∀q,Ao q≠(s,0)):A8 s=(noQ,1):=by
 unfold A8;rw[if_neg (by simp[h]),if_neg (by simp[h2]),dif_neg (fun⟨q,hq⟩=>h3 q hq)]
theorem Ct{s:ByteArray}{q:Qr}(hq:Ao q=(s,0)):A8 s=(q,0):=by
 obtain⟨l,k,a1,_⟩:=Mh hq;obtain⟨h1,h2,h3⟩:=Ep hq;unfold A8;have hex:∃q,Ao q=(s,0):=⟨q,hq⟩;rw[if_neg (by rw[←h3];simp[h2]),if_neg (by rw[a1];simp),dif_pos hex,Ahv hex.choose_spec hq]
theorem Aju{s:ByteArray}{q:Qr}(h:A8 s=(q,0)):Ao q=(s,0):=by
 by_cases h1:As s=0
 ·by_cases h2:(Cu 46 s).getLast? =some Bh
  ·by_cases h3:∃q,Ao q=(s,0)
   ·obtain⟨q',hq⟩:=h3;rw[Ct hq]at h;injection h with h _
    rw[←h];exact hq
   ·rw[Ow h1 h2 (fun q hq=>h3 ⟨q,hq⟩)]at h;simp at h
  ·rw[Zk h1 h2]at h;simp at h
 ·rw[Xr h1]at h;simp only[Prod.mk.injEq]at h;exact absurd h.2 h1
end Pl
namespace Pl
theorem Ab0(t:((⟨#[110,111,100,101]⟩:ByteArray).toList==(⟨#[115,101,114,118,105,99,101]⟩:ByteArray).toList)=true):False:=D5 (toList_inj (ZR.1 t)).symm
theorem O6(t:((⟨#[115,101,114,118,105,99,101]⟩:ByteArray).toList==(⟨#[110,111,100,101]⟩:ByteArray).toList)=true):False:=D5 (toList_inj (ZR.1 t))
theorem Ab6{x:ByteArray}(h:isW x=true):x=B3∨x=Cx:=by
 unfold isW at h;cases q:(x.toList==B3.toList)with
 |true=>exact .inl (toList_inj (by simpa using q))
 |false=>rw[q]at h;exact .inr (toList_inj (by simpa using h))
theorem D8{s:ByteArray}{l:List ByteArray}{k:Nat}(hl:Cu 46 s=l++[Bh])(h:As s=0)(hw:Qy l k)(hn:Ao (q0 l k)≠(s,0)):A8 s=(noQ,1):=by
 refine Ow h (by rw[hl];simp) fun q hq=>?_;obtain⟨l',k',b1,b2,_,_,b3,_⟩:=Mh hq;have e:l=l':=by rw[hl]at b1;exact(List.append_inj' b1 rfl).1
 subst e;rw[b3,b2.uniq hw]at hq;exact hn hq
theorem Acs{s:ByteArray}{l:List ByteArray}(hl:Cu 46 s=l++[Bh])(h:As s=0)(hn:∀k,Qy l k→¬(1≤k∧k≤2)):A8 s=(noQ,1):=by
 refine Ow h (by rw[hl];simp) fun q hq=>?_;obtain⟨l',k',b1,b2,b3,b4,_,_⟩:=Mh hq;have e:l=l':=by rw[hl]at b1;exact(List.append_inj' b1 rfl).1
 subst e;exact hn k' b2 ⟨b3,b4⟩
theorem Anr{l:List ByteArray}{M:Nat}(h:∀x∈l,x.size≤M)(k:Nat):(l.getD k ⟨#[]⟩).size≤M:=by
 rw[List.getD_eq_getElem?_getD];cases q:l[k]? with
 |none=>exact ZU _
 |some x=>exact h x (ZH q)
theorem Vd{l:List ByteArray}(h:∀x∈l,x.size≤9223372036854775807)(k:Nat):(q0 l k).ok:=by
 have z:(⟨#[]⟩:ByteArray).size≤9223372036854775807:=ZU _;refine⟨?_,?_,?_,?_⟩<;>(unfold q0;dsimp only;split)<;>first|exact Anr h _|exact z
def kI:Option Nat→Int
 |none=> -1
 |some b=>b
def KD(l:List ByteArray)(i:Nat):Option Nat→Prop
 |none=>∀j,j<i→l.length≤j+2→isW (l.getD j ⟨#[]⟩)=false
 |some k=>k<i∧l.length≤k+2∧isW (l.getD k ⟨#[]⟩)=true∧∀j,j<i→k<j→isW (l.getD j ⟨#[]⟩)=false
theorem Aoo{l:List ByteArray}{i:Nat}{o:Option Nat}(h:KD l i o)(hi:l.length≤i+2)(hw:isW (l.getD i ⟨#[]⟩)=true):KD l (i+1) (some i):=⟨by omega,hi,hw,fun j h1 h2=>by omega⟩
theorem Aza{l:List ByteArray}{i:Nat}{o:Option Nat}(h:KD l i o)(hw:isW (l.getD i ⟨#[]⟩)=false):KD l (i+1) o:=by
 cases o with
 |none=>
  intro j h1 h2;by_cases q:j<i
  ·exact h j q h2
  ·have e:j=i:=by omega
   rw[e];exact hw
 |some k=>
  refine⟨by have:=h.1;omega,h.2.1,h.2.2.1,fun j h1 h2=>?_⟩;by_cases q:j<i
  ·exact h.2.2.2 j q h2
  ·have e:j=i:=by omega
   rw[e];exact hw
theorem At7{l:List ByteArray}{k:Nat}(h:KD l l.length (some k)):Qy l k:=⟨h.1,h.2.1,h.2.2.1,fun q=>h.2.2.2 _ q (by omega)⟩
end Pl
theorem Qn(s:ByteArray)(hs:s.size≤1000000000000):Fun Tryz.prog 73 [.c (.v (.string s))] [.c (.agg (A8 s).1.row),.c (.v (.int .i64 (A8 s).2))]:=by
 obtain⟨l,x,hlx⟩:∃l x,Cu 46 s=l++[x]:=⟨_,_,rfl⟩;have hll:l.length≤s.size:=by
  have h1:=Q3 46 s;have h2:=Aj7 s 46;rw[hlx,ZF]at h1;simp at h1;omega
 have hS:=Ac3 s 46 hs;rw[hlx]at hS;have hlen:((l++[x]).map Bm).length=l.length+1:=by simp
 have hsub:IntKind.i64.wrap ((((l++[x]).map Bm).length:Int)-1)=(l.length:Int):=by rw[hlen,D7 (by omega) (by omega)];omega
 have hlast:((l++[x]).map Bm)[l.length]? =some (Bm x):=by simp
 refine Ait Yy rfl ?_;refine G1 ?_;intro gg;refine .inl (cX (Lr s hs) ?_);refine G1 ?_;intro gg;(refine Ag (fun h1=>?_) (fun h1=>?_)<;>rw[h1])
 ·have h1':As s≠0:=by simpa using h1
  rw[Xr h1'];refine G0 ?_;exact Da (A9 rfl) (A9 rfl) (.cell1 rfl rfl rfl rfl rfl rfl (.tmp1 rfl .nil))
 ·have h1':As s=0:=by simpa using h1
  refine G0 ?_;refine .inl (cX hS ?_);refine G1 ?_;intro gg;refine⟨(l.length:Int),hsub,?_⟩;refine G0 ?_;refine⟨l.length,_,rfl,hlast,?_⟩;refine G0 ?_;refine⟨_,hlast,?_⟩;refine G0 ?_;(refine Ag (fun h2=>?_) (fun h2=>?_)<;>rw[h2])
  ·have h2':x≠Bh:=fun e=>by rw[e,show(Bh.toList==(⟨#[109,101,115,104]⟩:ByteArray).toList)=true from beq_self_eq_true _]at h2;cases h2
   rw[Zk h1' (by rw[hlx];simpa using h2')];refine G0 ?_;exact Da (A9 rfl) (A9 rfl) (.cell1 rfl rfl rfl rfl rfl rfl (.tmp1 rfl .nil))
  ·have h2':x=Bh:=toList_inj (ZR.1 (Fb h2));subst h2';have hl:=hlx;have hsz':∀y∈l,y.size≤9223372036854775807:=fun y hy=>by
    have he:em s=false:=by
     cases q:em s with
     |false=>rfl
     |true=>
      have e0:=Jy.1 q;rw[e0]at hl;have:=congrArg List.length hl;simp at this;have e3:(Cu 46 (⟨#[]⟩:ByteArray)).length=1:=by rw[Q3];rfl
      rw[hl]at e3;simp at e3;subst e3;cases hy
    have hm:y∈Bg s:=by rw[Qc he,hl];exact List.mem_append_left _ hy
    have:=Jh hm;omega
   have et:((l++[Bh]).map Bm).take l.length=l.map Bm:=by rw[ZI,List.take_append_of_le_length (by simp),List.take_of_length_le (by simp)]
   have etl:(((l++[Bh]).map Bm).take l.length).length=l.length:=by rw[et];simp
   have hrow:∀j,j<l.length→(((l++[Bh]).map Bm).take l.length)[j]? =some (Bm (l.getD j ⟨#[]⟩)):=fun j hj=>by
    rw[et,A7 hj,List.getD_eq_getElem?_getD,ZC hj];rfl
   have hsub2:IntKind.i64.wrap (((((l++[Bh]).map Bm).take l.length).length:Int)-2)=(l.length:Int)-2:=by rw[etl,D7 (by omega) (by omega)]
   have hsub1:IntKind.i64.wrap (((((l++[Bh]).map Bm).take l.length).length:Int)-1)=(l.length:Int)-1:=by rw[etl,D7 (by omega) (by omega)]
   have hmax:max (0:Int) ((l.length:Int)-2)=((l.length-2:Nat):Int):=by omega
   refine G0 ?_;refine⟨(l.length:Int),hsub,?_⟩;refine G0 ?_;refine⟨0,0,l.length,rfl,rfl,⟨_,rfl⟩,ZU _,by show l.length≤((l++[Bh]).map Bm).length;omega,rfl,rfl,fun g=>?_⟩;refine G1 ?_;intro gg;refine⟨(l.length:Int)-2,hsub2,?_⟩;refine G0 ?_;refine⟨[],none,{p:Nat×Option Nat//l.length-2≤p.1∧p.1≤l.length∧KD l p.1 p.2},[0,2,5,6],fun⟨⟨i,o⟩,hi⟩=>[(7,.v (.int .i64 (kI o))),(8,.v (.int .i64 i))],[32,96,288],fun⟨⟨i,o⟩,hi⟩=>[],fun⟨⟨i,o⟩,hi⟩=>l.length-i,trivial,
    fun gs=>⟨trivial,fun _=>⟨⟨(l.length-2,none),ZT _,Nat.sub_le _ _,fun j h1 h2=>by dsimp only at h1;omega⟩,⟨rfl,congrArg (fun x=>V.v (.int .i64 x)) hmax,trivial⟩,tI,tI,tI⟩⟩,fun⟨⟨i,o⟩,hi1,hi2,hkd⟩=>?_⟩
   refine G0 ?_;(refine Ag (fun h3=>?_) (fun h3=>?_)<;>rw[h3])
   ·have hlt:i<l.length:=by have:=ZV h3;simp only[etl]at this;omega
    refine G0 ?_;refine⟨i,_,rfl,hrow i hlt,?_⟩;refine G0 ?_;refine⟨_,hrow i hlt,?_⟩;refine G0 ?_;(refine Ag (fun h4=>?_) (fun h4=>?_)<;>rw[h4])
    ·have hw:isW (l.getD i ⟨#[]⟩)=true:=by unfold isW;rw[show((l.getD i ⟨#[]⟩).toList==B3.toList)=true from h4];rfl
     refine G0 ?_;(exact⟨none,trivial,fun _=>⟨⟨(i+1,some i),by dsimp only;omega,by dsimp only;omega,Aoo hkd (by dsimp only at hi1;omega) hw⟩,by show l.length-(i+1)<l.length-i;omega,tI,tI,tI,tI⟩⟩)
    ·refine G0 ?_;refine⟨i,_,rfl,hrow i hlt,?_⟩;refine G0 ?_;refine⟨_,hrow i hlt,?_⟩;refine G0 ?_;(refine Ag (fun h5=>?_) (fun h5=>?_)<;>rw[h5])
     ·have hw:isW (l.getD i ⟨#[]⟩)=true:=by unfold isW;rw[show((l.getD i ⟨#[]⟩).toList==B3.toList)=false from h4];exact h5
      refine G0 ?_;(exact⟨none,trivial,fun _=>⟨⟨(i+1,some i),by dsimp only;omega,by dsimp only;omega,Aoo hkd (by dsimp only at hi1;omega) hw⟩,by show l.length-(i+1)<l.length-i;omega,tI,tI,tI,tI⟩⟩)
     ·have hw:isW (l.getD i ⟨#[]⟩)=false:=by unfold isW;rw[show((l.getD i ⟨#[]⟩).toList==B3.toList)=false from h4];exact h5
      refine G0 ?_;(exact⟨none,trivial,fun _=>⟨⟨(i+1,o),by dsimp only;omega,by dsimp only;omega,Aza hkd hw⟩,by show l.length-(i+1)<l.length-i;omega,tI,tI,tI,tI⟩⟩)
   ·have hge:¬i<l.length:=by have:=ZW h3;simp only[etl]at this;omega
    obtain rfl:i=l.length:=by dsimp only at hi2;omega
    have hkd:KD l l.length o:=hkd;refine G0 ?_;cases o with
    |none=>
     rw[Acs hl h1' (fun k hw _=>by have:=hkd k hw.lt hw.near;rw[hw.w]at this;cases this)];refine G0 ?_;exact Da (A9 rfl) (A9 rfl) (.cell1 rfl rfl rfl rfl rfl rfl (.tmp1 rfl .nil))
    |some k=>
     have hwd:=At7 hkd;(refine Ag (fun h6=>?_) (fun h6=>?_)<;>rw[h6])
     ·have hk0:k<1:=by have:=ZV h6;simp only[kI]at this;omega
      rw[Acs hl h1' (fun k' hw' hk'=>by have:=hwd.uniq hw';omega)];refine G0 ?_;exact Da (A9 rfl) (A9 rfl) (.cell1 rfl rfl rfl rfl rfl rfl (.tmp1 rfl .nil))
     ·have hk0:¬k<1:=by have:=ZW h6;simp only[kI]at this;omega
      refine G0 ?_;(refine Ag (fun h6b=>?_) (fun h6b=>?_)<;>rw[h6b])
      ·have hk2:2<k:=by have:=ZV h6b;simp only[kI]at this;omega
       rw[Acs hl h1' (fun k' hw' hk'=>by have:=hwd.uniq hw';omega)];refine G0 ?_;exact Da (A9 rfl) (A9 rfl) (.cell1 rfl rfl rfl rfl rfl rfl (.tmp1 rfl .nil))
      ·have hk2:¬2<k:=by have:=ZW h6b;simp only[kI]at this;omega
       rcases(by omega:k=1∨k=2)with rfl|rfl
       ·skip
        have hkl:1<l.length:=hwd.lt;have hww:=Ab6 hwd.w;refine G0 ?_;refine⟨(l.length:Int)-1,hsub1,?_⟩;refine G0 ?_;(refine Ag (fun h7=>?_) (fun h7=>?_)<;>rw[h7])
        ·have hce:1+1<l.length:=by have:=ZV h7;simp only[kI]at this;omega
         refine G0 ?_;refine⟨2,by decide,?_⟩;refine G0 ?_;refine⟨2,_,rfl,hrow 2 hce,?_⟩;refine G0 ?_;refine⟨_,hrow 2 hce,?_⟩;rcases hww with hx|hx
         ·have hrk:(((l++[Bh]).map Bm).take l.length)[1]? =some (Bm B3):=by rw[←hx];exact hrow 1 hkl
          refine G0 ?_;refine⟨1,_,rfl,hrk,?_⟩;refine G0 ?_;refine⟨_,hrk,?_⟩;refine G0 ?_;(refine Ag (fun t=>?_) (fun t=>?_)<;>rw[t];focus (exfalso;exact O6 t));refine G0 ?_;refine⟨1,_,rfl,hrk,?_⟩;refine G0 ?_;refine⟨_,hrk,?_⟩;refine G0 ?_;(refine Ag (fun t=>?_) (fun t=>?_)<;>rw[t];rotate_left;focus (exfalso;exact Bool.noConfusion ((ZR.2 rfl).symm.trans t)));refine G0 ?_;refine⟨0,by decide,?_⟩;refine G0 ?_;refine⟨0,_,rfl,hrow 0 (by omega),?_⟩;refine G0 ?_;refine⟨_,hrow 0 (by omega),?_⟩;have e:q0 l 1=⟨l.getD 0 ⟨#[]⟩,⟨#[]⟩,⟨#[]⟩,l.getD 2 ⟨#[]⟩⟩:=by simp only[q0,hx,D5,hce,if_true,if_false,true_and,and_true,false_and,and_false,reduceCtorEq,Nat.reduceEqDiff,Nat.reduceSub,Nat.reduceAdd]
          have hP:=Dk (q0 l 1) (Vd hsz' 1);rw[e]at hP;refine G0 ?_;refine .inl (cX hP ?_);rw[←e];refine G1 ?_;intro gg;(refine Ag (fun h8=>?_) (fun h8=>?_)<;>rw[h8])
          ·have h8':(Ao (q0 l 1)).2≠0:=by simpa using h8
           rw[D8 hl h1' hwd (fun hq=>h8' (by rw[hq]))];refine G0 ?_;exact Da (A9 rfl) (A9 rfl) (.cell1 rfl rfl rfl rfl rfl rfl (.tmp1 rfl .nil))
          ·have h8':(Ao (q0 l 1)).2=0:=by simpa using h8
           refine G0 ?_;(refine Ag (fun h9=>?_) (fun h9=>?_)<;>rw[h9])
           ·have h9':(Ao (q0 l 1)).1≠s:=fun e=>by rw[e]at h9;simp at h9
            rw[D8 hl h1' hwd (fun hq=>h9' (by rw[hq]))];refine G0 ?_;exact Da (A9 rfl) (A9 rfl) (.cell1 rfl rfl rfl rfl rfl rfl (.tmp1 rfl .nil))
           ·have h9':(Ao (q0 l 1)).1=s:=toList_inj (ZR.1 (Fb h9));rw[Ct (q:=q0 l 1) (Prod.ext h9' h8'),e];refine G0 ?_;exact Da (A9 rfl) (A9 rfl) (.cell1 rfl rfl rfl rfl rfl rfl (.tmp1 rfl .nil))
         ·have hrk:(((l++[Bh]).map Bm).take l.length)[1]? =some (Bm Cx):=by rw[←hx];exact hrow 1 hkl
          refine G0 ?_;refine⟨1,_,rfl,hrk,?_⟩;refine G0 ?_;refine⟨_,hrk,?_⟩;refine G0 ?_;(refine Ag (fun t=>?_) (fun t=>?_)<;>rw[t];rotate_left;focus (exfalso;exact Bool.noConfusion ((ZR.2 rfl).symm.trans t)));refine G0 ?_;refine⟨0,_,rfl,hrow 0 (by omega),?_⟩;refine G0 ?_;refine⟨_,hrow 0 (by omega),?_⟩;have e:q0 l 1=⟨⟨#[]⟩,⟨#[]⟩,l.getD 0 ⟨#[]⟩,l.getD 2 ⟨#[]⟩⟩:=by simp only[q0,hx,D5.symm,hce,if_true,if_false,true_and,and_true,false_and,and_false,reduceCtorEq,Nat.reduceEqDiff,Nat.reduceSub,Nat.reduceAdd]
          have hP:=Dk (q0 l 1) (Vd hsz' 1);rw[e]at hP;refine G0 ?_;refine .inl (cX hP ?_);rw[←e];refine G1 ?_;intro gg;(refine Ag (fun h8=>?_) (fun h8=>?_)<;>rw[h8])
          ·have h8':(Ao (q0 l 1)).2≠0:=by simpa using h8
           rw[D8 hl h1' hwd (fun hq=>h8' (by rw[hq]))];refine G0 ?_;exact Da (A9 rfl) (A9 rfl) (.cell1 rfl rfl rfl rfl rfl rfl (.tmp1 rfl .nil))
          ·have h8':(Ao (q0 l 1)).2=0:=by simpa using h8
           refine G0 ?_;(refine Ag (fun h9=>?_) (fun h9=>?_)<;>rw[h9])
           ·have h9':(Ao (q0 l 1)).1≠s:=fun e=>by rw[e]at h9;simp at h9
            rw[D8 hl h1' hwd (fun hq=>h9' (by rw[hq]))];refine G0 ?_;exact Da (A9 rfl) (A9 rfl) (.cell1 rfl rfl rfl rfl rfl rfl (.tmp1 rfl .nil))
           ·have h9':(Ao (q0 l 1)).1=s:=toList_inj (ZR.1 (Fb h9));rw[Ct (q:=q0 l 1) (Prod.ext h9' h8'),e];refine G0 ?_;exact Da (A9 rfl) (A9 rfl) (.cell1 rfl rfl rfl rfl rfl rfl (.tmp1 rfl .nil))
        ·have hce:¬1+1<l.length:=by have:=ZW h7;simp only[kI]at this;omega
         rcases hww with hx|hx
         ·have hrk:(((l++[Bh]).map Bm).take l.length)[1]? =some (Bm B3):=by rw[←hx];exact hrow 1 hkl
          refine G0 ?_;refine⟨1,_,rfl,hrk,?_⟩;refine G0 ?_;refine⟨_,hrk,?_⟩;refine G0 ?_;(refine Ag (fun t=>?_) (fun t=>?_)<;>rw[t];focus (exfalso;exact O6 t));refine G0 ?_;refine⟨1,_,rfl,hrk,?_⟩;refine G0 ?_;refine⟨_,hrk,?_⟩;refine G0 ?_;(refine Ag (fun t=>?_) (fun t=>?_)<;>rw[t];rotate_left;focus (exfalso;exact Bool.noConfusion ((ZR.2 rfl).symm.trans t)));refine G0 ?_;refine⟨0,by decide,?_⟩;refine G0 ?_;refine⟨0,_,rfl,hrow 0 (by omega),?_⟩;refine G0 ?_;refine⟨_,hrow 0 (by omega),?_⟩;have e:q0 l 1=⟨l.getD 0 ⟨#[]⟩,⟨#[]⟩,⟨#[]⟩,⟨#[]⟩⟩:=by simp only[q0,hx,D5,hce,if_true,if_false,true_and,and_true,false_and,and_false,reduceCtorEq,Nat.reduceEqDiff,Nat.reduceSub,Nat.reduceAdd]
          have hP:=Dk (q0 l 1) (Vd hsz' 1);rw[e]at hP;refine G0 ?_;refine .inl (cX hP ?_);rw[←e];refine G1 ?_;intro gg;(refine Ag (fun h8=>?_) (fun h8=>?_)<;>rw[h8])
          ·have h8':(Ao (q0 l 1)).2≠0:=by simpa using h8
           rw[D8 hl h1' hwd (fun hq=>h8' (by rw[hq]))];refine G0 ?_;exact Da (A9 rfl) (A9 rfl) (.cell1 rfl rfl rfl rfl rfl rfl (.tmp1 rfl .nil))
          ·have h8':(Ao (q0 l 1)).2=0:=by simpa using h8
           refine G0 ?_;(refine Ag (fun h9=>?_) (fun h9=>?_)<;>rw[h9])
           ·have h9':(Ao (q0 l 1)).1≠s:=fun e=>by rw[e]at h9;simp at h9
            rw[D8 hl h1' hwd (fun hq=>h9' (by rw[hq]))];refine G0 ?_;exact Da (A9 rfl) (A9 rfl) (.cell1 rfl rfl rfl rfl rfl rfl (.tmp1 rfl .nil))
           ·have h9':(Ao (q0 l 1)).1=s:=toList_inj (ZR.1 (Fb h9));rw[Ct (q:=q0 l 1) (Prod.ext h9' h8'),e];refine G0 ?_;exact Da (A9 rfl) (A9 rfl) (.cell1 rfl rfl rfl rfl rfl rfl (.tmp1 rfl .nil))
         ·have hrk:(((l++[Bh]).map Bm).take l.length)[1]? =some (Bm Cx):=by rw[←hx];exact hrow 1 hkl
          refine G0 ?_;refine⟨1,_,rfl,hrk,?_⟩;refine G0 ?_;refine⟨_,hrk,?_⟩;refine G0 ?_;(refine Ag (fun t=>?_) (fun t=>?_)<;>rw[t];rotate_left;focus (exfalso;exact Bool.noConfusion ((ZR.2 rfl).symm.trans t)));refine G0 ?_;refine⟨0,_,rfl,hrow 0 (by omega),?_⟩;refine G0 ?_;refine⟨_,hrow 0 (by omega),?_⟩;have e:q0 l 1=⟨⟨#[]⟩,⟨#[]⟩,l.getD 0 ⟨#[]⟩,⟨#[]⟩⟩:=by simp only[q0,hx,D5.symm,hce,if_true,if_false,true_and,and_true,false_and,and_false,reduceCtorEq,Nat.reduceEqDiff,Nat.reduceSub,Nat.reduceAdd]
          have hP:=Dk (q0 l 1) (Vd hsz' 1);rw[e]at hP;refine G0 ?_;refine .inl (cX hP ?_);rw[←e];refine G1 ?_;intro gg;(refine Ag (fun h8=>?_) (fun h8=>?_)<;>rw[h8])
          ·have h8':(Ao (q0 l 1)).2≠0:=by simpa using h8
           rw[D8 hl h1' hwd (fun hq=>h8' (by rw[hq]))];refine G0 ?_;exact Da (A9 rfl) (A9 rfl) (.cell1 rfl rfl rfl rfl rfl rfl (.tmp1 rfl .nil))
          ·have h8':(Ao (q0 l 1)).2=0:=by simpa using h8
           refine G0 ?_;(refine Ag (fun h9=>?_) (fun h9=>?_)<;>rw[h9])
           ·have h9':(Ao (q0 l 1)).1≠s:=fun e=>by rw[e]at h9;simp at h9
            rw[D8 hl h1' hwd (fun hq=>h9' (by rw[hq]))];refine G0 ?_;exact Da (A9 rfl) (A9 rfl) (.cell1 rfl rfl rfl rfl rfl rfl (.tmp1 rfl .nil))
           ·have h9':(Ao (q0 l 1)).1=s:=toList_inj (ZR.1 (Fb h9));rw[Ct (q:=q0 l 1) (Prod.ext h9' h8'),e];refine G0 ?_;exact Da (A9 rfl) (A9 rfl) (.cell1 rfl rfl rfl rfl rfl rfl (.tmp1 rfl .nil))
       ·skip
        have hkl:2<l.length:=hwd.lt;have hww:=Ab6 hwd.w;refine G0 ?_;refine⟨(l.length:Int)-1,hsub1,?_⟩;refine G0 ?_;(refine Ag (fun h7=>?_) (fun h7=>?_)<;>rw[h7])
        ·have hce:2+1<l.length:=by have:=ZV h7;simp only[kI]at this;omega
         refine G0 ?_;refine⟨3,by decide,?_⟩;refine G0 ?_;refine⟨3,_,rfl,hrow 3 hce,?_⟩;refine G0 ?_;refine⟨_,hrow 3 hce,?_⟩;rcases hww with hx|hx
         ·have hrk:(((l++[Bh]).map Bm).take l.length)[2]? =some (Bm B3):=by rw[←hx];exact hrow 2 hkl
          refine G0 ?_;refine⟨2,_,rfl,hrk,?_⟩;refine G0 ?_;refine⟨_,hrk,?_⟩;refine G0 ?_;(refine Ag (fun t=>?_) (fun t=>?_)<;>rw[t];focus (exfalso;exact O6 t));refine G0 ?_;refine⟨2,_,rfl,hrk,?_⟩;refine G0 ?_;refine⟨_,hrk,?_⟩;refine G0 ?_;(refine Ag (fun t=>?_) (fun t=>?_)<;>rw[t];rotate_left;focus (exfalso;exact Bool.noConfusion ((ZR.2 rfl).symm.trans t)));refine G0 ?_;refine⟨1,by decide,?_⟩;refine G0 ?_;refine⟨1,_,rfl,hrow 1 (by omega),?_⟩;refine G0 ?_;refine⟨_,hrow 1 (by omega),?_⟩;refine G0 ?_;refine⟨0,_,rfl,hrow 0 (by omega),?_⟩;refine G0 ?_;refine⟨_,hrow 0 (by omega),?_⟩;have e:q0 l 2=⟨l.getD 1 ⟨#[]⟩,l.getD 0 ⟨#[]⟩,⟨#[]⟩,l.getD 3 ⟨#[]⟩⟩:=by simp only[q0,hx,D5,hce,if_true,if_false,true_and,and_true,false_and,and_false,reduceCtorEq,Nat.reduceEqDiff,Nat.reduceSub,Nat.reduceAdd]
          have hP:=Dk (q0 l 2) (Vd hsz' 2);rw[e]at hP;refine G0 ?_;refine .inl (cX hP ?_);rw[←e];refine G1 ?_;intro gg;(refine Ag (fun h8=>?_) (fun h8=>?_)<;>rw[h8])
          ·have h8':(Ao (q0 l 2)).2≠0:=by simpa using h8
           rw[D8 hl h1' hwd (fun hq=>h8' (by rw[hq]))];refine G0 ?_;exact Da (A9 rfl) (A9 rfl) (.cell1 rfl rfl rfl rfl rfl rfl (.tmp1 rfl .nil))
          ·have h8':(Ao (q0 l 2)).2=0:=by simpa using h8
           refine G0 ?_;(refine Ag (fun h9=>?_) (fun h9=>?_)<;>rw[h9])
           ·have h9':(Ao (q0 l 2)).1≠s:=fun e=>by rw[e]at h9;simp at h9
            rw[D8 hl h1' hwd (fun hq=>h9' (by rw[hq]))];refine G0 ?_;exact Da (A9 rfl) (A9 rfl) (.cell1 rfl rfl rfl rfl rfl rfl (.tmp1 rfl .nil))
           ·have h9':(Ao (q0 l 2)).1=s:=toList_inj (ZR.1 (Fb h9));rw[Ct (q:=q0 l 2) (Prod.ext h9' h8'),e];refine G0 ?_;exact Da (A9 rfl) (A9 rfl) (.cell1 rfl rfl rfl rfl rfl rfl (.tmp1 rfl .nil))
         ·have hrk:(((l++[Bh]).map Bm).take l.length)[2]? =some (Bm Cx):=by rw[←hx];exact hrow 2 hkl
          refine G0 ?_;refine⟨2,_,rfl,hrk,?_⟩;refine G0 ?_;refine⟨_,hrk,?_⟩;refine G0 ?_;(refine Ag (fun t=>?_) (fun t=>?_)<;>rw[t];rotate_left;focus (exfalso;exact Bool.noConfusion ((ZR.2 rfl).symm.trans t)));refine G0 ?_;refine⟨2,_,rfl,hrk,?_⟩;refine G0 ?_;refine⟨_,hrk,?_⟩;refine G0 ?_;(refine Ag (fun t=>?_) (fun t=>?_)<;>rw[t];focus (exfalso;exact Ab0 t));have e:q0 l 2=⟨⟨#[]⟩,⟨#[]⟩,⟨#[]⟩,l.getD 3 ⟨#[]⟩⟩:=by simp only[q0,hx,D5.symm,hce,if_true,if_false,true_and,and_true,false_and,and_false,reduceCtorEq,Nat.reduceEqDiff,Nat.reduceSub,Nat.reduceAdd]
          have hP:=Dk (q0 l 2) (Vd hsz' 2);rw[e]at hP;refine G0 ?_;refine .inl (cX hP ?_);rw[←e];refine G1 ?_;intro gg;(refine Ag (fun h8=>?_) (fun h8=>?_)<;>rw[h8])
          ·have h8':(Ao (q0 l 2)).2≠0:=by simpa using h8
           rw[D8 hl h1' hwd (fun hq=>h8' (by rw[hq]))];refine G0 ?_;exact Da (A9 rfl) (A9 rfl) (.cell1 rfl rfl rfl rfl rfl rfl (.tmp1 rfl .nil))
          ·have h8':(Ao (q0 l 2)).2=0:=by simpa using h8
           refine G0 ?_;(refine Ag (fun h9=>?_) (fun h9=>?_)<;>rw[h9])
           ·have h9':(Ao (q0 l 2)).1≠s:=fun e=>by rw[e]at h9;simp at h9
            rw[D8 hl h1' hwd (fun hq=>h9' (by rw[hq]))];refine G0 ?_;exact Da (A9 rfl) (A9 rfl) (.cell1 rfl rfl rfl rfl rfl rfl (.tmp1 rfl .nil))
           ·have h9':(Ao (q0 l 2)).1=s:=toList_inj (ZR.1 (Fb h9));rw[Ct (q:=q0 l 2) (Prod.ext h9' h8'),e];refine G0 ?_;exact Da (A9 rfl) (A9 rfl) (.cell1 rfl rfl rfl rfl rfl rfl (.tmp1 rfl .nil))
        ·have hce:¬2+1<l.length:=by have:=ZW h7;simp only[kI]at this;omega
         rcases hww with hx|hx
         ·have hrk:(((l++[Bh]).map Bm).take l.length)[2]? =some (Bm B3):=by rw[←hx];exact hrow 2 hkl
          refine G0 ?_;refine⟨2,_,rfl,hrk,?_⟩;refine G0 ?_;refine⟨_,hrk,?_⟩;refine G0 ?_;(refine Ag (fun t=>?_) (fun t=>?_)<;>rw[t];focus (exfalso;exact O6 t));refine G0 ?_;refine⟨2,_,rfl,hrk,?_⟩;refine G0 ?_;refine⟨_,hrk,?_⟩;refine G0 ?_;(refine Ag (fun t=>?_) (fun t=>?_)<;>rw[t];rotate_left;focus (exfalso;exact Bool.noConfusion ((ZR.2 rfl).symm.trans t)));refine G0 ?_;refine⟨1,by decide,?_⟩;refine G0 ?_;refine⟨1,_,rfl,hrow 1 (by omega),?_⟩;refine G0 ?_;refine⟨_,hrow 1 (by omega),?_⟩;refine G0 ?_;refine⟨0,_,rfl,hrow 0 (by omega),?_⟩;refine G0 ?_;refine⟨_,hrow 0 (by omega),?_⟩;have e:q0 l 2=⟨l.getD 1 ⟨#[]⟩,l.getD 0 ⟨#[]⟩,⟨#[]⟩,⟨#[]⟩⟩:=by simp only[q0,hx,D5,hce,if_true,if_false,true_and,and_true,false_and,and_false,reduceCtorEq,Nat.reduceEqDiff,Nat.reduceSub,Nat.reduceAdd]
          have hP:=Dk (q0 l 2) (Vd hsz' 2);rw[e]at hP;refine G0 ?_;refine .inl (cX hP ?_);rw[←e];refine G1 ?_;intro gg;(refine Ag (fun h8=>?_) (fun h8=>?_)<;>rw[h8])
          ·have h8':(Ao (q0 l 2)).2≠0:=by simpa using h8
           rw[D8 hl h1' hwd (fun hq=>h8' (by rw[hq]))];refine G0 ?_;exact Da (A9 rfl) (A9 rfl) (.cell1 rfl rfl rfl rfl rfl rfl (.tmp1 rfl .nil))
          ·have h8':(Ao (q0 l 2)).2=0:=by simpa using h8
           refine G0 ?_;(refine Ag (fun h9=>?_) (fun h9=>?_)<;>rw[h9])
           ·have h9':(Ao (q0 l 2)).1≠s:=fun e=>by rw[e]at h9;simp at h9
            rw[D8 hl h1' hwd (fun hq=>h9' (by rw[hq]))];refine G0 ?_;exact Da (A9 rfl) (A9 rfl) (.cell1 rfl rfl rfl rfl rfl rfl (.tmp1 rfl .nil))
           ·have h9':(Ao (q0 l 2)).1=s:=toList_inj (ZR.1 (Fb h9));rw[Ct (q:=q0 l 2) (Prod.ext h9' h8'),e];refine G0 ?_;exact Da (A9 rfl) (A9 rfl) (.cell1 rfl rfl rfl rfl rfl rfl (.tmp1 rfl .nil))
         ·have hrk:(((l++[Bh]).map Bm).take l.length)[2]? =some (Bm Cx):=by rw[←hx];exact hrow 2 hkl
          refine G0 ?_;refine⟨2,_,rfl,hrk,?_⟩;refine G0 ?_;refine⟨_,hrk,?_⟩;refine G0 ?_;(refine Ag (fun t=>?_) (fun t=>?_)<;>rw[t];rotate_left;focus (exfalso;exact Bool.noConfusion ((ZR.2 rfl).symm.trans t)));refine G0 ?_;refine⟨2,_,rfl,hrk,?_⟩;refine G0 ?_;refine⟨_,hrk,?_⟩;refine G0 ?_;(refine Ag (fun t=>?_) (fun t=>?_)<;>rw[t];focus (exfalso;exact Ab0 t));have e:q0 l 2=⟨⟨#[]⟩,⟨#[]⟩,⟨#[]⟩,⟨#[]⟩⟩:=by simp only[q0,hx,D5.symm,hce,if_true,if_false,true_and,and_true,false_and,and_false,reduceCtorEq,Nat.reduceEqDiff,Nat.reduceSub,Nat.reduceAdd]
          have hP:=Dk (q0 l 2) (Vd hsz' 2);rw[e]at hP;refine G0 ?_;refine .inl (cX hP ?_);rw[←e];refine G1 ?_;intro gg;(refine Ag (fun h8=>?_) (fun h8=>?_)<;>rw[h8])
          ·have h8':(Ao (q0 l 2)).2≠0:=by simpa using h8
           rw[D8 hl h1' hwd (fun hq=>h8' (by rw[hq]))];refine G0 ?_;exact Da (A9 rfl) (A9 rfl) (.cell1 rfl rfl rfl rfl rfl rfl (.tmp1 rfl .nil))
          ·have h8':(Ao (q0 l 2)).2=0:=by simpa using h8
           refine G0 ?_;(refine Ag (fun h9=>?_) (fun h9=>?_)<;>rw[h9])
           ·have h9':(Ao (q0 l 2)).1≠s:=fun e=>by rw[e]at h9;simp at h9
            rw[D8 hl h1' hwd (fun hq=>h9' (by rw[hq]))];refine G0 ?_;exact Da (A9 rfl) (A9 rfl) (.cell1 rfl rfl rfl rfl rfl rfl (.tmp1 rfl .nil))
           ·have h9':(Ao (q0 l 2)).1=s:=toList_inj (ZR.1 (Fb h9));rw[Ct (q:=q0 l 2) (Prod.ext h9' h8'),e];refine G0 ?_;exact Da (A9 rfl) (A9 rfl) (.cell1 rfl rfl rfl rfl rfl rfl (.tmp1 rfl .nil))
open Go
def Ajk(T:TypeId)(b:Nat)(v:Value)(bs:List Value)(w:World):Prop:=
 (∃p,(p=.pointer none∨p=.pointer (some ⟨b,0,none⟩))∧w.heap[b]? =some (.cells #[p,v] T (0,0)))∧w.ownsRow 0 5 1 v bs.length bs∧v.ownBlock≠some b
theorem heap_set{b:Nat}{w:World}{cs:Array Value}{T:TypeId}{fr:Nat×Nat}(hb:w.heap[b]? =some (.cells cs T fr))(i:Nat)(x:Value):(w.setCell ⟨b,i,none⟩ x).heap[b]? =some (.cells (cs.setIfInBounds i x) T fr):=by
 have hlt:b<w.heap.size:=(XL.1 hb).1;simp[World.setCell,Array.getElem?_modify,hb]
theorem Zz{b k:Nat}{w:World}(hk:k≠b)(i:Nat)(x:Value):(w.setCell ⟨b,i,none⟩ x).heap[k]? =w.heap[k]? :=by
 have:b≠k:=fun e=>hk e.symm;simp[World.setCell,Array.getElem?_modify,this]
theorem Ar7(b i:Nat)(x:Value)(w:World):w.grownBy (w.setCell ⟨b,i,none⟩ x) (some b):=⟨rfl,rfl,rfl,by simp,fun k hk hn=>Zz (fun e=>hn (by rw[e])) i x⟩
theorem Arh{b:Nat}{w:World}{L:Nat→Prop}(hL:L b)(i:Nat)(x:Value):Fr L w (w.setCell ⟨b,i,none⟩ x):=
 ⟨rfl,rfl,rfl,by simp,fun k hk hn=>Zz (fun e=>hn (by rw[e];exact hL)) i x⟩
set_option maxHeartbeats 1000000 in
set_option maxRecDepth 100000 in
theorem P7(T:TypeId)(hT:liesAt Tryz.prog Tryz.prog.depth T (2/Tryz.prog.cellsOf T) 0 201 1=true)(b:Nat)(v:Value)(bs:List Value)(w:World)(h:Ajk T b v bs w):
  Calls Tryz.prog 248 #[.pointer (some ⟨b,0,none⟩)] w fun e w'=>e=.returned (.tuple #[])∧w'.heap[b]? =some (.cells #[.pointer (some ⟨b,0,none⟩),v] T (0,0))∧w'.ownsRow 0 5 1 v bs.length bs∧Fr (fun k=>k=b) w w':=by
 obtain⟨⟨p,hp,hbk⟩,hown,hne⟩:=h;obtain⟨j,hj,hjs⟩:=Option.map_eq_some_iff.1 (show(Tryz.prog.info? 201).map (·.size)=some 2 by kernel_rfl);have h0:w.cell? ⟨b,0,none⟩=some p:=by rw[Lib.cell_of_heap hbk];rfl
 have hsh:w.shape? b=some (T,2):=by simp[World.shape?,hbk]
 have hfz:w.frozen? ⟨b,0,none⟩=false:=Lib.frozen_of_heap hbk 0;rcases hp with rfl|rfl
 ·go_enter Tryz.func248,Tryz.ntmps248
  go_wp2
  rw[Lib.run_to_unsafe w ⟨b,0,none⟩ Tryz.underlying199 Tryz.underlying302 hj (by rw[hjs];decide) hsh (Nat.zero_lt_succ 1)];simp only[Result.andThen];rw[Oper.upon_value]
  go_wp2
  rw[run_callFunc_extern Tryz.func267 (by kernel_rfl) (by kernel_rfl) (by kernel_rfl) (e:=Extern.AbiNoEscape.same) (by kernel_rfl)];rw[Lib.run_noEscape];simp only[Result.andThen];rw[Oper.upon_value]
  go_wp2
  rw[Lib.run_from_unsafe w ⟨b,0,none⟩ Tryz.underlying302 Tryz.underlying199 hj hsh hT];simp only[Result.andThen];rw[Oper.upon_value]
  go_wp2
  go_end0
  refine⟨rfl,?_,?_,Arh (L:=fun k=>k=b) rfl _ _⟩
  ·rw[heap_set hbk];rfl
  ·exact hown.kept (Ar7 _ _ _ _) (.inr hne)
 ·go_enter Tryz.func248,Tryz.ntmps248
  go_wp2
  rw[Lib.run_neq_ptr_same w _ Tryz.underlying199 hj]
  go_wp2
  go_end0
  exact⟨rfl,hbk,hown,Fr.refl _ _⟩
theorem Alw:(Tryz.prog.info? 5).map (fun i=>(i.zero,i.size,i.bytes))=some (some (.int .u8 0),1,1):=by kernel_rfl
theorem Sk{L L':Nat→Prop}{w w':World}(h:Fr L w w')(hL:∀k,L k→L' k):Fr L' w w':=
 ⟨h.os,h.tape,h.output,h.size,fun k hk hn=>h.block k hk fun q=>hn (hL k q)⟩
theorem Asc(L:Nat→Prop)(w:World)(o:Obj):Fr L w (w.alloc o):=⟨rfl,rfl,rfl,by simp,fun k hk _=>Lib.alloc_old w o k hk⟩
theorem Agu{L:Nat→Prop}{w w':World}{row:Option Nat}(hg:w.grownBy w' row)(hr:∀k,row=some k→L k):Fr L w w':=
 ⟨hg.os,hg.tape,hg.output,hg.size,fun k hk hn=>hg.block k hk fun e=>hn (hr k e.symm)⟩
def Ada(T:TypeId)(b:Nat)(v:Value)(bs:List Value)(w w':World):Prop:=
 ∃v',Ajk T b v' bs w'∧Fr (fun k=>k=b∨v.ownBlock=some k) w w'∧∀k,v'.ownBlock=some k→v.ownBlock=some k∨w.heap.size≤k
theorem Aja{P:Program}{w:World}{ops:Array Oper}{Bl:List Oper}{o:Oper}{a:Act}{Q:Exit→Act→World→Prop}(hgd:o.guard=none)(s x:Operand)(t:TypeId)(ho:o.op=.call {callee:=.builtin .append,args:= #[s,x],argTypes:= #[t,t]})(e:TypeId)(i:TypeInfo)(z:Value)(ht:P.underlying t=some (.slice e))(hi:P.info? e=some i)(hz:i.zero=some z)(hzs:z.cells.size=i.size)(hsz:0<i.size)(v:Value)(n:Nat)(xs:List Value)(hs:a.eval s=v)(hown:w.ownsRow 0 e i.size v n xs)(ad:Addr)(m c:Nat)(news:List Value)(hx:a.eval x=.slice (some ad) m c)(hl:news.length=m*i.size)(hnews:∀j u,news[j]? =some u→w.cell? (ad.add j)=some u)(h1:∀u∈news,u.oneCell'=true)(h63:n+m≤maxLen)(hbytes:(n+m)*i.bytes≤140737488355328)(h:∀v' w',w'.ownsRow 0 e i.size v' (n+m) (xs++news)→w.grownBy w' v.ownBlock→(v'.ownBlock=v.ownBlock∨v'.ownBlock=some w.heap.size)→wpList P ops Q Bl (a.put o.dst v') w'):wpList P ops Q (o::Bl) a w:=by
 refine wpList_plain hgd fun K hK=>?_;obtain⟨v',w',hr,h2,h3,_,h5⟩:=run_append_own_at (P:=P) w 0 t o.type e i z i.size i.bytes ht hi hz rfl rfl hzs hsz v n xs hown ad m c news hl hnews h1 h63 hbytes (ZU _);unfold Oper.wp execOp;simp only[ho,resolve,invoke,builtin,Sem.run_bind,Sem.run_pure,Result.andThen_ok,List.map_toArray,List.map_cons,List.map_nil,hs,hx,hr];exact hK _ _ (h v' w' h2 h3 h5)
theorem Ah1{P:Program}{w:World}{t u ty e:TypeId}{i:TypeInfo}(ht:P.underlying t=some (.slice e))(hu:P.underlying u=some .string)(hi:P.info? e=some i)(hz:i.zero=some (.int .u8 0))(hsize:i.size=1)(hby:i.bytes=1){v:Value}{n:Nat}{xs:List Value}(hown:w.ownsRow 0 e 1 v n xs)(s:ByteArray)(h63:n+s.size≤maxLen)(hbytes:n+s.size≤140737488355328){v':Value}{w':World}(hr:(Builtin.append_ #[t,u] ty #[v,.string s]).run P w=.ok v' w'):(v'.ownBlock=v.ownBlock∨v'.ownBlock=some w.heap.size):=by
 have hsmall:n+s.size≤9223372036854775807:=by simp only[maxLen]at h63;omega
 have hxl:xs.length=n:=by simpa using hown.1
 rcases hown.2 with⟨rfl,rfl⟩|⟨g,cap,cur,rfl,hbg,hg,hnc,hcm,hcs,htake⟩
 ·by_cases hm:s.size=0
  ·have h:(Builtin.append_ #[t,u] ty #[.slice none 0 0,.string s]).run P w=.ok (.slice none 0 0) w:=by
    have hf:=Lib.run_firstCells_string (P:=P) w 1 s;rw[hm]at hf;simp[Builtin.append_,run_underlying ht,run_underlying hu,sizeOf,typeInfo,hi,hsize,Builtin.lenOf,hm,hf]
   rw[h]at hr;injection hr with h1 h2
   subst h1 h2;exact .inl rfl
  ·have h:=run_append_nil_string (P:=P) w t u ty e i (.int .u8 0) ht hu hi hz s (by omega) (by omega) (by rw[hby];omega);rw[h]at hr;injection hr with h1 h2
   subst h1 h2;exact .inr rfl
 ·by_cases hroom:n+s.size≤cap
  ·have hcs':cur.size=cap:=by simpa using hcs
   have h:=Lib.run_append_room_string (P:=P) w t u ty e i ht hu hi hsize g n cap cur hg s hroom (by omega);rw[h]at hr;injection hr with h1 h2
   subst h1 h2;exact .inl rfl
  ·have holds:∀j u,xs[j]? =some u→w.cell? ((⟨g,0,none⟩:Addr).add j)=some u:=hown.cells (g:=g) rfl;have h:=Lib.run_append_grow_string (P:=P) w t u ty e i (.int .u8 0) ht hu hi hz ⟨g,0,none⟩ n cap xs (by rw[hsize];simpa using hxl) holds s (by omega) (by omega) (by rw[hby];exact growslice_fits (by omega) (by omega));rw[h]at hr;injection hr with h1 h2
   subst h1 h2;exact .inr rfl
theorem Z7{P:Program}{w:World}{ops:Array Oper}{Bl:List Oper}{o:Oper}{a:Act}{Q:Exit→Act→World→Prop}(hgd:o.guard=none)(sl x:Operand)(t u:TypeId)(ho:o.op=.call {callee:=.builtin .append,args:= #[sl,x],argTypes:= #[t,u]})(e:TypeId)(i:TypeInfo)(ht:P.underlying t=some (.slice e))(hu:P.underlying u=some .string)(hi:P.info? e=some i)(hz:i.zero=some (.int .u8 0))(hsize:i.size=1)(hby:i.bytes=1)(v:Value)(n:Nat)(xs:List Value)(hs:a.eval sl=v)(hown:w.ownsRow 0 e 1 v n xs)(s:ByteArray)(hx:a.eval x=.string s)(h63:n+s.size≤maxLen)(hbytes:n+s.size≤140737488355328)(h:∀v' w',w'.ownsRow 0 e 1 v' (n+s.size) (xs++Lib.strCells s)→w.grownBy w' v.ownBlock→(v'.ownBlock=v.ownBlock∨v'.ownBlock=some w.heap.size)→wpList P ops Q Bl (a.put o.dst v') w'):wpList P ops Q (o::Bl) a w:=by
 refine wpList_plain hgd fun K hK=>?_;obtain⟨v',w',hr,h2,h3,_⟩:=Lib.run_append_own_string (P:=P) w 0 t u o.type e i ht hu hi hz hsize hby v n xs hown s h63 hbytes (ZU _);have hb:=Ah1 ht hu hi hz hsize hby hown s h63 hbytes hr;unfold Oper.wp execOp;simp only[ho,resolve,invoke,builtin,Sem.run_bind,Sem.run_pure,Result.andThen_ok,List.map_toArray,List.map_cons,List.map_nil,hs,hx,hr];exact hK _ _ (h v' w' h2 h3 hb)
theorem Axv{w:World}{e T:TypeId}{v:Value}{n:Nat}{xs:List Value}{b:Nat}{cs:Array Value}{fr:Nat×Nat}(hown:w.ownsRow 0 e 1 v n xs)(hb:w.heap[b]? =some (.cells cs T fr))(hTe:T≠e):v.ownBlock≠some b:=fun q=>by
 rcases hown.2 with⟨rfl,_⟩|⟨g,cap,cur,rfl,_,hg,_⟩
 ·cases q
 ·have:g=b:=by simpa[Value.ownBlock]using q
  subst this;rw[hb]at hg;injection hg with hg
  injection hg with _ hg _;exact hTe hg
theorem Am2{T:TypeId}(hTe:T≠5){b:Nat}{v v':Value}{bs bs':List Value}{w w1 w2:World}(hbk:w1.heap[b]? =some (.cells #[.pointer (some ⟨b,0,none⟩),v] T (0,0)))(hown':w2.ownsRow 0 5 1 v' bs'.length bs')(hb2:w2.heap[b]? =some (.cells #[.pointer (some ⟨b,0,none⟩),v] T (0,0)))(hfr:Fr (fun k=>k=b) w w1)(hfr2:Fr (fun k=>k=b∨v.ownBlock=some k) w1 w2)(hbl:∀k,v'.ownBlock=some k→v.ownBlock=some k∨w.heap.size≤k):
  Ada T b v bs' w (w2.setCell ⟨b,1,none⟩ v'):=by
 have hne:=Axv hown' hb2 hTe;refine⟨v',⟨⟨_,.inr rfl,by rw[heap_set hb2];rfl⟩,hown'.kept (Ar7 _ _ _ _) (.inr hne),hne⟩,?_,hbl⟩;exact(Sk hfr fun k q=>.inl q).trans (hfr2.trans (Arh (.inl rfl) _ _))
set_option maxHeartbeats 2000000 in
set_option maxRecDepth 100000 in
theorem Aam(T:TypeId)(hT:liesAt Tryz.prog Tryz.prog.depth T (2/Tryz.prog.cellsOf T) 0 201 1=true)(hTe:T≠5)(b:Nat)(v:Value)(bs:List Value)(c:Int)(w:World)(h:Ajk T b v bs w)(hlen:bs.length+1≤140737488355328):
  Calls Tryz.prog 206 #[.pointer (some ⟨b,0,none⟩),.int .u8 c] w fun e w'=>e=.returned .nilIface∧Ada T b v (bs++[.int .u8 c]) w w':=by
 obtain⟨i0,hi,hz0,hz1,hz2⟩:=info_parts Alw;have hne:=h.2.2
 go_enter Tryz.func206,Tryz.ntmps206
 go_wp2_with (go_at_call 248;refine(P7 T hT b v bs _ h).mono ?_)
 rintro e w1 ⟨rfl,hbk,hown,hfr⟩
 have c0:w1.cell? ⟨b,0,none⟩=some (.pointer (some ⟨b,0,none⟩)):=by rw[Lib.cell_of_heap hbk];rfl
 have c1:w1.cell? ⟨b,1,none⟩=some v:=by rw[Lib.cell_of_heap hbk];rfl
 have hownA:(w1.alloc (.cells #[.int .u8 c] 5)).ownsRow 0 5 i0.size v bs.length bs:=by rw[hz1];exact hown.alloc _
 go_wp2_with (at_builtin;refine Aja rfl _ _ 173 rfl 5 i0 (.int .u8 0) Tryz.underlying173 hi hz0 (by rw[hz1];rfl) (by omega) _ _ _ rfl hownA ⟨w1.heap.size,0,none⟩ 1 1 [.int .u8 c] rfl (by rw[hz1];rfl) ?c1 ?c2 ?c3 ?c4 ?_)
 case c1=>
  intro j u hj
  match j,hj with
  |0,hj=>simp at hj;subst hj;simp[Addr.add]
 case c2=>intro u hu;simp at hu;subst hu;rfl
 case c3=>unfold maxLen;omega
 case c4=>rw[hz2];omega
 intro v' w2 hown' hgrow hblk;have hlt:b<w1.heap.size:=(XL.1 hbk).1;have hb2:w2.heap[b]? =some (.cells #[.pointer (some ⟨b,0,none⟩),v] T (0,0)):=by
  rw[hgrow.block b (by simp;omega) (fun e=>hne e.symm),Lib.alloc_old w1 _ b hlt];exact hbk
 have d0:w2.cell? ⟨b,0,none⟩=some (.pointer (some ⟨b,0,none⟩)):=by rw[Lib.cell_of_heap hb2];rfl
 have d1:w2.cell? ⟨b,1,none⟩=some v:=by rw[Lib.cell_of_heap hb2];rfl
 have f1:w2.frozen? ⟨b,1,none⟩=false:=Lib.frozen_of_heap hb2 1;obtain⟨ao,n',cap,hv'⟩:∃ao n' cap,v'=.slice ao n' cap:=by
  rcases hown'.2 with⟨q,_⟩|⟨g,cap,cur,q,_⟩
  ·exact⟨_,_,_,q⟩
  ·exact⟨_,_,_,q⟩
 have fin:=Am2 (bs:=bs) (bs':=bs++[.int .u8 c]) hTe hbk (by simpa using hown') hb2 hfr ((Asc _ _ _).trans (Agu hgrow fun k q=>.inr q)) (fun k hk=>by
  rcases hblk with q|q
  ·exact .inl (by rw[←q];exact hk)
  ·rw[q]at hk;injection hk with hk;right;have:=hfr.size;(try simp at hk);omega)
 subst hv'
 go_wp2
 go_ret
 exact⟨rfl,fin⟩
set_option maxHeartbeats 2000000 in
set_option maxRecDepth 100000 in
theorem Wm(T:TypeId)(hT:liesAt Tryz.prog Tryz.prog.depth T (2/Tryz.prog.cellsOf T) 0 201 1=true)(hTe:T≠5)(b:Nat)(v:Value)(bs:List Value)(s:ByteArray)(w:World)(h:Ajk T b v bs w)(hlen:bs.length+s.size≤140737488355328):
  Calls Tryz.prog 205 #[.pointer (some ⟨b,0,none⟩),.string s] w fun e w'=>e=.returned (.tuple #[.int .i64 s.size,.nilIface])∧Ada T b v (bs++Lib.strCells s) w w':=by
 obtain⟨i0,hi,hz0,hz1,hz2⟩:=info_parts Alw;have hne:=h.2.2
 go_enter Tryz.func205,Tryz.ntmps205
 go_wp2_with (go_at_call 248;refine(P7 T hT b v bs _ h).mono ?_)
 rintro e w1 ⟨rfl,hbk,hown,hfr⟩
 have c0:w1.cell? ⟨b,0,none⟩=some (.pointer (some ⟨b,0,none⟩)):=by rw[Lib.cell_of_heap hbk];rfl
 have c1:w1.cell? ⟨b,1,none⟩=some v:=by rw[Lib.cell_of_heap hbk];rfl
 go_wp2_with (at_builtin;refine Z7 rfl _ _ 173 9 rfl 5 i0 Tryz.underlying173 Tryz.underlying9 hi hz0 hz1 hz2 _ _ _ rfl hown s rfl ?c3 ?c4 ?_)
 case c3=>unfold maxLen;omega
 case c4=>omega
 intro v' w2 hown' hgrow hblk;have hlt:b<w1.heap.size:=(XL.1 hbk).1;have hb2:w2.heap[b]? =some (.cells #[.pointer (some ⟨b,0,none⟩),v] T (0,0)):=by
  rw[hgrow.block b hlt (fun e=>hne e.symm)];exact hbk
 have d0:w2.cell? ⟨b,0,none⟩=some (.pointer (some ⟨b,0,none⟩)):=by rw[Lib.cell_of_heap hb2];rfl
 have d1:w2.cell? ⟨b,1,none⟩=some v:=by rw[Lib.cell_of_heap hb2];rfl
 have f1:w2.frozen? ⟨b,1,none⟩=false:=Lib.frozen_of_heap hb2 1;obtain⟨ao,n',cap,hv'⟩:∃ao n' cap,v'=.slice ao n' cap:=by
  rcases hown'.2 with⟨q,_⟩|⟨g,cap,cur,q,_⟩
  ·exact⟨_,_,_,q⟩
  ·exact⟨_,_,_,q⟩
 have fin:=Am2 (bs:=bs) (bs':=bs++Lib.strCells s) hTe hbk (by simpa[Lib.strCells_length]using hown') hb2 hfr (Agu hgrow fun k q=>.inr q) (fun k hk=>by
  rcases hblk with q|q
  ·exact .inl (by rw[←q];exact hk)
  ·rw[q]at hk;injection hk with hk;right;have:=hfr.size;omega)
 subst hv'
 go_wp2
 go_ret2
 exact⟨rfl,fin⟩
set_option maxHeartbeats 1000000 in
theorem Ask(T:TypeId)(b:Nat)(v:Value)(bs:List Value)(w:World)(h:Ajk T b v bs w):
  Calls Tryz.prog 207 #[.pointer (some ⟨b,0,none⟩)] w fun e w'=>e=.returned (.int .i64 bs.length)∧w'=w:=by
 obtain⟨⟨p,_,hbk⟩,hown,hne⟩:=h;obtain⟨ao,cap,rfl⟩:∃ao cap,v=.slice ao bs.length cap:=by
  rcases hown.2 with⟨q,h0⟩|⟨g,cap,cur,q,_⟩
  ·exact⟨none,0,by rw[q,h0]⟩
  ·exact⟨_,_,q⟩
 have c1:w.cell? ⟨b,1,none⟩=some (.slice ao bs.length cap):=by rw[Lib.cell_of_heap hbk];rfl
 go_enter Tryz.func207,Tryz.ntmps207
 go_wp2
 go_ret
 exact⟨rfl,rfl⟩
set_option maxHeartbeats 1000000 in
set_option maxRecDepth 100000 in
theorem Aid(T:TypeId)(b:Nat)(v:Value)(l:List UInt8)(w:World)(h:Ajk T b v (Lib.byteCells l) w)(h0:l≠[]):
  Calls Tryz.prog 150 #[.pointer (some ⟨b,0,none⟩)] w fun e w'=>e=.returned (.string ⟨l.toArray⟩)∧Fr (fun k=>k=b∨v.ownBlock=some k) w w':=by
 obtain⟨⟨p,_,hbk⟩,hown,hne⟩:=h;have hl0:l.length≠0:=by simpa using h0
 rw[Lib.byteCells_length]at hown;obtain⟨g,cap,cur,rfl,_,hg,hnc,hcm,hcs,htake⟩:=hown.2.resolve_left (fun q=>hl0 q.2);have c1:w.drew.cell? ⟨b,1,none⟩=some (.slice (some ⟨g,0,none⟩) l.length cap):=by
  have:w.drew.heap[b]? =some (.cells #[p,.slice (some ⟨g,0,none⟩) l.length cap] T (0,0)):=hbk;rw[Lib.cell_of_heap this];rfl
 have hSD:(Builtin.unsafeSliceData_ #[173] 256 #[.slice (some ⟨g,0,none⟩) l.length cap]).run Tryz.prog w.drew=.ok (.pointer (some ⟨g,0,none⟩)) w.drew:=
  Lib.run_unsafeSliceData_row _ _ _ _ _ _ (by omega)
 have hUS:(Builtin.unsafeString_ #[256,3] 9 #[.pointer (some ⟨g,0,none⟩),.int .i64 l.length]).run Tryz.prog w.drew=.ok (.string ⟨l.toArray⟩) (w.drew.freeze ⟨g,0,none⟩ l.length):=by
  refine Lib.run_unsafeString_row w.drew 256 3 9 5 Tryz.underlying256 (by kernel_rfl) g cur.size (by have hg':w.drew.heap[g]? =some (.cells cur 5 (0,0)):=hg;simp[World.shape?,hg']) l h0 (by omega) (by unfold maxLen at hcm;omega) ?_;intro j x hx;exact hown.cells (g:=g) rfl j (.int .u8 x.toNat) (by simp[Lib.byteCells,hx])
 have hfr:Fr (fun k=>k=b∨(Value.slice (some ⟨g,0,none⟩) l.length cap).ownBlock=some k) w (w.drew.freeze ⟨g,0,none⟩ l.length):=by
  unfold World.freeze;rw[if_neg hl0];refine⟨rfl,rfl,rfl,by simp,fun k hk hn=>?_⟩;have:g≠k:=fun e=>hn (.inr (by rw[e];rfl));simp[Array.getElem?_modify,this];rfl
 have mixed:Tryz.prog.follows .mixedOrders=true:=by kernel_rfl
 go_enter Tryz.func150,Tryz.ntmps150
 go_wp2
 go_region_o
 all_goals (go_wp2;go_ret;exact⟨rfl,hfr⟩)
def Eg(T:TypeId)(l:List UInt8):Opq where
 inv:=fun w R x F=>∃b v,x=.pointer (some ⟨b,0,none⟩)∧Ajk T b v (Lib.byteCells l) w∧∀k,F k↔(k=b∨v.ownBlock=some k)
 mono:=fun {w w' R R' x F} h hR hF=>by
  obtain⟨b,v,h1,⟨⟨p,hp,hb⟩,h3,h4⟩,h5⟩:=h
  refine⟨b,v,h1,⟨⟨p,hp,(hF b ((h5 b).2 (.inl rfl))).trans hb⟩,?_,h4⟩,h5⟩
  refine⟨h3.1,?_⟩
  rcases h3.2 with q|⟨g,cap,cur,q,q2,q3,q4⟩
  ·exact .inl q
  ·exact .inr ⟨g,cap,cur,q,q2,(hF g ((h5 g).2 (.inr (by rw[q];rfl)))).trans q3,q4⟩
 lt:=fun {w R x F b} h hb=>by
  obtain⟨b',v,h1,⟨⟨p,hp,hbk⟩,h3,h4⟩,h5⟩:=h
  rcases(h5 b).1 hb with rfl|q
  ·exact(XL.1 hbk).1
  ·exact(h3.lt b q).2
def Bak:Opq where
 inv:=fun w R x F=>∀k,F k→k<w.heap.size
 mono:=fun {w w' R R' x F} h hR hF k hk=>by
  have h1:=h k hk
  have h2:=hF k hk
  rw[Array.getElem?_eq_getElem h1]at h2
  exact(XL.1 h2).1
 lt:=fun {w R x F b} h hb=>h b hb
section
variable {P:Program} {w w':World} {R:Nat→Prop}
theorem Si:∀{vs:List Value} {ys:List Value} {F:Nat→Prop},Cy w R (vs.map fun z=>.p (.c (.v z))) ys F→ys=vs∧∀b,¬F b
 |[],[],F,h=>⟨rfl,h⟩
 |[],_::_,F,h=>h.elim
 |v::vs,[],F,h=>h.elim
 |v::vs,y::ys,F,h=>by
  obtain⟨F1,F2,⟨h1,h1'⟩,h2,h3,h4⟩:=h;obtain⟨rfl,k2⟩:=Si h2;have e:y=v:=Bt h1;subst e;refine⟨rfl,fun b hb=>?_⟩;rcases(h4 b).1 hb with q|q
  ·exact Li (fun p hp=>by simp at hp;exact⟨_,hp⟩) ((h1' b).1 q)
  ·exact k2 b q
theorem Ah9{I':Opq}{x:Value}{F':Nat→Prop}(hx:Yd w R I' x F')(hd:∀b,F' b→¬R b):∀(zs:List Value),Cy w R ((zs.map fun z=>.p (.c (.v z)))++[.po I']) (zs++[x]) F'
 |[]=>⟨F',fun _=>False,hx,fun b h=>h,fun b hb=>⟨fun q=>q,hd b hb⟩,fun b=>by simp⟩
 |z::zs=>by
  refine⟨fun _=>False,F',⟨.v z,fun b=>⟨fun q=>q.elim,fun q=>Li (fun p hp=>by simp at hp;exact⟨_,hp⟩) q⟩⟩,Ah9 hx hd zs,fun b hb=>hb.elim,fun b=>by simp⟩
theorem Ap9(zs:List Value):B5 (zs.map fun z=>.p (.c (.v z)))=[]:=by
 induction zs with
 |nil=>rfl
 |cons z zs ih=>exact ih
theorem Abg:∀(zs xs:List Value),Dq (zs.map fun z=>.p (.c (.v z))) xs=[]
 |[],[]=>rfl
 |[],_::_=>rfl
 |z::zs,[]=>rfl
 |z::zs,x::xs=>Abg zs xs
theorem Wx{f:FuncId}{I I':Opq}{vs zs:List Value}(hc:Es P f)(h:∀(w:World) (R:Nat→Prop) (x:Value) (F:Nat→Prop),Yd w R I x F→Calls P f (x::vs).toArray w fun e w'=>e=.returned (Fx zs)∧∃F',Fr F w w'∧Yd w' R I' x F'∧∀b,F' b→F b∨w.heap.size≤b):
  Hz P f (.mo I I'::vs.map fun z=>.p (.c (.v z))) (zs.map fun z=>.p (.c (.v z))):=by
 refine⟨hc,fun w R xs F hlt hp=>?_⟩
 match xs,hp with
 |x::ys,hp=>
  obtain⟨F1,F2,h1,h2,h3,h4⟩:=hp;obtain⟨rfl,h5⟩:=Si h2;have hF:∀b,F b↔F1 b:=fun b=>by rw[h4 b];exact⟨fun q=>q.resolve_right (h5 b),.inl⟩
  refine(h w R x F1 h1).mono ?_
  rintro e w' ⟨rfl,F',q1,q2,q3⟩
  refine⟨zs,R,F',rfl,by simp,Sk q1 fun k hk=>(hF k).2 hk,fun b hb=>hb,fun b hb=>.inl hb,?_,fun b hb=>(q3 b hb).imp (hF b).2 id⟩;have hd:∀b,F' b→¬R b:=fun b hb hr=>by
   rcases q3 b hb with q|q
   ·exact(h3 b q).2 hr
   ·have:=hlt b hr;omega
  have:=Ah9 q2 hd zs;show Cy w' R ((zs.map fun z=>.p (.c (.v z)))++B5 (.mo I I'::ys.map fun z=>.p (.c (.v z)))) (zs++Dq (.mo I I'::ys.map fun z=>.p (.c (.v z))) (x::ys)) F';simp only[B5,Dq,Ap9,Abg];exact this
end
theorem Ank(s:ByteArray):Lib.strCells s=Lib.byteCells s.data.toList:=by simp[Lib.strCells,Lib.byteCells]
theorem Abh(a b:List UInt8):Lib.byteCells (a++b)=Lib.byteCells a++Lib.byteCells b:=by simp[Lib.byteCells]
structure Aw2(T:TypeId):Prop where
 lies:liesAt Tryz.prog Tryz.prog.depth T (2/Tryz.prog.cellsOf T) 0 201 1=true
 ne:T≠5
theorem Lp{T:TypeId}(hT:Aw2 T)(l:List UInt8)(c:Int)(h0:0≤c)(h1:c≤255)(hl:l.length<140737488355328):Hz Tryz.prog 206 [.mo (Eg T l) (Eg T (l++[UInt8.ofNat c.toNat])),.p (.c (.v (.int .u8 c)))] [.p (.c (.v .nilIface))]:=by
 refine Wx (vs:=[.int .u8 c]) (zs:=[.nilIface]) (Cn Tryz.func206 (by kernel_rfl) (by kernel_rfl)) ?_
 rintro w R x F ⟨hx,b,v,rfl,hB,hF⟩
 refine(Aam T hT.lies hT.ne b v _ c w hB (by rw[Lib.byteCells_length];omega)).mono ?_
 rintro e w' ⟨rfl,v',q1,q2,q3⟩
 have e1:Lib.byteCells (l++[UInt8.ofNat c.toNat])=Lib.byteCells l++[.int .u8 c]:=by
  rw[Abh];have:((UInt8.ofNat c.toNat).toNat:Int)=c:=by
   rw[UInt8.toNat_ofNat'];omega
  show Lib.byteCells l++[Value.int .u8 ((UInt8.ofNat c.toNat).toNat:Int)]=_;rw[this]
 rw[←e1]at q1;refine⟨rfl,fun k=>k=b∨v'.ownBlock=some k,Sk q2 fun k hk=>(hF k).2 hk,⟨⟨b,rfl⟩,b,v',rfl,q1,fun k=>Iff.rfl⟩,fun k hk=>?_⟩;rcases hk with rfl|hk
 ·exact .inl ((hF _).2 (.inl rfl))
 ·exact(q3 k hk).imp (fun q=>(hF k).2 (.inr q)) id
theorem Ny{T:TypeId}(hT:Aw2 T)(l:List UInt8)(s:ByteArray)(hl:l.length+s.size≤140737488355328):Hz Tryz.prog 205 [.mo (Eg T l) (Eg T (l++s.data.toList)),.p (.c (.v (.string s)))] [.p (.c (.v (.int .i64 s.size))),.p (.c (.v .nilIface))]:=by
 refine Wx (vs:=[.string s]) (zs:=[.int .i64 s.size,.nilIface]) (Cn Tryz.func205 (by kernel_rfl) (by kernel_rfl)) ?_
 rintro w R x F ⟨hx,b,v,rfl,hB,hF⟩
 refine(Wm T hT.lies hT.ne b v _ s w hB (by rw[Lib.byteCells_length];omega)).mono ?_
 rintro e w' ⟨rfl,v',q1,q2,q3⟩
 rw[Ank,←Abh]at q1;refine⟨rfl,fun k=>k=b∨v'.ownBlock=some k,Sk q2 fun k hk=>(hF k).2 hk,⟨⟨b,rfl⟩,b,v',rfl,q1,fun k=>Iff.rfl⟩,fun k hk=>?_⟩;rcases hk with rfl|hk
 ·exact .inl ((hF _).2 (.inl rfl))
 ·exact(q3 k hk).imp (fun q=>(hF k).2 (.inr q)) id
theorem Xa{T:TypeId}(l:List UInt8):Hz Tryz.prog 207 [.mo (Eg T l) (Eg T l)] [.p (.c (.v (.int .i64 l.length)))]:=by
 refine Wx (vs:=[]) (zs:=[.int .i64 l.length]) (Cn Tryz.func207 (by kernel_rfl) (by kernel_rfl)) ?_
 rintro w R x F ⟨hx,b,v,rfl,hB,hF⟩
 refine(Ask T b v _ w hB).mono ?_
 rintro e w' ⟨rfl,rfl⟩
 rw[Lib.byteCells_length];exact⟨rfl,F,Fr.refl _ _,⟨hx,b,v,rfl,hB,hF⟩,fun k hk=>.inl hk⟩
theorem Fg{T:TypeId}(l:List UInt8)(h0:l≠[]):Hz Tryz.prog 150 [.mo (Eg T l) Bak] [.p (.c (.v (.string ⟨l.toArray⟩)))]:=by
 refine Wx (vs:=[]) (zs:=[.string ⟨l.toArray⟩]) (Cn Tryz.func150 (by kernel_rfl) (by kernel_rfl)) ?_
 rintro w R x F ⟨hx,b,v,rfl,hB,hF⟩
 have hlt:∀k,F k→k<w.heap.size:=fun k hk=>(Eg T l).lt (R:=R) ⟨b,v,rfl,hB,hF⟩ hk;refine(Aid T b v l w hB h0).mono ?_
 rintro e w' ⟨rfl,q⟩
 exact⟨rfl,F,Sk q fun k hk=>(hF k).2 hk,⟨hx,fun k hk=>XH (hlt k hk) q.size⟩,fun k hk=>.inl hk⟩
namespace Pl
def Awv(n:Int):List UInt8:=[UInt8.ofNat (n/256).toNat,UInt8.ofNat (n%256).toNat]
def Au(ns:List Int):List UInt8:=ns.flatMap Awv
theorem Ar(ns:List Int):(Au ns).length=2*ns.length:=by
 induction ns with
 |nil=>rfl
 |cons n ns ih=>
  show(Awv n++Au ns).length=_;rw[ZF,ih,ZJ];show 2+_=_;omega
theorem Ajv{ns:List Int}{k:Nat}(hk:k<ns.length):Au (ns.take (k+1))=Au (ns.take k)++[UInt8.ofNat (ns[k]/256).toNat]++[UInt8.ofNat (ns[k]%256).toNat]:=by
 unfold Au;rw[XT,ZC hk,List.flatMap_append];simp[Awv]
def S7(s:ByteArray):List UInt8:=UInt8.ofNat s.size::s.data.toList
def Eh(l:List ByteArray):List UInt8:=l.flatMap S7
def Bp(s:ByteArray):List UInt8:=Eh (Bg s)++[0]
theorem Ajm{l:List ByteArray}{k:Nat}(hk:k<l.length):Eh (l.take (k+1))=Eh (l.take k)++[UInt8.ofNat l[k].size]++l[k].data.toList:=by
 unfold Eh;rw[XT,ZC hk,List.flatMap_append];simp[S7]
theorem Pq{l:List ByteArray}{m:Nat}(h:∀s∈l,s.size≤m):(Eh l).length≤(m+1)*l.length:=by
 induction l with
 |nil=>simp[Eh]
 |cons s l ih=>
  have h1:=ih fun x hx=>h x (ZL _ hx);have h2:=h s (XB ..);show(S7 s++Eh l).length≤_;rw[ZF,ZJ,Nat.mul_add];show(s.data.toList.length+1)+_≤_;have:s.data.toList.length=s.size:=by simp
  omega
end Pl
def Aoy(n:Int):List V:=[.v (.int .i64 n)]
instance:FlatRow Aoy:=⟨fun x u hu=>by simp[Aoy]at hu;exact⟨_,hu⟩⟩
abbrev wT:TypeId:=203
theorem wBT:Aw2 wT:=⟨by kernel_rfl,by decide⟩
theorem Adj(n:Int):IntKind.u8.wrap n=n%256:=rfl
theorem Bap{n:Int}(h0:0≤n)(h1:n≤65535):IntKind.u8.wrap (n/256)=n/256:=by
 rw[Adj];omega
theorem Ba9{n:Int}(h0:0≤n):IntKind.u8.wrap n=n%256:=Adj n
theorem Aug(n:Int):n.fdiv (2^min (Int.toNat 8) IntKind.i64.bits)=n/256:=by
 show n.fdiv 256=_;exact Int.fdiv_eq_ediv_of_nonneg _ (by decide)
theorem Dd(l:List UInt8)(c:Bool)(ns:List Int)(h:∀n∈ns,0≤n∧n≤65535)(hn:ns.length≤100)(hl:l.length≤1000000):Hz Tryz.prog 147 [.mo (Eg wT l) (Eg wT (l++Au ns)),.p (.c (.sl c (ns.map Aoy)))] []:=by
 refine Le Sc rfl rfl (Ko rfl) ?_;refine G0 ?_;rw[ZE];(refine⟨[],none,{k:Nat//k≤ns.length},[0,6,7],fun⟨k,hk⟩=>[(8,.v (.int .i64 k))],[],fun⟨k,hk⟩=>[(0,⟨0,.q (Eg wT (l++Au (ns.take k))),0,[]⟩)],fun⟨k,hk⟩=>ns.length-k,trivial,fun _=>⟨trivial,fun _=>⟨⟨0,by omega⟩,tI,A2 _ _,?_,A3 _ _⟩⟩,fun⟨k,hk⟩=>?_⟩;focus (exact⟨congrArg (fun r=>some (Ent.mk 0 (.q (Eg wT r)) 0 [])) (show l=l++Au (ns.take 0)by simp[Au]),trivial⟩));refine G0 ?_;(refine Ag (fun h1=>?_) (fun h1=>?_)<;>rw[h1])
 ·have hlt:k<ns.length:=(by have:=ZV h1;omega);obtain⟨b0,b1⟩:=h _ (ZK hlt);have hlen:(Au (ns.take k)).length≤200:=by rw[Ar,ZM];omega
  have e:l++Au (ns.take k)++[UInt8.ofNat (ns[k]/256).toNat]++[UInt8.ofNat (ns[k]%256).toNat]=l++Au (ns.take (k+1)):=by rw[Ajv hlt,ZS,ZS,ZS]
  refine G0 ?_;refine⟨k,_,rfl,A7 hlt,?_⟩;refine G0 ?_;refine⟨by decide,_,Aug _,?_⟩;refine G0 ?_;refine⟨_,Bap b0 b1,?_⟩;refine G0 ?_;(refine .inr (.inl ⟨_,_,false,[0],aM,Lp wBT (l++Au (ns.take k)) (ns[k]/256) (by omega) (by omega) (by rw[ZF];omega),Ad,oI,dI,?_⟩));refine G1 ?_;intro gg;refine⟨_,Ba9 b0,?_⟩;refine G0 ?_;(refine .inr (.inl ⟨_,_,false,[0],aM,Lp wBT (l++Au (ns.take k)++[UInt8.ofNat (ns[k]/256).toNat]) (ns[k]%256) (by omega) (by omega) (by rw[ZF,ZF];simp only[ZJ,ZN];omega),Ad,oI,dI,?_⟩));refine G1 ?_;intro gg;(exact⟨none,trivial,fun gr=>⟨⟨k+1,by omega⟩,by show ns.length-(k+1)<ns.length-k;omega,tI,tI,⟨congrArg (fun r=>some (Ent.mk 0 (.q (Eg wT r)) 0 [])) e,trivial⟩,tI⟩⟩)
 ·have hge:¬k<ns.length:=(by have:=ZW h1;omega);obtain rfl:k=ns.length:=by omega
  rw[show Au ns=Au (ns.take ns.length)by rw[XF]];refine G0 ?_;(exact⟨[0],aM⟩)
theorem I2(l:List UInt8)(s:ByteArray)(hs:As s=0)(hsz:s.size≤120)(hl:l.length≤1000000):Hz Tryz.prog 148 [.mo (Eg wT l) (Eg wT (l++Bp s)),.p (.c (.v (.string s)))] []:=by
 have hlab:=Nv s;have hsm:∀x∈Bg s,x.size≤120:=fun x hx=>XI (Jh hx) hsz;have hL:=Zs s (by omega);refine Le Q6 rfl rfl (Ko rfl) ?_;refine G0 ?_;refine .inl (cX hL ?_);unfold Bp;generalize Bg s=ls at *;refine G1 ?_;intro gg;rw[ZE];(refine⟨[],none,{k:Nat//k≤ls.length},[0,7,8],fun⟨k,hk⟩=>[(9,.v (.int .i64 k))],[],fun⟨k,hk⟩=>[(0,⟨0,.q (Eg wT (l++Eh (ls.take k))),0,[]⟩)],fun⟨k,hk⟩=>ls.length-k,trivial,fun _=>⟨trivial,fun _=>⟨⟨0,by omega⟩,tI,A2 _ _,?_,A3 _ _⟩⟩,fun⟨k,hk⟩=>?_⟩;focus (exact⟨congrArg (fun r=>some (Ent.mk 0 (.q (Eg wT r)) 0 [])) (show l=l++Eh (ls.take 0)by simp[Eh]),trivial⟩));have hlen:(Eh (ls.take k)).length≤121*121:=by
  have h1:=Pq (l:=ls.take k) (m:=120) (fun x hx=>hsm x (List.mem_of_mem_take hx));rw[ZM]at h1;have:min k ls.length≤121:=by omega
  have:=Nat.mul_le_mul_left 121 this;omega
 refine G0 ?_;(refine Ag (fun h1=>?_) (fun h1=>?_)<;>rw[h1])
 ·have hlt:k<ls.length:=(by have:=ZV h1;omega);have hz:=hsm _ (ZK hlt);have e:l++Eh (ls.take k)++[UInt8.ofNat ((ls[k].size:Nat):Int).toNat]++ls[k].data.toList=l++Eh (ls.take (k+1)):=by rw[Ajm hlt,Int.toNat_natCast,ZS,ZS,ZS]
  refine G0 ?_;refine⟨k,_,rfl,A7 hlt,?_⟩;refine G0 ?_;refine⟨((ls[k].size:Nat):Int),by rw[Adj];omega,?_⟩;refine G0 ?_;(refine .inr (.inl ⟨_,_,false,[0],aM,Lp wBT (l++Eh (ls.take k)) ((ls[k].size:Nat):Int) (by omega) (by omega) (by rw[ZF];omega),Ad,oI,dI,?_⟩));refine G1 ?_;intro gg;(refine .inr (.inl ⟨_,_,false,[0],aM,Ny wBT (l++Eh (ls.take k)++[UInt8.ofNat ((ls[k].size:Nat):Int).toNat]) ls[k] (by rw[ZF,ZF];simp only[ZJ,ZN];omega),Ad,oI,dI,?_⟩));refine G1 ?_;intro gg;(exact⟨none,trivial,fun gr=>⟨⟨k+1,by omega⟩,by show ls.length-(k+1)<ls.length-k;omega,tI,tI,⟨congrArg (fun r=>some (Ent.mk 0 (.q (Eg wT r)) 0 [])) e,trivial⟩,tI⟩⟩)
 ·have hge:¬k<ls.length:=(by have:=ZW h1;omega);obtain rfl:k=ls.length:=by omega
  have e:l++Eh (ls.take ls.length)++[UInt8.ofNat (0:Int).toNat]=l++(Eh ls++[0]):=by rw[XF,ZS];rfl
  rw[←e];refine G0 ?_;(refine .inr (.inl ⟨_,_,false,[0],aM,Lp wBT (l++Eh (ls.take ls.length)) 0 (by omega) (by omega) (by rw[ZF];omega),Ad,oI,dI,?_⟩));refine G1 ?_;intro gg;(exact⟨[0],aM⟩)
namespace Pl
structure Rr where
 nm:ByteArray
 ty:Int
 ls:Int
 ad:Int
 tx:ByteArray
 pt:Int
 tg:ByteArray
structure Ms where
 id:Int
 an:Bool
 ct:Bool
 co:Int
 qn:ByteArray
 qt:Int
 rs:List Rr
def inB(r:Rr):List UInt8:=if r.ty=1 then Au [r.ad/65536,r.ad%65536]else if r.ty=16 then UInt8.ofNat r.tx.size::r.tx.data.toList else Au [0,0,r.pt]++Bp r.tg
def I6(r:Rr):List UInt8:=Bp r.nm++Au [r.ty,1,r.ls/65536,r.ls%65536]++Au [((inB r).length:Int)]++inB r
def Dz(m:Ms):Int:=m.co+(if m.an then 32768 else 0)+(if m.ct then 512 else 0)
def Bn(l:List Rr):List UInt8:=l.flatMap I6
def Bu(m:Ms):List UInt8:=Au [m.id,Dz m,1,(m.rs.length:Int),0,0]++Bp m.qn++Au [m.qt,1]++Bn m.rs
structure Rr.Good(r:Rr):Prop where
 nm:As r.nm=0
 nmz:r.nm.size≤120
 ty:r.ty=1∨r.ty=16∨r.ty=33
 ls:0≤r.ls∧r.ls≤2147483647
 ad:0≤r.ad∧r.ad≤4294967295
 pt:0≤r.pt∧r.pt≤65535
 tx:r.tx.size≤200
 tg:As r.tg=0
 tgz:r.tg.size≤120
structure Ms.Good(m:Ms):Prop where
 id:0≤m.id∧m.id≤65535
 co:0≤m.co∧m.co≤15
 qn:As m.qn=0
 qnz:m.qn.size≤120
 qt:m.qt=1∨m.qt=16∨m.qt=33
 len:m.rs.length≤20
 rs:∀r∈m.rs,r.Good
theorem E3{s:ByteArray}(h:s.size≤120):(Bp s).length≤15000:=by
 have h1:=Pq (l:=Bg s) (m:=120) (fun x hx=>XI (Jh hx) h);have h2:=Nv s;have:=Nat.mul_le_mul_left 121 (show(Bg s).length≤121 by omega);unfold Bp;rw[ZF];simp only[ZJ,ZN];omega
theorem Sf{r:Rr}(h:r.Good):0<(inB r).length∧(inB r).length≤15100:=by
 have h1:=E3 h.tgz;have h2:=h.tx;have h3:r.tx.data.toList.length=r.tx.size:=by simp
 unfold inB;split
 ·rw[Ar];simp
 ·split
  ·rw[ZJ];omega
  ·rw[ZF,Ar];simp only[ZJ,ZN];omega
theorem Aqz{r:Rr}(h:r.Good):(I6 r).length≤31000:=by
 have h1:=E3 h.nmz;have h2:=(Sf h).2;unfold I6;rw[ZF,ZF,ZF,Ar,Ar];simp only[ZJ,ZN];omega
theorem M6{l:List Rr}{k:Nat}(hk:k<l.length):Bn (l.take (k+1))=Bn (l.take k)++I6 l[k]:=by
 unfold Bn;rw[XT,ZC hk,List.flatMap_append];simp
theorem G9{l:List Rr}(h:∀r∈l,r.Good):(Bn l).length≤31000*l.length:=by
 induction l with
 |nil=>simp[Bn]
 |cons r l ih=>
  have h1:=ih fun x hx=>h x (ZL _ hx);have h2:=Aqz (h r (XB ..));show(I6 r++Bn l).length≤_;rw[ZF,ZJ];omega
def Rr.row(r:Rr):List V:=[.v (.string r.nm),.v (.int .i64 r.ty),.v (.int .i64 r.ls),.v (.int .i64 r.ad),.v (.string r.tx),.v (.int .i64 r.pt),.v (.string r.tg)]
instance:FlatRow Rr.row:=⟨fun x u hu=>by simp[Rr.row]at hu;rcases hu with rfl|rfl|rfl|rfl|rfl|rfl|rfl<;>exact⟨_,rfl⟩⟩
instance:OneRow Rr.row 7:=⟨fun _=>rfl,fun x u hu=>by simp[Rr.row]at hu;rcases hu with rfl|rfl|rfl|rfl|rfl|rfl|rfl<;>exact⟨_,rfl,rfl⟩⟩
def Ms.row(m:Ms):List V:=[.v (.int .i64 m.id),.v (.bool m.an),.v (.bool m.ct),.v (.int .i64 m.co),.v (.string m.qn),.v (.int .i64 m.qt),.sl false (m.rs.map Rr.row)]
end Pl
theorem F9{I:Opq}{T:TypeId}{l:List UInt8}{u:V}:∀p∈([]:List Bj)++B5 [.mo I (Eg T l),.p (.c u)],Vi p:=by
 intro p hp;simp only[B5,List.nil_append,XC,XD,or_false]at hp;subst hp;exact fun _ _ _ _ _ h=>h
theorem J9:Aem wT [.v (.pointer none),.v (.slice none 0 0)] (Eg wT []):=by
 intro w R b xs hown hrv;rcases hown.2 with⟨q,_⟩|⟨g,cap,cur,q,_,hg,hnc,hcm,hcs,htake⟩
 ·cases q
 ·injection q with q1 q2 q3;injection q1 with q1
  injection q1 with q1;subst q1 q3;have hl:cur.toList.length=2:=by simpa using hcs
  have hx:cur.toList=xs:=by rw[←htake,List.take_of_length_le (by rw[hl];exact ZT _)]
  match xs,hx with
  |[x0,x1],hx=>
   have e0:x0=.pointer none:=Bt (hrv 0 _ x0 rfl rfl);have e1:x1=.slice none 0 0:=Bt (hrv 1 _ x1 rfl rfl);subst e0 e1;have hc:cur= #[.pointer none,.slice none 0 0]:=by apply Array.ext';rw[hx]
   subst hc;exact⟨b,.slice none 0 0,rfl,⟨⟨_,.inl rfl,hg⟩,World.ownsRow_nil _ _ _ _,by simp[Value.ownBlock]⟩,fun k=>by simp[Value.ownBlock]⟩
  |[],hx=>rw[hx]at hl;simp at hl
  |[_],hx=>rw[hx]at hl;simp at hl
  |_::_::_::_,hx=>rw[hx]at hl;simp at hl
theorem Ps(n:Int):n.fdiv (2^min (Int.toNat 16) IntKind.i64.bits)=n/65536:=by
 show n.fdiv 65536=_;exact Int.fdiv_eq_ediv_of_nonneg _ (by decide)
theorem O9{n:Int}(h0:0≤n)(h1:n≤9223372036854775807):IntKind.i64.wrap ((BitVec.ofInt IntKind.i64.bits n&&&BitVec.ofInt IntKind.i64.bits 65535).toNat)=n%65536:=by
 obtain⟨k,rfl⟩:=Int.eq_ofNat_of_zero_le h0;have e1:(BitVec.ofInt IntKind.i64.bits (k:Int)&&&BitVec.ofInt IntKind.i64.bits 65535).toNat=k%65536:=by
  show(BitVec.ofInt 64 (k:Int)&&&BitVec.ofInt 64 65535).toNat=_;rw[BitVec.toNat_and];have a1:(BitVec.ofInt 64 (k:Int)).toNat=k:=by
   rw[BitVec.ofInt_natCast,BitVec.toNat_ofNat];exact Nat.mod_eq_of_lt (by omega)
  have a2:(BitVec.ofInt 64 65535).toNat=2^16-1:=by decide
  rw[a1,a2,Nat.and_two_pow_sub_one_eq_mod]
 rw[e1];have:k%65536<65536:=Nat.mod_lt _ (by decide);rw[D7 (by omega) (by omega)];rfl
set_option maxHeartbeats 2000000 in
theorem Aft(l:List UInt8)(r:Rr)(hr:r.Good)(hty:r.ty=1)(hl:l.length≤900000):Hz Tryz.prog 149 [.mo (Eg wT l) (Eg wT (l++I6 r)),.p (.c (.agg r.row))] []:=by
 have hin:=Sf hr;have hnl:=E3 hr.nmz;obtain⟨nm,ty,ls,ad,tx,pt,tg⟩:=r;obtain⟨h1,h2,_,h4,h5,h6,h7,h8,h9⟩:=hr;simp only at h1 h2 h4 h5 h6 h7 h8 h9 hty hnl;subst hty;have eI:inB ⟨nm,1,ls,ad,tx,pt,tg⟩=Au [ad/65536,ad%65536]:=rfl;rw[eI]at hin;have e:l++Bp nm++Au [1,1,ls/65536,ls%65536]++Au [((Au [ad/65536,ad%65536]).length:Int)]++(⟨(Au [ad/65536,ad%65536]).toArray⟩:ByteArray).data.toList=l++I6 ⟨nm,1,ls,ad,tx,pt,tg⟩:=by
  unfold I6;rw[eI];simp only[ZS]
 rw[←e];have hne:Au [ad/65536,ad%65536]≠[]:=fun q=>by rw[q]at hin;simp at hin
 refine Le Fi rfl rfl (Ko rfl) ?_;refine G1 ?_;intro gg;(refine .inr (.inl ⟨_,_,false,[0],aM,I2 l nm h1 h2 (by omega),Ad,oI,dI,?_⟩));refine G1 ?_;intro gg;refine⟨by decide,_,Ps _,?_⟩;refine G0 ?_;refine⟨_,O9 h4.1 (Int.le_trans h4.2 (by decide)),?_⟩;refine G1 ?_;intro gg;(refine .inr (.inl ⟨_,_,true,[0],aM,Dd (l++Bp nm) false [1,1,ls/65536,ls%65536] (by simp only[XC,XD,or_false,forall_eq_or_imp,forall_eq];omega) (by simp) (by rw[ZF];omega),(fun _=>F9),oI,dI,?_⟩));(refine goI ?_;repeat (intro gg;refine goI ?_));refine⟨by decide,_,Ps _,?_⟩;refine G0 ?_;refine⟨_,O9 h5.1 (Int.le_trans h5.2 (by decide)),?_⟩;refine G1 ?_;intro gg;(refine .inr (.inl ⟨_,_,true,[336],X4 rfl (Fz rfl) J9 (by decide) (by decide) aM,Dd [] false [ad/65536,ad%65536] (by simp only[XC,XD,or_false,forall_eq_or_imp,forall_eq];omega) (by simp) (by simp),(fun _=>F9),oI,dI,?_⟩));refine G1 ?_;intro gg;(refine .inr (.inl ⟨_,_,false,[336],aM,Xa (T:=wT) (Au [ad/65536,ad%65536]),Ad,oI,dI,?_⟩));(refine goI ?_;repeat (intro gg;refine goI ?_));(refine .inr (.inl ⟨_,_,true,[0],aM,Dd (l++Bp nm++Au [1,1,ls/65536,ls%65536]) false [((Au [ad/65536,ad%65536]).length:Int)] (by simp only[XC,XD,or_false,forall_eq];omega) (by simp) (by simp only[ZF,Ar,ZJ,ZN];omega),(fun _=>F9),oI,dI,?_⟩));refine G1 ?_;intro gg;(refine .inr (.inl ⟨_,_,false,[336],aM,Fg (T:=wT) (Au [ad/65536,ad%65536]) hne,Ad,oI,dI,?_⟩));refine G1 ?_;intro gg;refine⟨⟨trivial,rfl,rfl,trivial,trivial,trivial,trivial⟩,?_⟩;refine G0 ?_;(refine .inr (.inl ⟨_,_,false,[0],aM,Ny wBT (l++Bp nm++Au [1,1,ls/65536,ls%65536]++Au [((Au [ad/65536,ad%65536]).length:Int)]) ⟨(Au [ad/65536,ad%65536]).toArray⟩ (by simp only[ZF,Ar,ZJ,ZN];show _+(Au [ad/65536,ad%65536]).toArray.size≤_;rw[List.size_toArray];omega),Ad,oI,dI,?_⟩));refine G1 ?_;intro gg;(exact⟨[0],aM⟩)
set_option maxHeartbeats 2000000 in
theorem Ahb(l:List UInt8)(r:Rr)(hr:r.Good)(hty:r.ty=16)(hl:l.length≤900000):Hz Tryz.prog 149 [.mo (Eg wT l) (Eg wT (l++I6 r)),.p (.c (.agg r.row))] []:=by
 have hin:=Sf hr;have hnl:=E3 hr.nmz;obtain⟨nm,ty,ls,ad,tx,pt,tg⟩:=r;obtain⟨h1,h2,_,h4,h5,h6,h7,h8,h9⟩:=hr;simp only at h1 h2 h4 h5 h6 h7 h8 h9 hty hnl;subst hty;have eI:inB ⟨nm,16,ls,ad,tx,pt,tg⟩=(UInt8.ofNat tx.size::tx.data.toList):=rfl;rw[eI]at hin;have e:l++Bp nm++Au [16,1,ls/65536,ls%65536]++Au [(((UInt8.ofNat tx.size::tx.data.toList)).length:Int)]++(⟨((UInt8.ofNat tx.size::tx.data.toList)).toArray⟩:ByteArray).data.toList=l++I6 ⟨nm,16,ls,ad,tx,pt,tg⟩:=by
  unfold I6;rw[eI];simp only[ZS]
 rw[←e];have hne:(UInt8.ofNat tx.size::tx.data.toList)≠[]:=fun q=>by rw[q]at hin;simp at hin
 refine Le Fi rfl rfl (Ko rfl) ?_;refine G1 ?_;intro gg;(refine .inr (.inl ⟨_,_,false,[0],aM,I2 l nm h1 h2 (by omega),Ad,oI,dI,?_⟩));refine G1 ?_;intro gg;refine⟨by decide,_,Ps _,?_⟩;refine G0 ?_;refine⟨_,O9 h4.1 (Int.le_trans h4.2 (by decide)),?_⟩;refine G1 ?_;intro gg;(refine .inr (.inl ⟨_,_,true,[0],aM,Dd (l++Bp nm) false [16,1,ls/65536,ls%65536] (by simp only[XC,XD,or_false,forall_eq_or_imp,forall_eq];omega) (by simp) (by rw[ZF];omega),(fun _=>F9),oI,dI,?_⟩));(refine goI ?_;repeat (intro gg;refine goI ?_));refine⟨((tx.size:Nat):Int),by show((tx.size:Nat):Int)%256=_;omega,?_⟩;refine G0 ?_;(refine .inr (.inl ⟨_,_,false,[336],X4 rfl (Fz rfl) J9 (by decide) (by decide) aM,Lp wBT [] ((tx.size:Nat):Int) (by omega) (by omega) (by simp),Ad,oI,dI,?_⟩));refine G1 ?_;intro gg;(refine .inr (.inl ⟨_,_,false,[336],aM,Ny wBT ([]++[UInt8.ofNat ((tx.size:Nat):Int).toNat]) tx (by simp only[ZF,ZJ,ZN];omega),Ad,oI,dI,?_⟩));refine G1 ?_;intro gg;(refine .inr (.inl ⟨_,_,false,[336],aM,Xa (T:=wT) ((UInt8.ofNat tx.size::tx.data.toList)),Ad,oI,dI,?_⟩));(refine goI ?_;repeat (intro gg;refine goI ?_));(refine .inr (.inl ⟨_,_,true,[0],aM,Dd (l++Bp nm++Au [16,1,ls/65536,ls%65536]) false [(((UInt8.ofNat tx.size::tx.data.toList)).length:Int)] (by simp only[XC,XD,or_false,forall_eq];omega) (by simp) (by simp only[ZF,Ar,ZJ,ZN];omega),(fun _=>F9),oI,dI,?_⟩));refine G1 ?_;intro gg;(refine .inr (.inl ⟨_,_,false,[336],aM,Fg (T:=wT) ((UInt8.ofNat tx.size::tx.data.toList)) hne,Ad,oI,dI,?_⟩));refine G1 ?_;intro gg;refine⟨⟨trivial,rfl,rfl,trivial,trivial,trivial,trivial⟩,?_⟩;refine G0 ?_;(refine .inr (.inl ⟨_,_,false,[0],aM,Ny wBT (l++Bp nm++Au [16,1,ls/65536,ls%65536]++Au [(((UInt8.ofNat tx.size::tx.data.toList)).length:Int)]) ⟨((UInt8.ofNat tx.size::tx.data.toList)).toArray⟩ (by simp only[ZF,Ar,ZJ,ZN];show _+((UInt8.ofNat tx.size::tx.data.toList)).toArray.size≤_;rw[List.size_toArray];omega),Ad,oI,dI,?_⟩));refine G1 ?_;intro gg;(exact⟨[0],aM⟩)
set_option maxHeartbeats 2000000 in
theorem Aey(l:List UInt8)(r:Rr)(hr:r.Good)(hty:r.ty=33)(hl:l.length≤900000):Hz Tryz.prog 149 [.mo (Eg wT l) (Eg wT (l++I6 r)),.p (.c (.agg r.row))] []:=by
 have hin:=Sf hr;have hnl:=E3 hr.nmz;obtain⟨nm,ty,ls,ad,tx,pt,tg⟩:=r;obtain⟨h1,h2,_,h4,h5,h6,h7,h8,h9⟩:=hr;simp only at h1 h2 h4 h5 h6 h7 h8 h9 hty hnl;subst hty;have eI:inB ⟨nm,33,ls,ad,tx,pt,tg⟩=(Au [0,0,pt]++Bp tg):=rfl;rw[eI]at hin;have e:l++Bp nm++Au [33,1,ls/65536,ls%65536]++Au [(((Au [0,0,pt]++Bp tg)).length:Int)]++(⟨((Au [0,0,pt]++Bp tg)).toArray⟩:ByteArray).data.toList=l++I6 ⟨nm,33,ls,ad,tx,pt,tg⟩:=by
  unfold I6;rw[eI];simp only[ZS]
 rw[←e];have hne:(Au [0,0,pt]++Bp tg)≠[]:=fun q=>by rw[q]at hin;simp at hin
 refine Le Fi rfl rfl (Ko rfl) ?_;refine G1 ?_;intro gg;(refine .inr (.inl ⟨_,_,false,[0],aM,I2 l nm h1 h2 (by omega),Ad,oI,dI,?_⟩));refine G1 ?_;intro gg;refine⟨by decide,_,Ps _,?_⟩;refine G0 ?_;refine⟨_,O9 h4.1 (Int.le_trans h4.2 (by decide)),?_⟩;refine G1 ?_;intro gg;(refine .inr (.inl ⟨_,_,true,[0],aM,Dd (l++Bp nm) false [33,1,ls/65536,ls%65536] (by simp only[XC,XD,or_false,forall_eq_or_imp,forall_eq];omega) (by simp) (by rw[ZF];omega),(fun _=>F9),oI,dI,?_⟩));(refine goI ?_;repeat (intro gg;refine goI ?_));(refine .inr (.inl ⟨_,_,true,[336],X4 rfl (Fz rfl) J9 (by decide) (by decide) aM,Dd [] false [0,0,pt] (by simp only[XC,XD,or_false,forall_eq_or_imp,forall_eq];omega) (by simp) (by simp),(fun _=>F9),oI,dI,?_⟩));refine G1 ?_;intro gg;(refine .inr (.inl ⟨_,_,false,[336],aM,I2 ([]++Au [0,0,pt]) tg h8 h9 (by simp only[ZF,Ar,ZJ,ZN];omega),Ad,oI,dI,?_⟩));refine G1 ?_;intro gg;(refine .inr (.inl ⟨_,_,false,[336],aM,Xa (T:=wT) ((Au [0,0,pt]++Bp tg)),Ad,oI,dI,?_⟩));(refine goI ?_;repeat (intro gg;refine goI ?_));(refine .inr (.inl ⟨_,_,true,[0],aM,Dd (l++Bp nm++Au [33,1,ls/65536,ls%65536]) false [(((Au [0,0,pt]++Bp tg)).length:Int)] (by simp only[XC,XD,or_false,forall_eq];omega) (by simp) (by simp only[ZF,Ar,ZJ,ZN];omega),(fun _=>F9),oI,dI,?_⟩));refine G1 ?_;intro gg;(refine .inr (.inl ⟨_,_,false,[336],aM,Fg (T:=wT) ((Au [0,0,pt]++Bp tg)) hne,Ad,oI,dI,?_⟩));refine G1 ?_;intro gg;refine⟨⟨trivial,rfl,rfl,trivial,trivial,trivial,trivial⟩,?_⟩;refine G0 ?_;(refine .inr (.inl ⟨_,_,false,[0],aM,Ny wBT (l++Bp nm++Au [33,1,ls/65536,ls%65536]++Au [(((Au [0,0,pt]++Bp tg)).length:Int)]) ⟨((Au [0,0,pt]++Bp tg)).toArray⟩ (by simp only[ZF,Ar,ZJ,ZN];show _+((Au [0,0,pt]++Bp tg)).toArray.size≤_;rw[List.size_toArray];omega),Ad,oI,dI,?_⟩));refine G1 ?_;intro gg;(exact⟨[0],aM⟩)
theorem M0(l:List UInt8)(r:Rr)(hr:r.Good)(hl:l.length≤900000):Hz Tryz.prog 149 [.mo (Eg wT l) (Eg wT (l++I6 r)),.p (.c (.agg r.row))] []:=by
 rcases hr.ty with h|h|h
 ·exact Aft l r hr h hl
 ·exact Ahb l r hr h hl
 ·exact Aey l r hr h hl
theorem Adx{P Q:Prop}(h:P)(k:P→Q):Q:=k h
namespace Pl
def wIn(n a b:Int):Bool:=bif decide (a≤n)then decide (n≤b)else false
def Ln(t:Int):Bool:=bif (t==1)then true else bif (t==16)then true else(t==33)
def Aox(l:List Int)(x:Int):Bool:=l.any fun w=>x==w
theorem At9(t:Int):Aox [1,16,33] t=Ln t:=by
 unfold Aox Ln;simp only[List.any_cons,List.any_nil,Bool.or_false];cases (t==1)<;>cases (t==16)<;>rfl
def Rr.un(r:Rr):Bool:=bif (bif (r.ty==1)then true else(r.ad==0))then(bif (bif (r.ty==16)then true else em r.tx)then(bif (r.ty==33)then true else bif (r.pt==0)then em r.tg else false)else false)else false
def Eb(r:Rr):Int:=if As r.nm≠0 then As r.nm else bif !Ln r.ty then 7 else bif !wIn r.ls 0 2147483647 then 3 else bif !r.un then 1 else bif !wIn r.ad 0 4294967295 then 3 else bif !wIn r.pt 0 65535 then 3 else if 200<r.tx.size then 2 else As r.tg
end Pl
theorem Ia(n a b:Int):Fun Tryz.prog 108 [.c (.v (.int .i64 n)),.c (.v (.int .i64 a)),.c (.v (.int .i64 b))] [.c (.v (.bool (wIn n a b)))]:=by
 refine A4 Aan rfl ?_;refine G0 ?_;(refine Ag (fun h=>?_) (fun h=>?_)<;>rw[h])
 ·refine G0 ?_;rw[show wIn n a b=decide (n≤b)by unfold wIn;rw[show decide (a≤n)=true from h];rfl];(exact⟨[],aI⟩)
 ·refine G0 ?_;rw[show wIn n a b=false by unfold wIn;rw[show decide (a≤n)=false from h];rfl];(exact⟨[],aI⟩)
theorem Ai8(cl:Bool)(l:List Int)(v:Int)(hl:l.length≤9223372036854775807):
  Fun Tryz.prog 233 [.c (.sl cl (l.map Aoy)),.c (.v (.int .i64 v))] [.c (.v (.int .i64 (at_ (fun w=>v==w) l)))]:=by
 refine A4 Ll rfl ?_;refine G0 ?_;rw[ZE];(refine⟨[],none,{k:Nat//k≤l.length∧∀j,(h:j<l.length)→j<k→(v==l[j])=false},[0,1,7],fun⟨k,hk,h0⟩=>[(8,.v (.int .i64 k))],[],fun⟨k,hk,h0⟩=>[],fun⟨k,hk,h0⟩=>l.length-k,trivial,fun _=>⟨trivial,fun _=>⟨⟨0,by omega,fun j _ h=>by omega⟩,tI,A2 _ _,tI,A3 _ _⟩⟩,fun⟨k,hk,h0⟩=>?_⟩);refine G0 ?_;(refine Ag (fun h=>?_) (fun h=>?_)<;>rw[h])
 ·have hlt:k<l.length:=(by have:=ZV h;omega);refine G0 ?_;refine⟨k,_,rfl,A7 hlt,?_⟩;refine G0 ?_;(refine Ag (fun h2=>?_) (fun h2=>?_)<;>rw[h2])
  ·refine G0 ?_;rw[Ae4 (p:=fun w=>v==w) hlt h0 h2];(exact⟨[],aI⟩)
  ·refine G0 ?_;(exact⟨none,trivial,fun _=>⟨⟨k+1,by omega,up1 (p:=fun j h=>(v==l[j])=false) h0 (fun _=>h2)⟩,by show l.length-(k+1)<l.length-k;omega,tI,tI,tI,tI⟩⟩)
 ·have hge:¬k<l.length:=(by have:=ZW h;omega);refine G0 ?_;rw[Akn (p:=fun w=>v==w) (l:=l) (fun i hi=>h0 i hi (by omega))];(exact⟨[],aI⟩)
theorem Aa5(cl:Bool)(l:List Int)(v:Int)(hl:l.length≤9223372036854775807):
  Fun Tryz.prog 192 [.c (.sl cl (l.map Aoy)),.c (.v (.int .i64 v))] [.c (.v (.bool (Aox l v)))]:=by
 refine A4 Kl rfl ?_;refine G0 ?_;refine .inl (cX (Ai8 cl l v hl) ?_);refine G1 ?_;intro gg;rw[Ajl];(exact⟨[],aI⟩)
theorem Rb(t:Int):Fun Tryz.prog 109 [.c (.v (.int .i64 t))] [.c (.v (.bool (Ln t)))]:=by
 have hC:=Aa5 false [1,16,33] t (by simp);rw[At9]at hC;refine A4 Aar rfl ?_;refine G1 ?_;intro gg;refine .inl (cY hC ?_);refine G1 ?_;intro gg;(exact⟨[],aI⟩)
theorem Ajh(r:Rr):Fun Tryz.prog 193 [.c (.agg r.row)] [.c (.v (.bool r.un))]:=by
 refine A4 Aad rfl ?_;refine G1 ?_;intro gg
 (repeat' (refine Ag (fun h=>?_) (fun h=>?_)<;>(rw[h];refine G0 ?_)))
 all_goals first
  |((refine Adx (P:=r.un=true) ?_ (fun e=>?_);(focus (simp only[*,cond_true,cond_false,Rr.un,em];done));rw[e]);(exact⟨[],aI⟩))
  |((refine Adx (P:=r.un=false) ?_ (fun e=>?_);(focus (simp only[*,cond_true,cond_false,Rr.un,em];done));rw[e]);(exact⟨[],aI⟩))
  |((refine Adx (P:=r.un=em r.tg) ?_ (fun e=>?_);(focus (simp only[*,cond_true,cond_false,Rr.un,em];done));rw[e]);(exact⟨[],aI⟩))
theorem V5(r:Rr)(h1:r.nm.size≤1000000000000)(h2:r.tx.size≤1000000000000)(h3:r.tg.size≤1000000000000):Fun Tryz.prog 110 [.c (.agg r.row)] [.c (.v (.int .i64 (Eb r)))]:=by
 refine A4 Q0 rfl ?_;refine G1 ?_;intro gg;refine .inl (cX (Lr r.nm h1) ?_);refine G1 ?_;intro gg;refine Ag (fun k0=>?_) (fun k0=>?_)<;>rw[k0]
 ·refine G0 ?_;rw[show Eb r=As r.nm from if_pos (by simpa using k0)];(exact⟨[],aI⟩)
 ·have e0:Eb r=_:=if_neg (by simpa using k0);refine G0 ?_;refine .inl (cX (Rb r.ty) ?_);refine G1 ?_;intro gg;refine Ag (fun k1=>?_) (fun k1=>?_)<;>rw[k1]<;>rw[k1]at e0
  ·refine G0 ?_;rw[e0];(exact⟨[],aI⟩)
  ·refine G0 ?_;refine .inl (cX (Ia r.ls 0 2147483647) ?_);refine G1 ?_;intro gg;refine Ag (fun k2=>?_) (fun k2=>?_)<;>rw[k2]<;>rw[k2]at e0
   ·refine G0 ?_;rw[e0];(exact⟨[],aI⟩)
   ·refine G0 ?_;refine .inl (cX (Ajh r) ?_);refine G1 ?_;intro gg;refine Ag (fun k3=>?_) (fun k3=>?_)<;>rw[k3]<;>rw[k3]at e0
    ·refine G0 ?_;rw[e0];(exact⟨[],aI⟩)
    ·refine G0 ?_;refine .inl (cX (Ia r.ad 0 4294967295) ?_);refine G1 ?_;intro gg;refine Ag (fun k4=>?_) (fun k4=>?_)<;>rw[k4]<;>rw[k4]at e0
     ·refine G0 ?_;rw[e0];(exact⟨[],aI⟩)
     ·refine G0 ?_;refine .inl (cX (Ia r.pt 0 65535) ?_);refine G1 ?_;intro gg;refine Ag (fun k5=>?_) (fun k5=>?_)<;>rw[k5]<;>rw[k5]at e0
      ·refine G0 ?_;rw[e0];(exact⟨[],aI⟩)
      ·refine G0 ?_;refine Ag (fun k6=>?_) (fun k6=>?_)<;>rw[k6]
       ·have k7:200<r.tx.size:=by have:=ZV k6;omega
        refine G0 ?_;rw[e0];simp only[cond_false,if_pos k7];(exact⟨[],aI⟩)
       ·have k7:¬200<r.tx.size:=by have:=ZW k6;omega
        refine G0 ?_;refine .inl (cX (Lr r.tg h3) ?_);refine G1 ?_;intro gg;rw[e0];simp only[cond_false,if_neg k7];(exact⟨[],aI⟩)
theorem Yu{t:Int}(h:(!Ln t)=false):t=1∨t=16∨t=33:=by
 unfold Ln at h;cases h1:(t==1)with
 |true=>exact .inl (by simpa using h1)
 |false=>
  cases h2:(t==16)with
  |true=>exact .inr (.inl (by simpa using h2))
  |false=>rw[h1,h2]at h;exact .inr (.inr (by simpa using h))
namespace Pl
def Do(l:List Int):Int:=l.foldr (fun e k=>if e≠0 then e else k) 0
def Bc(m:Ms):Int:=bif !wIn m.id 0 65535 then 3 else bif !wIn m.co 0 15 then 3 else if 20<m.rs.length then 2 else if As m.qn≠0 then As m.qn else bif !Ln m.qt then 7 else Do (m.rs.map Eb)
structure Ms.Sized(m:Ms):Prop where
 qn:m.qn.size≤1000000000000
 rs:∀r∈m.rs,r.nm.size≤1000000000000∧r.tx.size≤1000000000000∧r.tg.size≤1000000000000
end Pl
theorem Un{l:List Int}{k:Nat}(hk:k<l.length)(h0:∀j,(h:j<l.length)→j<k→l[j]=0)(h:l[k]≠0):Do l=l[k]:=by
 induction l generalizing k with
 |nil=>simp at hk
 |cons e l ih=>
  cases k with
  |zero=>exact if_pos h
  |succ k=>
   have e0:e=0:=h0 0 (by simp) (by omega);subst e0;exact ih (by simpa using hk) (fun j hj hjk=>h0 (j+1) (by simpa using hj) (by omega)) h
theorem O7{l:List Int}(h0:∀j,(h:j<l.length)→l[j]=0):Do l=0:=by
 induction l with
 |nil=>rfl
 |cons e l ih=>
  have e0:e=0:=h0 0 (by simp);subst e0;exact ih fun j hj=>h0 (j+1) (by simpa using hj)
set_option maxHeartbeats 1000000 in
theorem Ud(m:Ms)(hm:m.Sized)(hl:m.rs.length≤9223372036854775807):Fun Tryz.prog 52 [.c (.agg m.row)] [.c (.v (.int .i64 (Bc m)))]:=by
 obtain⟨id,an,ct,co,qn,qt,rs⟩:=m;obtain⟨s1,s2⟩:=hm;simp only at s1 s2 hl;refine A4 Adu rfl ?_;refine G1 ?_;intro gg;refine .inl (cX (Ia id 0 65535) ?_);refine G1 ?_;intro gg;have e0:Bc ⟨id,an,ct,co,qn,qt,rs⟩=bif !wIn id 0 65535 then 3 else bif !wIn co 0 15 then 3 else if 20<rs.length then 2 else if As qn≠0 then As qn else bif !Ln qt then 7 else Do (rs.map Eb):=rfl
 refine Ag (fun k0=>?_) (fun k0=>?_)<;>rw[k0]<;>rw[k0]at e0
 ·refine G0 ?_;rw[e0];(exact⟨[],aI⟩)
 ·refine G0 ?_;refine .inl (cX (Ia co 0 15) ?_);refine G1 ?_;intro gg;refine Ag (fun k1=>?_) (fun k1=>?_)<;>rw[k1]<;>rw[k1]at e0
  ·refine G0 ?_;rw[e0];(exact⟨[],aI⟩)
  ·simp only[cond_false]at e0;refine G0 ?_;rw[ZE];refine Ag (fun k2=>?_) (fun k2=>?_)<;>rw[k2]
   ·have k3:20<rs.length:=by have:=ZV (show decide ((20:Int)<(rs.length:Int))=true from k2);omega
    refine G0 ?_;rw[e0,if_pos k3];(exact⟨[],aI⟩)
   ·have k3:¬20<rs.length:=by have:=ZW (show decide ((20:Int)<(rs.length:Int))=false from k2);omega
    rw[if_neg k3]at e0;refine G0 ?_;refine .inl (cX (Lr qn s1) ?_);refine G1 ?_;intro gg;refine Ag (fun k4=>?_) (fun k4=>?_)<;>rw[k4]
    ·refine G0 ?_;rw[e0,if_pos (by simpa using k4)];(exact⟨[],aI⟩)
    ·rw[if_neg (by simpa using k4)]at e0;refine G0 ?_;refine .inl (cX (Rb qt) ?_);refine G1 ?_;intro gg;refine Ag (fun k5=>?_) (fun k5=>?_)<;>rw[k5]<;>rw[k5]at e0
     ·refine G0 ?_;rw[e0];(exact⟨[],aI⟩)
     ·simp only[cond_false]at e0;refine G0 ?_;rw[ZE];(refine⟨[],none,{k:Nat//k≤rs.length∧∀j,(h:j<rs.length)→j<k→Eb rs[j]=0},[36,37],fun⟨k,hk,h0⟩=>[(38,.v (.int .i64 k))],[],fun⟨k,hk,h0⟩=>[],fun⟨k,hk,h0⟩=>rs.length-k,trivial,fun _=>⟨trivial,fun _=>⟨⟨0,by omega,fun j _ h=>by omega⟩,tI,A2 _ _,tI,A3 _ _⟩⟩,fun⟨k,hk,h0⟩=>?_⟩);refine G0 ?_;refine Ag (fun k6=>?_) (fun k6=>?_)<;>rw[k6]
      ·have hlt:k<rs.length:=by have:=ZV (show decide ((k:Int)<(rs.length:Int))=true from k6);omega
       obtain⟨g1,g2,g3⟩:=s2 _ (ZK hlt);refine G0 ?_;refine⟨k,_,rfl,A7 hlt,?_⟩;refine G1 ?_;intro gg;refine .inl (cX (V5 rs[k] g1 g2 g3) ?_);refine G1 ?_;intro gg;refine Ag (fun k7=>?_) (fun k7=>?_)<;>rw[k7]
       ·have hne:Eb rs[k]≠0:=by simpa using k7
        have e1:Do (rs.map Eb)=Eb rs[k]:=by
         have:=Un (l:=rs.map Eb) (k:=k) (by simpa using hlt) (fun j h hj=>by rw[XQ];exact h0 j (by simpa using h) hj) (by rw[XQ];exact hne);rw[this,XQ]
        refine G0 ?_;rw[e0,e1];(exact⟨[],aI⟩)
       ·refine G0 ?_;(exact⟨none,trivial,fun _=>⟨⟨k+1,by omega,up1 (p:=fun j h=>Eb rs[j]=0) h0 (fun _=>by simpa using k7)⟩,by show rs.length-(k+1)<rs.length-k;omega,tI,tI,tI,tI⟩⟩)
      ·have hge:¬k<rs.length:=by have:=ZW (show decide ((k:Int)<(rs.length:Int))=false from k6);omega
       have e1:Do (rs.map Eb)=0:=O7 fun j hj=>by rw[XQ];exact h0 j (by simpa using hj) (by simp at hj;omega)
       refine G0 ?_;rw[e0,e1];(exact⟨[],aI⟩)
namespace Pl
structure Kn where
 here:ByteArray
 l:List Sv
 ms:List Mb
 f:Pc
 wh:List Wh
def Kn.row(k:Kn):List V:=[.v (.string k.here),.sl false (k.l.map Sv.row),.sl false (k.ms.map Mb.row),.v (.int .i64 k.f.x),.v (.int .i64 k.f.y),.v (.int .i64 k.f.z),.v (.int .i64 k.f.h),.v (.int .i64 k.f.s),.sl false (k.wh.map Wh.row)]
structure Kn.In(k:Kn):Prop where
 here:k.here.size≤9223372036854775807
 ll:k.l.length≤9223372036854775807
 lo:∀x∈k.l,x.ok
 ml:k.ms.length≤9223372036854775807
 mo:∀x∈k.ms,x.ok
 wl:k.wh.length≤9223372036854775807
def Kn.err(k:Kn):Int:=bif !lab k.here.data.toList then 1 else if ckSv k.l≠0 then ckSv k.l else if I3 k.ms≠0 then I3 k.ms else if 20<k.wh.length then 2 else if k.f.err≠0 then k.f.err else Do (k.wh.map fun w=>w.pl.err)
def Ox(ms:List Mb)(name:ByteArray):Bool:=bif hit (Mb.cf name) ms then(match ms[low (Mb.cf name) ms]? with
 |some m=>decide (3≤m.st)
 |none=>false)else false
def Kn.ask(k:Kn)(q:Qr)(t:Int)(name:ByteArray):List V:=[.v (.string q.sv),.v (.string q.tg),.v (.string q.nd),.v (.string q.ce),.v (.int .i64 t),.v (.string k.here),.sl false (k.l.map Sv.row),.sl false (k.ms.map Mb.row),.v (.int .i64 k.f.x),.v (.int .i64 k.f.y),.v (.int .i64 k.f.z),.v (.int .i64 k.f.h),.v (.int .i64 k.f.s),.sl false (k.wh.map Wh.row),.v (.string name)]
end Pl
theorem Abz(k:Kn)(h:k.In):Fun Tryz.prog 121 [.c (.v (.string k.here)),.c (.sl false (k.l.map Sv.row)),.c (.sl false (k.ms.map Mb.row)),.c (.agg k.f.row),.c (.sl false (k.wh.map Wh.row))] [.c (.v (.int .i64 k.err))]:=by
 obtain⟨here,l,ms,f,wh⟩:=k;obtain⟨g1,g2,g3,g4,g5,g6⟩:=h;simp only at g1 g2 g3 g4 g5 g6;have e0:Kn.err ⟨here,l,ms,f,wh⟩=bif !lab here.data.toList then 1 else if ckSv l≠0 then ckSv l else if I3 ms≠0 then I3 ms else if 20<wh.length then 2 else if f.err≠0 then f.err else Do (wh.map fun w=>w.pl.err):=rfl
 refine A4 V1 rfl ?_;refine G1 ?_;intro gg;refine .inl (cX (C2 here g1) ?_);refine G1 ?_;intro gg;refine Ag (fun k0=>?_) (fun k0=>?_)<;>rw[k0]<;>rw[k0]at e0
 ·refine G0 ?_;rw[e0];(exact⟨[],aI⟩)
 simp only[cond_false]at e0;refine G0 ?_;refine .inl (cX (Z6 l g2 g3) ?_);refine G1 ?_;intro gg;refine Ag (fun k1=>?_) (fun k1=>?_)<;>rw[k1]
 ·refine G0 ?_;rw[e0,if_pos (by simpa using k1)];(exact⟨[],aI⟩)
 rw[if_neg (by simpa using k1)]at e0;refine G0 ?_;refine .inl (cX (Ajd ms g4 g5) ?_);refine G1 ?_;intro gg;refine Ag (fun k2=>?_) (fun k2=>?_)<;>rw[k2]
 ·refine G0 ?_;rw[e0,if_pos (by simpa using k2)];(exact⟨[],aI⟩)
 rw[if_neg (by simpa using k2)]at e0;refine G0 ?_;by_cases k3:20<wh.length
 ·rw[if_pos k3]at e0;rw[show decide ((20:Int)<((wh.map Wh.row).length:Int))=true from ZX (by rw[ZE];omega)];refine G0 ?_;rw[e0];(exact⟨[],aI⟩)
 rw[if_neg k3]at e0;rw[show decide ((20:Int)<((wh.map Wh.row).length:Int))=false from ZY (by rw[ZE];omega)];refine G0 ?_;refine .inl (cX (Mm f) ?_);refine G1 ?_;intro gg;refine Ag (fun k4=>?_) (fun k4=>?_)<;>rw[k4]
 ·refine G0 ?_;rw[e0,if_pos (by simpa using k4)];(exact⟨[],aI⟩)
 rw[if_neg (by simpa using k4)]at e0;refine G0 ?_;(refine⟨[],none,{k:Nat//k≤wh.length∧∀j,(h:j<wh.length)→j<k→wh[j].pl.err=0},[38,39],fun⟨k,hk,h0⟩=>[(40,.v (.int .i64 k))],[],fun⟨k,hk,h0⟩=>[],fun⟨k,hk,h0⟩=>wh.length-k,trivial,fun _=>⟨trivial,fun _=>⟨⟨0,by omega,fun j _ h=>by omega⟩,tI,A2 _ _,tI,A3 _ _⟩⟩,fun⟨k,hk,h0⟩=>?_⟩);refine G0 ?_;simp only[ZE];by_cases k6:k<wh.length
 ·rw[show decide ((k:Int)<(wh.length:Int))=true from ZX (by omega)];refine G0 ?_;refine⟨k,_,rfl,A7 k6,?_⟩;refine G1 ?_;intro gg;refine .inl (cX (Mm wh[k].pl) ?_);refine G1 ?_;intro gg;refine Ag (fun k7=>?_) (fun k7=>?_)<;>rw[k7]
  ·have hne:wh[k].pl.err≠0:=by simpa using k7
   have e1:Do (wh.map fun w=>w.pl.err)=wh[k].pl.err:=by
    have:=Un (l:=wh.map fun w=>w.pl.err) (k:=k) (by simpa using k6) (fun j h hj=>by rw[XQ];exact h0 j (by simpa using h) hj) (by rw[XQ];exact hne);rw[this,XQ]
   refine G0 ?_;rw[e0,e1];(exact⟨[],aI⟩)
  ·refine G0 ?_;(exact⟨none,trivial,fun _=>⟨⟨k+1,by omega,up1 (p:=fun j h=>wh[j].pl.err=0) h0 (fun _=>by simpa using k7)⟩,by show wh.length-(k+1)<wh.length-k;omega,tI,tI,tI,tI⟩⟩)
 ·rw[show decide ((k:Int)<(wh.length:Int))=false from ZY (by omega)];have e1:Do (wh.map fun w=>w.pl.err)=0:=O7 fun j hj=>by rw[XQ];exact h0 j (by simpa using hj) (by simp at hj;omega)
  refine G0 ?_;rw[e0,e1];(exact⟨[],aI⟩)
theorem Ag3(k:Kn)(q:Qr)(t:Int)(nm name:ByteArray)(hl:k.ms.length≤1000)(hm:Ajj (Mb.cf name) k.ms):Fun Tryz.prog 208 [.c (.rptr (k.ask q t nm) 0),.c (.v (.string name))] [.c (.v (.bool (Ox k.ms name)))]:=by
 refine A4 N1 rfl ?_;refine G0 ?_;refine .inl (cX (Abm false k.ms name hl hm) ?_);refine G1 ?_;intro gg;have e0:Ox k.ms name=bif hit (Mb.cf name) k.ms then(match k.ms[low (Mb.cf name) k.ms]? with
  |some m=>decide (3≤m.st)
  |none=>false)else false:=rfl
 by_cases hh:hit (Mb.cf name) k.ms=true
 ·have hlt:=Xi hh;rw[hh]at e0 ⊢;rw[cond_true,ZC hlt]at e0;refine G0 ?_;refine⟨low (Mb.cf name) k.ms,_,rfl,A7 hlt,?_⟩;refine G0 ?_;rw[e0];(exact⟨[],aI⟩)
 ·rw[XE.2 hh]at e0 ⊢;rw[cond_false]at e0;refine G0 ?_;rw[e0];(exact⟨[],aI⟩)
namespace Pl
def Hh(here:ByteArray)(t:Int)(nm:ByteArray)(s:Sv):Rr×Int:=
 if t=1 then(⟨nm,t,0,s.ad,⟨#[]⟩,0,⟨#[]⟩⟩,0)
 else if t=16 then(⟨nm,t,0,0,s.id,0,⟨#[]⟩⟩,0)
 else if t=33 then
  if(Ao ⟨⟨#[]⟩,⟨#[]⟩,s.nd,here⟩).2≠0 then(⟨nm,t,0,0,⟨#[]⟩,0,⟨#[]⟩⟩,(Ao ⟨⟨#[]⟩,⟨#[]⟩,s.nd,here⟩).2)
  else(⟨nm,t,0,0,⟨#[]⟩,s.pt,(Ao ⟨⟨#[]⟩,⟨#[]⟩,s.nd,here⟩).1⟩,0)
 else(⟨nm,t,0,0,⟨#[]⟩,0,⟨#[]⟩⟩,0)
def L7(k:Kn)(q:Qr)(t:Int)(nm:ByteArray):List Rr×Int:=
 if hit (Mb.cf q.nd) k.ms=false∨Ox k.ms q.nd=true then([],3)
 else if t≠1 then([],0)
 else match k.ms[low (Mb.cf q.nd) k.ms]? with
  |some m=>([⟨nm,t,0,m.ad,⟨#[]⟩,0,⟨#[]⟩⟩],0)
  |none=>([],0)
end Pl
theorem Tv(k:Kn)(q:Qr)(t:Int)(nm:ByteArray)(off:Nat):Cl (.rptr (k.ask q t nm) off):=Al5 fun u hu=>by
 simp only[Kn.ask,XC,XD,or_false]at hu;rcases hu with rfl|rfl|rfl|rfl|rfl|rfl|rfl|rfl|rfl|rfl|rfl|rfl|rfl|rfl|rfl
 all_goals first
  |exact A9 rfl
  |exact Dt
theorem Afu(k:Kn)(q:Qr)(t:Int)(nm:ByteArray)(s:Sv)(hk:k.here.size≤9223372036854775807)(hs:s.nd.size≤9223372036854775807):Fun Tryz.prog 210 [.c (.rptr (k.ask q t nm) 0),.c (.agg s.row)] [.c (.agg (Hh k.here t nm s).1.row),.c (.v (.int .i64 (Hh k.here t nm s).2))]:=by
 have hz:(⟨#[]⟩:ByteArray).size≤9223372036854775807:=by decide
 have hP:=Dk ⟨⟨#[]⟩,⟨#[]⟩,s.nd,k.here⟩ ⟨hz,hz,hs,hk⟩;refine Ait Mt rfl ?_;(refine goI ?_;repeat (intro gg;refine goI ?_));by_cases t1:t=1
 ·rw[show(t==1)=true from ZR.2 t1,show Hh k.here t nm s=(⟨nm,t,0,s.ad,⟨#[]⟩,0,⟨#[]⟩⟩,0)from if_pos t1];refine G0 ?_;exact Da (A9 rfl) (A9 rfl) (.cell1 rfl rfl rfl rfl rfl rfl (.tmp1 rfl .nil))
 rw[show(t==1)=false from ZG.2 t1];refine G0 ?_;by_cases t16:t=16
 ·rw[show(t==16)=true from ZR.2 t16,show Hh k.here t nm s=(⟨nm,t,0,0,s.id,0,⟨#[]⟩⟩,0)from(if_neg t1).trans (if_pos t16)];refine G0 ?_;exact Da (A9 rfl) (A9 rfl) (.cell1 rfl rfl rfl rfl rfl rfl (.tmp1 rfl .nil))
 rw[show(t==16)=false from ZG.2 t16];refine G0 ?_;by_cases t33:t=33;rotate_left
 ·rw[show(t==33)=false from ZG.2 t33,show Hh k.here t nm s=(⟨nm,t,0,0,⟨#[]⟩,0,⟨#[]⟩⟩,0)from(if_neg t1).trans ((if_neg t16).trans (if_neg t33))];refine G0 ?_;exact Da (A9 rfl) (A9 rfl) (.cell1 rfl rfl rfl rfl rfl rfl (.tmp1 rfl .nil))
 have e0:Hh k.here t nm s=if(Ao ⟨⟨#[]⟩,⟨#[]⟩,s.nd,k.here⟩).2≠0 then(⟨nm,t,0,0,⟨#[]⟩,0,⟨#[]⟩⟩,(Ao ⟨⟨#[]⟩,⟨#[]⟩,s.nd,k.here⟩).2)
  else(⟨nm,t,0,0,⟨#[]⟩,s.pt,(Ao ⟨⟨#[]⟩,⟨#[]⟩,s.nd,k.here⟩).1⟩,0):=(if_neg t1).trans ((if_neg t16).trans (if_pos t33))
 rw[show(t==33)=true from ZR.2 t33];generalize Ao ⟨⟨#[]⟩,⟨#[]⟩,s.nd,k.here⟩=P at *;refine G0 ?_;refine .inl (cX hP ?_);refine G1 ?_;intro gg;by_cases c:P.2=0;rotate_left
 ·rw[if_pos c]at e0;rw[e0,show(P.2 !=0)=true from ZZ.2 c];refine G0 ?_;exact Da (A9 rfl) (A9 rfl) (.cell1 rfl rfl rfl rfl rfl rfl (.tmp1 rfl .nil))
 ·rw[if_neg (by simpa using c)]at e0;rw[e0,c];refine G0 ?_;exact Da (A9 rfl) (A9 rfl) (.cell1 rfl rfl rfl rfl rfl rfl (.tmp1 rfl .nil))
theorem Amz(k:Kn)(q:Qr)(t:Int)(nm:ByteArray)(hl:k.ms.length≤1000)(hm:Ajj (Mb.cf q.nd) k.ms):Fun Tryz.prog 151 [.c (.rptr (k.ask q t nm) 0)] [.o 51 7 ((L7 k q t nm).1.map Rr.row),.c (.v (.int .i64 (L7 k q t nm).2)),.c (.v (.int .i64 0))]:=by
 refine A4 N2 rfl ?_;refine G0 ?_;refine .inl (cX (Abm false k.ms q.nd hl hm) ?_);refine G1 ?_;intro gg;by_cases hh:hit (Mb.cf q.nd) k.ms=true;rotate_left
 ·have e0:L7 k q t nm=([],3):=if_pos (.inl (XE.2 hh));rw[e0,XE.2 hh];refine G0 ?_;(exact⟨[],aI⟩)
 have hlt:=Xi hh;rw[hh];refine G0 ?_;(refine .inl ⟨_,_,false,[],.same (Tv k q t nm 0) (.same (A9 rfl) (.nil _)),Ag3 k q t nm q.nd hl hm,Ad,nI,?_⟩);refine G1 ?_;intro gg;by_cases ha:Ox k.ms q.nd=true
 ·have e0:L7 k q t nm=([],3):=if_pos (.inr ha);rw[e0,ha];refine G0 ?_;(exact⟨[],aI⟩)
 rw[XE.2 ha];have e0:L7 k q t nm=(if t≠1 then([],0)else match k.ms[low (Mb.cf q.nd) k.ms]? with
  |some m=>([⟨nm,t,0,m.ad,⟨#[]⟩,0,⟨#[]⟩⟩],0)
  |none=>([],0):List Rr×Int):=if_neg (fun z=>z.elim (fun z=>by rw[hh]at z;cases z) ha)
 refine G0 ?_;by_cases t1:t=1;rotate_left
 ·rw[if_pos t1]at e0;rw[e0,show(t !=1)=true from ZZ.2 t1];refine G0 ?_;(exact⟨[],aI⟩)
 rw[if_neg (by simpa using t1),ZC hlt]at e0;change L7 k q t nm=([⟨nm,t,0,(k.ms[low (Mb.cf q.nd) k.ms]).ad,⟨#[]⟩,0,⟨#[]⟩⟩],0)at e0;rw[e0,show(t !=1)=false from by simpa using t1];refine G0 ?_;refine⟨low (Mb.cf q.nd) k.ms,_,rfl,A7 hlt,?_⟩;refine G1 ?_;intro gg;(exact⟨[848],aI⟩)
namespace Pl
def Mi(k:Kn)(q:Qr)(t:Int)(nm:ByteArray)(F:List Sv):List Rr×Int×Int:=
 if Do (F.map fun s=>(Hh k.here t nm s).2)≠0 then([],0,Do (F.map fun s=>(Hh k.here t nm s).2))
 else if(Ck k.l q.sv ⟨#[]⟩).2.length=0 then([],3,0)
 else(F.map fun s=>(Hh k.here t nm s).1,0,0)
end Pl
set_option maxHeartbeats 1000000 in
theorem Acm(k:Kn)(q:Qr)(t:Int)(nm:ByteArray)(F:List Sv)(hk:k.In)(hq:q.ok)(hn:F.length≤1000)(hs:∀s∈F,s.nd.size≤9223372036854775807)(hF:Fun Tryz.prog 209 [.c (.rptr (k.ask q t nm) 0)] [.c (.sl false (F.map Sv.row))]):
  Fun Tryz.prog 152 [.c (.rptr (k.ask q t nm) 0)] [.o 51 7 ((Mi k q t nm F).1.map Rr.row),.c (.v (.int .i64 (Mi k q t nm F).2.1)),.c (.v (.int .i64 (Mi k q t nm F).2.2))]:=by
 refine A4 Mg rfl ?_;refine G0 ?_;(refine .inl ⟨_,_,false,[],.same (Tv k q t nm 0) (.nil _),hF,Ad,nI,?_⟩);refine G1 ?_;intro gg;(refine⟨[(5,496,51,7)],none,{p:Nat×Nat//p.1≤F.length∧∀j,(h:j<F.length)→j<p.1→(Hh k.here t nm F[j]).2=0},[0,13,14],fun⟨⟨i,g⟩,hi,h0⟩=>[(5,.own 496 g),(15,.v (.int .i64 (i:Int)))],[],fun⟨⟨i,g⟩,hi,h0⟩=>[(496,⟨g,.t 51,7,((F.take i).map fun s=>(Hh k.here t nm s).1).map Rr.row⟩)],fun⟨⟨i,g⟩,hi,h0⟩=>F.length-i,(by exact⟨rfl,by decide,(fun _ _ _ _ h=>by cases h),trivial⟩),fun gs=>⟨trivial,fun _=>⟨⟨(0,gs 496),ZU _,fun j _ h=>by omega⟩,tI,tI,tI,tI⟩⟩,fun⟨⟨i,g⟩,hi,h0⟩=>?_⟩);simp only at hi h0;have hli:(((F.take i).map fun s=>(Hh k.here t nm s).1).map Rr.row).length=i:=by rw[ZE,ZE,ZM];omega
 refine G0 ?_;simp only[ZE];by_cases c:i<F.length
 ·rw[show decide ((i:Int)<(F.length:Int))=true from ZX (by omega)];have hR:=Afu k q t nm F[i] hk.here (hs _ (ZK c));refine G0 ?_;refine⟨i,_,rfl,A7 c,?_⟩;refine G1 ?_;intro gg;(refine .inl ⟨_,_,false,[],.same (Tv k q t nm 0) (.same (A9 rfl) (.nil _)),hR,Ad,nI,?_⟩);(refine goI ?_;repeat (intro gg;refine goI ?_));by_cases e:(Hh k.here t nm F[i]).2=0;rotate_left
  ·have e1:Do (F.map fun s=>(Hh k.here t nm s).2)=(Hh k.here t nm F[i]).2:=by
    have:=Un (l:=F.map fun s=>(Hh k.here t nm s).2) (k:=i) (by simpa using c) (fun j h hj=>by rw[XQ];exact h0 j (by simpa using h) hj) (by rw[XQ];exact e);rw[this,XQ]
   have e0:Mi k q t nm F=([],0,(Hh k.here t nm F[i]).2):=by unfold Mi;rw[e1,if_pos e]
   rw[e0,show((Hh k.here t nm F[i]).2 !=0)=true from ZZ.2 e];refine G0 ?_;(exact⟨[],aI⟩)
  have ht:((F.take i).map fun s=>(Hh k.here t nm s).1).map Rr.row++[Rr.row (Hh k.here t nm F[i]).1]=((F.take (i+1)).map fun s=>(Hh k.here t nm s).1).map Rr.row:=by
   rw[XT,ZC c,ZI,ZI];rfl
  have hti:(F.take i).length=i:=by rw[ZM];omega
  rw[e];refine G1 ?_;intro gg;refine⟨lI,lI,?_⟩;refine G1 ?_;intro gg;(exact⟨none,trivial,fun gr=>⟨⟨(i+1,gg),by show i+1≤_;omega,up1 (p:=fun j h=>(Hh k.here t nm F[j]).2=0) h0 (fun _=>e)⟩,by show F.length-(i+1)<F.length-i;omega,tI,tI,⟨congrArg (fun r=>some (Ent.mk gg (.t 51) 7 r)) ht,trivial⟩,tI⟩⟩)
 ·rw[show decide ((i:Int)<(F.length:Int))=false from ZY (by omega)];have e1:Do (F.map fun s=>(Hh k.here t nm s).2)=0:=O7 fun j hj=>by rw[XQ];exact h0 j (by simpa using hj) (by simp at hj;omega)
  obtain rfl:i=F.length:=by omega
  refine G0 ?_;(refine .inl ⟨_,_,false,[],aI,Ams k.l q.sv ⟨#[]⟩ hk.ll hk.lo hq.1 (by decide),Ad,nI,?_⟩);refine G1 ?_;intro gg;rw[ZE];have e2:Mi k q t nm F=(if(Ck k.l q.sv ⟨#[]⟩).2.length=0 then([],3,0)else(F.map fun s=>(Hh k.here t nm s).1,0,0):List Rr×Int×Int):=by unfold Mi;rw[e1];rfl
  by_cases f:(Ck k.l q.sv ⟨#[]⟩).2.length=0
  ·rw[if_pos f]at e2;rw[e2,f];refine G0 ?_;(exact⟨[],aI⟩)
  ·rw[if_neg f]at e2;rw[e2,show(((Ck k.l q.sv ⟨#[]⟩).2.length:Int)==0)=false from ZG.2 (by omega)];refine G0 ?_;rw[XF];(exact⟨[496],aI⟩)
namespace Pl
def K3(k:Kn)(q:Qr)(t:Int):Int:=if q.err≠0 then q.err else if Ln t=false then 7 else k.err
def Ew(k:Kn)(q:Qr)(t:Int)(F:List Sv):List Rr×Int×Int:=
 if K3 k q t≠0 then([],0,K3 k q t)
 else if(Ao q).2≠0 then([],0,(Ao q).2)
 else if em q.ce=false∧(q.ce.toList==k.here.toList)=false then([],3,0)
 else if em q.nd=false then((L7 k q t (Ao q).1).1,(L7 k q t (Ao q).1).2,0)
 else Mi k q t (Ao q).1 F
end Pl
theorem Ws(k:Kn)(q:Qr)(t:Int)(nm:ByteArray):∀u∈k.ask q t nm,Cl u:=fun u hu=>by
 simp only[Kn.ask,XC,XD,or_false]at hu;rcases hu with rfl|rfl|rfl|rfl|rfl|rfl|rfl|rfl|rfl|rfl|rfl|rfl|rfl|rfl|rfl
 all_goals first
  |exact A9 rfl
  |exact Dt
theorem Auu{k:Kn}(h:k.err=0):k.ms.length≤20∧∀name,Ajj (Mb.cf name) k.ms:=by
 have hc:I3 k.ms=0:=by
  unfold Kn.err at h;cases h0:(!lab k.here.data.toList)with
  |true=>rw[h0]at h;exact absurd h (by decide:(1:Int)≠0)
  |false=>
   rw[h0,cond_false]at h;by_cases h1:ckSv k.l≠0
   ·rw[if_pos h1]at h;exact absurd h h1
   ·rw[if_neg h1]at h;by_cases h2:I3 k.ms≠0
    ·rw[if_pos h2]at h;exact absurd h h2
    ·exact Decidable.not_not.1 h2
 obtain⟨h1,_,h3⟩:=Ah2 hc;exact⟨h1,fun name=>(Mb.smono h3 name).mono⟩
set_option maxHeartbeats 1000000 in
theorem Agy(k:Kn)(q:Qr)(t:Int)(F:List Sv)(hk:k.In)(hq:q.ok)(hn:F.length≤1000)(hs:∀s∈F,s.nd.size≤9223372036854775807)(hF:K3 k q t=0→Fun Tryz.prog 209 [.c (.rptr (k.ask q t (Ao q).1) 0)] [.c (.sl false (F.map Sv.row))]):
  Fun Tryz.prog 78 [.c (.agg q.row),.c (.v (.int .i64 t)),.c (.v (.string k.here)),.c (.sl false (k.l.map Sv.row)),.c (.sl false (k.ms.map Mb.row)),.c (.agg k.f.row),.c (.sl false (k.wh.map Wh.row))]
   [.o 51 7 ((Ew k q t F).1.map Rr.row),.c (.v (.int .i64 (Ew k q t F).2.1)),.c (.v (.int .i64 (Ew k q t F).2.2))]:=by
 have hE:K3 k q t=if q.err≠0 then q.err else if Ln t=false then 7 else k.err:=rfl
 have hA:Ew k q t F=(if K3 k q t≠0 then([],0,K3 k q t)
  else if(Ao q).2≠0 then([],0,(Ao q).2)
  else if em q.ce=false∧(q.ce.toList==k.here.toList)=false then([],3,0)
  else if em q.nd=false then((L7 k q t (Ao q).1).1,(L7 k q t (Ao q).1).2,0)
  else Mi k q t (Ao q).1 F:List Rr×Int×Int):=rfl
 refine A4 Rk rfl ?_;(refine goI ?_;repeat (intro gg;refine goI ?_));refine .inl (cX (W9 q hq) ?_);refine G1 ?_;intro gg;by_cases c1:q.err=0;rotate_left
 ·rw[if_pos c1]at hE;rw[hE,if_pos c1]at hA;rw[hA,show(q.err==0)=false from ZG.2 c1];refine G0 ?_;rw[show(q.err==0)=false from ZG.2 c1];refine G0 ?_;rw[show(q.err !=0)=true from ZZ.2 c1];refine G0 ?_;(exact⟨[],aI⟩)
 rw[if_neg (by simpa using c1)]at hE;rw[show(q.err==0)=true from ZR.2 c1];refine G0 ?_;refine .inl (cX (Rb t) ?_);refine G1 ?_;intro gg;by_cases c2:Ln t=true;rotate_left
 ·rw[if_pos (XE.2 c2)]at hE;rw[hE,if_pos (by decide)]at hA;rw[hA,XE.2 c2];refine G0 ?_;(exact⟨[],aI⟩)
 rw[if_neg (by simpa using c2)]at hE;rw[c2];refine G0 ?_;rw[show(q.err==0)=true from ZR.2 c1];refine G0 ?_;refine .inl (cX (Abz k hk) ?_);refine G1 ?_;intro gg;by_cases c3:k.err=0;rotate_left
 ·rw[hE,if_pos c3]at hA;rw[hA,show(k.err !=0)=true from ZZ.2 c3];refine G0 ?_;(exact⟨[],aI⟩)
 have hFF:=hF (hE.trans c3);rw[hE,if_neg (by simpa using c3)]at hA;rw[c3];have hP:=Dk q hq;refine G1 ?_;intro gg;revert gg;intro ga;refine .inl (cX hP ?_);generalize Ao q=P at *;refine G1 ?_;intro gg;by_cases c4:P.2=0;rotate_left
 ·rw[if_pos c4]at hA;rw[hA,show(P.2 !=0)=true from ZZ.2 c4];refine G0 ?_;(exact⟨[],aI⟩)
 rw[if_neg (by simpa using c4)]at hA;rw[c4];have hEc:em q.ce=(q.ce.toList==(⟨#[]⟩:ByteArray).toList):=rfl;have hEn:em q.nd=(q.nd.toList==(⟨#[]⟩:ByteArray).toList):=rfl;have hms:=Auu c3;have hN:=Amz k q t P.1 (by omega) (hms.2 q.nd);have hSv:=Acm k q t P.1 F hk hq hn hs hFF;refine G0 ?_;by_cases d1:em q.ce=false∧(q.ce.toList==k.here.toList)=false
 ·rw[if_pos d1]at hA;rw[←hEc,d1.1];refine G0 ?_;rw[d1.2,hA];refine G0 ?_;(exact⟨[],aI⟩)
 rw[if_neg d1]at hA;have Bl:∀b,b=em q.nd→True:=fun _ _=>trivial;rw[←hEc];by_cases d2:em q.ce=true
 ·rw[d2];refine G0 ?_;rw[←hEn];by_cases d4:em q.nd=false
  ·rw[if_pos d4]at hA;rw[d4,hA];refine G0 ?_;(refine .inl ⟨_,_,true,[],.borp rfl rfl rfl (Ws k q t P.1) (by decide) (.nil _),hN,(fun _=>fI),nI,?_⟩);refine G1 ?_;intro gg;(exact⟨[1184],aI⟩)
  rw[if_neg d4]at hA;rw[show em q.nd=true from by simpa using d4,hA];refine G0 ?_;(refine .inl ⟨_,_,true,[],.borp rfl rfl rfl (Ws k q t P.1) (by decide) (.nil _),hSv,(fun _=>fI),nI,?_⟩);refine G1 ?_;intro gg;(exact⟨[1264],aI⟩)
 ·have d3:(q.ce.toList==k.here.toList)=true:=by
   rw[XE.2 d2]at d1;simpa using d1
  rw[XE.2 d2];refine G0 ?_;rw[d3];refine G0 ?_;rw[←hEn];by_cases d4:em q.nd=false
  ·rw[if_pos d4]at hA;rw[d4,hA];refine G0 ?_;(refine .inl ⟨_,_,true,[],.borp rfl rfl rfl (Ws k q t P.1) (by decide) (.nil _),hN,(fun _=>fI),nI,?_⟩);refine G1 ?_;intro gg;(exact⟨[1184],aI⟩)
  rw[if_neg d4]at hA;rw[show em q.nd=true from by simpa using d4,hA];refine G0 ?_;(refine .inl ⟨_,_,true,[],.borp rfl rfl rfl (Ws k q t P.1) (by decide) (.nil _),hSv,(fun _=>fI),nI,?_⟩);refine G1 ?_;intro gg;(exact⟨[1264],aI⟩)
namespace Pl
def Co(s:ByteArray)(a:Nat):Option (Nat×Nat):=(s[a]?).map fun c=>(c.toNat,a+1)
def B9(s:ByteArray)(a:Nat):Option (Nat×Nat):=(Co s a).bind fun p=>(Co s p.2).bind fun q=>some (p.1*256+q.1,q.2)
def Iv(s:ByteArray)(a:Nat):Option (Nat×Nat):=(B9 s a).bind fun p=>(B9 s p.2).bind fun q=>some (p.1*65536+q.1,q.2)
def Fm(s:ByteArray)(a n:Nat):Option (ByteArray×Nat):=if a+n≤s.size then some (s.extract a (a+n),a+n)else none
def Ih(c:UInt8):UInt8:=if 65≤c.toNat∧c.toNat≤90 then c+32 else c
def C3(s:ByteArray):ByteArray:=⟨(s.data.toList.map Ih).toArray⟩
def nameR(s:ByteArray):Nat→Nat→List ByteArray→Option Nat→Nat→Option (List ByteArray×Nat)
 |0,_,_,_,_=>none
 |f+1,a,l,e,fr=>
  if l.length≤8 then
   (Co s a).bind fun p=>
    if p.1=0 then some (l,e.getD p.2)
    else if 192≤p.1 then(Co s p.2).bind fun q=>
     if p.1%64*256+q.1<fr then nameR s f (p.1%64*256+q.1) l (some (e.getD q.2)) (p.1%64*256+q.1)else none
    else(Fm s p.2 p.1).bind fun q=>if lab (C3 q.1).data.toList=true then nameR s f q.2 (l++[C3 q.1]) e fr else none
  else none
def H4(s:ByteArray)(a:Nat):Option (ByteArray×Nat):=(nameR s (a+10) a [] none a).map fun p=>(Dc ⟨#[46]⟩ p.1,p.2)
def Ki(s:ByteArray)(t a:Nat):Option ((Nat×ByteArray×Nat×ByteArray)×Nat):=
 if t=1 then(Iv s a).bind fun p=>some ((p.1,⟨#[]⟩,0,⟨#[]⟩),p.2)
 else if t=16 then(Co s a).bind fun p=>(Fm s p.2 p.1).bind fun q=>some ((0,q.1,0,⟨#[]⟩),q.2)
 else if t=33 then(B9 s a).bind fun p=>if p.1=0 then(B9 s p.2).bind fun q=>if q.1=0 then(B9 s q.2).bind fun r=>(H4 s r.2).bind fun n=>some ((0,⟨#[]⟩,r.1,n.1),n.2)else none else none
 else none
def Ss(s:ByteArray)(a:Nat):Option (Rr×Nat):=
 (H4 s a).bind fun n=>(B9 s n.2).bind fun t=>(B9 s t.2).bind fun c=>if c.1=1 then
  (Iv s c.2).bind fun ls=>(B9 s ls.2).bind fun k=>if k.2+k.1≤s.size then
   (Ki s t.1 k.2).bind fun b=>if b.2=k.2+k.1 then some (⟨n.1,t.1,ls.1,b.1.1,b.1.2.1,b.1.2.2.1,b.1.2.2.2⟩,b.2)else none
  else none
 else none
def H3(s:ByteArray):Nat→Nat→Option (List Rr×Nat)
 |0,a=>some ([],a)
 |k+1,a=>(Ss s a).bind fun r=>(H3 s k r.2).bind fun l=>some (r.1::l.1,l.2)
def Ao2(n:Nat):Bool:=n==0||n==2||n==128||n==130
def Re(s:ByteArray):Option Ms:=
 (B9 s 0).bind fun i=>(Co s i.2).bind fun a=>(Co s a.2).bind fun b=>if(Ao2 a.1&&decide (b.1<16))=true then
  (B9 s b.2).bind fun c=>if c.1=1 then
   (B9 s c.2).bind fun k=>if k.1≤20 then(B9 s k.2).bind fun z=>if z.1=0 then(B9 s z.2).bind fun y=>if y.1=0 then
    (H4 s y.2).bind fun n=>(B9 s n.2).bind fun t=>(B9 s t.2).bind fun d=>if d.1=1 then
     (H3 s k.1 d.2).bind fun l=>if l.2=s.size then some ⟨i.1,decide (128≤a.1),decide (a.1%4≥2),b.1,n.1,t.1,l.1⟩else none
    else none
   else none else none else none
  else none
 else none
end Pl
abbrev rdT:TypeId:=107
def rdZ(s:ByteArray)(x:Int):List Par:=[.c (.v (.string s)),.c (.v (.int .i64 x))]
def rdC(s:ByteArray)(a:Nat):List Par:=rdZ s (a:Int)
def Gu:Value:=.iface 103 (.agg #[])
theorem Bb(row:List V){b:Bool}(h:b=true):Fun Tryz.prog 105 [.c (.rptr row 0),.c (.v (.bool b))] []:=by
 subst h;refine A4 Kg rfl ?_;refine G0 ?_;(exact⟨[],aI⟩)
theorem B7(row:List V){b:Bool}(h:b=false):Gz Tryz.prog 105 [.p (.c (.rptr row 0)),.p (.c (.v (.bool b)))] Gu:=by
 subst h;refine Ly Kg rfl (Ko rfl) ?_;refine G0 ?_;rfl
theorem Z5{s:ByteArray}{a v a':Nat}(h:Co s a=some (v,a')):∃c,s[a]? =some c∧v=c.toNat∧a'=a+1∧a<s.size:=by
 unfold Co at h;obtain⟨c,h1,h2⟩:=Option.map_eq_some_iff.1 h;cases h2;refine⟨c,h1,rfl,rfl,?_⟩;exact(getElem?_eq_some_iff.1 h1).1
theorem Ahi{s:ByteArray}{a:Nat}(h:Co s a=none):¬a<s.size:=by
 unfold Co at h;intro q;rw[Option.map_eq_none_iff]at h;simp[q]at h
theorem Dx{s:ByteArray}{a v a':Nat}(h:Co s a=some (v,a'))(hs:s.size≤1000000):Hz Tryz.prog 104 [.mn rdT (rdC s a) (rdC s a')] [.p (.c (.v (.int .i64 (v:Int))))]:=by
 obtain⟨c,h1,rfl,rfl,hlt⟩:=Z5 h;rw[show rdC s (a+1)=rdZ s ((a:Int)+1)from rfl];have hc:c.toNat<256:=c.toNat_lt;refine Le J4 rfl rfl (Ko rfl) ?_;refine G0 ?_;(refine .inl ⟨_,_,true,[],aI,Bb _ (ZX (by omega)),(fun _=>fI),nI,?_⟩);refine G1 ?_;intro gg;refine⟨a,c,by omega,h1,?_⟩;refine G0 ?_;(exact⟨0::([]++[]),Ij (by first|exact A9 rfl|assumption) (N8 (gone:=[]) (gone1:=[]) rfl aI (by decide) (by decide) (by decide) (.nil _))⟩)
theorem Kf{s:ByteArray}{a:Nat}{R:List Par}(h:Co s a=none)(hs:s.size≤1000000):Gz Tryz.prog 104 [.mn rdT (rdC s a) R] Gu:=by
 have hlt:=Ahi h;refine Ly J4 rfl (Ko rfl) ?_;refine G0 ?_;(exact .inr (.inr (.inl ⟨_,true,[],_,aM,B7 _ (ZY (by omega)),rfl⟩)))
theorem Cz{s:ByteArray}{a v a':Nat}(h:Co s a=some (v,a')):v<256∧a'=a+1∧a'≤s.size:=by
 obtain⟨c,_,rfl,rfl,h4⟩:=Z5 h;exact⟨c.toNat_lt,rfl,h4⟩
theorem orP{x y:Nat}(k:Nat)(hy:y<2^k)(hx:x*2^k+y<9223372036854775808):IntKind.i64.wrap ((BitVec.ofInt IntKind.i64.bits ((x*2^k:Nat):Int)|||BitVec.ofInt IntKind.i64.bits (y:Int)).toNat)=((x*2^k+y:Nat):Int):=by
 have e1:(BitVec.ofInt IntKind.i64.bits ((x*2^k:Nat):Int)|||BitVec.ofInt IntKind.i64.bits (y:Int)).toNat=x*2^k+y:=by
  show(BitVec.ofInt 64 ((x*2^k:Nat):Int)|||BitVec.ofInt 64 (y:Int)).toNat=_;rw[BitVec.toNat_or,BitVec.ofInt_natCast,BitVec.ofInt_natCast,BitVec.toNat_ofNat,BitVec.toNat_ofNat,Nat.mod_eq_of_lt (by omega),Nat.mod_eq_of_lt (by omega),Nat.mul_comm,←Nat.two_pow_add_eq_or_of_lt hy]
 rw[e1,D7 (by omega) (by omega)]
theorem Aqu{x:Nat}(h:x<256):IntKind.i64.wrap ((x:Int)*2^min (Int.toNat 8) IntKind.i64.bits)=((x*2^8:Nat):Int):=by
 show IntKind.i64.wrap ((x:Int)*256)=_;rw[D7 (by omega) (by omega)];omega
theorem Av0{x:Nat}(h:x<65536):IntKind.i64.wrap ((x:Int)*2^min (Int.toNat 16) IntKind.i64.bits)=((x*2^16:Nat):Int):=by
 show IntKind.i64.wrap ((x:Int)*65536)=_;rw[D7 (by omega) (by omega)];omega
theorem or8{x y:Nat}(hx:x<256)(hy:y<256):IntKind.i64.wrap ((BitVec.ofInt IntKind.i64.bits ((x*2^8:Nat):Int)|||BitVec.ofInt IntKind.i64.bits (y:Int)).toNat)=((x*256+y:Nat):Int):=orP 8 (by omega) (by omega)
theorem Az6{x y:Nat}(hx:x<65536)(hy:y<65536):IntKind.i64.wrap ((BitVec.ofInt IntKind.i64.bits ((x*2^16:Nat):Int)|||BitVec.ofInt IntKind.i64.bits (y:Int)).toNat)=((x*65536+y:Nat):Int):=orP 16 (by omega) (by omega)
theorem Bf{s:ByteArray}{a a':Nat}{v:Nat}(h:B9 s a=some (v,a'))(hs:s.size≤1000000):Hz Tryz.prog 103 [.mn rdT (rdC s a) (rdC s a')] [.p (.c (.v (.int .i64 (v:Int))))]:=by
 unfold B9 at h;refine Le K6 rfl rfl (Ko rfl) ?_;refine G0 ?_;rcases e1:Co s a with _|⟨x,a1⟩
 ·rw[e1]at h;cases h
 rw[e1,ZA]at h;simp only at h;have be1:=Cz e1;(refine .inr (.inl ⟨_,_,false,0::([]++[]),?_,Dx e1 hs,Ad,oI,dI,?_⟩);focus (exact wI));refine G1 ?_;intro gg;refine⟨by decide,_,Aqu be1.1,?_⟩;refine G0 ?_;rcases e2:Co s a1 with _|⟨y,a2⟩
 ·rw[e2]at h;cases h
 rw[e2,ZA]at h;simp only at h;have be2:=Cz e2;(refine .inr (.inl ⟨_,_,false,0::([]++[]),?_,Dx e2 hs,Ad,oI,dI,?_⟩);focus (exact wI));refine G1 ?_;intro gg;refine⟨_,or8 be1.1 be2.1,?_⟩;refine G0 ?_;cases h;(exact⟨0::([]++[]),Ij (by first|exact A9 rfl|assumption) (N8 (gone:=[]) (gone1:=[]) rfl aI (by decide) (by decide) (by decide) (.nil _))⟩)
theorem Dm{s:ByteArray}{a:Nat}{R:List Par}(h:B9 s a=none)(hs:s.size≤1000000):Gz Tryz.prog 103 [.mn rdT (rdC s a) R] Gu:=by
 unfold B9 at h;refine Ly K6 rfl (Ko rfl) ?_;refine G0 ?_;rcases e1:Co s a with _|⟨x,a1⟩
 ·(refine .inr (.inr (.inl ⟨_,false,0::([]++[]),_,?_,Kf (R:=rdC s 0) e1 hs,rfl⟩));focus (exact wI))
 rw[e1,ZA]at h;simp only at h;have be1:=Cz e1;(refine .inr (.inl ⟨_,_,false,0::([]++[]),?_,Dx e1 hs,Ad,oI,dI,?_⟩);focus (exact wI));refine G1 ?_;intro gg;refine⟨by decide,_,Aqu be1.1,?_⟩;refine G0 ?_;rcases e2:Co s a1 with _|⟨y,a2⟩
 ·(refine .inr (.inr (.inl ⟨_,false,0::([]++[]),_,?_,Kf (R:=rdC s 0) e2 hs,rfl⟩));focus (exact wI))
 rw[e2,ZA]at h;simp only at h;have be2:=Cz e2;(refine .inr (.inl ⟨_,_,false,0::([]++[]),?_,Dx e2 hs,Ad,oI,dI,?_⟩);focus (exact wI));refine G1 ?_;intro gg;refine⟨_,or8 be1.1 be2.1,?_⟩;refine G0 ?_;cases h
theorem Bo{s:ByteArray}{a v a':Nat}(h:B9 s a=some (v,a')):v<65536∧a'=a+2∧a'≤s.size:=by
 unfold B9 at h;rcases e1:Co s a with _|⟨x,a1⟩
 ·rw[e1]at h;cases h
 rw[e1,ZA]at h;simp only at h;rcases e2:Co s a1 with _|⟨y,a2⟩
 ·rw[e2]at h;cases h
 rw[e2,ZA]at h;cases h;have b1:=Cz e1;have b2:=Cz e2;show x*256+y<65536∧a2=a+2∧a2≤s.size;omega
theorem S4{s:ByteArray}{a a':Nat}{v:Nat}(h:Iv s a=some (v,a'))(hs:s.size≤1000000):Hz Tryz.prog 191 [.mn rdT (rdC s a) (rdC s a')] [.p (.c (.v (.int .i64 (v:Int))))]:=by
 unfold Iv at h;refine Le J7 rfl rfl (Ko rfl) ?_;refine G0 ?_;rcases e1:B9 s a with _|⟨x,a1⟩
 ·rw[e1]at h;cases h
 rw[e1,ZA]at h;simp only at h;have be1:=Bo e1;(refine .inr (.inl ⟨_,_,false,0::([]++[]),?_,Bf e1 hs,Ad,oI,dI,?_⟩);focus (exact wI));refine G1 ?_;intro gg;refine⟨by decide,_,Av0 be1.1,?_⟩;refine G0 ?_;rcases e2:B9 s a1 with _|⟨y,a2⟩
 ·rw[e2]at h;cases h
 rw[e2,ZA]at h;simp only at h;have be2:=Bo e2;(refine .inr (.inl ⟨_,_,false,0::([]++[]),?_,Bf e2 hs,Ad,oI,dI,?_⟩);focus (exact wI));refine G1 ?_;intro gg;refine⟨_,Az6 be1.1 be2.1,?_⟩;refine G0 ?_;cases h;(exact⟨0::([]++[]),Ij (by first|exact A9 rfl|assumption) (N8 (gone:=[]) (gone1:=[]) rfl aI (by decide) (by decide) (by decide) (.nil _))⟩)
theorem Afs{s:ByteArray}{a:Nat}{R:List Par}(h:Iv s a=none)(hs:s.size≤1000000):Gz Tryz.prog 191 [.mn rdT (rdC s a) R] Gu:=by
 unfold Iv at h;refine Ly J7 rfl (Ko rfl) ?_;refine G0 ?_;rcases e1:B9 s a with _|⟨x,a1⟩
 ·(refine .inr (.inr (.inl ⟨_,false,0::([]++[]),_,?_,Dm (R:=rdC s 0) e1 hs,rfl⟩));focus (exact wI))
 rw[e1,ZA]at h;simp only at h;have be1:=Bo e1;(refine .inr (.inl ⟨_,_,false,0::([]++[]),?_,Bf e1 hs,Ad,oI,dI,?_⟩);focus (exact wI));refine G1 ?_;intro gg;refine⟨by decide,_,Av0 be1.1,?_⟩;refine G0 ?_;rcases e2:B9 s a1 with _|⟨y,a2⟩
 ·(refine .inr (.inr (.inl ⟨_,false,0::([]++[]),_,?_,Dm (R:=rdC s 0) e2 hs,rfl⟩));focus (exact wI))
 rw[e2,ZA]at h;simp only at h;have be2:=Bo e2;(refine .inr (.inl ⟨_,_,false,0::([]++[]),?_,Bf e2 hs,Ad,oI,dI,?_⟩);focus (exact wI));refine G1 ?_;intro gg;refine⟨_,Az6 be1.1 be2.1,?_⟩;refine G0 ?_;cases h
theorem Rj{s:ByteArray}{a v a':Nat}(h:Iv s a=some (v,a')):v<4294967296∧a'=a+4∧a'≤s.size:=by
 unfold Iv at h;rcases e1:B9 s a with _|⟨x,a1⟩
 ·rw[e1]at h;cases h
 rw[e1,ZA]at h;simp only at h;rcases e2:B9 s a1 with _|⟨y,a2⟩
 ·rw[e2]at h;cases h
 rw[e2,ZA]at h;cases h;have b1:=Bo e1;have b2:=Bo e2;show x*65536+y<4294967296∧a2=a+4∧a2≤s.size;omega
end Go.Proofs.YtkbjgdcdjccnaaaGreatDoor
