/- Texts of this claim, joined. -/
import Derived.Test.YtkbjgdcdjccnaaaGreatDoorRows
import Derived.Test.YtkbjgdcdjccnaaaGreatDoorWAbsQ
import Derived.Shelf.Strings.BuilderK
import Derived.Maps.AppendAt
import Derived.Lib.AppendStr
import Derived.Test.YtkbjgdcdjccnaaaGreatDoorWAbsS
import Derived.Test.YtkbjgdcdjccnaaaGreatDoorVa
import Derived.Test.YtkbjgdcdjccnaaaGreatDoorVb
import Derived.Test.YtkbjgdcdjccnaaaGreatDoorVc
import Derived.Test.YtkbjgdcdjccnaaaGreatDoorVd
set_option linter.unusedSimpArgs false
set_option linter.unusedVariables false
namespace Go.Proofs.YtkbjgdcdjccnaaaGreatDoor
open Go.RowKit Pl
namespace Pl
theorem Adg(t:((⟨#[110,111,100,101]⟩:ByteArray).toList==(⟨#[115,101,114,118,105,99,101]⟩:ByteArray).toList)=true):False:=Eb (toList_inj (ZR.1 t)).symm
theorem Q1(t:((⟨#[115,101,114,118,105,99,101]⟩:ByteArray).toList==(⟨#[110,111,100,101]⟩:ByteArray).toList)=true):False:=Eb (toList_inj (ZR.1 t))
theorem Adl{x:ByteArray}(h:isW x=true):x=Cd∨x=C7:=by
 unfold isW at h;cases q:(x.toList==Cd.toList)with
 |true=>exact .inl (toList_inj (by simpa using q))
 |false=>rw[q]at h;exact .inr (toList_inj (by simpa using h))
theorem Ec{s:ByteArray}{l:List ByteArray}{k:Nat}(hl:Cx 46 s=l++[Bm])(h:A1 s=0)(hw:Sx l k)(hn:Au (q0 l k)≠(s,0)):Be s=(noQ,1):=by
 refine P8 h (by rw[hl];simp) fun q hq=>?_;obtain⟨l',k',b1,b2,_,_,b3,_⟩:=Mt hq;have e:l=l':=by rw[hl]at b1;exact(List.append_inj' b1 rfl).1
 subst e;rw[b3,b2.uniq hw]at hq;exact hn hq
theorem Afd{s:ByteArray}{l:List ByteArray}(hl:Cx 46 s=l++[Bm])(h:A1 s=0)(hn:∀k,Sx l k→¬(1≤k∧k≤2)):Be s=(noQ,1):=by
 refine P8 h (by rw[hl];simp) fun q hq=>?_;obtain⟨l',k',b1,b2,b3,b4,_,_⟩:=Mt hq;have e:l=l':=by rw[hl]at b1;exact(List.append_inj' b1 rfl).1
 subst e;exact hn k' b2 ⟨b3,b4⟩
theorem Apj{l:List ByteArray}{M:Nat}(h:∀x∈l,x.size≤M)(k:Nat):(l.getD k ⟨#[]⟩).size≤M:=by
 rw[List.getD_eq_getElem?_getD];cases q:l[k]? with
 |none=>exact ZU _
 |some x=>exact h x (ZH q)
theorem Xg{l:List ByteArray}(h:∀x∈l,x.size≤9223372036854775807)(k:Nat):(q0 l k).ok:=by
 have z:(⟨#[]⟩:ByteArray).size≤9223372036854775807:=ZU _;refine⟨?_,?_,?_,?_⟩<;>(unfold q0;dsimp only;split)<;>first|exact Apj h _|exact z
def kI:Option Nat→Int
 |none=> -1
 |some b=>b
def KD(l:List ByteArray)(i:Nat):Option Nat→Prop
 |none=>∀j,j<i→l.length≤j+2→isW (l.getD j ⟨#[]⟩)=false
 |some k=>k<i∧l.length≤k+2∧isW (l.getD k ⟨#[]⟩)=true∧∀j,j<i→k<j→isW (l.getD j ⟨#[]⟩)=false
theorem Atk{l:List ByteArray}{i:Nat}{o:Option Nat}(h:KD l i o)(hi:l.length≤i+2)(hw:isW (l.getD i ⟨#[]⟩)=true):KD l (i+1) (some i):=⟨by omega,hi,hw,fun j h1 h2=>by omega⟩
theorem Bd0{l:List ByteArray}{i:Nat}{o:Option Nat}(h:KD l i o)(hw:isW (l.getD i ⟨#[]⟩)=false):KD l (i+1) o:=by
 cases o with
 |none=>
  intro j h1 h2;by_cases q:j<i
  ·exact h j q h2
  ·have e:j=i:=by omega
   rw[e];exact hw
 |some k=>
  refine⟨by have:=h.1;omega,h.2.1,h.2.2.1,fun j h1 h2=>?_⟩;by_cases q:j<i
  ·exact h.2.2.2 j q h2
  ·have e:j=i:=by omega
   rw[e];exact hw
theorem Avi{l:List ByteArray}{k:Nat}(h:KD l l.length (some k)):Sx l k:=⟨h.1,h.2.1,h.2.2.1,fun q=>h.2.2.2 _ q (by omega)⟩
end Pl
theorem Sl(s:ByteArray)(hs:s.size≤1000000000000):Fun Tryz.prog 73 [.c (.v (.string s))] [.c (.agg (Be s).1.row),.c (.v (.int .i64 (Be s).2))]:=by
 obtain⟨l,x,hlx⟩:∃l x,Cx 46 s=l++[x]:=⟨_,_,rfl⟩;have hll:l.length≤s.size:=by
  have h1:=Sf 46 s;have h2:=Alk s 46;rw[hlx,ZF]at h1;simp at h1;omega
 have hS:=Ae1 s 46 hs;rw[hlx]at hS;have hlen:((l++[x]).map Bl).length=l.length+1:=by simp
 have hsub:IntKind.i64.wrap ((((l++[x]).map Bl).length:Int)-1)=(l.length:Int):=by rw[hlen,Ed (by omega) (by omega)];omega
 have hlast:((l++[x]).map Bl)[l.length]? =some (Bl x):=by simp
 refine Ali Abn rfl ?_;refine G1 ?_;intro gg;refine .inl (cX (M1 s hs) ?_);refine G1 ?_;intro gg;(refine Aa (fun h1=>?_) (fun h1=>?_)<;>rw[h1])
 ·have h1':A1 s≠0:=by simpa using h1
  rw[Abk h1'];refine G0 ?_;exact Dj (A9 rfl) (A9 rfl) (.cell1 rfl rfl rfl rfl rfl rfl (.tmp1 rfl .nil))
 ·have h1':A1 s=0:=by simpa using h1
  refine G0 ?_;refine .inl (cX hS ?_);refine G1 ?_;intro gg;refine⟨(l.length:Int),hsub,?_⟩;refine G0 ?_;refine⟨l.length,_,rfl,hlast,?_⟩;refine G0 ?_;refine⟨_,hlast,?_⟩;refine G0 ?_;(refine Aa (fun h2=>?_) (fun h2=>?_)<;>rw[h2])
  ·have h2':x≠Bm:=fun e=>by rw[e,show(Bm.toList==(⟨#[109,101,115,104]⟩:ByteArray).toList)=true from beq_self_eq_true _]at h2;cases h2
   rw[Abh h1' (by rw[hlx];simpa using h2')];refine G0 ?_;exact Dj (A9 rfl) (A9 rfl) (.cell1 rfl rfl rfl rfl rfl rfl (.tmp1 rfl .nil))
  ·have h2':x=Bm:=toList_inj (ZR.1 (Ci h2));subst h2';have hl:=hlx;have hsz':∀y∈l,y.size≤9223372036854775807:=fun y hy=>by
    have he:em s=false:=by
     cases q:em s with
     |false=>rfl
     |true=>
      have e0:=K2.1 q;rw[e0]at hl;have:=congrArg List.length hl;simp at this;have e3:(Cx 46 (⟨#[]⟩:ByteArray)).length=1:=by rw[Sf];rfl
      rw[hl]at e3;simp at e3;subst e3;cases hy
    have hm:y∈Bp s:=by rw[Rs he,hl];exact List.mem_append_left _ hy
    have:=Ju hm;omega
   have et:((l++[Bm]).map Bl).take l.length=l.map Bl:=by rw[ZI,List.take_append_of_le_length (by simp),List.take_of_length_le (by simp)]
   have etl:(((l++[Bm]).map Bl).take l.length).length=l.length:=by rw[et];simp
   have hrow:∀j,j<l.length→(((l++[Bm]).map Bl).take l.length)[j]? =some (Bl (l.getD j ⟨#[]⟩)):=fun j hj=>by
    rw[et,Ao hj,List.getD_eq_getElem?_getD,ZC hj];rfl
   have hsub2:IntKind.i64.wrap (((((l++[Bm]).map Bl).take l.length).length:Int)-2)=(l.length:Int)-2:=by rw[etl,Ed (by omega) (by omega)]
   have hsub1:IntKind.i64.wrap (((((l++[Bm]).map Bl).take l.length).length:Int)-1)=(l.length:Int)-1:=by rw[etl,Ed (by omega) (by omega)]
   have hmax:max (0:Int) ((l.length:Int)-2)=((l.length-2:Nat):Int):=by omega
   refine G0 ?_;refine⟨(l.length:Int),hsub,?_⟩;refine G0 ?_;refine⟨0,0,l.length,rfl,rfl,⟨_,rfl⟩,ZU _,by show l.length≤((l++[Bm]).map Bl).length;omega,rfl,rfl,fun g=>?_⟩;refine G1 ?_;intro gg;refine⟨(l.length:Int)-2,hsub2,?_⟩;refine G0 ?_;refine⟨[],none,{p:Nat×Option Nat//l.length-2≤p.1∧p.1≤l.length∧KD l p.1 p.2},[0,2,5,6],fun⟨⟨i,o⟩,hi⟩=>[(7,.v (.int .i64 (kI o))),(8,.v (.int .i64 i))],[32,96,288],fun⟨⟨i,o⟩,hi⟩=>[],fun⟨⟨i,o⟩,hi⟩=>l.length-i,trivial,
    fun gs=>⟨trivial,fun _=>⟨⟨(l.length-2,none),ZT _,Nat.sub_le _ _,fun j h1 h2=>by dsimp only at h1;omega⟩,⟨rfl,congrArg (fun x=>V.v (.int .i64 x)) hmax,trivial⟩,tI,tI,tI⟩⟩,fun⟨⟨i,o⟩,hi1,hi2,hkd⟩=>?_⟩
   refine G0 ?_;(refine Aa (fun h3=>?_) (fun h3=>?_)<;>rw[h3])
   ·have hlt:i<l.length:=by have:=ZV h3;simp only[etl]at this;omega
    refine G0 ?_;refine⟨i,_,rfl,hrow i hlt,?_⟩;refine G0 ?_;refine⟨_,hrow i hlt,?_⟩;refine G0 ?_;(refine Aa (fun h4=>?_) (fun h4=>?_)<;>rw[h4])
    ·have hw:isW (l.getD i ⟨#[]⟩)=true:=by unfold isW;rw[show((l.getD i ⟨#[]⟩).toList==Cd.toList)=true from h4];rfl
     refine G0 ?_;(exact⟨none,trivial,fun _=>⟨⟨(i+1,some i),by dsimp only;omega,by dsimp only;omega,Atk hkd (by dsimp only at hi1;omega) hw⟩,by show l.length-(i+1)<l.length-i;omega,tI,tI,tI,tI⟩⟩)
    ·refine G0 ?_;refine⟨i,_,rfl,hrow i hlt,?_⟩;refine G0 ?_;refine⟨_,hrow i hlt,?_⟩;refine G0 ?_;(refine Aa (fun h5=>?_) (fun h5=>?_)<;>rw[h5])
     ·have hw:isW (l.getD i ⟨#[]⟩)=true:=by unfold isW;rw[show((l.getD i ⟨#[]⟩).toList==Cd.toList)=false from h4];exact h5
      refine G0 ?_;(exact⟨none,trivial,fun _=>⟨⟨(i+1,some i),by dsimp only;omega,by dsimp only;omega,Atk hkd (by dsimp only at hi1;omega) hw⟩,by show l.length-(i+1)<l.length-i;omega,tI,tI,tI,tI⟩⟩)
     ·have hw:isW (l.getD i ⟨#[]⟩)=false:=by unfold isW;rw[show((l.getD i ⟨#[]⟩).toList==Cd.toList)=false from h4];exact h5
      refine G0 ?_;(exact⟨none,trivial,fun _=>⟨⟨(i+1,o),by dsimp only;omega,by dsimp only;omega,Bd0 hkd hw⟩,by show l.length-(i+1)<l.length-i;omega,tI,tI,tI,tI⟩⟩)
   ·have hge:¬i<l.length:=by have:=ZW h3;simp only[etl]at this;omega
    obtain rfl:i=l.length:=by dsimp only at hi2;omega
    have hkd:KD l l.length o:=hkd;refine G0 ?_;cases o with
    |none=>
     rw[Afd hl h1' (fun k hw _=>by have:=hkd k hw.lt hw.near;rw[hw.w]at this;cases this)];refine G0 ?_;exact Dj (A9 rfl) (A9 rfl) (.cell1 rfl rfl rfl rfl rfl rfl (.tmp1 rfl .nil))
    |some k=>
     have hwd:=Avi hkd;(refine Aa (fun h6=>?_) (fun h6=>?_)<;>rw[h6])
     ·have hk0:k<1:=by have:=ZV h6;simp only[kI]at this;omega
      rw[Afd hl h1' (fun k' hw' hk'=>by have:=hwd.uniq hw';omega)];refine G0 ?_;exact Dj (A9 rfl) (A9 rfl) (.cell1 rfl rfl rfl rfl rfl rfl (.tmp1 rfl .nil))
     ·have hk0:¬k<1:=by have:=ZW h6;simp only[kI]at this;omega
      refine G0 ?_;(refine Aa (fun h6b=>?_) (fun h6b=>?_)<;>rw[h6b])
      ·have hk2:2<k:=by have:=ZV h6b;simp only[kI]at this;omega
       rw[Afd hl h1' (fun k' hw' hk'=>by have:=hwd.uniq hw';omega)];refine G0 ?_;exact Dj (A9 rfl) (A9 rfl) (.cell1 rfl rfl rfl rfl rfl rfl (.tmp1 rfl .nil))
      ·have hk2:¬2<k:=by have:=ZW h6b;simp only[kI]at this;omega
       rcases(by omega:k=1∨k=2)with rfl|rfl
       ·skip
        have hkl:1<l.length:=hwd.lt;have hww:=Adl hwd.w;refine G0 ?_;refine⟨(l.length:Int)-1,hsub1,?_⟩;refine G0 ?_;(refine Aa (fun h7=>?_) (fun h7=>?_)<;>rw[h7])
        ·have hce:1+1<l.length:=by have:=ZV h7;simp only[kI]at this;omega
         refine G0 ?_;refine⟨2,by decide,?_⟩;refine G0 ?_;refine⟨2,_,rfl,hrow 2 hce,?_⟩;refine G0 ?_;refine⟨_,hrow 2 hce,?_⟩;rcases hww with hx|hx
         ·have hrk:(((l++[Bm]).map Bl).take l.length)[1]? =some (Bl Cd):=by rw[←hx];exact hrow 1 hkl
          refine G0 ?_;refine⟨1,_,rfl,hrk,?_⟩;refine G0 ?_;refine⟨_,hrk,?_⟩;refine G0 ?_;(refine Aa (fun t=>?_) (fun t=>?_)<;>rw[t];focus (exfalso;exact Q1 t));refine G0 ?_;refine⟨1,_,rfl,hrk,?_⟩;refine G0 ?_;refine⟨_,hrk,?_⟩;refine G0 ?_;(refine Aa (fun t=>?_) (fun t=>?_)<;>rw[t];rotate_left;focus (exfalso;exact Bool.noConfusion ((ZR.2 rfl).symm.trans t)));refine G0 ?_;refine⟨0,by decide,?_⟩;refine G0 ?_;refine⟨0,_,rfl,hrow 0 (by omega),?_⟩;refine G0 ?_;refine⟨_,hrow 0 (by omega),?_⟩;have e:q0 l 1=⟨l.getD 0 ⟨#[]⟩,⟨#[]⟩,⟨#[]⟩,l.getD 2 ⟨#[]⟩⟩:=by simp only[q0,hx,Eb,hce,if_true,if_false,true_and,and_true,false_and,and_false,reduceCtorEq,Nat.reduceEqDiff,Nat.reduceSub,Nat.reduceAdd]
          have hP:=Dw (q0 l 1) (Xg hsz' 1);rw[e]at hP;refine G0 ?_;refine .inl (cX hP ?_);rw[←e];refine G1 ?_;intro gg;(refine Aa (fun h8=>?_) (fun h8=>?_)<;>rw[h8])
          ·have h8':(Au (q0 l 1)).2≠0:=by simpa using h8
           rw[Ec hl h1' hwd (fun hq=>h8' (by rw[hq]))];refine G0 ?_;exact Dj (A9 rfl) (A9 rfl) (.cell1 rfl rfl rfl rfl rfl rfl (.tmp1 rfl .nil))
          ·have h8':(Au (q0 l 1)).2=0:=by simpa using h8
           refine G0 ?_;(refine Aa (fun h9=>?_) (fun h9=>?_)<;>rw[h9])
           ·have h9':(Au (q0 l 1)).1≠s:=fun e=>by rw[e]at h9;simp at h9
            rw[Ec hl h1' hwd (fun hq=>h9' (by rw[hq]))];refine G0 ?_;exact Dj (A9 rfl) (A9 rfl) (.cell1 rfl rfl rfl rfl rfl rfl (.tmp1 rfl .nil))
           ·have h9':(Au (q0 l 1)).1=s:=toList_inj (ZR.1 (Ci h9));rw[Dc (q:=q0 l 1) (Prod.ext h9' h8'),e];refine G0 ?_;exact Dj (A9 rfl) (A9 rfl) (.cell1 rfl rfl rfl rfl rfl rfl (.tmp1 rfl .nil))
         ·have hrk:(((l++[Bm]).map Bl).take l.length)[1]? =some (Bl C7):=by rw[←hx];exact hrow 1 hkl
          refine G0 ?_;refine⟨1,_,rfl,hrk,?_⟩;refine G0 ?_;refine⟨_,hrk,?_⟩;refine G0 ?_;(refine Aa (fun t=>?_) (fun t=>?_)<;>rw[t];rotate_left;focus (exfalso;exact Bool.noConfusion ((ZR.2 rfl).symm.trans t)));refine G0 ?_;refine⟨0,_,rfl,hrow 0 (by omega),?_⟩;refine G0 ?_;refine⟨_,hrow 0 (by omega),?_⟩;have e:q0 l 1=⟨⟨#[]⟩,⟨#[]⟩,l.getD 0 ⟨#[]⟩,l.getD 2 ⟨#[]⟩⟩:=by simp only[q0,hx,Eb.symm,hce,if_true,if_false,true_and,and_true,false_and,and_false,reduceCtorEq,Nat.reduceEqDiff,Nat.reduceSub,Nat.reduceAdd]
          have hP:=Dw (q0 l 1) (Xg hsz' 1);rw[e]at hP;refine G0 ?_;refine .inl (cX hP ?_);rw[←e];refine G1 ?_;intro gg;(refine Aa (fun h8=>?_) (fun h8=>?_)<;>rw[h8])
          ·have h8':(Au (q0 l 1)).2≠0:=by simpa using h8
           rw[Ec hl h1' hwd (fun hq=>h8' (by rw[hq]))];refine G0 ?_;exact Dj (A9 rfl) (A9 rfl) (.cell1 rfl rfl rfl rfl rfl rfl (.tmp1 rfl .nil))
          ·have h8':(Au (q0 l 1)).2=0:=by simpa using h8
           refine G0 ?_;(refine Aa (fun h9=>?_) (fun h9=>?_)<;>rw[h9])
           ·have h9':(Au (q0 l 1)).1≠s:=fun e=>by rw[e]at h9;simp at h9
            rw[Ec hl h1' hwd (fun hq=>h9' (by rw[hq]))];refine G0 ?_;exact Dj (A9 rfl) (A9 rfl) (.cell1 rfl rfl rfl rfl rfl rfl (.tmp1 rfl .nil))
           ·have h9':(Au (q0 l 1)).1=s:=toList_inj (ZR.1 (Ci h9));rw[Dc (q:=q0 l 1) (Prod.ext h9' h8'),e];refine G0 ?_;exact Dj (A9 rfl) (A9 rfl) (.cell1 rfl rfl rfl rfl rfl rfl (.tmp1 rfl .nil))
        ·have hce:¬1+1<l.length:=by have:=ZW h7;simp only[kI]at this;omega
         rcases hww with hx|hx
         ·have hrk:(((l++[Bm]).map Bl).take l.length)[1]? =some (Bl Cd):=by rw[←hx];exact hrow 1 hkl
          refine G0 ?_;refine⟨1,_,rfl,hrk,?_⟩;refine G0 ?_;refine⟨_,hrk,?_⟩;refine G0 ?_;(refine Aa (fun t=>?_) (fun t=>?_)<;>rw[t];focus (exfalso;exact Q1 t));refine G0 ?_;refine⟨1,_,rfl,hrk,?_⟩;refine G0 ?_;refine⟨_,hrk,?_⟩;refine G0 ?_;(refine Aa (fun t=>?_) (fun t=>?_)<;>rw[t];rotate_left;focus (exfalso;exact Bool.noConfusion ((ZR.2 rfl).symm.trans t)));refine G0 ?_;refine⟨0,by decide,?_⟩;refine G0 ?_;refine⟨0,_,rfl,hrow 0 (by omega),?_⟩;refine G0 ?_;refine⟨_,hrow 0 (by omega),?_⟩;have e:q0 l 1=⟨l.getD 0 ⟨#[]⟩,⟨#[]⟩,⟨#[]⟩,⟨#[]⟩⟩:=by simp only[q0,hx,Eb,hce,if_true,if_false,true_and,and_true,false_and,and_false,reduceCtorEq,Nat.reduceEqDiff,Nat.reduceSub,Nat.reduceAdd]
          have hP:=Dw (q0 l 1) (Xg hsz' 1);rw[e]at hP;refine G0 ?_;refine .inl (cX hP ?_);rw[←e];refine G1 ?_;intro gg;(refine Aa (fun h8=>?_) (fun h8=>?_)<;>rw[h8])
          ·have h8':(Au (q0 l 1)).2≠0:=by simpa using h8
           rw[Ec hl h1' hwd (fun hq=>h8' (by rw[hq]))];refine G0 ?_;exact Dj (A9 rfl) (A9 rfl) (.cell1 rfl rfl rfl rfl rfl rfl (.tmp1 rfl .nil))
          ·have h8':(Au (q0 l 1)).2=0:=by simpa using h8
           refine G0 ?_;(refine Aa (fun h9=>?_) (fun h9=>?_)<;>rw[h9])
           ·have h9':(Au (q0 l 1)).1≠s:=fun e=>by rw[e]at h9;simp at h9
            rw[Ec hl h1' hwd (fun hq=>h9' (by rw[hq]))];refine G0 ?_;exact Dj (A9 rfl) (A9 rfl) (.cell1 rfl rfl rfl rfl rfl rfl (.tmp1 rfl .nil))
           ·have h9':(Au (q0 l 1)).1=s:=toList_inj (ZR.1 (Ci h9));rw[Dc (q:=q0 l 1) (Prod.ext h9' h8'),e];refine G0 ?_;exact Dj (A9 rfl) (A9 rfl) (.cell1 rfl rfl rfl rfl rfl rfl (.tmp1 rfl .nil))
         ·have hrk:(((l++[Bm]).map Bl).take l.length)[1]? =some (Bl C7):=by rw[←hx];exact hrow 1 hkl
          refine G0 ?_;refine⟨1,_,rfl,hrk,?_⟩;refine G0 ?_;refine⟨_,hrk,?_⟩;refine G0 ?_;(refine Aa (fun t=>?_) (fun t=>?_)<;>rw[t];rotate_left;focus (exfalso;exact Bool.noConfusion ((ZR.2 rfl).symm.trans t)));refine G0 ?_;refine⟨0,_,rfl,hrow 0 (by omega),?_⟩;refine G0 ?_;refine⟨_,hrow 0 (by omega),?_⟩;have e:q0 l 1=⟨⟨#[]⟩,⟨#[]⟩,l.getD 0 ⟨#[]⟩,⟨#[]⟩⟩:=by simp only[q0,hx,Eb.symm,hce,if_true,if_false,true_and,and_true,false_and,and_false,reduceCtorEq,Nat.reduceEqDiff,Nat.reduceSub,Nat.reduceAdd]
          have hP:=Dw (q0 l 1) (Xg hsz' 1);rw[e]at hP;refine G0 ?_;refine .inl (cX hP ?_);rw[←e];refine G1 ?_;intro gg;(refine Aa (fun h8=>?_) (fun h8=>?_)<;>rw[h8])
          ·have h8':(Au (q0 l 1)).2≠0:=by simpa using h8
           rw[Ec hl h1' hwd (fun hq=>h8' (by rw[hq]))];refine G0 ?_;exact Dj (A9 rfl) (A9 rfl) (.cell1 rfl rfl rfl rfl rfl rfl (.tmp1 rfl .nil))
          ·have h8':(Au (q0 l 1)).2=0:=by simpa using h8
           refine G0 ?_;(refine Aa (fun h9=>?_) (fun h9=>?_)<;>rw[h9])
           ·have h9':(Au (q0 l 1)).1≠s:=fun e=>by rw[e]at h9;simp at h9
            rw[Ec hl h1' hwd (fun hq=>h9' (by rw[hq]))];refine G0 ?_;exact Dj (A9 rfl) (A9 rfl) (.cell1 rfl rfl rfl rfl rfl rfl (.tmp1 rfl .nil))
           ·have h9':(Au (q0 l 1)).1=s:=toList_inj (ZR.1 (Ci h9));rw[Dc (q:=q0 l 1) (Prod.ext h9' h8'),e];refine G0 ?_;exact Dj (A9 rfl) (A9 rfl) (.cell1 rfl rfl rfl rfl rfl rfl (.tmp1 rfl .nil))
       ·skip
        have hkl:2<l.length:=hwd.lt;have hww:=Adl hwd.w;refine G0 ?_;refine⟨(l.length:Int)-1,hsub1,?_⟩;refine G0 ?_;(refine Aa (fun h7=>?_) (fun h7=>?_)<;>rw[h7])
        ·have hce:2+1<l.length:=by have:=ZV h7;simp only[kI]at this;omega
         refine G0 ?_;refine⟨3,by decide,?_⟩;refine G0 ?_;refine⟨3,_,rfl,hrow 3 hce,?_⟩;refine G0 ?_;refine⟨_,hrow 3 hce,?_⟩;rcases hww with hx|hx
         ·have hrk:(((l++[Bm]).map Bl).take l.length)[2]? =some (Bl Cd):=by rw[←hx];exact hrow 2 hkl
          refine G0 ?_;refine⟨2,_,rfl,hrk,?_⟩;refine G0 ?_;refine⟨_,hrk,?_⟩;refine G0 ?_;(refine Aa (fun t=>?_) (fun t=>?_)<;>rw[t];focus (exfalso;exact Q1 t));refine G0 ?_;refine⟨2,_,rfl,hrk,?_⟩;refine G0 ?_;refine⟨_,hrk,?_⟩;refine G0 ?_;(refine Aa (fun t=>?_) (fun t=>?_)<;>rw[t];rotate_left;focus (exfalso;exact Bool.noConfusion ((ZR.2 rfl).symm.trans t)));refine G0 ?_;refine⟨1,by decide,?_⟩;refine G0 ?_;refine⟨1,_,rfl,hrow 1 (by omega),?_⟩;refine G0 ?_;refine⟨_,hrow 1 (by omega),?_⟩;refine G0 ?_;refine⟨0,_,rfl,hrow 0 (by omega),?_⟩;refine G0 ?_;refine⟨_,hrow 0 (by omega),?_⟩;have e:q0 l 2=⟨l.getD 1 ⟨#[]⟩,l.getD 0 ⟨#[]⟩,⟨#[]⟩,l.getD 3 ⟨#[]⟩⟩:=by simp only[q0,hx,Eb,hce,if_true,if_false,true_and,and_true,false_and,and_false,reduceCtorEq,Nat.reduceEqDiff,Nat.reduceSub,Nat.reduceAdd]
          have hP:=Dw (q0 l 2) (Xg hsz' 2);rw[e]at hP;refine G0 ?_;refine .inl (cX hP ?_);rw[←e];refine G1 ?_;intro gg;(refine Aa (fun h8=>?_) (fun h8=>?_)<;>rw[h8])
          ·have h8':(Au (q0 l 2)).2≠0:=by simpa using h8
           rw[Ec hl h1' hwd (fun hq=>h8' (by rw[hq]))];refine G0 ?_;exact Dj (A9 rfl) (A9 rfl) (.cell1 rfl rfl rfl rfl rfl rfl (.tmp1 rfl .nil))
          ·have h8':(Au (q0 l 2)).2=0:=by simpa using h8
           refine G0 ?_;(refine Aa (fun h9=>?_) (fun h9=>?_)<;>rw[h9])
           ·have h9':(Au (q0 l 2)).1≠s:=fun e=>by rw[e]at h9;simp at h9
            rw[Ec hl h1' hwd (fun hq=>h9' (by rw[hq]))];refine G0 ?_;exact Dj (A9 rfl) (A9 rfl) (.cell1 rfl rfl rfl rfl rfl rfl (.tmp1 rfl .nil))
           ·have h9':(Au (q0 l 2)).1=s:=toList_inj (ZR.1 (Ci h9));rw[Dc (q:=q0 l 2) (Prod.ext h9' h8'),e];refine G0 ?_;exact Dj (A9 rfl) (A9 rfl) (.cell1 rfl rfl rfl rfl rfl rfl (.tmp1 rfl .nil))
         ·have hrk:(((l++[Bm]).map Bl).take l.length)[2]? =some (Bl C7):=by rw[←hx];exact hrow 2 hkl
          refine G0 ?_;refine⟨2,_,rfl,hrk,?_⟩;refine G0 ?_;refine⟨_,hrk,?_⟩;refine G0 ?_;(refine Aa (fun t=>?_) (fun t=>?_)<;>rw[t];rotate_left;focus (exfalso;exact Bool.noConfusion ((ZR.2 rfl).symm.trans t)));refine G0 ?_;refine⟨2,_,rfl,hrk,?_⟩;refine G0 ?_;refine⟨_,hrk,?_⟩;refine G0 ?_;(refine Aa (fun t=>?_) (fun t=>?_)<;>rw[t];focus (exfalso;exact Adg t));have e:q0 l 2=⟨⟨#[]⟩,⟨#[]⟩,⟨#[]⟩,l.getD 3 ⟨#[]⟩⟩:=by simp only[q0,hx,Eb.symm,hce,if_true,if_false,true_and,and_true,false_and,and_false,reduceCtorEq,Nat.reduceEqDiff,Nat.reduceSub,Nat.reduceAdd]
          have hP:=Dw (q0 l 2) (Xg hsz' 2);rw[e]at hP;refine G0 ?_;refine .inl (cX hP ?_);rw[←e];refine G1 ?_;intro gg;(refine Aa (fun h8=>?_) (fun h8=>?_)<;>rw[h8])
          ·have h8':(Au (q0 l 2)).2≠0:=by simpa using h8
           rw[Ec hl h1' hwd (fun hq=>h8' (by rw[hq]))];refine G0 ?_;exact Dj (A9 rfl) (A9 rfl) (.cell1 rfl rfl rfl rfl rfl rfl (.tmp1 rfl .nil))
          ·have h8':(Au (q0 l 2)).2=0:=by simpa using h8
           refine G0 ?_;(refine Aa (fun h9=>?_) (fun h9=>?_)<;>rw[h9])
           ·have h9':(Au (q0 l 2)).1≠s:=fun e=>by rw[e]at h9;simp at h9
            rw[Ec hl h1' hwd (fun hq=>h9' (by rw[hq]))];refine G0 ?_;exact Dj (A9 rfl) (A9 rfl) (.cell1 rfl rfl rfl rfl rfl rfl (.tmp1 rfl .nil))
           ·have h9':(Au (q0 l 2)).1=s:=toList_inj (ZR.1 (Ci h9));rw[Dc (q:=q0 l 2) (Prod.ext h9' h8'),e];refine G0 ?_;exact Dj (A9 rfl) (A9 rfl) (.cell1 rfl rfl rfl rfl rfl rfl (.tmp1 rfl .nil))
        ·have hce:¬2+1<l.length:=by have:=ZW h7;simp only[kI]at this;omega
         rcases hww with hx|hx
         ·have hrk:(((l++[Bm]).map Bl).take l.length)[2]? =some (Bl Cd):=by rw[←hx];exact hrow 2 hkl
          refine G0 ?_;refine⟨2,_,rfl,hrk,?_⟩;refine G0 ?_;refine⟨_,hrk,?_⟩;refine G0 ?_;(refine Aa (fun t=>?_) (fun t=>?_)<;>rw[t];focus (exfalso;exact Q1 t));refine G0 ?_;refine⟨2,_,rfl,hrk,?_⟩;refine G0 ?_;refine⟨_,hrk,?_⟩;refine G0 ?_;(refine Aa (fun t=>?_) (fun t=>?_)<;>rw[t];rotate_left;focus (exfalso;exact Bool.noConfusion ((ZR.2 rfl).symm.trans t)));refine G0 ?_;refine⟨1,by decide,?_⟩;refine G0 ?_;refine⟨1,_,rfl,hrow 1 (by omega),?_⟩;refine G0 ?_;refine⟨_,hrow 1 (by omega),?_⟩;refine G0 ?_;refine⟨0,_,rfl,hrow 0 (by omega),?_⟩;refine G0 ?_;refine⟨_,hrow 0 (by omega),?_⟩;have e:q0 l 2=⟨l.getD 1 ⟨#[]⟩,l.getD 0 ⟨#[]⟩,⟨#[]⟩,⟨#[]⟩⟩:=by simp only[q0,hx,Eb,hce,if_true,if_false,true_and,and_true,false_and,and_false,reduceCtorEq,Nat.reduceEqDiff,Nat.reduceSub,Nat.reduceAdd]
          have hP:=Dw (q0 l 2) (Xg hsz' 2);rw[e]at hP;refine G0 ?_;refine .inl (cX hP ?_);rw[←e];refine G1 ?_;intro gg;(refine Aa (fun h8=>?_) (fun h8=>?_)<;>rw[h8])
          ·have h8':(Au (q0 l 2)).2≠0:=by simpa using h8
           rw[Ec hl h1' hwd (fun hq=>h8' (by rw[hq]))];refine G0 ?_;exact Dj (A9 rfl) (A9 rfl) (.cell1 rfl rfl rfl rfl rfl rfl (.tmp1 rfl .nil))
          ·have h8':(Au (q0 l 2)).2=0:=by simpa using h8
           refine G0 ?_;(refine Aa (fun h9=>?_) (fun h9=>?_)<;>rw[h9])
           ·have h9':(Au (q0 l 2)).1≠s:=fun e=>by rw[e]at h9;simp at h9
            rw[Ec hl h1' hwd (fun hq=>h9' (by rw[hq]))];refine G0 ?_;exact Dj (A9 rfl) (A9 rfl) (.cell1 rfl rfl rfl rfl rfl rfl (.tmp1 rfl .nil))
           ·have h9':(Au (q0 l 2)).1=s:=toList_inj (ZR.1 (Ci h9));rw[Dc (q:=q0 l 2) (Prod.ext h9' h8'),e];refine G0 ?_;exact Dj (A9 rfl) (A9 rfl) (.cell1 rfl rfl rfl rfl rfl rfl (.tmp1 rfl .nil))
         ·have hrk:(((l++[Bm]).map Bl).take l.length)[2]? =some (Bl C7):=by rw[←hx];exact hrow 2 hkl
          refine G0 ?_;refine⟨2,_,rfl,hrk,?_⟩;refine G0 ?_;refine⟨_,hrk,?_⟩;refine G0 ?_;(refine Aa (fun t=>?_) (fun t=>?_)<;>rw[t];rotate_left;focus (exfalso;exact Bool.noConfusion ((ZR.2 rfl).symm.trans t)));refine G0 ?_;refine⟨2,_,rfl,hrk,?_⟩;refine G0 ?_;refine⟨_,hrk,?_⟩;refine G0 ?_;(refine Aa (fun t=>?_) (fun t=>?_)<;>rw[t];focus (exfalso;exact Adg t));have e:q0 l 2=⟨⟨#[]⟩,⟨#[]⟩,⟨#[]⟩,⟨#[]⟩⟩:=by simp only[q0,hx,Eb.symm,hce,if_true,if_false,true_and,and_true,false_and,and_false,reduceCtorEq,Nat.reduceEqDiff,Nat.reduceSub,Nat.reduceAdd]
          have hP:=Dw (q0 l 2) (Xg hsz' 2);rw[e]at hP;refine G0 ?_;refine .inl (cX hP ?_);rw[←e];refine G1 ?_;intro gg;(refine Aa (fun h8=>?_) (fun h8=>?_)<;>rw[h8])
          ·have h8':(Au (q0 l 2)).2≠0:=by simpa using h8
           rw[Ec hl h1' hwd (fun hq=>h8' (by rw[hq]))];refine G0 ?_;exact Dj (A9 rfl) (A9 rfl) (.cell1 rfl rfl rfl rfl rfl rfl (.tmp1 rfl .nil))
          ·have h8':(Au (q0 l 2)).2=0:=by simpa using h8
           refine G0 ?_;(refine Aa (fun h9=>?_) (fun h9=>?_)<;>rw[h9])
           ·have h9':(Au (q0 l 2)).1≠s:=fun e=>by rw[e]at h9;simp at h9
            rw[Ec hl h1' hwd (fun hq=>h9' (by rw[hq]))];refine G0 ?_;exact Dj (A9 rfl) (A9 rfl) (.cell1 rfl rfl rfl rfl rfl rfl (.tmp1 rfl .nil))
           ·have h9':(Au (q0 l 2)).1=s:=toList_inj (ZR.1 (Ci h9));rw[Dc (q:=q0 l 2) (Prod.ext h9' h8'),e];refine G0 ?_;exact Dj (A9 rfl) (A9 rfl) (.cell1 rfl rfl rfl rfl rfl rfl (.tmp1 rfl .nil))
open Go
def Al4(T:TypeId)(b:Nat)(v:Value)(bs:List Value)(w:World):Prop:=
 (∃p,(p=.pointer none∨p=.pointer (some ⟨b,0,none⟩))∧w.heap[b]? =some (.cells #[p,v] T (0,0)))∧w.ownsRow 0 5 1 v bs.length bs∧v.ownBlock≠some b
theorem heap_set{b:Nat}{w:World}{cs:Array Value}{T:TypeId}{fr:Nat×Nat}(hb:w.heap[b]? =some (.cells cs T fr))(i:Nat)(x:Value):(w.setCell ⟨b,i,none⟩ x).heap[b]? =some (.cells (cs.setIfInBounds i x) T fr):=by
 have hlt:b<w.heap.size:=(XL.1 hb).1;simp[World.setCell,Array.getElem?_modify,hb]
theorem Z0{b k:Nat}{w:World}(hk:k≠b)(i:Nat)(x:Value):(w.setCell ⟨b,i,none⟩ x).heap[k]? =w.heap[k]? :=by
 have:b≠k:=fun e=>hk e.symm;simp[World.setCell,Array.getElem?_modify,this]
theorem At6(b i:Nat)(x:Value)(w:World):w.grownBy (w.setCell ⟨b,i,none⟩ x) (some b):=⟨rfl,rfl,rfl,by simp,fun k hk hn=>Z0 (fun e=>hn (by rw[e])) i x⟩
theorem Ar4{b:Nat}{w:World}{L:Nat→Prop}(hL:L b)(i:Nat)(x:Value):Fr L w (w.setCell ⟨b,i,none⟩ x):=
 ⟨rfl,rfl,rfl,by simp,fun k hk hn=>Z0 (fun e=>hn (by rw[e];exact hL)) i x⟩
set_option maxHeartbeats 1000000 in
set_option maxRecDepth 100000 in
theorem Rg(T:TypeId)(hT:liesAt Tryz.prog Tryz.prog.depth T (2/Tryz.prog.cellsOf T) 0 201 1=true)(b:Nat)(v:Value)(bs:List Value)(w:World)(h:Al4 T b v bs w):
  Calls Tryz.prog 248 #[.pointer (some ⟨b,0,none⟩)] w fun e w'=>e=.returned (.tuple #[])∧w'.heap[b]? =some (.cells #[.pointer (some ⟨b,0,none⟩),v] T (0,0))∧w'.ownsRow 0 5 1 v bs.length bs∧Fr (fun k=>k=b) w w':=by
 obtain⟨⟨p,hp,hbk⟩,hown,hne⟩:=h;obtain⟨j,hj,hjs⟩:=Option.map_eq_some_iff.1 (show(Tryz.prog.info? 201).map (·.size)=some 2 by kernel_rfl);have h0:w.cell? ⟨b,0,none⟩=some p:=by rw[Lib.cell_of_heap hbk];rfl
 have hsh:w.shape? b=some (T,2):=by simp[World.shape?,hbk]
 have hfz:w.frozen? ⟨b,0,none⟩=false:=Lib.frozen_of_heap hbk 0;rcases hp with rfl|rfl
 ·go_enter Tryz.func248,Tryz.ntmps248
  go_wp2
  rw[Lib.run_to_unsafe w ⟨b,0,none⟩ Tryz.underlying199 Tryz.underlying302 hj (by rw[hjs];decide) hsh (Nat.zero_lt_succ 1)];simp only[Result.andThen];rw[Oper.upon_value]
  go_wp2
  rw[run_callFunc_extern Tryz.func267 (by kernel_rfl) (by kernel_rfl) (by kernel_rfl) (e:=Extern.AbiNoEscape.same) (by kernel_rfl)];rw[Lib.run_noEscape];simp only[Result.andThen];rw[Oper.upon_value]
  go_wp2
  rw[Lib.run_from_unsafe w ⟨b,0,none⟩ Tryz.underlying302 Tryz.underlying199 hj hsh hT];simp only[Result.andThen];rw[Oper.upon_value]
  go_wp2
  go_end0
  refine⟨rfl,?_,?_,Ar4 (L:=fun k=>k=b) rfl _ _⟩
  ·rw[heap_set hbk];rfl
  ·exact hown.kept (At6 _ _ _ _) (.inr hne)
 ·go_enter Tryz.func248,Tryz.ntmps248
  go_wp2
  rw[Lib.run_neq_ptr_same w _ Tryz.underlying199 hj]
  go_wp2
  go_end0
  exact⟨rfl,hbk,hown,Fr.refl _ _⟩
theorem Aok:(Tryz.prog.info? 5).map (fun i=>(i.zero,i.size,i.bytes))=some (some (.int .u8 0),1,1):=by kernel_rfl
theorem Tm{L L':Nat→Prop}{w w':World}(h:Fr L w w')(hL:∀k,L k→L' k):Fr L' w w':=
 ⟨h.os,h.tape,h.output,h.size,fun k hk hn=>h.block k hk fun q=>hn (hL k q)⟩
theorem At5(L:Nat→Prop)(w:World)(o:Obj):Fr L w (w.alloc o):=⟨rfl,rfl,rfl,by simp,fun k hk _=>Lib.alloc_old w o k hk⟩
theorem Ai1{L:Nat→Prop}{w w':World}{row:Option Nat}(hg:w.grownBy w' row)(hr:∀k,row=some k→L k):Fr L w w':=
 ⟨hg.os,hg.tape,hg.output,hg.size,fun k hk hn=>hg.block k hk fun e=>hn (hr k e.symm)⟩
def Af0(T:TypeId)(b:Nat)(v:Value)(bs:List Value)(w w':World):Prop:=
 ∃v',Al4 T b v' bs w'∧Fr (fun k=>k=b∨v.ownBlock=some k) w w'∧∀k,v'.ownBlock=some k→v.ownBlock=some k∨w.heap.size≤k
theorem Ajt{P:Program}{w:World}{ops:Array Oper}{Bk:List Oper}{o:Oper}{a:Act}{Q:Exit→Act→World→Prop}(hgd:o.guard=none)(s x:Operand)(t:TypeId)(ho:o.op=.call {callee:=.builtin .append,args:= #[s,x],argTypes:= #[t,t]})(e:TypeId)(i:TypeInfo)(z:Value)(ht:P.underlying t=some (.slice e))(hi:P.info? e=some i)(hz:i.zero=some z)(hzs:z.cells.size=i.size)(hsz:0<i.size)(v:Value)(n:Nat)(xs:List Value)(hs:a.eval s=v)(hown:w.ownsRow 0 e i.size v n xs)(ad:Addr)(m c:Nat)(news:List Value)(hx:a.eval x=.slice (some ad) m c)(hl:news.length=m*i.size)(hnews:∀j u,news[j]? =some u→w.cell? (ad.add j)=some u)(h1:∀u∈news,u.oneCell'=true)(h63:n+m≤maxLen)(hbytes:(n+m)*i.bytes≤140737488355328)(h:∀v' w',w'.ownsRow 0 e i.size v' (n+m) (xs++news)→w.grownBy w' v.ownBlock→(v'.ownBlock=v.ownBlock∨v'.ownBlock=some w.heap.size)→wpList P ops Q Bk (a.put o.dst v') w'):wpList P ops Q (o::Bk) a w:=by
 refine wpList_plain hgd fun K hK=>?_;obtain⟨v',w',hr,h2,h3,_,h5⟩:=run_append_own_at (P:=P) w 0 t o.type e i z i.size i.bytes ht hi hz rfl rfl hzs hsz v n xs hown ad m c news hl hnews h1 h63 hbytes (ZU _);unfold Oper.wp execOp;simp only[ho,resolve,invoke,builtin,Sem.run_bind,Sem.run_pure,Result.andThen_ok,List.map_toArray,List.map_cons,List.map_nil,hs,hx,hr];exact hK _ _ (h v' w' h2 h3 h5)
theorem Ah9{P:Program}{w:World}{t u ty e:TypeId}{i:TypeInfo}(ht:P.underlying t=some (.slice e))(hu:P.underlying u=some .string)(hi:P.info? e=some i)(hz:i.zero=some (.int .u8 0))(hsize:i.size=1)(hby:i.bytes=1){v:Value}{n:Nat}{xs:List Value}(hown:w.ownsRow 0 e 1 v n xs)(s:ByteArray)(h63:n+s.size≤maxLen)(hbytes:n+s.size≤140737488355328){v':Value}{w':World}(hr:(Builtin.append_ #[t,u] ty #[v,.string s]).run P w=.ok v' w'):(v'.ownBlock=v.ownBlock∨v'.ownBlock=some w.heap.size):=by
 have hsmall:n+s.size≤9223372036854775807:=by simp only[maxLen]at h63;omega
 have hxl:xs.length=n:=by simpa using hown.1
 rcases hown.2 with⟨rfl,rfl⟩|⟨g,cap,cur,rfl,hbg,hg,hnc,hcm,hcs,htake⟩
 ·by_cases hm:s.size=0
  ·have h:(Builtin.append_ #[t,u] ty #[.slice none 0 0,.string s]).run P w=.ok (.slice none 0 0) w:=by
    have hf:=Lib.run_firstCells_string (P:=P) w 1 s;rw[hm]at hf;simp[Builtin.append_,run_underlying ht,run_underlying hu,sizeOf,typeInfo,hi,hsize,Builtin.lenOf,hm,hf]
   rw[h]at hr;injection hr with h1 h2
   subst h1 h2;exact .inl rfl
  ·have h:=run_append_nil_string (P:=P) w t u ty e i (.int .u8 0) ht hu hi hz s (by omega) (by omega) (by rw[hby];omega);rw[h]at hr;injection hr with h1 h2
   subst h1 h2;exact .inr rfl
 ·by_cases hroom:n+s.size≤cap
  ·have hcs':cur.size=cap:=by simpa using hcs
   have h:=Lib.run_append_room_string (P:=P) w t u ty e i ht hu hi hsize g n cap cur hg s hroom (by omega);rw[h]at hr;injection hr with h1 h2
   subst h1 h2;exact .inl rfl
  ·have holds:∀j u,xs[j]? =some u→w.cell? ((⟨g,0,none⟩:Addr).add j)=some u:=hown.cells (g:=g) rfl;have h:=Lib.run_append_grow_string (P:=P) w t u ty e i (.int .u8 0) ht hu hi hz ⟨g,0,none⟩ n cap xs (by rw[hsize];simpa using hxl) holds s (by omega) (by omega) (by rw[hby];exact growslice_fits (by omega) (by omega));rw[h]at hr;injection hr with h1 h2
   subst h1 h2;exact .inr rfl
theorem Z5{P:Program}{w:World}{ops:Array Oper}{Bk:List Oper}{o:Oper}{a:Act}{Q:Exit→Act→World→Prop}(hgd:o.guard=none)(sl x:Operand)(t u:TypeId)(ho:o.op=.call {callee:=.builtin .append,args:= #[sl,x],argTypes:= #[t,u]})(e:TypeId)(i:TypeInfo)(ht:P.underlying t=some (.slice e))(hu:P.underlying u=some .string)(hi:P.info? e=some i)(hz:i.zero=some (.int .u8 0))(hsize:i.size=1)(hby:i.bytes=1)(v:Value)(n:Nat)(xs:List Value)(hs:a.eval sl=v)(hown:w.ownsRow 0 e 1 v n xs)(s:ByteArray)(hx:a.eval x=.string s)(h63:n+s.size≤maxLen)(hbytes:n+s.size≤140737488355328)(h:∀v' w',w'.ownsRow 0 e 1 v' (n+s.size) (xs++Lib.strCells s)→w.grownBy w' v.ownBlock→(v'.ownBlock=v.ownBlock∨v'.ownBlock=some w.heap.size)→wpList P ops Q Bk (a.put o.dst v') w'):wpList P ops Q (o::Bk) a w:=by
 refine wpList_plain hgd fun K hK=>?_;obtain⟨v',w',hr,h2,h3,_⟩:=Lib.run_append_own_string (P:=P) w 0 t u o.type e i ht hu hi hz hsize hby v n xs hown s h63 hbytes (ZU _);have hb:=Ah9 ht hu hi hz hsize hby hown s h63 hbytes hr;unfold Oper.wp execOp;simp only[ho,resolve,invoke,builtin,Sem.run_bind,Sem.run_pure,Result.andThen_ok,List.map_toArray,List.map_cons,List.map_nil,hs,hx,hr];exact hK _ _ (h v' w' h2 h3 hb)
theorem Azm{w:World}{e T:TypeId}{v:Value}{n:Nat}{xs:List Value}{b:Nat}{cs:Array Value}{fr:Nat×Nat}(hown:w.ownsRow 0 e 1 v n xs)(hb:w.heap[b]? =some (.cells cs T fr))(hTe:T≠e):v.ownBlock≠some b:=fun q=>by
 rcases hown.2 with⟨rfl,_⟩|⟨g,cap,cur,rfl,_,hg,_⟩
 ·cases q
 ·have:g=b:=by simpa[Value.ownBlock]using q
  subst this;rw[hb]at hg;injection hg with hg
  injection hg with _ hg _;exact hTe hg
theorem Amy{T:TypeId}(hTe:T≠5){b:Nat}{v v':Value}{bs bs':List Value}{w w1 w2:World}(hbk:w1.heap[b]? =some (.cells #[.pointer (some ⟨b,0,none⟩),v] T (0,0)))(hown':w2.ownsRow 0 5 1 v' bs'.length bs')(hb2:w2.heap[b]? =some (.cells #[.pointer (some ⟨b,0,none⟩),v] T (0,0)))(hfr:Fr (fun k=>k=b) w w1)(hfr2:Fr (fun k=>k=b∨v.ownBlock=some k) w1 w2)(hbl:∀k,v'.ownBlock=some k→v.ownBlock=some k∨w.heap.size≤k):
  Af0 T b v bs' w (w2.setCell ⟨b,1,none⟩ v'):=by
 have hne:=Azm hown' hb2 hTe;refine⟨v',⟨⟨_,.inr rfl,by rw[heap_set hb2];rfl⟩,hown'.kept (At6 _ _ _ _) (.inr hne),hne⟩,?_,hbl⟩;exact(Tm hfr fun k q=>.inl q).trans (hfr2.trans (Ar4 (.inl rfl) _ _))
set_option maxHeartbeats 2000000 in
set_option maxRecDepth 100000 in
theorem Ac8(T:TypeId)(hT:liesAt Tryz.prog Tryz.prog.depth T (2/Tryz.prog.cellsOf T) 0 201 1=true)(hTe:T≠5)(b:Nat)(v:Value)(bs:List Value)(c:Int)(w:World)(h:Al4 T b v bs w)(hlen:bs.length+1≤140737488355328):
  Calls Tryz.prog 206 #[.pointer (some ⟨b,0,none⟩),.int .u8 c] w fun e w'=>e=.returned .nilIface∧Af0 T b v (bs++[.int .u8 c]) w w':=by
 obtain⟨i0,hi,hz0,hz1,hz2⟩:=info_parts Aok;have hne:=h.2.2
 go_enter Tryz.func206,Tryz.ntmps206
 go_wp2_with (go_at_call 248;refine(Rg T hT b v bs _ h).mono ?_)
 rintro e w1 ⟨rfl,hbk,hown,hfr⟩
 have c0:w1.cell? ⟨b,0,none⟩=some (.pointer (some ⟨b,0,none⟩)):=by rw[Lib.cell_of_heap hbk];rfl
 have c1:w1.cell? ⟨b,1,none⟩=some v:=by rw[Lib.cell_of_heap hbk];rfl
 have hownA:(w1.alloc (.cells #[.int .u8 c] 5)).ownsRow 0 5 i0.size v bs.length bs:=by rw[hz1];exact hown.alloc _
 go_wp2_with (at_builtin;refine Ajt rfl _ _ 173 rfl 5 i0 (.int .u8 0) Tryz.underlying173 hi hz0 (by rw[hz1];rfl) (by omega) _ _ _ rfl hownA ⟨w1.heap.size,0,none⟩ 1 1 [.int .u8 c] rfl (by rw[hz1];rfl) ?c1 ?c2 ?c3 ?c4 ?_)
 case c1=>
  intro j u hj
  match j,hj with
  |0,hj=>simp at hj;subst hj;simp[Addr.add]
 case c2=>intro u hu;simp at hu;subst hu;rfl
 case c3=>unfold maxLen;omega
 case c4=>rw[hz2];omega
 intro v' w2 hown' hgrow hblk;have hlt:b<w1.heap.size:=(XL.1 hbk).1;have hb2:w2.heap[b]? =some (.cells #[.pointer (some ⟨b,0,none⟩),v] T (0,0)):=by
  rw[hgrow.block b (by simp;omega) (fun e=>hne e.symm),Lib.alloc_old w1 _ b hlt];exact hbk
 have d0:w2.cell? ⟨b,0,none⟩=some (.pointer (some ⟨b,0,none⟩)):=by rw[Lib.cell_of_heap hb2];rfl
 have d1:w2.cell? ⟨b,1,none⟩=some v:=by rw[Lib.cell_of_heap hb2];rfl
 have f1:w2.frozen? ⟨b,1,none⟩=false:=Lib.frozen_of_heap hb2 1;obtain⟨ao,n',cap,hv'⟩:∃ao n' cap,v'=.slice ao n' cap:=by
  rcases hown'.2 with⟨q,_⟩|⟨g,cap,cur,q,_⟩
  ·exact⟨_,_,_,q⟩
  ·exact⟨_,_,_,q⟩
 have fin:=Amy (bs:=bs) (bs':=bs++[.int .u8 c]) hTe hbk (by simpa using hown') hb2 hfr ((At5 _ _ _).trans (Ai1 hgrow fun k q=>.inr q)) (fun k hk=>by
  rcases hblk with q|q
  ·exact .inl (by rw[←q];exact hk)
  ·rw[q]at hk;injection hk with hk;right;have:=hfr.size;(try simp at hk);omega)
 subst hv'
 go_wp2
 go_ret
 exact⟨rfl,fin⟩
set_option maxHeartbeats 2000000 in
set_option maxRecDepth 100000 in
theorem X8(T:TypeId)(hT:liesAt Tryz.prog Tryz.prog.depth T (2/Tryz.prog.cellsOf T) 0 201 1=true)(hTe:T≠5)(b:Nat)(v:Value)(bs:List Value)(s:ByteArray)(w:World)(h:Al4 T b v bs w)(hlen:bs.length+s.size≤140737488355328):
  Calls Tryz.prog 205 #[.pointer (some ⟨b,0,none⟩),.string s] w fun e w'=>e=.returned (.tuple #[.int .i64 s.size,.nilIface])∧Af0 T b v (bs++Lib.strCells s) w w':=by
 obtain⟨i0,hi,hz0,hz1,hz2⟩:=info_parts Aok;have hne:=h.2.2
 go_enter Tryz.func205,Tryz.ntmps205
 go_wp2_with (go_at_call 248;refine(Rg T hT b v bs _ h).mono ?_)
 rintro e w1 ⟨rfl,hbk,hown,hfr⟩
 have c0:w1.cell? ⟨b,0,none⟩=some (.pointer (some ⟨b,0,none⟩)):=by rw[Lib.cell_of_heap hbk];rfl
 have c1:w1.cell? ⟨b,1,none⟩=some v:=by rw[Lib.cell_of_heap hbk];rfl
 go_wp2_with (at_builtin;refine Z5 rfl _ _ 173 9 rfl 5 i0 Tryz.underlying173 Tryz.underlying9 hi hz0 hz1 hz2 _ _ _ rfl hown s rfl ?c3 ?c4 ?_)
 case c3=>unfold maxLen;omega
 case c4=>omega
 intro v' w2 hown' hgrow hblk;have hlt:b<w1.heap.size:=(XL.1 hbk).1;have hb2:w2.heap[b]? =some (.cells #[.pointer (some ⟨b,0,none⟩),v] T (0,0)):=by
  rw[hgrow.block b hlt (fun e=>hne e.symm)];exact hbk
 have d0:w2.cell? ⟨b,0,none⟩=some (.pointer (some ⟨b,0,none⟩)):=by rw[Lib.cell_of_heap hb2];rfl
 have d1:w2.cell? ⟨b,1,none⟩=some v:=by rw[Lib.cell_of_heap hb2];rfl
 have f1:w2.frozen? ⟨b,1,none⟩=false:=Lib.frozen_of_heap hb2 1;obtain⟨ao,n',cap,hv'⟩:∃ao n' cap,v'=.slice ao n' cap:=by
  rcases hown'.2 with⟨q,_⟩|⟨g,cap,cur,q,_⟩
  ·exact⟨_,_,_,q⟩
  ·exact⟨_,_,_,q⟩
 have fin:=Amy (bs:=bs) (bs':=bs++Lib.strCells s) hTe hbk (by simpa[Lib.strCells_length]using hown') hb2 hfr (Ai1 hgrow fun k q=>.inr q) (fun k hk=>by
  rcases hblk with q|q
  ·exact .inl (by rw[←q];exact hk)
  ·rw[q]at hk;injection hk with hk;right;have:=hfr.size;omega)
 subst hv'
 go_wp2
 go_ret2
 exact⟨rfl,fin⟩
set_option maxHeartbeats 1000000 in
theorem Ava(T:TypeId)(b:Nat)(v:Value)(bs:List Value)(w:World)(h:Al4 T b v bs w):
  Calls Tryz.prog 207 #[.pointer (some ⟨b,0,none⟩)] w fun e w'=>e=.returned (.int .i64 bs.length)∧w'=w:=by
 obtain⟨⟨p,_,hbk⟩,hown,hne⟩:=h;obtain⟨ao,cap,rfl⟩:∃ao cap,v=.slice ao bs.length cap:=by
  rcases hown.2 with⟨q,h0⟩|⟨g,cap,cur,q,_⟩
  ·exact⟨none,0,by rw[q,h0]⟩
  ·exact⟨_,_,q⟩
 have c1:w.cell? ⟨b,1,none⟩=some (.slice ao bs.length cap):=by rw[Lib.cell_of_heap hbk];rfl
 go_enter Tryz.func207,Tryz.ntmps207
 go_wp2
 go_ret
 exact⟨rfl,rfl⟩
set_option maxHeartbeats 1000000 in
set_option maxRecDepth 100000 in
theorem Akx(T:TypeId)(b:Nat)(v:Value)(l:List UInt8)(w:World)(h:Al4 T b v (Lib.byteCells l) w)(h0:l≠[]):
  Calls Tryz.prog 150 #[.pointer (some ⟨b,0,none⟩)] w fun e w'=>e=.returned (.string ⟨l.toArray⟩)∧Fr (fun k=>k=b∨v.ownBlock=some k) w w':=by
 obtain⟨⟨p,_,hbk⟩,hown,hne⟩:=h;have hl0:l.length≠0:=by simpa using h0
 rw[Lib.byteCells_length]at hown;obtain⟨g,cap,cur,rfl,_,hg,hnc,hcm,hcs,htake⟩:=hown.2.resolve_left (fun q=>hl0 q.2);have c1:w.drew.cell? ⟨b,1,none⟩=some (.slice (some ⟨g,0,none⟩) l.length cap):=by
  have:w.drew.heap[b]? =some (.cells #[p,.slice (some ⟨g,0,none⟩) l.length cap] T (0,0)):=hbk;rw[Lib.cell_of_heap this];rfl
 have hSD:(Builtin.unsafeSliceData_ #[173] 256 #[.slice (some ⟨g,0,none⟩) l.length cap]).run Tryz.prog w.drew=.ok (.pointer (some ⟨g,0,none⟩)) w.drew:=
  Lib.run_unsafeSliceData_row _ _ _ _ _ _ (by omega)
 have hUS:(Builtin.unsafeString_ #[256,3] 9 #[.pointer (some ⟨g,0,none⟩),.int .i64 l.length]).run Tryz.prog w.drew=.ok (.string ⟨l.toArray⟩) (w.drew.freeze ⟨g,0,none⟩ l.length):=by
  refine Lib.run_unsafeString_row w.drew 256 3 9 5 Tryz.underlying256 (by kernel_rfl) g cur.size (by have hg':w.drew.heap[g]? =some (.cells cur 5 (0,0)):=hg;simp[World.shape?,hg']) l h0 (by omega) (by unfold maxLen at hcm;omega) ?_;intro j x hx;exact hown.cells (g:=g) rfl j (.int .u8 x.toNat) (by simp[Lib.byteCells,hx])
 have hfr:Fr (fun k=>k=b∨(Value.slice (some ⟨g,0,none⟩) l.length cap).ownBlock=some k) w (w.drew.freeze ⟨g,0,none⟩ l.length):=by
  unfold World.freeze;rw[if_neg hl0];refine⟨rfl,rfl,rfl,by simp,fun k hk hn=>?_⟩;have:g≠k:=fun e=>hn (.inr (by rw[e];rfl));simp[Array.getElem?_modify,this];rfl
 have mixed:Tryz.prog.follows .mixedOrders=true:=by kernel_rfl
 go_enter Tryz.func150,Tryz.ntmps150
 go_wp2
 go_region_o
 all_goals (go_wp2;go_ret;exact⟨rfl,hfr⟩)
def El(T:TypeId)(l:List UInt8):Opq where
 inv:=fun w R x F=>∃b v,x=.pointer (some ⟨b,0,none⟩)∧Al4 T b v (Lib.byteCells l) w∧∀k,F k↔(k=b∨v.ownBlock=some k)
 mono:=fun {w w' R R' x F} h hR hF=>by
  obtain⟨b,v,h1,⟨⟨p,hp,hb⟩,h3,h4⟩,h5⟩:=h
  refine⟨b,v,h1,⟨⟨p,hp,(hF b ((h5 b).2 (.inl rfl))).trans hb⟩,?_,h4⟩,h5⟩
  refine⟨h3.1,?_⟩
  rcases h3.2 with q|⟨g,cap,cur,q,q2,q3,q4⟩
  ·exact .inl q
  ·exact .inr ⟨g,cap,cur,q,q2,(hF g ((h5 g).2 (.inr (by rw[q];rfl)))).trans q3,q4⟩
 lt:=fun {w R x F b} h hb=>by
  obtain⟨b',v,h1,⟨⟨p,hp,hbk⟩,h3,h4⟩,h5⟩:=h
  rcases(h5 b).1 hb with rfl|q
  ·exact(XL.1 hbk).1
  ·exact(h3.lt b q).2
def Bci:Opq where
 inv:=fun w R x F=>∀k,F k→k<w.heap.size
 mono:=fun {w w' R R' x F} h hR hF k hk=>by
  have h1:=h k hk
  have h2:=hF k hk
  rw[Array.getElem?_eq_getElem h1]at h2
  exact(XL.1 h2).1
 lt:=fun {w R x F b} h hb=>h b hb
section
variable {P:Program} {w w':World} {R:Nat→Prop}
theorem Uh:∀{vs:List Value} {ys:List Value} {F:Nat→Prop},C2 w R (vs.map fun z=>.p (.c (.v z))) ys F→ys=vs∧∀b,¬F b
 |[],[],F,h=>⟨rfl,h⟩
 |[],_::_,F,h=>h.elim
 |v::vs,[],F,h=>h.elim
 |v::vs,y::ys,F,h=>by
  obtain⟨F1,F2,⟨h1,h1'⟩,h2,h3,h4⟩:=h;obtain⟨rfl,k2⟩:=Uh h2;have e:y=v:=Bw h1;subst e;refine⟨rfl,fun b hb=>?_⟩;rcases(h4 b).1 hb with q|q
  ·exact Mo (fun p hp=>by simp at hp;exact⟨_,hp⟩) ((h1' b).1 q)
  ·exact k2 b q
theorem Ajj{I':Opq}{x:Value}{F':Nat→Prop}(hx:Zp w R I' x F')(hd:∀b,F' b→¬R b):∀(zs:List Value),C2 w R ((zs.map fun z=>.p (.c (.v z)))++[.po I']) (zs++[x]) F'
 |[]=>⟨F',fun _=>False,hx,fun b h=>h,fun b hb=>⟨fun q=>q,hd b hb⟩,fun b=>by simp⟩
 |z::zs=>by
  refine⟨fun _=>False,F',⟨.v z,fun b=>⟨fun q=>q.elim,fun q=>Mo (fun p hp=>by simp at hp;exact⟨_,hp⟩) q⟩⟩,Ajj hx hd zs,fun b hb=>hb.elim,fun b=>by simp⟩
theorem Aun(zs:List Value):B7 (zs.map fun z=>.p (.c (.v z)))=[]:=by
 induction zs with
 |nil=>rfl
 |cons z zs ih=>exact ih
theorem Ady:∀(zs xs:List Value),Ds (zs.map fun z=>.p (.c (.v z))) xs=[]
 |[],[]=>rfl
 |[],_::_=>rfl
 |z::zs,[]=>rfl
 |z::zs,x::xs=>Ady zs xs
theorem Yj{f:FuncId}{I I':Opq}{vs zs:List Value}(hc:E4 P f)(h:∀(w:World) (R:Nat→Prop) (x:Value) (F:Nat→Prop),Zp w R I x F→Calls P f (x::vs).toArray w fun e w'=>e=.returned (Ge zs)∧∃F',Fr F w w'∧Zp w' R I' x F'∧∀b,F' b→F b∨w.heap.size≤b):
  Hv P f (.mo I I'::vs.map fun z=>.p (.c (.v z))) (zs.map fun z=>.p (.c (.v z))):=by
 refine⟨hc,fun w R xs F hlt hp=>?_⟩
 match xs,hp with
 |x::ys,hp=>
  obtain⟨F1,F2,h1,h2,h3,h4⟩:=hp;obtain⟨rfl,h5⟩:=Uh h2;have hF:∀b,F b↔F1 b:=fun b=>by rw[h4 b];exact⟨fun q=>q.resolve_right (h5 b),.inl⟩
  refine(h w R x F1 h1).mono ?_
  rintro e w' ⟨rfl,F',q1,q2,q3⟩
  refine⟨zs,R,F',rfl,by simp,Tm q1 fun k hk=>(hF k).2 hk,fun b hb=>hb,fun b hb=>.inl hb,?_,fun b hb=>(q3 b hb).imp (hF b).2 id⟩;have hd:∀b,F' b→¬R b:=fun b hb hr=>by
   rcases q3 b hb with q|q
   ·exact(h3 b q).2 hr
   ·have:=hlt b hr;omega
  have:=Ajj q2 hd zs;show C2 w' R ((zs.map fun z=>.p (.c (.v z)))++B7 (.mo I I'::ys.map fun z=>.p (.c (.v z)))) (zs++Ds (.mo I I'::ys.map fun z=>.p (.c (.v z))) (x::ys)) F';simp only[B7,Ds,Aun,Ady];exact this
end
theorem Aqn(s:ByteArray):Lib.strCells s=Lib.byteCells s.data.toList:=by simp[Lib.strCells,Lib.byteCells]
theorem Ae8(a b:List UInt8):Lib.byteCells (a++b)=Lib.byteCells a++Lib.byteCells b:=by simp[Lib.byteCells]
structure Bay(T:TypeId):Prop where
 lies:liesAt Tryz.prog Tryz.prog.depth T (2/Tryz.prog.cellsOf T) 0 201 1=true
 ne:T≠5
theorem Nb{T:TypeId}(hT:Bay T)(l:List UInt8)(c:Int)(h0:0≤c)(h1:c≤255)(hl:l.length<140737488355328):Hv Tryz.prog 206 [.mo (El T l) (El T (l++[UInt8.ofNat c.toNat])),.p (.c (.v (.int .u8 c)))] [.p (.c (.v .nilIface))]:=by
 refine Yj (vs:=[.int .u8 c]) (zs:=[.nilIface]) (Cs Tryz.func206 (by kernel_rfl) (by kernel_rfl)) ?_
 rintro w R x F ⟨hx,b,v,rfl,hB,hF⟩
 refine(Ac8 T hT.lies hT.ne b v _ c w hB (by rw[Lib.byteCells_length];omega)).mono ?_
 rintro e w' ⟨rfl,v',q1,q2,q3⟩
 have e1:Lib.byteCells (l++[UInt8.ofNat c.toNat])=Lib.byteCells l++[.int .u8 c]:=by
  rw[Ae8];have:((UInt8.ofNat c.toNat).toNat:Int)=c:=by
   rw[UInt8.toNat_ofNat'];omega
  show Lib.byteCells l++[Value.int .u8 ((UInt8.ofNat c.toNat).toNat:Int)]=_;rw[this]
 rw[←e1]at q1;refine⟨rfl,fun k=>k=b∨v'.ownBlock=some k,Tm q2 fun k hk=>(hF k).2 hk,⟨⟨b,rfl⟩,b,v',rfl,q1,fun k=>Iff.rfl⟩,fun k hk=>?_⟩;rcases hk with rfl|hk
 ·exact .inl ((hF _).2 (.inl rfl))
 ·exact(q3 k hk).imp (fun q=>(hF k).2 (.inr q)) id
theorem Pj{T:TypeId}(hT:Bay T)(l:List UInt8)(s:ByteArray)(hl:l.length+s.size≤140737488355328):Hv Tryz.prog 205 [.mo (El T l) (El T (l++s.data.toList)),.p (.c (.v (.string s)))] [.p (.c (.v (.int .i64 s.size))),.p (.c (.v .nilIface))]:=by
 refine Yj (vs:=[.string s]) (zs:=[.int .i64 s.size,.nilIface]) (Cs Tryz.func205 (by kernel_rfl) (by kernel_rfl)) ?_
 rintro w R x F ⟨hx,b,v,rfl,hB,hF⟩
 refine(X8 T hT.lies hT.ne b v _ s w hB (by rw[Lib.byteCells_length];omega)).mono ?_
 rintro e w' ⟨rfl,v',q1,q2,q3⟩
 rw[Aqn,←Ae8]at q1;refine⟨rfl,fun k=>k=b∨v'.ownBlock=some k,Tm q2 fun k hk=>(hF k).2 hk,⟨⟨b,rfl⟩,b,v',rfl,q1,fun k=>Iff.rfl⟩,fun k hk=>?_⟩;rcases hk with rfl|hk
 ·exact .inl ((hF _).2 (.inl rfl))
 ·exact(q3 k hk).imp (fun q=>(hF k).2 (.inr q)) id
theorem Zh{T:TypeId}(l:List UInt8):Hv Tryz.prog 207 [.mo (El T l) (El T l)] [.p (.c (.v (.int .i64 l.length)))]:=by
 refine Yj (vs:=[]) (zs:=[.int .i64 l.length]) (Cs Tryz.func207 (by kernel_rfl) (by kernel_rfl)) ?_
 rintro w R x F ⟨hx,b,v,rfl,hB,hF⟩
 refine(Ava T b v _ w hB).mono ?_
 rintro e w' ⟨rfl,rfl⟩
 rw[Lib.byteCells_length];exact⟨rfl,F,Fr.refl _ _,⟨hx,b,v,rfl,hB,hF⟩,fun k hk=>.inl hk⟩
theorem Fv{T:TypeId}(l:List UInt8)(h0:l≠[]):Hv Tryz.prog 150 [.mo (El T l) Bci] [.p (.c (.v (.string ⟨l.toArray⟩)))]:=by
 refine Yj (vs:=[]) (zs:=[.string ⟨l.toArray⟩]) (Cs Tryz.func150 (by kernel_rfl) (by kernel_rfl)) ?_
 rintro w R x F ⟨hx,b,v,rfl,hB,hF⟩
 have hlt:∀k,F k→k<w.heap.size:=fun k hk=>(El T l).lt (R:=R) ⟨b,v,rfl,hB,hF⟩ hk;refine(Akx T b v l w hB h0).mono ?_
 rintro e w' ⟨rfl,q⟩
 exact⟨rfl,F,Tm q fun k hk=>(hF k).2 hk,⟨hx,fun k hk=>XH (hlt k hk) q.size⟩,fun k hk=>.inl hk⟩
namespace Pl
def Azf(n:Int):List UInt8:=[UInt8.ofNat (n/256).toNat,UInt8.ofNat (n%256).toNat]
def A3(ns:List Int):List UInt8:=ns.flatMap Azf
theorem Ay(ns:List Int):(A3 ns).length=2*ns.length:=by
 induction ns with
 |nil=>rfl
 |cons n ns ih=>
  show(Azf n++A3 ns).length=_;rw[ZF,ih,ZJ];show 2+_=_;omega
theorem Alw{ns:List Int}{k:Nat}(hk:k<ns.length):A3 (ns.take (k+1))=A3 (ns.take k)++[UInt8.ofNat (ns[k]/256).toNat]++[UInt8.ofNat (ns[k]%256).toNat]:=by
 unfold A3;rw[XT,ZC hk,List.flatMap_append];simp[Azf]
def Aas(s:ByteArray):List UInt8:=UInt8.ofNat s.size::s.data.toList
def En(l:List ByteArray):List UInt8:=l.flatMap Aas
def B5(s:ByteArray):List UInt8:=En (Bp s)++[0]
theorem Alg{l:List ByteArray}{k:Nat}(hk:k<l.length):En (l.take (k+1))=En (l.take k)++[UInt8.ofNat l[k].size]++l[k].data.toList:=by
 unfold En;rw[XT,ZC hk,List.flatMap_append];simp[Aas]
theorem U4{l:List ByteArray}{m:Nat}(h:∀s∈l,s.size≤m):(En l).length≤(m+1)*l.length:=by
 induction l with
 |nil=>simp[En]
 |cons s l ih=>
  have h1:=ih fun x hx=>h x (ZL _ hx);have h2:=h s (XB ..);show(Aas s++En l).length≤_;rw[ZF,ZJ,Nat.mul_add];show(s.data.toList.length+1)+_≤_;have:s.data.toList.length=s.size:=by simp
  omega
end Pl
def Auo(n:Int):List V:=[.v (.int .i64 n)]
instance:FlatRow Auo:=⟨fun x u hu=>by simp[Auo]at hu;exact⟨_,hu⟩⟩
abbrev wT:TypeId:=203
theorem wBT:Bay wT:=⟨by kernel_rfl,by decide⟩
theorem Aem(n:Int):IntKind.u8.wrap n=n%256:=rfl
theorem Bbt{n:Int}(h0:0≤n)(h1:n≤65535):IntKind.u8.wrap (n/256)=n/256:=by
 rw[Aem];omega
theorem Bbi{n:Int}(h0:0≤n):IntKind.u8.wrap n=n%256:=Aem n
theorem Avx(n:Int):n.fdiv (2^min (Int.toNat 8) IntKind.i64.bits)=n/256:=by
 show n.fdiv 256=_;exact Int.fdiv_eq_ediv_of_nonneg _ (by decide)
theorem Dl(l:List UInt8)(c:Bool)(ns:List Int)(h:∀n∈ns,0≤n∧n≤65535)(hn:ns.length≤100)(hl:l.length≤1000000):Hv Tryz.prog 147 [.mo (El wT l) (El wT (l++A3 ns)),.p (.c (.sl c (ns.map Auo)))] []:=by
 refine Kl Tl rfl rfl (Li rfl) ?_;refine G0 ?_;rw[ZE];(refine⟨[],none,{k:Nat//k≤ns.length},[0,6,7],fun⟨k,hk⟩=>[(8,.v (.int .i64 k))],[],fun⟨k,hk⟩=>[(0,⟨0,.q (El wT (l++A3 (ns.take k))),0,[]⟩)],fun⟨k,hk⟩=>ns.length-k,trivial,fun _=>⟨trivial,fun _=>⟨⟨0,by omega⟩,tI,An _ _,?_,Am _ _⟩⟩,fun⟨k,hk⟩=>?_⟩;focus (exact⟨congrArg (fun r=>some (Ent.mk 0 (.q (El wT r)) 0 [])) (show l=l++A3 (ns.take 0)by simp[A3]),trivial⟩));refine G0 ?_;(refine Aa (fun h1=>?_) (fun h1=>?_)<;>rw[h1])
 ·have hlt:k<ns.length:=(by have:=ZV h1;omega);obtain⟨b0,b1⟩:=h _ (ZK hlt);have hlen:(A3 (ns.take k)).length≤200:=by rw[Ay,ZM];omega
  have e:l++A3 (ns.take k)++[UInt8.ofNat (ns[k]/256).toNat]++[UInt8.ofNat (ns[k]%256).toNat]=l++A3 (ns.take (k+1)):=by rw[Alw hlt,ZS,ZS,ZS]
  refine G0 ?_;refine⟨k,_,rfl,Ao hlt,?_⟩;refine G0 ?_;refine⟨by decide,_,Avx _,?_⟩;refine G0 ?_;refine⟨_,Bbt b0 b1,?_⟩;refine G0 ?_;(refine .inr (.inl ⟨_,_,false,[0],aM,Nb wBT (l++A3 (ns.take k)) (ns[k]/256) (by omega) (by omega) (by rw[ZF];omega),Ae,oI,dI,?_⟩));refine G1 ?_;intro gg;refine⟨_,Bbi b0,?_⟩;refine G0 ?_;(refine .inr (.inl ⟨_,_,false,[0],aM,Nb wBT (l++A3 (ns.take k)++[UInt8.ofNat (ns[k]/256).toNat]) (ns[k]%256) (by omega) (by omega) (by rw[ZF,ZF];simp only[ZJ,ZN];omega),Ae,oI,dI,?_⟩));refine G1 ?_;intro gg;(exact⟨none,trivial,fun gr=>⟨⟨k+1,by omega⟩,by show ns.length-(k+1)<ns.length-k;omega,tI,tI,⟨congrArg (fun r=>some (Ent.mk 0 (.q (El wT r)) 0 [])) e,trivial⟩,tI⟩⟩)
 ·have hge:¬k<ns.length:=(by have:=ZW h1;omega);obtain rfl:k=ns.length:=by omega
  rw[show A3 ns=A3 (ns.take ns.length)by rw[XF]];refine G0 ?_;(exact⟨[0],aM⟩)
theorem I5(l:List UInt8)(s:ByteArray)(hs:A1 s=0)(hsz:s.size≤120)(hl:l.length≤1000000):Hv Tryz.prog 148 [.mo (El wT l) (El wT (l++B5 s)),.p (.c (.v (.string s)))] []:=by
 have hlab:=P3 s;have hsm:∀x∈Bp s,x.size≤120:=fun x hx=>XI (Ju hx) hsz;have hL:=Z7 s (by omega);refine Kl Sc rfl rfl (Li rfl) ?_;refine G0 ?_;refine .inl (cX hL ?_);unfold B5;generalize Bp s=ls at *;refine G1 ?_;intro gg;rw[ZE];(refine⟨[],none,{k:Nat//k≤ls.length},[0,7,8],fun⟨k,hk⟩=>[(9,.v (.int .i64 k))],[],fun⟨k,hk⟩=>[(0,⟨0,.q (El wT (l++En (ls.take k))),0,[]⟩)],fun⟨k,hk⟩=>ls.length-k,trivial,fun _=>⟨trivial,fun _=>⟨⟨0,by omega⟩,tI,An _ _,?_,Am _ _⟩⟩,fun⟨k,hk⟩=>?_⟩;focus (exact⟨congrArg (fun r=>some (Ent.mk 0 (.q (El wT r)) 0 [])) (show l=l++En (ls.take 0)by simp[En]),trivial⟩));have hlen:(En (ls.take k)).length≤121*121:=by
  have h1:=U4 (l:=ls.take k) (m:=120) (fun x hx=>hsm x (List.mem_of_mem_take hx));rw[ZM]at h1;have:min k ls.length≤121:=by omega
  have:=Nat.mul_le_mul_left 121 this;omega
 refine G0 ?_;(refine Aa (fun h1=>?_) (fun h1=>?_)<;>rw[h1])
 ·have hlt:k<ls.length:=(by have:=ZV h1;omega);have hz:=hsm _ (ZK hlt);have e:l++En (ls.take k)++[UInt8.ofNat ((ls[k].size:Nat):Int).toNat]++ls[k].data.toList=l++En (ls.take (k+1)):=by rw[Alg hlt,Int.toNat_natCast,ZS,ZS,ZS]
  refine G0 ?_;refine⟨k,_,rfl,Ao hlt,?_⟩;refine G0 ?_;refine⟨((ls[k].size:Nat):Int),by rw[Aem];omega,?_⟩;refine G0 ?_;(refine .inr (.inl ⟨_,_,false,[0],aM,Nb wBT (l++En (ls.take k)) ((ls[k].size:Nat):Int) (by omega) (by omega) (by rw[ZF];omega),Ae,oI,dI,?_⟩));refine G1 ?_;intro gg;(refine .inr (.inl ⟨_,_,false,[0],aM,Pj wBT (l++En (ls.take k)++[UInt8.ofNat ((ls[k].size:Nat):Int).toNat]) ls[k] (by rw[ZF,ZF];simp only[ZJ,ZN];omega),Ae,oI,dI,?_⟩));refine G1 ?_;intro gg;(exact⟨none,trivial,fun gr=>⟨⟨k+1,by omega⟩,by show ls.length-(k+1)<ls.length-k;omega,tI,tI,⟨congrArg (fun r=>some (Ent.mk 0 (.q (El wT r)) 0 [])) e,trivial⟩,tI⟩⟩)
 ·have hge:¬k<ls.length:=(by have:=ZW h1;omega);obtain rfl:k=ls.length:=by omega
  have e:l++En (ls.take ls.length)++[UInt8.ofNat (0:Int).toNat]=l++(En ls++[0]):=by rw[XF,ZS];rfl
  rw[←e];refine G0 ?_;(refine .inr (.inl ⟨_,_,false,[0],aM,Nb wBT (l++En (ls.take ls.length)) 0 (by omega) (by omega) (by rw[ZF];omega),Ae,oI,dI,?_⟩));refine G1 ?_;intro gg;(exact⟨[0],aM⟩)
namespace Pl
structure Rr where
 nm:ByteArray
 ty:Int
 ls:Int
 ad:Int
 tx:ByteArray
 pt:Int
 tg:ByteArray
structure Ms where
 id:Int
 an:Bool
 ct:Bool
 co:Int
 qn:ByteArray
 qt:Int
 rs:List Rr
def inB(r:Rr):List UInt8:=if r.ty=1 then A3 [r.ad/65536,r.ad%65536]else if r.ty=16 then UInt8.ofNat r.tx.size::r.tx.data.toList else A3 [0,0,r.pt]++B5 r.tg
def Jv(r:Rr):List UInt8:=B5 r.nm++A3 [r.ty,1,r.ls/65536,r.ls%65536]++A3 [((inB r).length:Int)]++inB r
def Ef(m:Ms):Int:=m.co+(if m.an then 32768 else 0)+(if m.ct then 512 else 0)
def Bn(l:List Rr):List UInt8:=l.flatMap Jv
def C5(m:Ms):List UInt8:=A3 [m.id,Ef m,1,(m.rs.length:Int),0,0]++B5 m.qn++A3 [m.qt,1]++Bn m.rs
structure Rr.Good(r:Rr):Prop where
 nm:A1 r.nm=0
 nmz:r.nm.size≤120
 ty:r.ty=1∨r.ty=16∨r.ty=33
 ls:0≤r.ls∧r.ls≤2147483647
 ad:0≤r.ad∧r.ad≤4294967295
 pt:0≤r.pt∧r.pt≤65535
 tx:r.tx.size≤200
 tg:A1 r.tg=0
 tgz:r.tg.size≤120
structure Ms.Good(m:Ms):Prop where
 id:0≤m.id∧m.id≤65535
 co:0≤m.co∧m.co≤15
 qn:A1 m.qn=0
 qnz:m.qn.size≤120
 qt:m.qt=1∨m.qt=16∨m.qt=33
 len:m.rs.length≤20
 rs:∀r∈m.rs,r.Good
theorem Fa{s:ByteArray}(h:s.size≤120):(B5 s).length≤15000:=by
 have h1:=U4 (l:=Bp s) (m:=120) (fun x hx=>XI (Ju hx) h);have h2:=P3 s;have:=Nat.mul_le_mul_left 121 (show(Bp s).length≤121 by omega);unfold B5;rw[ZF];simp only[ZJ,ZN];omega
theorem Td{r:Rr}(h:r.Good):0<(inB r).length∧(inB r).length≤15100:=by
 have h1:=Fa h.tgz;have h2:=h.tx;have h3:r.tx.data.toList.length=r.tx.size:=by simp
 unfold inB;split
 ·rw[Ay];simp
 ·split
  ·rw[ZJ];omega
  ·rw[ZF,Ay];simp only[ZJ,ZN];omega
theorem Atw{r:Rr}(h:r.Good):(Jv r).length≤31000:=by
 have h1:=Fa h.nmz;have h2:=(Td h).2;unfold Jv;rw[ZF,ZF,ZF,Ay,Ay];simp only[ZJ,ZN];omega
theorem N7{l:List Rr}{k:Nat}(hk:k<l.length):Bn (l.take (k+1))=Bn (l.take k)++Jv l[k]:=by
 unfold Bn;rw[XT,ZC hk,List.flatMap_append];simp
theorem Hk{l:List Rr}(h:∀r∈l,r.Good):(Bn l).length≤31000*l.length:=by
 induction l with
 |nil=>simp[Bn]
 |cons r l ih=>
  have h1:=ih fun x hx=>h x (ZL _ hx);have h2:=Atw (h r (XB ..));show(Jv r++Bn l).length≤_;rw[ZF,ZJ];omega
def Rr.row(r:Rr):List V:=[.v (.string r.nm),.v (.int .i64 r.ty),.v (.int .i64 r.ls),.v (.int .i64 r.ad),.v (.string r.tx),.v (.int .i64 r.pt),.v (.string r.tg)]
instance:FlatRow Rr.row:=⟨fun x u hu=>by simp[Rr.row]at hu;rcases hu with rfl|rfl|rfl|rfl|rfl|rfl|rfl<;>exact⟨_,rfl⟩⟩
instance:OneRow Rr.row 7:=⟨fun _=>rfl,fun x u hu=>by simp[Rr.row]at hu;rcases hu with rfl|rfl|rfl|rfl|rfl|rfl|rfl<;>exact⟨_,rfl,rfl⟩⟩
def Ms.row(m:Ms):List V:=[.v (.int .i64 m.id),.v (.bool m.an),.v (.bool m.ct),.v (.int .i64 m.co),.v (.string m.qn),.v (.int .i64 m.qt),.sl false (m.rs.map Rr.row)]
end Pl
theorem Gg{I:Opq}{T:TypeId}{l:List UInt8}{u:V}:∀p∈([]:List Bg)++B7 [.mo I (El T l),.p (.c u)],W9 p:=by
 intro p hp;simp only[B7,List.nil_append,XC,XD,or_false]at hp;subst hp;exact fun _ _ _ _ _ h=>h
theorem Kk:Ajc wT [.v (.pointer none),.v (.slice none 0 0)] (El wT []):=by
 intro w R b xs hown hrv;rcases hown.2 with⟨q,_⟩|⟨g,cap,cur,q,_,hg,hnc,hcm,hcs,htake⟩
 ·cases q
 ·injection q with q1 q2 q3;injection q1 with q1
  injection q1 with q1;subst q1 q3;have hl:cur.toList.length=2:=by simpa using hcs
  have hx:cur.toList=xs:=by rw[←htake,List.take_of_length_le (by rw[hl];exact ZT _)]
  match xs,hx with
  |[x0,x1],hx=>
   have e0:x0=.pointer none:=Bw (hrv 0 _ x0 rfl rfl);have e1:x1=.slice none 0 0:=Bw (hrv 1 _ x1 rfl rfl);subst e0 e1;have hc:cur= #[.pointer none,.slice none 0 0]:=by apply Array.ext';rw[hx]
   subst hc;exact⟨b,.slice none 0 0,rfl,⟨⟨_,.inl rfl,hg⟩,World.ownsRow_nil _ _ _ _,by simp[Value.ownBlock]⟩,fun k=>by simp[Value.ownBlock]⟩
  |[],hx=>rw[hx]at hl;simp at hl
  |[_],hx=>rw[hx]at hl;simp at hl
  |_::_::_::_,hx=>rw[hx]at hl;simp at hl
theorem Qn(n:Int):n.fdiv (2^min (Int.toNat 16) IntKind.i64.bits)=n/65536:=by
 show n.fdiv 65536=_;exact Int.fdiv_eq_ediv_of_nonneg _ (by decide)
theorem Qz{n:Int}(h0:0≤n)(h1:n≤9223372036854775807):IntKind.i64.wrap ((BitVec.ofInt IntKind.i64.bits n&&&BitVec.ofInt IntKind.i64.bits 65535).toNat)=n%65536:=by
 obtain⟨k,rfl⟩:=Int.eq_ofNat_of_zero_le h0;have e1:(BitVec.ofInt IntKind.i64.bits (k:Int)&&&BitVec.ofInt IntKind.i64.bits 65535).toNat=k%65536:=by
  show(BitVec.ofInt 64 (k:Int)&&&BitVec.ofInt 64 65535).toNat=_;rw[BitVec.toNat_and];have a1:(BitVec.ofInt 64 (k:Int)).toNat=k:=by
   rw[BitVec.ofInt_natCast,BitVec.toNat_ofNat];exact Nat.mod_eq_of_lt (by omega)
  have a2:(BitVec.ofInt 64 65535).toNat=2^16-1:=by decide
  rw[a1,a2,Nat.and_two_pow_sub_one_eq_mod]
 rw[e1];have:k%65536<65536:=Nat.mod_lt _ (by decide);rw[Ed (by omega) (by omega)];rfl
set_option maxHeartbeats 2000000 in
theorem Agk(l:List UInt8)(r:Rr)(hr:r.Good)(hty:r.ty=1)(hl:l.length≤900000):Hv Tryz.prog 149 [.mo (El wT l) (El wT (l++Jv r)),.p (.c (.agg r.row))] []:=by
 have hin:=Td hr;have hnl:=Fa hr.nmz;obtain⟨nm,ty,ls,ad,tx,pt,tg⟩:=r;obtain⟨h1,h2,_,h4,h5,h6,h7,h8,h9⟩:=hr;simp only at h1 h2 h4 h5 h6 h7 h8 h9 hty hnl;subst hty;have eI:inB ⟨nm,1,ls,ad,tx,pt,tg⟩=A3 [ad/65536,ad%65536]:=rfl;rw[eI]at hin;have e:l++B5 nm++A3 [1,1,ls/65536,ls%65536]++A3 [((A3 [ad/65536,ad%65536]).length:Int)]++(⟨(A3 [ad/65536,ad%65536]).toArray⟩:ByteArray).data.toList=l++Jv ⟨nm,1,ls,ad,tx,pt,tg⟩:=by
  unfold Jv;rw[eI];simp only[ZS]
 rw[←e];have hne:A3 [ad/65536,ad%65536]≠[]:=fun q=>by rw[q]at hin;simp at hin
 refine Kl Fw rfl rfl (Li rfl) ?_;refine G1 ?_;intro gg;(refine .inr (.inl ⟨_,_,false,[0],aM,I5 l nm h1 h2 (by omega),Ae,oI,dI,?_⟩));refine G1 ?_;intro gg;refine⟨by decide,_,Qn _,?_⟩;refine G0 ?_;refine⟨_,Qz h4.1 (Int.le_trans h4.2 (by decide)),?_⟩;refine G1 ?_;intro gg;(refine .inr (.inl ⟨_,_,true,[0],aM,Dl (l++B5 nm) false [1,1,ls/65536,ls%65536] (by simp only[XC,XD,or_false,forall_eq_or_imp,forall_eq];omega) (by simp) (by rw[ZF];omega),(fun _=>Gg),oI,dI,?_⟩));(refine goI ?_;repeat (intro gg;refine goI ?_));refine⟨by decide,_,Qn _,?_⟩;refine G0 ?_;refine⟨_,Qz h5.1 (Int.le_trans h5.2 (by decide)),?_⟩;refine G1 ?_;intro gg;(refine .inr (.inl ⟨_,_,true,[336],Y8 rfl (Gf rfl) Kk (by decide) (by decide) aM,Dl [] false [ad/65536,ad%65536] (by simp only[XC,XD,or_false,forall_eq_or_imp,forall_eq];omega) (by simp) (by simp),(fun _=>Gg),oI,dI,?_⟩));refine G1 ?_;intro gg;(refine .inr (.inl ⟨_,_,false,[336],aM,Zh (T:=wT) (A3 [ad/65536,ad%65536]),Ae,oI,dI,?_⟩));(refine goI ?_;repeat (intro gg;refine goI ?_));(refine .inr (.inl ⟨_,_,true,[0],aM,Dl (l++B5 nm++A3 [1,1,ls/65536,ls%65536]) false [((A3 [ad/65536,ad%65536]).length:Int)] (by simp only[XC,XD,or_false,forall_eq];omega) (by simp) (by simp only[ZF,Ay,ZJ,ZN];omega),(fun _=>Gg),oI,dI,?_⟩));refine G1 ?_;intro gg;(refine .inr (.inl ⟨_,_,false,[336],aM,Fv (T:=wT) (A3 [ad/65536,ad%65536]) hne,Ae,oI,dI,?_⟩));refine G1 ?_;intro gg;refine⟨⟨trivial,rfl,rfl,trivial,trivial,trivial,trivial⟩,?_⟩;refine G0 ?_;(refine .inr (.inl ⟨_,_,false,[0],aM,Pj wBT (l++B5 nm++A3 [1,1,ls/65536,ls%65536]++A3 [((A3 [ad/65536,ad%65536]).length:Int)]) ⟨(A3 [ad/65536,ad%65536]).toArray⟩ (by simp only[ZF,Ay,ZJ,ZN];show _+(A3 [ad/65536,ad%65536]).toArray.size≤_;rw[List.size_toArray];omega),Ae,oI,dI,?_⟩));refine G1 ?_;intro gg;(exact⟨[0],aM⟩)
set_option maxHeartbeats 2000000 in
theorem Aj5(l:List UInt8)(r:Rr)(hr:r.Good)(hty:r.ty=16)(hl:l.length≤900000):Hv Tryz.prog 149 [.mo (El wT l) (El wT (l++Jv r)),.p (.c (.agg r.row))] []:=by
 have hin:=Td hr;have hnl:=Fa hr.nmz;obtain⟨nm,ty,ls,ad,tx,pt,tg⟩:=r;obtain⟨h1,h2,_,h4,h5,h6,h7,h8,h9⟩:=hr;simp only at h1 h2 h4 h5 h6 h7 h8 h9 hty hnl;subst hty;have eI:inB ⟨nm,16,ls,ad,tx,pt,tg⟩=(UInt8.ofNat tx.size::tx.data.toList):=rfl;rw[eI]at hin;have e:l++B5 nm++A3 [16,1,ls/65536,ls%65536]++A3 [(((UInt8.ofNat tx.size::tx.data.toList)).length:Int)]++(⟨((UInt8.ofNat tx.size::tx.data.toList)).toArray⟩:ByteArray).data.toList=l++Jv ⟨nm,16,ls,ad,tx,pt,tg⟩:=by
  unfold Jv;rw[eI];simp only[ZS]
 rw[←e];have hne:(UInt8.ofNat tx.size::tx.data.toList)≠[]:=fun q=>by rw[q]at hin;simp at hin
 refine Kl Fw rfl rfl (Li rfl) ?_;refine G1 ?_;intro gg;(refine .inr (.inl ⟨_,_,false,[0],aM,I5 l nm h1 h2 (by omega),Ae,oI,dI,?_⟩));refine G1 ?_;intro gg;refine⟨by decide,_,Qn _,?_⟩;refine G0 ?_;refine⟨_,Qz h4.1 (Int.le_trans h4.2 (by decide)),?_⟩;refine G1 ?_;intro gg;(refine .inr (.inl ⟨_,_,true,[0],aM,Dl (l++B5 nm) false [16,1,ls/65536,ls%65536] (by simp only[XC,XD,or_false,forall_eq_or_imp,forall_eq];omega) (by simp) (by rw[ZF];omega),(fun _=>Gg),oI,dI,?_⟩));(refine goI ?_;repeat (intro gg;refine goI ?_));refine⟨((tx.size:Nat):Int),by show((tx.size:Nat):Int)%256=_;omega,?_⟩;refine G0 ?_;(refine .inr (.inl ⟨_,_,false,[336],Y8 rfl (Gf rfl) Kk (by decide) (by decide) aM,Nb wBT [] ((tx.size:Nat):Int) (by omega) (by omega) (by simp),Ae,oI,dI,?_⟩));refine G1 ?_;intro gg;(refine .inr (.inl ⟨_,_,false,[336],aM,Pj wBT ([]++[UInt8.ofNat ((tx.size:Nat):Int).toNat]) tx (by simp only[ZF,ZJ,ZN];omega),Ae,oI,dI,?_⟩));refine G1 ?_;intro gg;(refine .inr (.inl ⟨_,_,false,[336],aM,Zh (T:=wT) ((UInt8.ofNat tx.size::tx.data.toList)),Ae,oI,dI,?_⟩));(refine goI ?_;repeat (intro gg;refine goI ?_));(refine .inr (.inl ⟨_,_,true,[0],aM,Dl (l++B5 nm++A3 [16,1,ls/65536,ls%65536]) false [(((UInt8.ofNat tx.size::tx.data.toList)).length:Int)] (by simp only[XC,XD,or_false,forall_eq];omega) (by simp) (by simp only[ZF,Ay,ZJ,ZN];omega),(fun _=>Gg),oI,dI,?_⟩));refine G1 ?_;intro gg;(refine .inr (.inl ⟨_,_,false,[336],aM,Fv (T:=wT) ((UInt8.ofNat tx.size::tx.data.toList)) hne,Ae,oI,dI,?_⟩));refine G1 ?_;intro gg;refine⟨⟨trivial,rfl,rfl,trivial,trivial,trivial,trivial⟩,?_⟩;refine G0 ?_;(refine .inr (.inl ⟨_,_,false,[0],aM,Pj wBT (l++B5 nm++A3 [16,1,ls/65536,ls%65536]++A3 [(((UInt8.ofNat tx.size::tx.data.toList)).length:Int)]) ⟨((UInt8.ofNat tx.size::tx.data.toList)).toArray⟩ (by simp only[ZF,Ay,ZJ,ZN];show _+((UInt8.ofNat tx.size::tx.data.toList)).toArray.size≤_;rw[List.size_toArray];omega),Ae,oI,dI,?_⟩));refine G1 ?_;intro gg;(exact⟨[0],aM⟩)
set_option maxHeartbeats 2000000 in
theorem Ahq(l:List UInt8)(r:Rr)(hr:r.Good)(hty:r.ty=33)(hl:l.length≤900000):Hv Tryz.prog 149 [.mo (El wT l) (El wT (l++Jv r)),.p (.c (.agg r.row))] []:=by
 have hin:=Td hr;have hnl:=Fa hr.nmz;obtain⟨nm,ty,ls,ad,tx,pt,tg⟩:=r;obtain⟨h1,h2,_,h4,h5,h6,h7,h8,h9⟩:=hr;simp only at h1 h2 h4 h5 h6 h7 h8 h9 hty hnl;subst hty;have eI:inB ⟨nm,33,ls,ad,tx,pt,tg⟩=(A3 [0,0,pt]++B5 tg):=rfl;rw[eI]at hin;have e:l++B5 nm++A3 [33,1,ls/65536,ls%65536]++A3 [(((A3 [0,0,pt]++B5 tg)).length:Int)]++(⟨((A3 [0,0,pt]++B5 tg)).toArray⟩:ByteArray).data.toList=l++Jv ⟨nm,33,ls,ad,tx,pt,tg⟩:=by
  unfold Jv;rw[eI];simp only[ZS]
 rw[←e];have hne:(A3 [0,0,pt]++B5 tg)≠[]:=fun q=>by rw[q]at hin;simp at hin
 refine Kl Fw rfl rfl (Li rfl) ?_;refine G1 ?_;intro gg;(refine .inr (.inl ⟨_,_,false,[0],aM,I5 l nm h1 h2 (by omega),Ae,oI,dI,?_⟩));refine G1 ?_;intro gg;refine⟨by decide,_,Qn _,?_⟩;refine G0 ?_;refine⟨_,Qz h4.1 (Int.le_trans h4.2 (by decide)),?_⟩;refine G1 ?_;intro gg;(refine .inr (.inl ⟨_,_,true,[0],aM,Dl (l++B5 nm) false [33,1,ls/65536,ls%65536] (by simp only[XC,XD,or_false,forall_eq_or_imp,forall_eq];omega) (by simp) (by rw[ZF];omega),(fun _=>Gg),oI,dI,?_⟩));(refine goI ?_;repeat (intro gg;refine goI ?_));(refine .inr (.inl ⟨_,_,true,[336],Y8 rfl (Gf rfl) Kk (by decide) (by decide) aM,Dl [] false [0,0,pt] (by simp only[XC,XD,or_false,forall_eq_or_imp,forall_eq];omega) (by simp) (by simp),(fun _=>Gg),oI,dI,?_⟩));refine G1 ?_;intro gg;(refine .inr (.inl ⟨_,_,false,[336],aM,I5 ([]++A3 [0,0,pt]) tg h8 h9 (by simp only[ZF,Ay,ZJ,ZN];omega),Ae,oI,dI,?_⟩));refine G1 ?_;intro gg;(refine .inr (.inl ⟨_,_,false,[336],aM,Zh (T:=wT) ((A3 [0,0,pt]++B5 tg)),Ae,oI,dI,?_⟩));(refine goI ?_;repeat (intro gg;refine goI ?_));(refine .inr (.inl ⟨_,_,true,[0],aM,Dl (l++B5 nm++A3 [33,1,ls/65536,ls%65536]) false [(((A3 [0,0,pt]++B5 tg)).length:Int)] (by simp only[XC,XD,or_false,forall_eq];omega) (by simp) (by simp only[ZF,Ay,ZJ,ZN];omega),(fun _=>Gg),oI,dI,?_⟩));refine G1 ?_;intro gg;(refine .inr (.inl ⟨_,_,false,[336],aM,Fv (T:=wT) ((A3 [0,0,pt]++B5 tg)) hne,Ae,oI,dI,?_⟩));refine G1 ?_;intro gg;refine⟨⟨trivial,rfl,rfl,trivial,trivial,trivial,trivial⟩,?_⟩;refine G0 ?_;(refine .inr (.inl ⟨_,_,false,[0],aM,Pj wBT (l++B5 nm++A3 [33,1,ls/65536,ls%65536]++A3 [(((A3 [0,0,pt]++B5 tg)).length:Int)]) ⟨((A3 [0,0,pt]++B5 tg)).toArray⟩ (by simp only[ZF,Ay,ZJ,ZN];show _+((A3 [0,0,pt]++B5 tg)).toArray.size≤_;rw[List.size_toArray];omega),Ae,oI,dI,?_⟩));refine G1 ?_;intro gg;(exact⟨[0],aM⟩)
theorem Oh(l:List UInt8)(r:Rr)(hr:r.Good)(hl:l.length≤900000):Hv Tryz.prog 149 [.mo (El wT l) (El wT (l++Jv r)),.p (.c (.agg r.row))] []:=by
 rcases hr.ty with h|h|h
 ·exact Agk l r hr h hl
 ·exact Aj5 l r hr h hl
 ·exact Ahq l r hr h hl
theorem Af7{P Q:Prop}(h:P)(k:P→Q):Q:=k h
namespace Pl
def wIn(n a b:Int):Bool:=bif decide (a≤n)then decide (n≤b)else false
def Mu(t:Int):Bool:=bif (t==1)then true else bif (t==16)then true else(t==33)
def At2(l:List Int)(x:Int):Bool:=l.any fun w=>x==w
theorem Awg(t:Int):At2 [1,16,33] t=Mu t:=by
 unfold At2 Mu;simp only[List.any_cons,List.any_nil,Bool.or_false];cases (t==1)<;>cases (t==16)<;>rfl
def Rr.un(r:Rr):Bool:=bif (bif (r.ty==1)then true else(r.ad==0))then(bif (bif (r.ty==16)then true else em r.tx)then(bif (r.ty==33)then true else bif (r.pt==0)then em r.tg else false)else false)else false
def Ee(r:Rr):Int:=if A1 r.nm≠0 then A1 r.nm else bif !Mu r.ty then 7 else bif !wIn r.ls 0 2147483647 then 3 else bif !r.un then 1 else bif !wIn r.ad 0 4294967295 then 3 else bif !wIn r.pt 0 65535 then 3 else if 200<r.tx.size then 2 else A1 r.tg
end Pl
theorem Iw(n a b:Int):Fun Tryz.prog 108 [.c (.v (.int .i64 n)),.c (.v (.int .i64 a)),.c (.v (.int .i64 b))] [.c (.v (.bool (wIn n a b)))]:=by
 refine Av Acg rfl ?_;refine G0 ?_;(refine Aa (fun h=>?_) (fun h=>?_)<;>rw[h])
 ·refine G0 ?_;rw[show wIn n a b=decide (n≤b)by unfold wIn;rw[show decide (a≤n)=true from h];rfl];(exact⟨[],aI⟩)
 ·refine G0 ?_;rw[show wIn n a b=false by unfold wIn;rw[show decide (a≤n)=false from h];rfl];(exact⟨[],aI⟩)
theorem Ako(cl:Bool)(l:List Int)(v:Int)(hl:l.length≤9223372036854775807):
  Fun Tryz.prog 233 [.c (.sl cl (l.map Auo)),.c (.v (.int .i64 v))] [.c (.v (.int .i64 (at_ (fun w=>v==w) l)))]:=by
 refine Av M3 rfl ?_;refine G0 ?_;rw[ZE];(refine⟨[],none,{k:Nat//k≤l.length∧∀j,(h:j<l.length)→j<k→(v==l[j])=false},[0,1,7],fun⟨k,hk,h0⟩=>[(8,.v (.int .i64 k))],[],fun⟨k,hk,h0⟩=>[],fun⟨k,hk,h0⟩=>l.length-k,trivial,fun _=>⟨trivial,fun _=>⟨⟨0,by omega,fun j _ h=>by omega⟩,tI,An _ _,tI,Am _ _⟩⟩,fun⟨k,hk,h0⟩=>?_⟩);refine G0 ?_;(refine Aa (fun h=>?_) (fun h=>?_)<;>rw[h])
 ·have hlt:k<l.length:=(by have:=ZV h;omega);refine G0 ?_;refine⟨k,_,rfl,Ao hlt,?_⟩;refine G0 ?_;(refine Aa (fun h2=>?_) (fun h2=>?_)<;>rw[h2])
  ·refine G0 ?_;rw[N4 (p:=fun w=>v==w) hlt h0 h2];(exact⟨[],aI⟩)
  ·refine G0 ?_;(exact⟨none,trivial,fun _=>⟨⟨k+1,by omega,up1 (p:=fun j h=>(v==l[j])=false) h0 (fun _=>h2)⟩,by show l.length-(k+1)<l.length-k;omega,tI,tI,tI,tI⟩⟩)
 ·have hge:¬k<l.length:=(by have:=ZW h;omega);refine G0 ?_;rw[Ti (p:=fun w=>v==w) (l:=l) (fun i hi=>h0 i hi (by omega))];(exact⟨[],aI⟩)
theorem Acu(cl:Bool)(l:List Int)(v:Int)(hl:l.length≤9223372036854775807):
  Fun Tryz.prog 192 [.c (.sl cl (l.map Auo)),.c (.v (.int .i64 v))] [.c (.v (.bool (At2 l v)))]:=by
 refine Av Ka rfl ?_;refine G0 ?_;refine .inl (cX (Ako cl l v hl) ?_);refine G1 ?_;intro gg;rw[Ag4];(exact⟨[],aI⟩)
theorem S0(t:Int):Fun Tryz.prog 109 [.c (.v (.int .i64 t))] [.c (.v (.bool (Mu t)))]:=by
 have hC:=Acu false [1,16,33] t (by simp);rw[Awg]at hC;refine Av Aco rfl ?_;refine G1 ?_;intro gg;refine .inl (cY hC ?_);refine G1 ?_;intro gg;(exact⟨[],aI⟩)
theorem Ajz(r:Rr):Fun Tryz.prog 193 [.c (.agg r.row)] [.c (.v (.bool r.un))]:=by
 refine Av Ac1 rfl ?_;refine G1 ?_;intro gg
 (repeat' (refine Aa (fun h=>?_) (fun h=>?_)<;>(rw[h];refine G0 ?_)))
 all_goals first
  |((refine Af7 (P:=r.un=true) ?_ (fun e=>?_);(focus (simp only[*,cond_true,cond_false,Rr.un,em];done));rw[e]);(exact⟨[],aI⟩))
  |((refine Af7 (P:=r.un=false) ?_ (fun e=>?_);(focus (simp only[*,cond_true,cond_false,Rr.un,em];done));rw[e]);(exact⟨[],aI⟩))
  |((refine Af7 (P:=r.un=em r.tg) ?_ (fun e=>?_);(focus (simp only[*,cond_true,cond_false,Rr.un,em];done));rw[e]);(exact⟨[],aI⟩))
theorem X7(r:Rr)(h1:r.nm.size≤1000000000000)(h2:r.tx.size≤1000000000000)(h3:r.tg.size≤1000000000000):Fun Tryz.prog 110 [.c (.agg r.row)] [.c (.v (.int .i64 (Ee r)))]:=by
 refine Av Sr rfl ?_;refine G1 ?_;intro gg;refine .inl (cX (M1 r.nm h1) ?_);refine G1 ?_;intro gg;refine Aa (fun k0=>?_) (fun k0=>?_)<;>rw[k0]
 ·refine G0 ?_;rw[show Ee r=A1 r.nm from if_pos (by simpa using k0)];(exact⟨[],aI⟩)
 ·have e0:Ee r=_:=if_neg (by simpa using k0);refine G0 ?_;refine .inl (cX (S0 r.ty) ?_);refine G1 ?_;intro gg;refine Aa (fun k1=>?_) (fun k1=>?_)<;>rw[k1]<;>rw[k1]at e0
  ·refine G0 ?_;rw[e0];(exact⟨[],aI⟩)
  ·refine G0 ?_;refine .inl (cX (Iw r.ls 0 2147483647) ?_);refine G1 ?_;intro gg;refine Aa (fun k2=>?_) (fun k2=>?_)<;>rw[k2]<;>rw[k2]at e0
   ·refine G0 ?_;rw[e0];(exact⟨[],aI⟩)
   ·refine G0 ?_;refine .inl (cX (Ajz r) ?_);refine G1 ?_;intro gg;refine Aa (fun k3=>?_) (fun k3=>?_)<;>rw[k3]<;>rw[k3]at e0
    ·refine G0 ?_;rw[e0];(exact⟨[],aI⟩)
    ·refine G0 ?_;refine .inl (cX (Iw r.ad 0 4294967295) ?_);refine G1 ?_;intro gg;refine Aa (fun k4=>?_) (fun k4=>?_)<;>rw[k4]<;>rw[k4]at e0
     ·refine G0 ?_;rw[e0];(exact⟨[],aI⟩)
     ·refine G0 ?_;refine .inl (cX (Iw r.pt 0 65535) ?_);refine G1 ?_;intro gg;refine Aa (fun k5=>?_) (fun k5=>?_)<;>rw[k5]<;>rw[k5]at e0
      ·refine G0 ?_;rw[e0];(exact⟨[],aI⟩)
      ·refine G0 ?_;refine Aa (fun k6=>?_) (fun k6=>?_)<;>rw[k6]
       ·have k7:200<r.tx.size:=by have:=ZV k6;omega
        refine G0 ?_;rw[e0];simp only[cond_false,if_pos k7];(exact⟨[],aI⟩)
       ·have k7:¬200<r.tx.size:=by have:=ZW k6;omega
        refine G0 ?_;refine .inl (cX (M1 r.tg h3) ?_);refine G1 ?_;intro gg;rw[e0];simp only[cond_false,if_neg k7];(exact⟨[],aI⟩)
theorem Abo{t:Int}(h:(!Mu t)=false):t=1∨t=16∨t=33:=by
 unfold Mu at h;cases h1:(t==1)with
 |true=>exact .inl (by simpa using h1)
 |false=>
  cases h2:(t==16)with
  |true=>exact .inr (.inl (by simpa using h2))
  |false=>rw[h1,h2]at h;exact .inr (.inr (by simpa using h))
namespace Pl
def D4(l:List Int):Int:=l.foldr (fun e k=>if e≠0 then e else k) 0
def Bh(m:Ms):Int:=bif !wIn m.id 0 65535 then 3 else bif !wIn m.co 0 15 then 3 else if 20<m.rs.length then 2 else if A1 m.qn≠0 then A1 m.qn else bif !Mu m.qt then 7 else D4 (m.rs.map Ee)
structure Ms.Sized(m:Ms):Prop where
 qn:m.qn.size≤1000000000000
 rs:∀r∈m.rs,r.nm.size≤1000000000000∧r.tx.size≤1000000000000∧r.tg.size≤1000000000000
end Pl
theorem V8{l:List Int}{k:Nat}(hk:k<l.length)(h0:∀j,(h:j<l.length)→j<k→l[j]=0)(h:l[k]≠0):D4 l=l[k]:=by
 induction l generalizing k with
 |nil=>simp at hk
 |cons e l ih=>
  cases k with
  |zero=>exact if_pos h
  |succ k=>
   have e0:e=0:=h0 0 (by simp) (by omega);subst e0;exact ih (by simpa using hk) (fun j hj hjk=>h0 (j+1) (by simpa using hj) (by omega)) h
theorem Qs{l:List Int}(h0:∀j,(h:j<l.length)→l[j]=0):D4 l=0:=by
 induction l with
 |nil=>rfl
 |cons e l ih=>
  have e0:e=0:=h0 0 (by simp);subst e0;exact ih fun j hj=>h0 (j+1) (by simpa using hj)
set_option maxHeartbeats 1000000 in
theorem Ww(m:Ms)(hm:m.Sized)(hl:m.rs.length≤9223372036854775807):Fun Tryz.prog 52 [.c (.agg m.row)] [.c (.v (.int .i64 (Bh m)))]:=by
 obtain⟨id,an,ct,co,qn,qt,rs⟩:=m;obtain⟨s1,s2⟩:=hm;simp only at s1 s2 hl;refine Av Afr rfl ?_;refine G1 ?_;intro gg;refine .inl (cX (Iw id 0 65535) ?_);refine G1 ?_;intro gg;have e0:Bh ⟨id,an,ct,co,qn,qt,rs⟩=bif !wIn id 0 65535 then 3 else bif !wIn co 0 15 then 3 else if 20<rs.length then 2 else if A1 qn≠0 then A1 qn else bif !Mu qt then 7 else D4 (rs.map Ee):=rfl
 refine Aa (fun k0=>?_) (fun k0=>?_)<;>rw[k0]<;>rw[k0]at e0
 ·refine G0 ?_;rw[e0];(exact⟨[],aI⟩)
 ·refine G0 ?_;refine .inl (cX (Iw co 0 15) ?_);refine G1 ?_;intro gg;refine Aa (fun k1=>?_) (fun k1=>?_)<;>rw[k1]<;>rw[k1]at e0
  ·refine G0 ?_;rw[e0];(exact⟨[],aI⟩)
  ·simp only[cond_false]at e0;refine G0 ?_;rw[ZE];refine Aa (fun k2=>?_) (fun k2=>?_)<;>rw[k2]
   ·have k3:20<rs.length:=by have:=ZV (show decide ((20:Int)<(rs.length:Int))=true from k2);omega
    refine G0 ?_;rw[e0,if_pos k3];(exact⟨[],aI⟩)
   ·have k3:¬20<rs.length:=by have:=ZW (show decide ((20:Int)<(rs.length:Int))=false from k2);omega
    rw[if_neg k3]at e0;refine G0 ?_;refine .inl (cX (M1 qn s1) ?_);refine G1 ?_;intro gg;refine Aa (fun k4=>?_) (fun k4=>?_)<;>rw[k4]
    ·refine G0 ?_;rw[e0,if_pos (by simpa using k4)];(exact⟨[],aI⟩)
    ·rw[if_neg (by simpa using k4)]at e0;refine G0 ?_;refine .inl (cX (S0 qt) ?_);refine G1 ?_;intro gg;refine Aa (fun k5=>?_) (fun k5=>?_)<;>rw[k5]<;>rw[k5]at e0
     ·refine G0 ?_;rw[e0];(exact⟨[],aI⟩)
     ·simp only[cond_false]at e0;refine G0 ?_;rw[ZE];(refine⟨[],none,{k:Nat//k≤rs.length∧∀j,(h:j<rs.length)→j<k→Ee rs[j]=0},[36,37],fun⟨k,hk,h0⟩=>[(38,.v (.int .i64 k))],[],fun⟨k,hk,h0⟩=>[],fun⟨k,hk,h0⟩=>rs.length-k,trivial,fun _=>⟨trivial,fun _=>⟨⟨0,by omega,fun j _ h=>by omega⟩,tI,An _ _,tI,Am _ _⟩⟩,fun⟨k,hk,h0⟩=>?_⟩);refine G0 ?_;refine Aa (fun k6=>?_) (fun k6=>?_)<;>rw[k6]
      ·have hlt:k<rs.length:=by have:=ZV (show decide ((k:Int)<(rs.length:Int))=true from k6);omega
       obtain⟨g1,g2,g3⟩:=s2 _ (ZK hlt);refine G0 ?_;refine⟨k,_,rfl,Ao hlt,?_⟩;refine G1 ?_;intro gg;refine .inl (cX (X7 rs[k] g1 g2 g3) ?_);refine G1 ?_;intro gg;refine Aa (fun k7=>?_) (fun k7=>?_)<;>rw[k7]
       ·have hne:Ee rs[k]≠0:=by simpa using k7
        have e1:D4 (rs.map Ee)=Ee rs[k]:=by
         have:=V8 (l:=rs.map Ee) (k:=k) (by simpa using hlt) (fun j h hj=>by rw[XQ];exact h0 j (by simpa using h) hj) (by rw[XQ];exact hne);rw[this,XQ]
        refine G0 ?_;rw[e0,e1];(exact⟨[],aI⟩)
       ·refine G0 ?_;(exact⟨none,trivial,fun _=>⟨⟨k+1,by omega,up1 (p:=fun j h=>Ee rs[j]=0) h0 (fun _=>by simpa using k7)⟩,by show rs.length-(k+1)<rs.length-k;omega,tI,tI,tI,tI⟩⟩)
      ·have hge:¬k<rs.length:=by have:=ZW (show decide ((k:Int)<(rs.length:Int))=false from k6);omega
       have e1:D4 (rs.map Ee)=0:=Qs fun j hj=>by rw[XQ];exact h0 j (by simpa using hj) (by simp at hj;omega)
       refine G0 ?_;rw[e0,e1];(exact⟨[],aI⟩)
namespace Pl
structure Kn where
 here:ByteArray
 l:List Sv
 ms:List Mb
 f:Pc
 wh:List Wh
def Kn.row(k:Kn):List V:=[.v (.string k.here),.sl false (k.l.map Sv.row),.sl false (k.ms.map Mb.row),.v (.int .i64 k.f.x),.v (.int .i64 k.f.y),.v (.int .i64 k.f.z),.v (.int .i64 k.f.h),.v (.int .i64 k.f.s),.sl false (k.wh.map Wh.row)]
structure Kn.In(k:Kn):Prop where
 here:k.here.size≤9223372036854775807
 ll:k.l.length≤9223372036854775807
 lo:∀x∈k.l,x.ok
 ml:k.ms.length≤9223372036854775807
 mo:∀x∈k.ms,x.ok
 wl:k.wh.length≤9223372036854775807
def Kn.err(k:Kn):Int:=bif !lab k.here.data.toList then 1 else if D3 k.l≠0 then D3 k.l else if E5 k.ms≠0 then E5 k.ms else if 20<k.wh.length then 2 else if k.f.err≠0 then k.f.err else D4 (k.wh.map fun w=>w.pl.err)
def T8(ms:List Mb)(name:ByteArray):Bool:=bif hit (Mb.cf name) ms then(match ms[low (Mb.cf name) ms]? with
 |some m=>decide (3≤m.st)
 |none=>false)else false
def Kn.ask(k:Kn)(q:Qr)(t:Int)(name:ByteArray):List V:=[.v (.string q.sv),.v (.string q.tg),.v (.string q.nd),.v (.string q.ce),.v (.int .i64 t),.v (.string k.here),.sl false (k.l.map Sv.row),.sl false (k.ms.map Mb.row),.v (.int .i64 k.f.x),.v (.int .i64 k.f.y),.v (.int .i64 k.f.z),.v (.int .i64 k.f.h),.v (.int .i64 k.f.s),.sl false (k.wh.map Wh.row),.v (.string name)]
end Pl
theorem Adz(k:Kn)(h:k.In):Fun Tryz.prog 121 [.c (.v (.string k.here)),.c (.sl false (k.l.map Sv.row)),.c (.sl false (k.ms.map Mb.row)),.c (.agg k.f.row),.c (.sl false (k.wh.map Wh.row))] [.c (.v (.int .i64 k.err))]:=by
 obtain⟨here,l,ms,f,wh⟩:=k;obtain⟨g1,g2,g3,g4,g5,g6⟩:=h;simp only at g1 g2 g3 g4 g5 g6;have e0:Kn.err ⟨here,l,ms,f,wh⟩=bif !lab here.data.toList then 1 else if D3 l≠0 then D3 l else if E5 ms≠0 then E5 ms else if 20<wh.length then 2 else if f.err≠0 then f.err else D4 (wh.map fun w=>w.pl.err):=rfl
 refine Av Yb rfl ?_;refine G1 ?_;intro gg;refine .inl (cX (Bu here g1) ?_);refine G1 ?_;intro gg;refine Aa (fun k0=>?_) (fun k0=>?_)<;>rw[k0]<;>rw[k0]at e0
 ·refine G0 ?_;rw[e0];(exact⟨[],aI⟩)
 simp only[cond_false]at e0;refine G0 ?_;refine .inl (cX (Aa8 l g2 g3) ?_);refine G1 ?_;intro gg;refine Aa (fun k1=>?_) (fun k1=>?_)<;>rw[k1]
 ·refine G0 ?_;rw[e0,if_pos (by simpa using k1)];(exact⟨[],aI⟩)
 rw[if_neg (by simpa using k1)]at e0;refine G0 ?_;refine .inl (cX (Aa0 ms g4 g5) ?_);refine G1 ?_;intro gg;refine Aa (fun k2=>?_) (fun k2=>?_)<;>rw[k2]
 ·refine G0 ?_;rw[e0,if_pos (by simpa using k2)];(exact⟨[],aI⟩)
 rw[if_neg (by simpa using k2)]at e0;refine G0 ?_;by_cases k3:20<wh.length
 ·rw[if_pos k3]at e0;rw[show decide ((20:Int)<((wh.map Wh.row).length:Int))=true from ZX (by rw[ZE];omega)];refine G0 ?_;rw[e0];(exact⟨[],aI⟩)
 rw[if_neg k3]at e0;rw[show decide ((20:Int)<((wh.map Wh.row).length:Int))=false from ZY (by rw[ZE];omega)];refine G0 ?_;refine .inl (cX (Il f) ?_);refine G1 ?_;intro gg;refine Aa (fun k4=>?_) (fun k4=>?_)<;>rw[k4]
 ·refine G0 ?_;rw[e0,if_pos (by simpa using k4)];(exact⟨[],aI⟩)
 rw[if_neg (by simpa using k4)]at e0;refine G0 ?_;(refine⟨[],none,{k:Nat//k≤wh.length∧∀j,(h:j<wh.length)→j<k→wh[j].pl.err=0},[38,39],fun⟨k,hk,h0⟩=>[(40,.v (.int .i64 k))],[],fun⟨k,hk,h0⟩=>[],fun⟨k,hk,h0⟩=>wh.length-k,trivial,fun _=>⟨trivial,fun _=>⟨⟨0,by omega,fun j _ h=>by omega⟩,tI,An _ _,tI,Am _ _⟩⟩,fun⟨k,hk,h0⟩=>?_⟩);refine G0 ?_;simp only[ZE];by_cases k6:k<wh.length
 ·rw[show decide ((k:Int)<(wh.length:Int))=true from ZX (by omega)];refine G0 ?_;refine⟨k,_,rfl,Ao k6,?_⟩;refine G1 ?_;intro gg;refine .inl (cX (Il wh[k].pl) ?_);refine G1 ?_;intro gg;refine Aa (fun k7=>?_) (fun k7=>?_)<;>rw[k7]
  ·have hne:wh[k].pl.err≠0:=by simpa using k7
   have e1:D4 (wh.map fun w=>w.pl.err)=wh[k].pl.err:=by
    have:=V8 (l:=wh.map fun w=>w.pl.err) (k:=k) (by simpa using k6) (fun j h hj=>by rw[XQ];exact h0 j (by simpa using h) hj) (by rw[XQ];exact hne);rw[this,XQ]
   refine G0 ?_;rw[e0,e1];(exact⟨[],aI⟩)
  ·refine G0 ?_;(exact⟨none,trivial,fun _=>⟨⟨k+1,by omega,up1 (p:=fun j h=>wh[j].pl.err=0) h0 (fun _=>by simpa using k7)⟩,by show wh.length-(k+1)<wh.length-k;omega,tI,tI,tI,tI⟩⟩)
 ·rw[show decide ((k:Int)<(wh.length:Int))=false from ZY (by omega)];have e1:D4 (wh.map fun w=>w.pl.err)=0:=Qs fun j hj=>by rw[XQ];exact h0 j (by simpa using hj) (by simp at hj;omega)
  refine G0 ?_;rw[e0,e1];(exact⟨[],aI⟩)
theorem Aiy(k:Kn)(q:Qr)(t:Int)(nm name:ByteArray)(hl:k.ms.length≤1000)(hm:Aee (Mb.cf name) k.ms):Fun Tryz.prog 208 [.c (.rptr (k.ask q t nm) 0),.c (.v (.string name))] [.c (.v (.bool (T8 k.ms name)))]:=by
 refine Av Po rfl ?_;refine G0 ?_;refine .inl (cX (Q4 false k.ms name hl hm) ?_);refine G1 ?_;intro gg;have e0:T8 k.ms name=bif hit (Mb.cf name) k.ms then(match k.ms[low (Mb.cf name) k.ms]? with
  |some m=>decide (3≤m.st)
  |none=>false)else false:=rfl
 by_cases hh:hit (Mb.cf name) k.ms=true
 ·have hlt:=Ep hh;rw[hh]at e0 ⊢;rw[cond_true,ZC hlt]at e0;refine G0 ?_;refine⟨low (Mb.cf name) k.ms,_,rfl,Ao hlt,?_⟩;refine G0 ?_;rw[e0];(exact⟨[],aI⟩)
 ·rw[XE.2 hh]at e0 ⊢;rw[cond_false]at e0;refine G0 ?_;rw[e0];(exact⟨[],aI⟩)
namespace Pl
def Hu(here:ByteArray)(t:Int)(nm:ByteArray)(s:Sv):Rr×Int:=
 if t=1 then(⟨nm,t,0,s.ad,⟨#[]⟩,0,⟨#[]⟩⟩,0)
 else if t=16 then(⟨nm,t,0,0,s.id,0,⟨#[]⟩⟩,0)
 else if t=33 then
  if(Au ⟨⟨#[]⟩,⟨#[]⟩,s.nd,here⟩).2≠0 then(⟨nm,t,0,0,⟨#[]⟩,0,⟨#[]⟩⟩,(Au ⟨⟨#[]⟩,⟨#[]⟩,s.nd,here⟩).2)
  else(⟨nm,t,0,0,⟨#[]⟩,s.pt,(Au ⟨⟨#[]⟩,⟨#[]⟩,s.nd,here⟩).1⟩,0)
 else(⟨nm,t,0,0,⟨#[]⟩,0,⟨#[]⟩⟩,0)
def Mw(k:Kn)(q:Qr)(t:Int)(nm:ByteArray):List Rr×Int:=
 if hit (Mb.cf q.nd) k.ms=false∨T8 k.ms q.nd=true then([],3)
 else if t≠1 then([],0)
 else match k.ms[low (Mb.cf q.nd) k.ms]? with
  |some m=>([⟨nm,t,0,m.ad,⟨#[]⟩,0,⟨#[]⟩⟩],0)
  |none=>([],0)
end Pl
theorem V6(k:Kn)(q:Qr)(t:Int)(nm:ByteArray)(off:Nat):Cl (.rptr (k.ask q t nm) off):=Amj fun u hu=>by
 simp only[Kn.ask,XC,XD,or_false]at hu;rcases hu with rfl|rfl|rfl|rfl|rfl|rfl|rfl|rfl|rfl|rfl|rfl|rfl|rfl|rfl|rfl
 all_goals first
  |exact A9 rfl
  |exact Dz
theorem Ajm(k:Kn)(q:Qr)(t:Int)(nm:ByteArray)(s:Sv)(hk:k.here.size≤9223372036854775807)(hs:s.nd.size≤9223372036854775807):Fun Tryz.prog 210 [.c (.rptr (k.ask q t nm) 0),.c (.agg s.row)] [.c (.agg (Hu k.here t nm s).1.row),.c (.v (.int .i64 (Hu k.here t nm s).2))]:=by
 have hz:(⟨#[]⟩:ByteArray).size≤9223372036854775807:=by decide
 have hP:=Dw ⟨⟨#[]⟩,⟨#[]⟩,s.nd,k.here⟩ ⟨hz,hz,hs,hk⟩;refine Ali Oe rfl ?_;(refine goI ?_;repeat (intro gg;refine goI ?_));by_cases t1:t=1
 ·rw[show(t==1)=true from ZR.2 t1,show Hu k.here t nm s=(⟨nm,t,0,s.ad,⟨#[]⟩,0,⟨#[]⟩⟩,0)from if_pos t1];refine G0 ?_;exact Dj (A9 rfl) (A9 rfl) (.cell1 rfl rfl rfl rfl rfl rfl (.tmp1 rfl .nil))
 rw[show(t==1)=false from ZG.2 t1];refine G0 ?_;by_cases t16:t=16
 ·rw[show(t==16)=true from ZR.2 t16,show Hu k.here t nm s=(⟨nm,t,0,0,s.id,0,⟨#[]⟩⟩,0)from(if_neg t1).trans (if_pos t16)];refine G0 ?_;exact Dj (A9 rfl) (A9 rfl) (.cell1 rfl rfl rfl rfl rfl rfl (.tmp1 rfl .nil))
 rw[show(t==16)=false from ZG.2 t16];refine G0 ?_;by_cases t33:t=33;rotate_left
 ·rw[show(t==33)=false from ZG.2 t33,show Hu k.here t nm s=(⟨nm,t,0,0,⟨#[]⟩,0,⟨#[]⟩⟩,0)from(if_neg t1).trans ((if_neg t16).trans (if_neg t33))];refine G0 ?_;exact Dj (A9 rfl) (A9 rfl) (.cell1 rfl rfl rfl rfl rfl rfl (.tmp1 rfl .nil))
 have e0:Hu k.here t nm s=if(Au ⟨⟨#[]⟩,⟨#[]⟩,s.nd,k.here⟩).2≠0 then(⟨nm,t,0,0,⟨#[]⟩,0,⟨#[]⟩⟩,(Au ⟨⟨#[]⟩,⟨#[]⟩,s.nd,k.here⟩).2)
  else(⟨nm,t,0,0,⟨#[]⟩,s.pt,(Au ⟨⟨#[]⟩,⟨#[]⟩,s.nd,k.here⟩).1⟩,0):=(if_neg t1).trans ((if_neg t16).trans (if_pos t33))
 rw[show(t==33)=true from ZR.2 t33];generalize Au ⟨⟨#[]⟩,⟨#[]⟩,s.nd,k.here⟩=P at *;refine G0 ?_;refine .inl (cX hP ?_);refine G1 ?_;intro gg;by_cases c:P.2=0;rotate_left
 ·rw[if_pos c]at e0;rw[e0,show(P.2 !=0)=true from ZZ.2 c];refine G0 ?_;exact Dj (A9 rfl) (A9 rfl) (.cell1 rfl rfl rfl rfl rfl rfl (.tmp1 rfl .nil))
 ·rw[if_neg (by simpa using c)]at e0;rw[e0,c];refine G0 ?_;exact Dj (A9 rfl) (A9 rfl) (.cell1 rfl rfl rfl rfl rfl rfl (.tmp1 rfl .nil))
theorem Aot(k:Kn)(q:Qr)(t:Int)(nm:ByteArray)(hl:k.ms.length≤1000)(hm:Aee (Mb.cf q.nd) k.ms):Fun Tryz.prog 151 [.c (.rptr (k.ask q t nm) 0)] [.o 51 7 ((Mw k q t nm).1.map Rr.row),.c (.v (.int .i64 (Mw k q t nm).2)),.c (.v (.int .i64 0))]:=by
 refine Av Pv rfl ?_;refine G0 ?_;refine .inl (cX (Q4 false k.ms q.nd hl hm) ?_);refine G1 ?_;intro gg;by_cases hh:hit (Mb.cf q.nd) k.ms=true;rotate_left
 ·have e0:Mw k q t nm=([],3):=if_pos (.inl (XE.2 hh));rw[e0,XE.2 hh];refine G0 ?_;(exact⟨[],aI⟩)
 have hlt:=Ep hh;rw[hh];refine G0 ?_;(refine .inl ⟨_,_,false,[],.same (V6 k q t nm 0) (.same (A9 rfl) (.nil _)),Aiy k q t nm q.nd hl hm,Ae,nI,?_⟩);refine G1 ?_;intro gg;by_cases ha:T8 k.ms q.nd=true
 ·have e0:Mw k q t nm=([],3):=if_pos (.inr ha);rw[e0,ha];refine G0 ?_;(exact⟨[],aI⟩)
 rw[XE.2 ha];have e0:Mw k q t nm=(if t≠1 then([],0)else match k.ms[low (Mb.cf q.nd) k.ms]? with
  |some m=>([⟨nm,t,0,m.ad,⟨#[]⟩,0,⟨#[]⟩⟩],0)
  |none=>([],0):List Rr×Int):=if_neg (fun z=>z.elim (fun z=>by rw[hh]at z;cases z) ha)
 refine G0 ?_;by_cases t1:t=1;rotate_left
 ·rw[if_pos t1]at e0;rw[e0,show(t !=1)=true from ZZ.2 t1];refine G0 ?_;(exact⟨[],aI⟩)
 rw[if_neg (by simpa using t1),ZC hlt]at e0;change Mw k q t nm=([⟨nm,t,0,(k.ms[low (Mb.cf q.nd) k.ms]).ad,⟨#[]⟩,0,⟨#[]⟩⟩],0)at e0;rw[e0,show(t !=1)=false from by simpa using t1];refine G0 ?_;refine⟨low (Mb.cf q.nd) k.ms,_,rfl,Ao hlt,?_⟩;refine G1 ?_;intro gg;(exact⟨[848],aI⟩)
namespace Pl
def P2(k:Kn)(q:Qr)(t:Int)(nm:ByteArray)(F:List Sv):List Rr×Int×Int:=
 if D4 (F.map fun s=>(Hu k.here t nm s).2)≠0 then([],0,D4 (F.map fun s=>(Hu k.here t nm s).2))
 else if(Dp k.l q.sv ⟨#[]⟩).2.length=0 then([],3,0)
 else(F.map fun s=>(Hu k.here t nm s).1,0,0)
end Pl
set_option maxHeartbeats 1000000 in
theorem Aeu(k:Kn)(q:Qr)(t:Int)(nm:ByteArray)(F:List Sv)(hk:k.In)(hq:q.ok)(hn:F.length≤1000)(hs:∀s∈F,s.nd.size≤9223372036854775807)(hF:Fun Tryz.prog 209 [.c (.rptr (k.ask q t nm) 0)] [.c (.sl false (F.map Sv.row))]):
  Fun Tryz.prog 152 [.c (.rptr (k.ask q t nm) 0)] [.o 51 7 ((P2 k q t nm F).1.map Rr.row),.c (.v (.int .i64 (P2 k q t nm F).2.1)),.c (.v (.int .i64 (P2 k q t nm F).2.2))]:=by
 refine Av M8 rfl ?_;refine G0 ?_;(refine .inl ⟨_,_,false,[],.same (V6 k q t nm 0) (.nil _),hF,Ae,nI,?_⟩);refine G1 ?_;intro gg;(refine⟨[(5,496,51,7)],none,{p:Nat×Nat//p.1≤F.length∧∀j,(h:j<F.length)→j<p.1→(Hu k.here t nm F[j]).2=0},[0,13,14],fun⟨⟨i,g⟩,hi,h0⟩=>[(5,.own 496 g),(15,.v (.int .i64 (i:Int)))],[],fun⟨⟨i,g⟩,hi,h0⟩=>[(496,⟨g,.t 51,7,((F.take i).map fun s=>(Hu k.here t nm s).1).map Rr.row⟩)],fun⟨⟨i,g⟩,hi,h0⟩=>F.length-i,(by exact⟨rfl,by decide,(fun _ _ _ _ h=>by cases h),trivial⟩),fun gs=>⟨trivial,fun _=>⟨⟨(0,gs 496),ZU _,fun j _ h=>by omega⟩,tI,tI,tI,tI⟩⟩,fun⟨⟨i,g⟩,hi,h0⟩=>?_⟩);simp only at hi h0;have hli:(((F.take i).map fun s=>(Hu k.here t nm s).1).map Rr.row).length=i:=by rw[ZE,ZE,ZM];omega
 refine G0 ?_;simp only[ZE];by_cases c:i<F.length
 ·rw[show decide ((i:Int)<(F.length:Int))=true from ZX (by omega)];have hR:=Ajm k q t nm F[i] hk.here (hs _ (ZK c));refine G0 ?_;refine⟨i,_,rfl,Ao c,?_⟩;refine G1 ?_;intro gg;(refine .inl ⟨_,_,false,[],.same (V6 k q t nm 0) (.same (A9 rfl) (.nil _)),hR,Ae,nI,?_⟩);(refine goI ?_;repeat (intro gg;refine goI ?_));by_cases e:(Hu k.here t nm F[i]).2=0;rotate_left
  ·have e1:D4 (F.map fun s=>(Hu k.here t nm s).2)=(Hu k.here t nm F[i]).2:=by
    have:=V8 (l:=F.map fun s=>(Hu k.here t nm s).2) (k:=i) (by simpa using c) (fun j h hj=>by rw[XQ];exact h0 j (by simpa using h) hj) (by rw[XQ];exact e);rw[this,XQ]
   have e0:P2 k q t nm F=([],0,(Hu k.here t nm F[i]).2):=by unfold P2;rw[e1,if_pos e]
   rw[e0,show((Hu k.here t nm F[i]).2 !=0)=true from ZZ.2 e];refine G0 ?_;(exact⟨[],aI⟩)
  have ht:((F.take i).map fun s=>(Hu k.here t nm s).1).map Rr.row++[Rr.row (Hu k.here t nm F[i]).1]=((F.take (i+1)).map fun s=>(Hu k.here t nm s).1).map Rr.row:=by
   rw[XT,ZC c,ZI,ZI];rfl
  have hti:(F.take i).length=i:=by rw[ZM];omega
  rw[e];refine G1 ?_;intro gg;refine⟨lI,lI,?_⟩;refine G1 ?_;intro gg;(exact⟨none,trivial,fun gr=>⟨⟨(i+1,gg),by show i+1≤_;omega,up1 (p:=fun j h=>(Hu k.here t nm F[j]).2=0) h0 (fun _=>e)⟩,by show F.length-(i+1)<F.length-i;omega,tI,tI,⟨congrArg (fun r=>some (Ent.mk gg (.t 51) 7 r)) ht,trivial⟩,tI⟩⟩)
 ·rw[show decide ((i:Int)<(F.length:Int))=false from ZY (by omega)];have e1:D4 (F.map fun s=>(Hu k.here t nm s).2)=0:=Qs fun j hj=>by rw[XQ];exact h0 j (by simpa using hj) (by simp at hj;omega)
  obtain rfl:i=F.length:=by omega
  refine G0 ?_;(refine .inl ⟨_,_,false,[],aI,Aou k.l q.sv ⟨#[]⟩ hk.ll hk.lo hq.1 (by decide),Ae,nI,?_⟩);refine G1 ?_;intro gg;rw[ZE];have e2:P2 k q t nm F=(if(Dp k.l q.sv ⟨#[]⟩).2.length=0 then([],3,0)else(F.map fun s=>(Hu k.here t nm s).1,0,0):List Rr×Int×Int):=by unfold P2;rw[e1];rfl
  by_cases f:(Dp k.l q.sv ⟨#[]⟩).2.length=0
  ·rw[if_pos f]at e2;rw[e2,f];refine G0 ?_;(exact⟨[],aI⟩)
  ·rw[if_neg f]at e2;rw[e2,show(((Dp k.l q.sv ⟨#[]⟩).2.length:Int)==0)=false from ZG.2 (by omega)];refine G0 ?_;rw[XF];(exact⟨[496],aI⟩)
namespace Pl
def Rl(k:Kn)(q:Qr)(t:Int):Int:=if q.err≠0 then q.err else if Mu t=false then 7 else k.err
def Ik(k:Kn)(q:Qr)(t:Int)(F:List Sv):List Rr×Int×Int:=
 if Rl k q t≠0 then([],0,Rl k q t)
 else if(Au q).2≠0 then([],0,(Au q).2)
 else if em q.ce=false∧(q.ce.toList==k.here.toList)=false then([],3,0)
 else if em q.nd=false then((Mw k q t (Au q).1).1,(Mw k q t (Au q).1).2,0)
 else P2 k q t (Au q).1 F
end Pl
theorem Yn(k:Kn)(q:Qr)(t:Int)(nm:ByteArray):∀u∈k.ask q t nm,Cl u:=fun u hu=>by
 simp only[Kn.ask,XC,XD,or_false]at hu;rcases hu with rfl|rfl|rfl|rfl|rfl|rfl|rfl|rfl|rfl|rfl|rfl|rfl|rfl|rfl|rfl
 all_goals first
  |exact A9 rfl
  |exact Dz
theorem Axs{k:Kn}(h:k.err=0):k.ms.length≤20∧∀name,Aee (Mb.cf name) k.ms:=by
 have hc:E5 k.ms=0:=by
  unfold Kn.err at h;cases h0:(!lab k.here.data.toList)with
  |true=>rw[h0]at h;exact absurd h (by decide:(1:Int)≠0)
  |false=>
   rw[h0,cond_false]at h;by_cases h1:D3 k.l≠0
   ·rw[if_pos h1]at h;exact absurd h h1
   ·rw[if_neg h1]at h;by_cases h2:E5 k.ms≠0
    ·rw[if_pos h2]at h;exact absurd h h2
    ·exact Decidable.not_not.1 h2
 obtain⟨h1,_,h3⟩:=Jb hc;exact⟨h1,fun name=>(Mb.smono h3 name).mono⟩
set_option maxHeartbeats 1000000 in
theorem Aic(k:Kn)(q:Qr)(t:Int)(F:List Sv)(hk:k.In)(hq:q.ok)(hn:F.length≤1000)(hs:∀s∈F,s.nd.size≤9223372036854775807)(hF:Rl k q t=0→Fun Tryz.prog 209 [.c (.rptr (k.ask q t (Au q).1) 0)] [.c (.sl false (F.map Sv.row))]):
  Fun Tryz.prog 78 [.c (.agg q.row),.c (.v (.int .i64 t)),.c (.v (.string k.here)),.c (.sl false (k.l.map Sv.row)),.c (.sl false (k.ms.map Mb.row)),.c (.agg k.f.row),.c (.sl false (k.wh.map Wh.row))]
   [.o 51 7 ((Ik k q t F).1.map Rr.row),.c (.v (.int .i64 (Ik k q t F).2.1)),.c (.v (.int .i64 (Ik k q t F).2.2))]:=by
 have hE:Rl k q t=if q.err≠0 then q.err else if Mu t=false then 7 else k.err:=rfl
 have hA:Ik k q t F=(if Rl k q t≠0 then([],0,Rl k q t)
  else if(Au q).2≠0 then([],0,(Au q).2)
  else if em q.ce=false∧(q.ce.toList==k.here.toList)=false then([],3,0)
  else if em q.nd=false then((Mw k q t (Au q).1).1,(Mw k q t (Au q).1).2,0)
  else P2 k q t (Au q).1 F:List Rr×Int×Int):=rfl
 refine Av Ub rfl ?_;(refine goI ?_;repeat (intro gg;refine goI ?_));refine .inl (cX (Z2 q hq) ?_);refine G1 ?_;intro gg;by_cases c1:q.err=0;rotate_left
 ·rw[if_pos c1]at hE;rw[hE,if_pos c1]at hA;rw[hA,show(q.err==0)=false from ZG.2 c1];refine G0 ?_;rw[show(q.err==0)=false from ZG.2 c1];refine G0 ?_;rw[show(q.err !=0)=true from ZZ.2 c1];refine G0 ?_;(exact⟨[],aI⟩)
 rw[if_neg (by simpa using c1)]at hE;rw[show(q.err==0)=true from ZR.2 c1];refine G0 ?_;refine .inl (cX (S0 t) ?_);refine G1 ?_;intro gg;by_cases c2:Mu t=true;rotate_left
 ·rw[if_pos (XE.2 c2)]at hE;rw[hE,if_pos (by decide)]at hA;rw[hA,XE.2 c2];refine G0 ?_;(exact⟨[],aI⟩)
 rw[if_neg (by simpa using c2)]at hE;rw[c2];refine G0 ?_;rw[show(q.err==0)=true from ZR.2 c1];refine G0 ?_;refine .inl (cX (Adz k hk) ?_);refine G1 ?_;intro gg;by_cases c3:k.err=0;rotate_left
 ·rw[hE,if_pos c3]at hA;rw[hA,show(k.err !=0)=true from ZZ.2 c3];refine G0 ?_;(exact⟨[],aI⟩)
 have hFF:=hF (hE.trans c3);rw[hE,if_neg (by simpa using c3)]at hA;rw[c3];have hP:=Dw q hq;refine G1 ?_;intro gg;revert gg;intro ga;refine .inl (cX hP ?_);generalize Au q=P at *;refine G1 ?_;intro gg;by_cases c4:P.2=0;rotate_left
 ·rw[if_pos c4]at hA;rw[hA,show(P.2 !=0)=true from ZZ.2 c4];refine G0 ?_;(exact⟨[],aI⟩)
 rw[if_neg (by simpa using c4)]at hA;rw[c4];have hEc:em q.ce=(q.ce.toList==(⟨#[]⟩:ByteArray).toList):=rfl;have hEn:em q.nd=(q.nd.toList==(⟨#[]⟩:ByteArray).toList):=rfl;have hms:=Axs c3;have hN:=Aot k q t P.1 (by omega) (hms.2 q.nd);have hSv:=Aeu k q t P.1 F hk hq hn hs hFF;refine G0 ?_;by_cases d1:em q.ce=false∧(q.ce.toList==k.here.toList)=false
 ·rw[if_pos d1]at hA;rw[←hEc,d1.1];refine G0 ?_;rw[d1.2,hA];refine G0 ?_;(exact⟨[],aI⟩)
 rw[if_neg d1]at hA;have Bk:∀b,b=em q.nd→True:=fun _ _=>trivial;rw[←hEc];by_cases d2:em q.ce=true
 ·rw[d2];refine G0 ?_;rw[←hEn];by_cases d4:em q.nd=false
  ·rw[if_pos d4]at hA;rw[d4,hA];refine G0 ?_;(refine .inl ⟨_,_,true,[],.borp rfl rfl rfl (Yn k q t P.1) (by decide) (.nil _),hN,(fun _=>fI),nI,?_⟩);refine G1 ?_;intro gg;(exact⟨[1184],aI⟩)
  rw[if_neg d4]at hA;rw[show em q.nd=true from by simpa using d4,hA];refine G0 ?_;(refine .inl ⟨_,_,true,[],.borp rfl rfl rfl (Yn k q t P.1) (by decide) (.nil _),hSv,(fun _=>fI),nI,?_⟩);refine G1 ?_;intro gg;(exact⟨[1264],aI⟩)
 ·have d3:(q.ce.toList==k.here.toList)=true:=by
   rw[XE.2 d2]at d1;simpa using d1
  rw[XE.2 d2];refine G0 ?_;rw[d3];refine G0 ?_;rw[←hEn];by_cases d4:em q.nd=false
  ·rw[if_pos d4]at hA;rw[d4,hA];refine G0 ?_;(refine .inl ⟨_,_,true,[],.borp rfl rfl rfl (Yn k q t P.1) (by decide) (.nil _),hN,(fun _=>fI),nI,?_⟩);refine G1 ?_;intro gg;(exact⟨[1184],aI⟩)
  rw[if_neg d4]at hA;rw[show em q.nd=true from by simpa using d4,hA];refine G0 ?_;(refine .inl ⟨_,_,true,[],.borp rfl rfl rfl (Yn k q t P.1) (by decide) (.nil _),hSv,(fun _=>fI),nI,?_⟩);refine G1 ?_;intro gg;(exact⟨[1264],aI⟩)
namespace Pl
def Cr(s:ByteArray)(a:Nat):Option (Nat×Nat):=(s[a]?).map fun c=>(c.toNat,a+1)
def Cb(s:ByteArray)(a:Nat):Option (Nat×Nat):=(Cr s a).bind fun p=>(Cr s p.2).bind fun q=>some (p.1*256+q.1,q.2)
def I9(s:ByteArray)(a:Nat):Option (Nat×Nat):=(Cb s a).bind fun p=>(Cb s p.2).bind fun q=>some (p.1*65536+q.1,q.2)
def Fx(s:ByteArray)(a n:Nat):Option (ByteArray×Nat):=if a+n≤s.size then some (s.extract a (a+n),a+n)else none
def Ip(c:UInt8):UInt8:=if 65≤c.toNat∧c.toNat≤90 then c+32 else c
def C4(s:ByteArray):ByteArray:=⟨(s.data.toList.map Ip).toArray⟩
def nameR(s:ByteArray):Nat→Nat→List ByteArray→Option Nat→Nat→Option (List ByteArray×Nat)
 |0,_,_,_,_=>none
 |f+1,a,l,e,fr=>
  if l.length≤8 then
   (Cr s a).bind fun p=>
    if p.1=0 then some (l,e.getD p.2)
    else if 192≤p.1 then(Cr s p.2).bind fun q=>
     if p.1%64*256+q.1<fr then nameR s f (p.1%64*256+q.1) l (some (e.getD q.2)) (p.1%64*256+q.1)else none
    else(Fx s p.2 p.1).bind fun q=>if lab (C4 q.1).data.toList=true then nameR s f q.2 (l++[C4 q.1]) e fr else none
  else none
def Ih(s:ByteArray)(a:Nat):Option (ByteArray×Nat):=(nameR s (a+10) a [] none a).map fun p=>(Dk ⟨#[46]⟩ p.1,p.2)
def Kx(s:ByteArray)(t a:Nat):Option ((Nat×ByteArray×Nat×ByteArray)×Nat):=
 if t=1 then(I9 s a).bind fun p=>some ((p.1,⟨#[]⟩,0,⟨#[]⟩),p.2)
 else if t=16 then(Cr s a).bind fun p=>(Fx s p.2 p.1).bind fun q=>some ((0,q.1,0,⟨#[]⟩),q.2)
 else if t=33 then(Cb s a).bind fun p=>if p.1=0 then(Cb s p.2).bind fun q=>if q.1=0 then(Cb s q.2).bind fun r=>(Ih s r.2).bind fun n=>some ((0,⟨#[]⟩,r.1,n.1),n.2)else none else none
 else none
def Un(s:ByteArray)(a:Nat):Option (Rr×Nat):=
 (Ih s a).bind fun n=>(Cb s n.2).bind fun t=>(Cb s t.2).bind fun c=>if c.1=1 then
  (I9 s c.2).bind fun ls=>(Cb s ls.2).bind fun k=>if k.2+k.1≤s.size then
   (Kx s t.1 k.2).bind fun b=>if b.2=k.2+k.1 then some (⟨n.1,t.1,ls.1,b.1.1,b.1.2.1,b.1.2.2.1,b.1.2.2.2⟩,b.2)else none
  else none
 else none
def Ig(s:ByteArray):Nat→Nat→Option (List Rr×Nat)
 |0,a=>some ([],a)
 |k+1,a=>(Un s a).bind fun r=>(Ig s k r.2).bind fun l=>some (r.1::l.1,l.2)
def Aq5(n:Nat):Bool:=n==0||n==2||n==128||n==130
def Ut(s:ByteArray):Option Ms:=
 (Cb s 0).bind fun i=>(Cr s i.2).bind fun a=>(Cr s a.2).bind fun b=>if(Aq5 a.1&&decide (b.1<16))=true then
  (Cb s b.2).bind fun c=>if c.1=1 then
   (Cb s c.2).bind fun k=>if k.1≤20 then(Cb s k.2).bind fun z=>if z.1=0 then(Cb s z.2).bind fun y=>if y.1=0 then
    (Ih s y.2).bind fun n=>(Cb s n.2).bind fun t=>(Cb s t.2).bind fun d=>if d.1=1 then
     (Ig s k.1 d.2).bind fun l=>if l.2=s.size then some ⟨i.1,decide (128≤a.1),decide (a.1%4≥2),b.1,n.1,t.1,l.1⟩else none
    else none
   else none else none else none
  else none
 else none
end Pl
abbrev rdT:TypeId:=107
def rdZ(s:ByteArray)(x:Int):List Par:=[.c (.v (.string s)),.c (.v (.int .i64 x))]
def rdC(s:ByteArray)(a:Nat):List Par:=rdZ s (a:Int)
def Hg:Value:=.iface 103 (.agg #[])
theorem Bc(row:List V){b:Bool}(h:b=true):Fun Tryz.prog 105 [.c (.rptr row 0),.c (.v (.bool b))] []:=by
 subst h;refine Av Ky rfl ?_;refine G0 ?_;(exact⟨[],aI⟩)
theorem Ca(row:List V){b:Bool}(h:b=false):Ha Tryz.prog 105 [.p (.c (.rptr row 0)),.p (.c (.v (.bool b)))] Hg:=by
 subst h;refine Nc Ky rfl (Li rfl) ?_;refine G0 ?_;rfl
theorem Aba{s:ByteArray}{a v a':Nat}(h:Cr s a=some (v,a')):∃c,s[a]? =some c∧v=c.toNat∧a'=a+1∧a<s.size:=by
 unfold Cr at h;obtain⟨c,h1,h2⟩:=Option.map_eq_some_iff.1 h;cases h2;refine⟨c,h1,rfl,rfl,?_⟩;exact(getElem?_eq_some_iff.1 h1).1
theorem Ama{s:ByteArray}{a:Nat}(h:Cr s a=none):¬a<s.size:=by
 unfold Cr at h;intro q;rw[Option.map_eq_none_iff]at h;simp[q]at h
theorem D8{s:ByteArray}{a v a':Nat}(h:Cr s a=some (v,a'))(hs:s.size≤1000000):Hv Tryz.prog 104 [.mn rdT (rdC s a) (rdC s a')] [.p (.c (.v (.int .i64 (v:Int))))]:=by
 obtain⟨c,h1,rfl,rfl,hlt⟩:=Aba h;rw[show rdC s (a+1)=rdZ s ((a:Int)+1)from rfl];have hc:c.toNat<256:=c.toNat_lt;refine Kl Kc rfl rfl (Li rfl) ?_;refine G0 ?_;(refine .inl ⟨_,_,true,[],aI,Bc _ (ZX (by omega)),(fun _=>fI),nI,?_⟩);refine G1 ?_;intro gg;refine⟨a,c,by omega,h1,?_⟩;refine G0 ?_;(exact⟨0::([]++[]),Ix (by first|exact A9 rfl|assumption) (Oq (gone:=[]) (gone1:=[]) rfl aI (by decide) (by decide) (by decide) (.nil _))⟩)
theorem Kg{s:ByteArray}{a:Nat}{R:List Par}(h:Cr s a=none)(hs:s.size≤1000000):Ha Tryz.prog 104 [.mn rdT (rdC s a) R] Hg:=by
 have hlt:=Ama h;refine Nc Kc rfl (Li rfl) ?_;refine G0 ?_;(exact .inr (.inr (.inl ⟨_,true,[],_,aM,Ca _ (ZY (by omega)),rfl⟩)))
theorem C3{s:ByteArray}{a v a':Nat}(h:Cr s a=some (v,a')):v<256∧a'=a+1∧a'≤s.size:=by
 obtain⟨c,_,rfl,rfl,h4⟩:=Aba h;exact⟨c.toNat_lt,rfl,h4⟩
theorem orP{x y:Nat}(k:Nat)(hy:y<2^k)(hx:x*2^k+y<9223372036854775808):IntKind.i64.wrap ((BitVec.ofInt IntKind.i64.bits ((x*2^k:Nat):Int)|||BitVec.ofInt IntKind.i64.bits (y:Int)).toNat)=((x*2^k+y:Nat):Int):=by
 have e1:(BitVec.ofInt IntKind.i64.bits ((x*2^k:Nat):Int)|||BitVec.ofInt IntKind.i64.bits (y:Int)).toNat=x*2^k+y:=by
  show(BitVec.ofInt 64 ((x*2^k:Nat):Int)|||BitVec.ofInt 64 (y:Int)).toNat=_;rw[BitVec.toNat_or,BitVec.ofInt_natCast,BitVec.ofInt_natCast,BitVec.toNat_ofNat,BitVec.toNat_ofNat,Nat.mod_eq_of_lt (by omega),Nat.mod_eq_of_lt (by omega),Nat.mul_comm,←Nat.two_pow_add_eq_or_of_lt hy]
 rw[e1,Ed (by omega) (by omega)]
theorem Ati{x:Nat}(h:x<256):IntKind.i64.wrap ((x:Int)*2^min (Int.toNat 8) IntKind.i64.bits)=((x*2^8:Nat):Int):=by
 show IntKind.i64.wrap ((x:Int)*256)=_;rw[Ed (by omega) (by omega)];omega
theorem Axl{x:Nat}(h:x<65536):IntKind.i64.wrap ((x:Int)*2^min (Int.toNat 16) IntKind.i64.bits)=((x*2^16:Nat):Int):=by
 show IntKind.i64.wrap ((x:Int)*65536)=_;rw[Ed (by omega) (by omega)];omega
theorem or8{x y:Nat}(hx:x<256)(hy:y<256):IntKind.i64.wrap ((BitVec.ofInt IntKind.i64.bits ((x*2^8:Nat):Int)|||BitVec.ofInt IntKind.i64.bits (y:Int)).toNat)=((x*256+y:Nat):Int):=orP 8 (by omega) (by omega)
theorem Bdc{x y:Nat}(hx:x<65536)(hy:y<65536):IntKind.i64.wrap ((BitVec.ofInt IntKind.i64.bits ((x*2^16:Nat):Int)|||BitVec.ofInt IntKind.i64.bits (y:Int)).toNat)=((x*65536+y:Nat):Int):=orP 16 (by omega) (by omega)
theorem Bf{s:ByteArray}{a a':Nat}{v:Nat}(h:Cb s a=some (v,a'))(hs:s.size≤1000000):Hv Tryz.prog 103 [.mn rdT (rdC s a) (rdC s a')] [.p (.c (.v (.int .i64 (v:Int))))]:=by
 unfold Cb at h;refine Kl Lw rfl rfl (Li rfl) ?_;refine G0 ?_;rcases e1:Cr s a with _|⟨x,a1⟩
 ·rw[e1]at h;cases h
 rw[e1,ZA]at h;simp only at h;have be1:=C3 e1;(refine .inr (.inl ⟨_,_,false,0::([]++[]),?_,D8 e1 hs,Ae,oI,dI,?_⟩);focus (exact wI));refine G1 ?_;intro gg;refine⟨by decide,_,Ati be1.1,?_⟩;refine G0 ?_;rcases e2:Cr s a1 with _|⟨y,a2⟩
 ·rw[e2]at h;cases h
 rw[e2,ZA]at h;simp only at h;have be2:=C3 e2;(refine .inr (.inl ⟨_,_,false,0::([]++[]),?_,D8 e2 hs,Ae,oI,dI,?_⟩);focus (exact wI));refine G1 ?_;intro gg;refine⟨_,or8 be1.1 be2.1,?_⟩;refine G0 ?_;cases h;(exact⟨0::([]++[]),Ix (by first|exact A9 rfl|assumption) (Oq (gone:=[]) (gone1:=[]) rfl aI (by decide) (by decide) (by decide) (.nil _))⟩)
theorem Dt{s:ByteArray}{a:Nat}{R:List Par}(h:Cb s a=none)(hs:s.size≤1000000):Ha Tryz.prog 103 [.mn rdT (rdC s a) R] Hg:=by
 unfold Cb at h;refine Nc Lw rfl (Li rfl) ?_;refine G0 ?_;rcases e1:Cr s a with _|⟨x,a1⟩
 ·(refine .inr (.inr (.inl ⟨_,false,0::([]++[]),_,?_,Kg (R:=rdC s 0) e1 hs,rfl⟩));focus (exact wI))
 rw[e1,ZA]at h;simp only at h;have be1:=C3 e1;(refine .inr (.inl ⟨_,_,false,0::([]++[]),?_,D8 e1 hs,Ae,oI,dI,?_⟩);focus (exact wI));refine G1 ?_;intro gg;refine⟨by decide,_,Ati be1.1,?_⟩;refine G0 ?_;rcases e2:Cr s a1 with _|⟨y,a2⟩
 ·(refine .inr (.inr (.inl ⟨_,false,0::([]++[]),_,?_,Kg (R:=rdC s 0) e2 hs,rfl⟩));focus (exact wI))
 rw[e2,ZA]at h;simp only at h;have be2:=C3 e2;(refine .inr (.inl ⟨_,_,false,0::([]++[]),?_,D8 e2 hs,Ae,oI,dI,?_⟩);focus (exact wI));refine G1 ?_;intro gg;refine⟨_,or8 be1.1 be2.1,?_⟩;refine G0 ?_;cases h
theorem Bo{s:ByteArray}{a v a':Nat}(h:Cb s a=some (v,a')):v<65536∧a'=a+2∧a'≤s.size:=by
 unfold Cb at h;rcases e1:Cr s a with _|⟨x,a1⟩
 ·rw[e1]at h;cases h
 rw[e1,ZA]at h;simp only at h;rcases e2:Cr s a1 with _|⟨y,a2⟩
 ·rw[e2]at h;cases h
 rw[e2,ZA]at h;cases h;have b1:=C3 e1;have b2:=C3 e2;show x*256+y<65536∧a2=a+2∧a2≤s.size;omega
theorem Ts{s:ByteArray}{a a':Nat}{v:Nat}(h:I9 s a=some (v,a'))(hs:s.size≤1000000):Hv Tryz.prog 191 [.mn rdT (rdC s a) (rdC s a')] [.p (.c (.v (.int .i64 (v:Int))))]:=by
 unfold I9 at h;refine Kl K9 rfl rfl (Li rfl) ?_;refine G0 ?_;rcases e1:Cb s a with _|⟨x,a1⟩
 ·rw[e1]at h;cases h
 rw[e1,ZA]at h;simp only at h;have be1:=Bo e1;(refine .inr (.inl ⟨_,_,false,0::([]++[]),?_,Bf e1 hs,Ae,oI,dI,?_⟩);focus (exact wI));refine G1 ?_;intro gg;refine⟨by decide,_,Axl be1.1,?_⟩;refine G0 ?_;rcases e2:Cb s a1 with _|⟨y,a2⟩
 ·rw[e2]at h;cases h
 rw[e2,ZA]at h;simp only at h;have be2:=Bo e2;(refine .inr (.inl ⟨_,_,false,0::([]++[]),?_,Bf e2 hs,Ae,oI,dI,?_⟩);focus (exact wI));refine G1 ?_;intro gg;refine⟨_,Bdc be1.1 be2.1,?_⟩;refine G0 ?_;cases h;(exact⟨0::([]++[]),Ix (by first|exact A9 rfl|assumption) (Oq (gone:=[]) (gone1:=[]) rfl aI (by decide) (by decide) (by decide) (.nil _))⟩)
theorem Agp{s:ByteArray}{a:Nat}{R:List Par}(h:I9 s a=none)(hs:s.size≤1000000):Ha Tryz.prog 191 [.mn rdT (rdC s a) R] Hg:=by
 unfold I9 at h;refine Nc K9 rfl (Li rfl) ?_;refine G0 ?_;rcases e1:Cb s a with _|⟨x,a1⟩
 ·(refine .inr (.inr (.inl ⟨_,false,0::([]++[]),_,?_,Dt (R:=rdC s 0) e1 hs,rfl⟩));focus (exact wI))
 rw[e1,ZA]at h;simp only at h;have be1:=Bo e1;(refine .inr (.inl ⟨_,_,false,0::([]++[]),?_,Bf e1 hs,Ae,oI,dI,?_⟩);focus (exact wI));refine G1 ?_;intro gg;refine⟨by decide,_,Axl be1.1,?_⟩;refine G0 ?_;rcases e2:Cb s a1 with _|⟨y,a2⟩
 ·(refine .inr (.inr (.inl ⟨_,false,0::([]++[]),_,?_,Dt (R:=rdC s 0) e2 hs,rfl⟩));focus (exact wI))
 rw[e2,ZA]at h;simp only at h;have be2:=Bo e2;(refine .inr (.inl ⟨_,_,false,0::([]++[]),?_,Bf e2 hs,Ae,oI,dI,?_⟩);focus (exact wI));refine G1 ?_;intro gg;refine⟨_,Bdc be1.1 be2.1,?_⟩;refine G0 ?_;cases h
theorem Uk{s:ByteArray}{a v a':Nat}(h:I9 s a=some (v,a')):v<4294967296∧a'=a+4∧a'≤s.size:=by
 unfold I9 at h;rcases e1:Cb s a with _|⟨x,a1⟩
 ·rw[e1]at h;cases h
 rw[e1,ZA]at h;simp only at h;rcases e2:Cb s a1 with _|⟨y,a2⟩
 ·rw[e2]at h;cases h
 rw[e2,ZA]at h;cases h;have b1:=Bo e1;have b2:=Bo e2;show x*65536+y<4294967296∧a2=a+4∧a2≤s.size;omega
def SmR(w:World)(B n:Nat)(l:List UInt8):Prop:=
 ∃C hi,w.heap[B]? =some (.cells C 5 (C.size,hi))∧n≤C.size∧l.length=n∧∀(j:Nat) (x:UInt8),l[j]? =some x→C[j]? =some (Value.int .u8 (x.toNat:Int))
theorem SmR.cell{w:World}{B n:Nat}{l:List UInt8}(h:SmR w B n l){j:Nat}{x:UInt8}(hx:l[j]? =some x):w.cell? ⟨B,j,none⟩=some (.int .u8 (x.toNat:Int)):=by
 obtain⟨C,hi,h1,h2,h3,h4⟩:=h;unfold World.cell?;rw[h1];exact h4 j x hx
theorem SmR.frozen{w:World}{B n:Nat}{l:List UInt8}(h:SmR w B n l){j:Nat}(hj:j<n):w.frozen? ⟨B,j,none⟩=false:=by
 obtain⟨C,hi,h1,h2,h3,h4⟩:=h;unfold World.frozen?;simp only[h1];simp;omega
theorem SmR.set{w:World}{B n:Nat}{l:List UInt8}(h:SmR w B n l){j:Nat}(x:UInt8):SmR (w.setCell ⟨B,j,none⟩ (.int .u8 (x.toNat:Int))) B n (l.set j x):=by
 obtain⟨C,hi,h1,h2,h3,h4⟩:=h;refine⟨C.setIfInBounds j (.int .u8 (x.toNat:Int)),hi,?_,by simpa using h2,by simpa using h3,fun i y hy=>?_⟩
 ·simp[World.setCell,Array.getElem?_modify,h1]
 ·rw[List.getElem?_set]at hy;split at hy
  ·subst j;split at hy
   ·cases hy;have:i<C.size:=by omega
    simp[this]
   ·cases hy
  ·rename_i hne;have:=h4 i y hy;rw[Array.getElem?_setIfInBounds_ne hne];exact this
def smK(s:ByteArray)(k:Nat):List UInt8:=(s.data.toList.take k).map Ip++s.data.toList.drop k
theorem Tz(s:ByteArray)(k:Nat):(smK s k).length=s.size:=by
 unfold smK;have:s.data.toList.length=s.size:=by simp
 simp;omega
theorem Ar5{s:ByteArray}{k:Nat}(h:k<s.size):(smK s k)[k]? =some s[k]:=by
 unfold smK;have e:s.data.toList.length=s.size:=by simp
 rw[ZP (by simp;omega)];simp[Nat.min_eq_left (Nat.le_of_lt h),h];rfl
theorem Agt{s:ByteArray}{k:Nat}(h:k<s.size):smK s (k+1)=(smK s k).set k (Ip s[k]):=by
 have e:s.data.toList.length=s.size:=by simp
 apply List.ext_getElem?;intro i;rw[List.getElem?_set];unfold smK;rcases Nat.lt_trichotomy i k with g|rfl|g
 ·rw[if_neg (by omega),ZQ (by simp;omega),ZQ (by simp;omega)];simp[g,Nat.lt_succ_of_lt g]
 ·rw[if_pos rfl,if_pos (by have:=Tz s i;unfold smK at this;omega),ZQ (by simp;omega)];simp[h];rfl
 ·rw[if_neg (by omega),ZP (by simp;omega),ZP (by simp;omega)];simp[List.getElem?_drop];congr 1;omega
theorem Asw{s:ByteArray}{k:Nat}(h:k<s.size)(hx:Ip s[k]=s[k]):smK s (k+1)=smK s k:=by
 rw[Agt h,hx];have h1:=Ar5 h;apply List.ext_getElem?;intro i;rw[List.getElem?_set];split
 ·subst i;rw[h1];split<;>first|rfl|(exfalso;have:=Tz s k;omega)
 ·rfl
theorem Awe(s:ByteArray):(⟨(smK s s.size).toArray⟩:ByteArray)=C4 s:=by
 have e:s.data.toList.length=s.size:=by simp
 unfold smK C4;rw[List.take_of_length_le (by omega),List.drop_eq_nil_of_le (by omega),List.append_nil]
theorem Ayk{s:ByteArray}{wr:World}{B k:Nat}{c:UInt8}(h:SmR wr B s.size (smK s k))(hlt:k<s.size)(hc:c=s[k])(h65:(65:Int)≤(c.toNat:Int))(h90:(c.toNat:Int)≤90):SmR (wr.setCell ⟨B,k,none⟩ (.int .u8 ((c.toNat:Int)+32))) B s.size (smK s (k+1)):=by
 have e:((c.toNat:Int)+32)=((Ip c).toNat:Int):=by
  unfold Ip;rw[if_pos ⟨by omega,by omega⟩,UInt8.toNat_add];show _=(((c.toNat+32)%256:Nat):Int);omega
 rw[e,Agt hlt,←hc];exact h.set _
theorem An4{s:ByteArray}{wr:World}{B k:Nat}{c:UInt8}(h:SmR wr B s.size (smK s k))(hlt:k<s.size)(hc:c=s[k])(hn:¬((65:Int)≤(c.toNat:Int)∧(c.toNat:Int)≤90)):SmR wr B s.size (smK s (k+1)):=by
 rw[Asw hlt]
 ·exact h
 ·rw[←hc];unfold Ip;rw[if_neg (by omega)]
theorem Av0{w wr:World}{B:Nat}(h:Below B w wr)(k:Nat)(v:Value):Below B w (wr.setCell ⟨B,k,none⟩ v):=Below.setCell h (ZT _) _
theorem Axa{s:ByteArray}{wr:World}{B:Nat}(h:SmR wr B s.size (smK s s.size))(cap:Nat):(convert 173 9 (.slice (some ⟨B,0,none⟩) s.size cap)).run Tryz.prog wr=.ok (.string (C4 s)) wr:=by
 have key:=run_convert_bytes_arg (P:=Tryz.prog) wr 173 5 Tryz.underlying173 Tryz.underlying5 B 0 ((smK s s.size).map fun b:UInt8=>(b.toNat:Int)).length cap ((smK s s.size).map fun b:UInt8=>(b.toNat:Int)) rfl (fun i hi=>by
  rw[ZE]at hi;have hx:(smK s s.size)[i]? =some (smK s s.size)[i]:=ZC hi;have:=h.cell hx;rw[Nat.zero_add,this];simp[List.getD,hi]) 9 Tryz.underlying9
 rw[ZE,Tz]at key;rw[key,←Av3,←Awe];have e:Ae6 ((smK s s.size).map fun b:UInt8=>(b.toNat:Int))=⟨(smK s s.size).toArray⟩:=by
  unfold Ae6;rw[List.map_map,show((fun n:Int=>UInt8.ofNat n.toNat)∘fun b:UInt8=>(b.toNat:Int))=id from funext fun b=>by simp,List.map_id]
 rw[e]
set_option maxRecDepth 100000 in
theorem Ap4(s:ByteArray)(w:World)(hs:s.size≤1000000):
  Calls Tryz.prog 189 #[.string s] w fun e w'=>e=.returned (.string (C4 s))∧Below w.heap.size w w':=by
 obtain⟨cap,C,fr,hrun,hR⟩:∃(cap:Nat) (C:Array Value) (fr:Nat×Nat),(convert 9 173 (.string s)).run Tryz.prog w=.ok (.slice (some ⟨w.heap.size,0,none⟩) s.size cap) (w.drew.alloc (.cells C 5 fr))∧SmR (w.alloc (.cells C 5 fr)).drew w.heap.size s.size (smK s 0):=by
  refine⟨_,_,_,run_bytes_of_string w 9 173 5 s Tryz.underlying9 Tryz.underlying173 Tryz.underlying5,?_⟩;refine⟨_,_,heap_alloc_new w _,by unfold bytesRow;simp,Tz s 0,fun j x hx=>?_⟩;have hj:j<s.data.size:=by
   have:=(ZB.1 hx).1;rw[Tz]at this;exact this
  rw[bytesRow_at s _ j hj];have:(smK s 0)[j]? =some s.data[j]:=by unfold smK;simp[hj]
  rw[this]at hx;cases hx;rfl
 have HR:=hid hR;clear hR;have HB:=hid (show Below w.heap.size w (w.alloc (.cells C 5 fr)).drew from(by repeat (first|exact Below.refl _ _|assumption|refine Below.drew ?_|refine below_drewN ?_ _|refine Below.alloc ?_ (by simp;try omega) _|refine Below.setCell ?_ (by simp;try omega) _)))
 go_enter Tryz.func189,Tryz.ntmps189
 go_wp2
 go_loopw [10] (fun i wr=>∃k:Nat,k≤s.size∧i=.int .i64 k∧SmR wr w.heap.size s.size (smK s k)∧Below w.heap.size w wr) (fun i _=>s.size-(intOf i).toNat)
 case atStart=>exact⟨0,ZU _,rfl,HR.out,HB.out⟩
 case round=>
  obtain⟨k,hk,rfl,hrow,hbw⟩:=hrel;have HW:=hid hrow;have HL:=hid hbw;clear hrow hbw hrun HR HB;by_cases hlt:k<s.size
  ·have hcell:=HW.out.cell (Ar5 hlt);have hfro:=HW.out.frozen hlt;have hby:((s[k]).toNat:Int)≤255:=by have:=(s[k]).toNat_lt;omega
   obtain⟨c,hc⟩:∃c,c=s[k]:=⟨_,rfl⟩;have HC:=hid hc;rw[←hc]at hcell hby;clear hc;by_cases h65:(65:Int)≤(c.toNat:Int)
   ·by_cases h90:(c.toNat:Int)≤90
    ·go_wp2
     go_round
     case rel=>exact⟨k+1,by omega,rfl,Ayk HW.out hlt HC.out h65 h90,Av0 HL.out _ _⟩
     case measure=>simp[intOf];omega
    ·go_wp2
     go_round
     case rel=>exact⟨k+1,by omega,rfl,An4 HW.out hlt HC.out (fun q=>h90 q.2),HL.out⟩
     case measure=>simp[intOf];omega
   ·go_wp2
    go_round
    case rel=>exact⟨k+1,by omega,rfl,An4 HW.out hlt HC.out (fun q=>h65 q.1),HL.out⟩
    case measure=>simp[intOf];omega
  ·obtain rfl:k=s.size:=by omega
   have hback:=Axa HW.out cap
   go_wp2
   go_ret
   exact⟨rfl,HL.out⟩
theorem Adt(s:ByteArray)(hs:s.size≤1000000):Fun Tryz.prog 189 [.c (.v (.string s))] [.c (.v (.string (C4 s)))]:=
 Lc (xs:=[.string s]) (Cs Tryz.func189 (by kernel_rfl) (by kernel_rfl)) fun w=>(Ap4 s w hs).mono fun e w' h=>⟨h.1,h.2⟩
theorem J9{s:ByteArray}{a n:Nat}{v:ByteArray}{a':Nat}(h:Fx s a n=some (v,a')):a+n≤s.size∧v=s.extract a (a+n)∧a'=a+n∧v.size=n:=by
 unfold Fx at h;split at h
 ·cases h;refine⟨by assumption,rfl,rfl,?_⟩;rw[ByteArray.size_extract];omega
 ·cases h
theorem Apn{s:ByteArray}{a n:Nat}(h:Fx s a n=none):¬a+n≤s.size:=by
 unfold Fx at h;split at h
 ·cases h
 ·assumption
theorem Qv{s:ByteArray}{a n:Nat}{v:ByteArray}{a':Nat}(h:Fx s a n=some (v,a'))(hs:s.size≤1000000)(ha:a≤s.size)(hn:n≤1000000):Hv Tryz.prog 190 [.mn rdT (rdC s a) (rdC s a'),.p (.c (.v (.int .i64 (n:Int))))] [.p (.c (.v (.string v)))]:=by
 obtain⟨h1,rfl,rfl,_⟩:=J9 h;rw[show rdC s (a+n)=rdZ s ((a:Int)+(n:Int))from rfl];refine Kl Js rfl rfl (Li rfl) ?_;refine G0 ?_;(refine .inl ⟨_,_,true,[],aI,Bc _ (ZX (by omega)),(fun _=>fI),nI,?_⟩);refine G1 ?_;intro gg;refine⟨a,a+n,⟨_,congrArg (fun z=>V.v (Value.int .i64 z)) (show(a:Int)+(n:Int)-(n:Int)=(a:Int)by omega)⟩,⟨_,rfl⟩,by omega,by omega,?_⟩;refine G0 ?_;(exact⟨0::([]++[]),Ix (by first|exact A9 rfl|assumption) (Oq (gone:=[]) (gone1:=[]) rfl aI (by decide) (by decide) (by decide) (.nil _))⟩)
theorem Ade{s:ByteArray}{a n:Nat}{R:List Par}(h:Fx s a n=none)(hs:s.size≤1000000)(ha:a≤s.size)(hn:n≤1000000):Ha Tryz.prog 190 [.mn rdT (rdC s a) R,.p (.c (.v (.int .i64 (n:Int))))] Hg:=by
 have h1:=Apn h;refine Nc Js rfl (Li rfl) ?_;refine G0 ?_;(exact .inr (.inr (.inl ⟨_,true,[],_,aM,Ca _ (ZY (by omega)),rfl⟩)))
def Acr(e:Option Nat):Int:=e.elim (-1) fun n=>(n:Int)
theorem Axv{n:Nat}(h:n<256):IntKind.i64.wrap ((BitVec.ofInt IntKind.i64.bits (n:Int)&&&BitVec.ofInt IntKind.i64.bits 63).toNat)=((n%64:Nat):Int):=by
 have e1:(BitVec.ofInt IntKind.i64.bits (n:Int)&&&BitVec.ofInt IntKind.i64.bits 63).toNat=n%64:=by
  show(BitVec.ofInt 64 (n:Int)&&&BitVec.ofInt 64 63).toNat=_;rw[BitVec.toNat_and];have a1:(BitVec.ofInt 64 (n:Int)).toNat=n:=by
   rw[BitVec.ofInt_natCast,BitVec.toNat_ofNat];exact Nat.mod_eq_of_lt (by omega)
  have a2:(BitVec.ofInt 64 63).toNat=2^6-1:=by decide
  rw[a1,a2,Nat.and_two_pow_sub_one_eq_mod]
 rw[e1,Ed (by omega) (by omega)]
structure NmI(s:ByteArray)(R:Option (List ByteArray×Nat))(a:Nat)(l:List ByteArray)(e:Option Nat)(fr f:Nat):Prop where
 hr:nameR s f a l e fr=R
 ha:a≤s.size
 hfr:fr≤s.size
 hl:l.length≤9
 hf:fr+9<f+l.length
 hz:∀x∈l,x.size≤30
 he:∀n,e=some n→n≤s.size
theorem Zx{l:List ByteArray}(h:∀x∈l,x.size≤30)(hl:l.length≤9):(Dk ⟨#[46]⟩ l).size≤1000:=by
 have key:∀l:List ByteArray,(∀x∈l,x.size≤30)→(Lib.join (l.map (·.data.toList)) [46]).length≤31*l.length:=by
  intro l
  induction l with
  |nil=>intro _;simp[Lib.join]
  |cons x l ih=>
   intro h;have h1:=h x (by simp);have h2:=ih fun y hy=>h y (by simp[hy]);have h3:x.data.toList.length=x.size:=by simp
   cases l with
   |nil=>simp[Lib.join];omega
   |cons y l=>
    have e:Lib.join ((x::y::l).map (·.data.toList)) [46]=x.data.toList++[46]++Lib.join ((y::l).map (·.data.toList)) [46]:=by simp[Lib.join]
    rw[e];simp only[ZF,ZJ,ZN]at h2 ⊢;omega
 have:=key l h;unfold Dk;show(Lib.join (l.map (·.data.toList)) [46]).toArray.size≤1000;rw[List.size_toArray];omega
theorem Xm(x:ByteArray):(C4 x).size=x.size:=by
 unfold C4;show(x.data.toList.map Ip).toArray.size=_;simp
theorem Vp{x:ByteArray}(h:lab x.data.toList=true):x.size≤30:=by
 unfold lab at h;simp at h;have:x.data.toList.length=x.size:=by rw[Array.length_toList];rfl
 omega
theorem Aiq{e:Option Nat}{k S:Nat}(h:∀n,e=some n→n≤S)(hk:k≤S):∀n,some (e.getD k)=some n→n≤S:=by
 intro n hn;cases hn;cases e with
 |none=>exact hk
 |some m=>exact h m rfl
theorem As9{l:List ByteArray}{x:ByteArray}{S:Nat}(h:∀y∈l,y.size≤S)(hx:x.size≤S):∀y∈l++[x],y.size≤S:=by
 intro y hy;rcases XM.1 hy with hy|hy
 ·exact h y hy
 ·simp at hy;subst hy;exact hx
set_option maxHeartbeats 2000000 in
theorem J4{s:ByteArray}{a a':Nat}{v:ByteArray}(h:Ih s a=some (v,a'))(hs:s.size≤1000000)(ha:a≤s.size):Hv Tryz.prog 106 [.mn rdT (rdC s a) (rdC s a')] [.p (.c (.v (.string v)))]:=by
 obtain⟨⟨ls,a2⟩,hr,hv⟩:=Option.map_eq_some_iff.1 h;simp only[Prod.mk.injEq]at hv;obtain⟨rfl,rfl⟩:=hv;refine Kl Kj rfl rfl (Li rfl) ?_;refine G0 ?_;(refine⟨[(3,48,9,1)],none,{p:Nat×List ByteArray×Option Nat×Nat×Nat×Nat//NmI s (some (ls,a2)) p.1 p.2.1 p.2.2.1 p.2.2.2.1 p.2.2.2.2.1},[0],fun⟨⟨k,l,e,fr,f,g⟩,hp⟩=>[(3,.own 48 g),(4,.v (.int .i64 (Acr e))),(5,.v (.int .i64 (fr:Int)))],[],fun⟨⟨k,l,e,fr,f,g⟩,hp⟩=>[(48,⟨g,9,1,l.map Bl⟩),(0,⟨0,.b rdT,2,[[.v (.string s),.v (.int .i64 (k:Int))]]⟩)],fun⟨⟨k,l,e,fr,f,g⟩,hp⟩=>f,(by exact⟨rfl,by decide,(fun _ _ _ _ h=>by cases h),trivial⟩),fun gs=>⟨trivial,fun _=>⟨⟨(a,[],none,a,a+10,gs 48),⟨hr,ha,ha,by simp,by simp,by simp,by simp⟩⟩,tI,tI,tI,tI⟩⟩,fun⟨⟨k,l,e,fr,f,g⟩,hp⟩=>?_⟩);obtain⟨hp1,hp2,hp3,hp4,hp5,hp6,hp7⟩:=hp;simp only at hp1 hp2 hp3 hp4 hp5 hp6 hp7;rcases f with _|f
 ·exfalso;omega
 rw[nameR]at hp1;refine G0 ?_;rw[ZE];by_cases c1:l.length≤8
 ·rw[if_pos c1]at hp1;(refine .inl ⟨_,_,true,[],aI,Bc _ (ZX (by omega)),(fun _=>fI),nI,?_⟩);refine G1 ?_;intro gg;rcases e1:Cr s k with _|⟨n,k1⟩
  ·rw[e1]at hp1;cases hp1
  rw[e1,ZA]at hp1;simp only at hp1;have b1:=C3 e1;(refine .inr (.inl ⟨_,_,false,0::([]++[]),?_,D8 e1 hs,Ae,oI,dI,?_⟩);focus (exact wI));refine G1 ?_;intro gg;by_cases c2:n=0
  ·rw[if_pos c2]at hp1;(refine Gn ?_ ?_;focus (simp[c2]));have hj:=Zx hp6 hp4;obtain⟨e4,e5⟩:l=ls∧e.getD k1=a2:=by simpa using hp1
   subst e4 e5;refine G0 ?_;rcases e with _|m
   ·rw[show decide ((0:Int)≤Acr none)=false from rfl];refine G0 ?_;(refine .inl ⟨_,_,true,[],aI,Tg false l ⟨#[46]⟩ (by omega) (by omega),(fun _=>fI),nI,?_⟩);refine G1 ?_;intro gg;(exact⟨0::([]++[]),Ix (by first|exact A9 rfl|assumption) (Oq (gone:=[]) (gone1:=[]) rfl aI (by decide) (by decide) (by decide) (.nil _))⟩)
   ·rw[show decide ((0:Int)≤Acr (some m))=true from ZX (Int.natCast_nonneg m)];refine G0 ?_;(refine .inl ⟨_,_,true,[],aI,Tg false l ⟨#[46]⟩ (by omega) (by omega),(fun _=>fI),nI,?_⟩);refine G1 ?_;intro gg;(exact⟨0::([]++[]),Ix (by first|exact A9 rfl|assumption) (Oq (gone:=[]) (gone1:=[]) rfl aI (by decide) (by decide) (by decide) (.nil _))⟩)
  ·rw[if_neg c2]at hp1;(refine F9 ?_ ?_;focus (simpa using c2));refine G0 ?_;by_cases c3:192≤n
   ·rw[if_pos c3]at hp1;(refine Gn ?_ ?_;focus (exact ZX (by omega)));refine G0 ?_;refine⟨_,Axv b1.1,?_⟩;refine G0 ?_;refine⟨by decide,_,Ati (by omega),?_⟩;refine G0 ?_;rcases e2:Cr s k1 with _|⟨q,k2⟩
    ·rw[e2]at hp1;cases hp1
    rw[e2,ZA]at hp1;simp only at hp1;have b2:=C3 e2;(refine .inr (.inl ⟨_,_,false,0::([]++[]),?_,D8 e2 hs,Ae,oI,dI,?_⟩);focus (exact wI));refine G1 ?_;intro gg;obtain⟨to,hto⟩:∃to,to=n%64*256+q:=⟨_,rfl⟩;rw[←hto]at hp1;refine⟨(to:Int),by rw[hto];exact or8 (x:=n%64) (by omega) b2.1,?_⟩;refine G0 ?_;rcases e with _|m
    ·rw[show decide (Acr none<(0:Int))=true from rfl];refine G0 ?_;by_cases c4:to<fr
     ·rw[if_pos c4]at hp1;(refine .inl ⟨_,_,true,[],aI,Bc _ (ZX (by omega)),(fun _=>fI),nI,?_⟩);refine G1 ?_;intro gg;(exact⟨none,trivial,fun _=>⟨⟨(to,l,_,to,f,g),⟨hp1,show to≤s.size by omega,show to≤s.size by omega,hp4,show to+9<f+l.length by omega,hp6,Aiq hp7 (by omega)⟩⟩,by show f<f+1;omega,tI,tI,tI,tI⟩⟩)
     ·rw[if_neg c4]at hp1;cases hp1
    ·rw[show decide (Acr (some m)<(0:Int))=false from ZY (by have:=Int.natCast_nonneg m;simp only[Acr,Option.elim];omega)];refine G0 ?_;by_cases c4:to<fr
     ·rw[if_pos c4]at hp1;(refine .inl ⟨_,_,true,[],aI,Bc _ (ZX (by omega)),(fun _=>fI),nI,?_⟩);refine G1 ?_;intro gg;(exact⟨none,trivial,fun _=>⟨⟨(to,l,_,to,f,g),⟨hp1,show to≤s.size by omega,show to≤s.size by omega,hp4,show to+9<f+l.length by omega,hp6,Aiq hp7 (by omega)⟩⟩,by show f<f+1;omega,tI,tI,tI,tI⟩⟩)
     ·rw[if_neg c4]at hp1;cases hp1
   ·rw[if_neg c3]at hp1;(refine F9 ?_ ?_;focus (exact ZY (by omega)));refine G0 ?_;rcases e3:Fx s k1 n with _|⟨x,k2⟩
    ·rw[e3]at hp1;cases hp1
    rw[e3,ZA]at hp1;simp only at hp1;have b3:=J9 e3;(refine .inr (.inl ⟨_,_,false,0::([]++[]),?_,Qv e3 hs (by omega) (by omega),Ae,oI,dI,?_⟩);focus (exact wI));refine G1 ?_;intro gg;have hx:(C4 x).size=x.size:=Xm x;(refine .inl ⟨_,_,false,[],aI,Adt x (by omega),Ae,nI,?_⟩);refine G1 ?_;intro gg;(refine .inl ⟨_,_,false,[],aI,Bu (C4 x) (by omega),Ae,nI,?_⟩);refine G1 ?_;intro gg;by_cases c5:lab (C4 x).data.toList=true
    ·rw[if_pos c5]at hp1;have hz:=Vp c5;refine .inl (cY (Bc _ c5) ?_);(refine goI ?_;repeat (intro gg;refine goI ?_));refine⟨lI,lI,?_⟩;refine G1 ?_;intro gg;(exact⟨none,trivial,fun gr=>⟨⟨(k2,l++[C4 x],e,fr,f,gg),⟨hp1,by omega,hp3,by simp;omega,by simp;omega,As9 hp6 hz,hp7⟩⟩,by show f<f+1;omega,hxI (ZI (f:=Bl) (l₁:=l) (l₂:=[C4 x])),hxI (ZI (f:=Bl) (l₁:=l) (l₂:=[C4 x])),hxI (ZI (f:=Bl) (l₁:=l) (l₂:=[C4 x])),hxI (ZI (f:=Bl) (l₁:=l) (l₂:=[C4 x]))⟩⟩)
    ·rw[if_neg c5]at hp1;cases hp1
 ·rw[if_neg c1]at hp1;cases hp1
set_option maxHeartbeats 2000000 in
theorem Vv{s:ByteArray}{a:Nat}{R:List Par}(h:Ih s a=none)(hs:s.size≤1000000)(ha:a≤s.size):Ha Tryz.prog 106 [.mn rdT (rdC s a) R] Hg:=by
 have hr:=Option.map_eq_none_iff.1 h;refine Nc Kj rfl (Li rfl) ?_;refine G0 ?_;(refine⟨[(3,48,9,1)],none,{p:Nat×List ByteArray×Option Nat×Nat×Nat×Nat//NmI s none p.1 p.2.1 p.2.2.1 p.2.2.2.1 p.2.2.2.2.1},[0],fun⟨⟨k,l,e,fr,f,g⟩,hp⟩=>[(3,.own 48 g),(4,.v (.int .i64 (Acr e))),(5,.v (.int .i64 (fr:Int)))],[],fun⟨⟨k,l,e,fr,f,g⟩,hp⟩=>[(48,⟨g,9,1,l.map Bl⟩),(0,⟨0,.b rdT,2,[[.v (.string s),.v (.int .i64 (k:Int))]]⟩)],fun⟨⟨k,l,e,fr,f,g⟩,hp⟩=>f,(by exact⟨rfl,by decide,(fun _ _ _ _ h=>by cases h),trivial⟩),fun gs=>⟨trivial,fun _=>⟨⟨(a,[],none,a,a+10,gs 48),⟨hr,ha,ha,by simp,by simp,by simp,by simp⟩⟩,tI,tI,tI,tI⟩⟩,fun⟨⟨k,l,e,fr,f,g⟩,hp⟩=>?_⟩);obtain⟨hp1,hp2,hp3,hp4,hp5,hp6,hp7⟩:=hp;simp only at hp1 hp2 hp3 hp4 hp5 hp6 hp7;rcases f with _|f
 ·exfalso;omega
 rw[nameR]at hp1;refine G0 ?_;rw[ZE];by_cases c1:l.length≤8
 ·rw[if_pos c1]at hp1;(refine .inl ⟨_,_,true,[],aI,Bc _ (ZX (by omega)),(fun _=>fI),nI,?_⟩);refine G1 ?_;intro gg;rcases e1:Cr s k with _|⟨n,k1⟩
  ·(refine .inr (.inr (.inl ⟨_,false,0::([]++[]),_,?_,Kg (R:=rdC s 0) e1 hs,rfl⟩));focus (exact wI))
  rw[e1,ZA]at hp1;simp only at hp1;have b1:=C3 e1;(refine .inr (.inl ⟨_,_,false,0::([]++[]),?_,D8 e1 hs,Ae,oI,dI,?_⟩);focus (exact wI));refine G1 ?_;intro gg;by_cases c2:n=0
  ·rw[if_pos c2]at hp1;cases hp1
  ·rw[if_neg c2]at hp1;(refine F9 ?_ ?_;focus (simpa using c2));refine G0 ?_;by_cases c3:192≤n
   ·rw[if_pos c3]at hp1;(refine Gn ?_ ?_;focus (exact ZX (by omega)));refine G0 ?_;refine⟨_,Axv b1.1,?_⟩;refine G0 ?_;refine⟨by decide,_,Ati (by omega),?_⟩;refine G0 ?_;rcases e2:Cr s k1 with _|⟨q,k2⟩
    ·(refine .inr (.inr (.inl ⟨_,false,0::([]++[]),_,?_,Kg (R:=rdC s 0) e2 hs,rfl⟩));focus (exact wI))
    rw[e2,ZA]at hp1;simp only at hp1;have b2:=C3 e2;(refine .inr (.inl ⟨_,_,false,0::([]++[]),?_,D8 e2 hs,Ae,oI,dI,?_⟩);focus (exact wI));refine G1 ?_;intro gg;obtain⟨to,hto⟩:∃to,to=n%64*256+q:=⟨_,rfl⟩;rw[←hto]at hp1;refine⟨(to:Int),by rw[hto];exact or8 (x:=n%64) (by omega) b2.1,?_⟩;refine G0 ?_;rcases e with _|m
    ·rw[show decide (Acr none<(0:Int))=true from rfl];refine G0 ?_;by_cases c4:to<fr
     ·rw[if_pos c4]at hp1;(refine .inl ⟨_,_,true,[],aI,Bc _ (ZX (by omega)),(fun _=>fI),nI,?_⟩);refine G1 ?_;intro gg;(exact⟨none,trivial,fun _=>⟨⟨(to,l,_,to,f,g),⟨hp1,show to≤s.size by omega,show to≤s.size by omega,hp4,show to+9<f+l.length by omega,hp6,Aiq hp7 (by omega)⟩⟩,by show f<f+1;omega,tI,tI,tI,tI⟩⟩)
     ·(exact .inr (.inr (.inl ⟨_,true,[],_,aM,Ca _ (ZY (by omega)),rfl⟩)))
    ·rw[show decide (Acr (some m)<(0:Int))=false from ZY (by have:=Int.natCast_nonneg m;simp only[Acr,Option.elim];omega)];refine G0 ?_;by_cases c4:to<fr
     ·rw[if_pos c4]at hp1;(refine .inl ⟨_,_,true,[],aI,Bc _ (ZX (by omega)),(fun _=>fI),nI,?_⟩);refine G1 ?_;intro gg;(exact⟨none,trivial,fun _=>⟨⟨(to,l,_,to,f,g),⟨hp1,show to≤s.size by omega,show to≤s.size by omega,hp4,show to+9<f+l.length by omega,hp6,Aiq hp7 (by omega)⟩⟩,by show f<f+1;omega,tI,tI,tI,tI⟩⟩)
     ·(exact .inr (.inr (.inl ⟨_,true,[],_,aM,Ca _ (ZY (by omega)),rfl⟩)))
   ·rw[if_neg c3]at hp1;(refine F9 ?_ ?_;focus (exact ZY (by omega)));refine G0 ?_;rcases e3:Fx s k1 n with _|⟨x,k2⟩
    ·(refine .inr (.inr (.inl ⟨_,false,0::([]++[]),_,?_,Ade (R:=rdC s 0) e3 hs (by omega) (by omega),rfl⟩));focus (exact wI))
    rw[e3,ZA]at hp1;simp only at hp1;have b3:=J9 e3;(refine .inr (.inl ⟨_,_,false,0::([]++[]),?_,Qv e3 hs (by omega) (by omega),Ae,oI,dI,?_⟩);focus (exact wI));refine G1 ?_;intro gg;have hx:(C4 x).size=x.size:=Xm x;(refine .inl ⟨_,_,false,[],aI,Adt x (by omega),Ae,nI,?_⟩);refine G1 ?_;intro gg;(refine .inl ⟨_,_,false,[],aI,Bu (C4 x) (by omega),Ae,nI,?_⟩);refine G1 ?_;intro gg;by_cases c5:lab (C4 x).data.toList=true
    ·rw[if_pos c5]at hp1;have hz:=Vp c5;refine .inl (cY (Bc _ c5) ?_);(refine goI ?_;repeat (intro gg;refine goI ?_));refine⟨lI,lI,?_⟩;refine G1 ?_;intro gg;(exact⟨none,trivial,fun gr=>⟨⟨(k2,l++[C4 x],e,fr,f,gg),⟨hp1,by omega,hp3,by simp;omega,by simp;omega,As9 hp6 hz,hp7⟩⟩,by show f<f+1;omega,hxI (ZI (f:=Bl) (l₁:=l) (l₂:=[C4 x])),hxI (ZI (f:=Bl) (l₁:=l) (l₂:=[C4 x])),hxI (ZI (f:=Bl) (l₁:=l) (l₂:=[C4 x])),hxI (ZI (f:=Bl) (l₁:=l) (l₂:=[C4 x]))⟩⟩)
    ·(exact .inr (.inr (.inl ⟨_,true,[],_,aM,Ca _ (XE.2 c5),rfl⟩)))
 ·(exact .inr (.inr (.inl ⟨_,true,[],_,aM,Ca _ (ZY (by omega)),rfl⟩)))
theorem Aux{s:ByteArray}:∀{f a:Nat} {l:List ByteArray} {e:Option Nat} {fr:Nat} {ls:List ByteArray} {a':Nat},nameR s f a l e fr=some (ls,a')→(∀x∈l,lab x.data.toList=true)→(∀n,e=some n→n≤s.size)→
  a'≤s.size∧(∀x∈ls,lab x.data.toList=true)∧ls.length≤8:=by
 intro f
 induction f with
 |zero=>intro a l e fr ls a' h;cases h
 |succ f ih=>
  intro a l e fr ls a' h hl he;rw[nameR]at h;by_cases c1:l.length≤8
  ·rw[if_pos c1]at h;rcases e1:Cr s a with _|⟨n,k1⟩
   ·rw[e1]at h;cases h
   have b1:=C3 e1;rw[e1,ZA]at h;simp only at h;by_cases c2:n=0
   ·rw[if_pos c2]at h;obtain⟨rfl,rfl⟩:l=ls∧e.getD k1=a':=by simpa using h
    refine⟨?_,hl,c1⟩;cases e with
    |none=>exact b1.2.2
    |some m=>exact he m rfl
   rw[if_neg c2]at h;by_cases c3:192≤n
   ·rw[if_pos c3]at h;rcases e2:Cr s k1 with _|⟨q,k2⟩
    ·rw[e2]at h;cases h
    have b2:=C3 e2;rw[e2,ZA]at h;simp only at h;split at h
    ·exact ih h hl (Aiq he b2.2.2)
    ·cases h
   ·rw[if_neg c3]at h;rcases e3:Fx s k1 n with _|⟨x,k2⟩
    ·rw[e3]at h;cases h
    rw[e3,ZA]at h;simp only at h;split at h
    ·rename_i c4;exact ih h (fun y hy=>by
      rcases XM.1 hy with hy|hy
      ·exact hl y hy
      ·simp at hy;subst hy;exact c4) he
    ·cases h
  ·rw[if_neg c1]at h;cases h
theorem Hz{s:ByteArray}{a a':Nat}{v:ByteArray}(h:Ih s a=some (v,a')):a'≤s.size∧v.size≤1000:=by
 obtain⟨⟨ls,a2⟩,hr,hv⟩:=Option.map_eq_some_iff.1 h;simp only[Prod.mk.injEq]at hv;obtain⟨rfl,rfl⟩:=hv;have b:=Aux hr (by simp) (by simp);exact⟨b.1,Zx (fun x hx=>Vp (b.2.1 x hx)) (by omega)⟩
theorem Amr{s:ByteArray}{a:Nat}:Kx s 1 a=(I9 s a).bind fun p=>some ((p.1,⟨#[]⟩,0,⟨#[]⟩),p.2):=rfl
theorem Aio{s:ByteArray}{a:Nat}:Kx s 16 a=(Cr s a).bind fun p=>(Fx s p.2 p.1).bind fun q=>some ((0,q.1,0,⟨#[]⟩),q.2):=rfl
theorem Ai6{s:ByteArray}{a:Nat}:Kx s 33 a=(Cb s a).bind fun p=>if p.1=0 then(Cb s p.2).bind fun q=>if q.1=0 then(Cb s q.2).bind fun r=>(Ih s r.2).bind fun n=>some ((0,⟨#[]⟩,r.1,n.1),n.2)else none else none:=rfl
theorem Aug{s:ByteArray}{t a:Nat}(h1:t≠1)(h2:t≠16)(h3:t≠33):Kx s t a=none:=by
 unfold Kx;rw[if_neg h1,if_neg h2,if_neg h3]
set_option maxHeartbeats 4000000 in
theorem A8{s:ByteArray}{a a':Nat}{v:Rr}(h:Un s a=some (v,a'))(hs:s.size≤1000000)(ha:a≤s.size):Hv Tryz.prog 107 [.mn rdT (rdC s a) (rdC s a')] [.p (.c (.agg v.row))]:=by
 unfold Un at h;refine Aoh I1 rfl (Li rfl) ?_;refine G1 ?_;intro gg;rcases e1:Ih s a with _|⟨nm,a1⟩
 ·rw[e1]at h;cases h
 rw[e1,ZA]at h;simp only at h;have be1:=Hz e1;(refine .inr (.inl ⟨_,_,false,0::([]++[]),?_,J4 e1 hs (by omega),Ae,oI,dI,?_⟩);focus (exact wI));refine G1 ?_;intro gg;rcases e2:Cb s a1 with _|⟨t,a2⟩
 ·rw[e2]at h;cases h
 rw[e2,ZA]at h;simp only at h;have be2:=Bo e2;(refine .inr (.inl ⟨_,_,false,0::([]++[]),?_,Bf e2 hs,Ae,oI,dI,?_⟩);focus (exact wI));(refine goI ?_;repeat (intro gg;refine goI ?_));rcases e3:Cb s a2 with _|⟨one,a3⟩
 ·rw[e3]at h;cases h
 rw[e3,ZA]at h;simp only at h;have be3:=Bo e3;(refine .inr (.inl ⟨_,_,false,0::([]++[]),?_,Bf e3 hs,Ae,oI,dI,?_⟩);focus (exact wI));refine G1 ?_;intro gg;by_cases c3:one=1
 ·rw[if_pos c3]at h;(refine .inl ⟨_,_,true,[],aI,Bc _ (ZR.2 (by omega)),(fun _=>fI),nI,?_⟩);refine G1 ?_;intro gg;rcases e4:I9 s a3 with _|⟨ls,a4⟩
  ·rw[e4]at h;cases h
  rw[e4,ZA]at h;simp only at h;have be4:=Uk e4;(refine .inr (.inl ⟨_,_,false,0::([]++[]),?_,Ts e4 hs,Ae,oI,dI,?_⟩);focus (exact wI));refine G1 ?_;intro gg;rcases e5:Cb s a4 with _|⟨n,a5⟩
  ·rw[e5]at h;cases h
  rw[e5,ZA]at h;simp only at h;have be5:=Bo e5;(refine .inr (.inl ⟨_,_,false,0::([]++[]),?_,Bf e5 hs,Ae,oI,dI,?_⟩);focus (exact wI));refine G1 ?_;intro gg;by_cases c5:a5+n≤s.size
  ·rw[if_pos c5]at h;(refine .inl ⟨_,_,true,[],aI,Bc _ (ZX (by omega)),(fun _=>fI),nI,?_⟩);refine G1 ?_;intro gg;by_cases t1:t=1
   ·subst t1;rw[Amr]at h;rw[show(((1:Nat):Int)==1)=true from rfl];refine G0 ?_;rcases e6:I9 s a5 with _|⟨ad,a6⟩
    ·rw[e6]at h;cases h
    rw[e6,ZA]at h;simp only at h;have be6:=Uk e6;(refine .inr (.inl ⟨_,_,false,0::([]++[]),?_,Ts e6 hs,Ae,oI,dI,?_⟩);focus (exact wI));refine G1 ?_;intro gg;rw[ZA]at h;simp only at h;by_cases c9:a6=a5+n
    ·rw[if_pos c9]at h;(refine .inl ⟨_,_,true,[],aI,Bc _ (ZR.2 (by omega)),(fun _=>fI),nI,?_⟩);refine G1 ?_;intro gg;obtain⟨ev,ea⟩:_=v∧_=a':=by simpa using h
     subst ev ea;(exact⟨_,0::([]++[]),.cell1 rfl rfl rfl rfl rfl rfl .nil,Ix (A9 rfl) (Oq (gone:=[]) (gone1:=[]) rfl aI (by decide) (by decide) (by decide) (.nil _))⟩)
    ·rw[if_neg c9]at h;cases h
   by_cases t2:t=16
   ·subst t2;rw[Aio]at h;rw[show(((16:Nat):Int)==1)=false from rfl];refine G0 ?_;rw[show(((16:Nat):Int)==16)=true from rfl];refine G0 ?_;rcases e6:Cr s a5 with _|⟨k,a6⟩
    ·rw[e6]at h;cases h
    rw[e6,ZA]at h;simp only at h;have be6:=C3 e6;(refine .inr (.inl ⟨_,_,false,0::([]++[]),?_,D8 e6 hs,Ae,oI,dI,?_⟩);focus (exact wI));refine G1 ?_;intro gg;rcases e7:Fx s a6 k with _|⟨tx,a7⟩
    ·rw[e7]at h;cases h
    rw[e7,ZA]at h;simp only at h;have be7:=J9 e7;(refine .inr (.inl ⟨_,_,false,0::([]++[]),?_,Qv e7 hs (by omega) (by omega),Ae,oI,dI,?_⟩);focus (exact wI));refine G1 ?_;intro gg;rw[ZA]at h;simp only at h;by_cases c9:a7=a5+n
    ·rw[if_pos c9]at h;(refine .inl ⟨_,_,true,[],aI,Bc _ (ZR.2 (by omega)),(fun _=>fI),nI,?_⟩);refine G1 ?_;intro gg;obtain⟨ev,ea⟩:_=v∧_=a':=by simpa using h
     subst ev ea;(exact⟨_,0::([]++[]),.cell1 rfl rfl rfl rfl rfl rfl .nil,Ix (A9 rfl) (Oq (gone:=[]) (gone1:=[]) rfl aI (by decide) (by decide) (by decide) (.nil _))⟩)
    ·rw[if_neg c9]at h;cases h
   by_cases t3:t=33
   ·subst t3;rw[Ai6]at h;rw[show(((33:Nat):Int)==1)=false from rfl];refine G0 ?_;rw[show(((33:Nat):Int)==16)=false from rfl];refine G0 ?_;rw[show(((33:Nat):Int)==33)=true from rfl];refine G0 ?_;rcases e6:Cb s a5 with _|⟨z,a6⟩
    ·rw[e6]at h;cases h
    rw[e6,ZA]at h;simp only at h;have be6:=Bo e6;(refine .inr (.inl ⟨_,_,false,0::([]++[]),?_,Bf e6 hs,Ae,oI,dI,?_⟩);focus (exact wI));refine G1 ?_;intro gg;by_cases c6:z=0
    ·rw[if_pos c6]at h;rw[show((z:Int)==0)=true from ZR.2 (by omega)];refine G0 ?_;rcases e7:Cb s a6 with _|⟨y,a7⟩
     ·rw[e7]at h;cases h
     rw[e7,ZA]at h;simp only at h;have be7:=Bo e7;(refine .inr (.inl ⟨_,_,false,0::([]++[]),?_,Bf e7 hs,Ae,oI,dI,?_⟩);focus (exact wI));refine G1 ?_;intro gg;by_cases c7:y=0
     ·rw[if_pos c7]at h;(refine .inl ⟨_,_,true,[],aI,Bc _ (ZR.2 (by omega)),(fun _=>fI),nI,?_⟩);refine G1 ?_;intro gg;rcases e8:Cb s a7 with _|⟨pt,a8⟩
      ·rw[e8]at h;cases h
      rw[e8,ZA]at h;simp only at h;have be8:=Bo e8;(refine .inr (.inl ⟨_,_,false,0::([]++[]),?_,Bf e8 hs,Ae,oI,dI,?_⟩);focus (exact wI));refine G1 ?_;intro gg;rcases e9:Ih s a8 with _|⟨tg,a9⟩
      ·rw[e9]at h;cases h
      rw[e9,ZA]at h;simp only at h;have be9:=Hz e9;(refine .inr (.inl ⟨_,_,false,0::([]++[]),?_,J4 e9 hs (by omega),Ae,oI,dI,?_⟩);focus (exact wI));refine G1 ?_;intro gg;rw[ZA]at h;simp only at h;by_cases c9:a9=a5+n
      ·rw[if_pos c9]at h;(refine .inl ⟨_,_,true,[],aI,Bc _ (ZR.2 (by omega)),(fun _=>fI),nI,?_⟩);refine G1 ?_;intro gg;obtain⟨ev,ea⟩:_=v∧_=a':=by simpa using h
       subst ev ea;(exact⟨_,0::([]++[]),.cell1 rfl rfl rfl rfl rfl rfl .nil,Ix (A9 rfl) (Oq (gone:=[]) (gone1:=[]) rfl aI (by decide) (by decide) (by decide) (.nil _))⟩)
      ·rw[if_neg c9]at h;cases h
     ·rw[if_neg c7]at h;cases h
    ·rw[if_neg c6]at h;cases h
   rw[show((t:Int)==1)=false from ZG.2 (by omega)];refine G0 ?_;rw[show((t:Int)==16)=false from ZG.2 (by omega)];refine G0 ?_;rw[show((t:Int)==33)=false from ZG.2 (by omega)];refine G0 ?_;rw[Aug t1 t2 t3]at h;cases h
  ·rw[if_neg c5]at h;cases h
 ·rw[if_neg c3]at h;cases h
set_option maxHeartbeats 4000000 in
theorem Cv{s:ByteArray}{a:Nat}{R:List Par}(h:Un s a=none)(hs:s.size≤1000000)(ha:a≤s.size):Ha Tryz.prog 107 [.mn rdT (rdC s a) R] Hg:=by
 unfold Un at h;refine Ada I1 rfl (Li rfl) ?_;refine G1 ?_;intro gg;rcases e1:Ih s a with _|⟨nm,a1⟩
 ·(refine .inr (.inr (.inl ⟨_,false,0::([]++[]),_,?_,Vv (R:=rdC s 0) e1 hs (by omega),rfl⟩));focus (exact wI))
 rw[e1,ZA]at h;simp only at h;have be1:=Hz e1;(refine .inr (.inl ⟨_,_,false,0::([]++[]),?_,J4 e1 hs (by omega),Ae,oI,dI,?_⟩);focus (exact wI));refine G1 ?_;intro gg;rcases e2:Cb s a1 with _|⟨t,a2⟩
 ·(refine .inr (.inr (.inl ⟨_,false,0::([]++[]),_,?_,Dt (R:=rdC s 0) e2 hs,rfl⟩));focus (exact wI))
 rw[e2,ZA]at h;simp only at h;have be2:=Bo e2;(refine .inr (.inl ⟨_,_,false,0::([]++[]),?_,Bf e2 hs,Ae,oI,dI,?_⟩);focus (exact wI));(refine goI ?_;repeat (intro gg;refine goI ?_));rcases e3:Cb s a2 with _|⟨one,a3⟩
 ·(refine .inr (.inr (.inl ⟨_,false,0::([]++[]),_,?_,Dt (R:=rdC s 0) e3 hs,rfl⟩));focus (exact wI))
 rw[e3,ZA]at h;simp only at h;have be3:=Bo e3;(refine .inr (.inl ⟨_,_,false,0::([]++[]),?_,Bf e3 hs,Ae,oI,dI,?_⟩);focus (exact wI));refine G1 ?_;intro gg;by_cases c3:one=1
 ·rw[if_pos c3]at h;(refine .inl ⟨_,_,true,[],aI,Bc _ (ZR.2 (by omega)),(fun _=>fI),nI,?_⟩);refine G1 ?_;intro gg;rcases e4:I9 s a3 with _|⟨ls,a4⟩
  ·(refine .inr (.inr (.inl ⟨_,false,0::([]++[]),_,?_,Agp (R:=rdC s 0) e4 hs,rfl⟩));focus (exact wI))
  rw[e4,ZA]at h;simp only at h;have be4:=Uk e4;(refine .inr (.inl ⟨_,_,false,0::([]++[]),?_,Ts e4 hs,Ae,oI,dI,?_⟩);focus (exact wI));refine G1 ?_;intro gg;rcases e5:Cb s a4 with _|⟨n,a5⟩
  ·(refine .inr (.inr (.inl ⟨_,false,0::([]++[]),_,?_,Dt (R:=rdC s 0) e5 hs,rfl⟩));focus (exact wI))
  rw[e5,ZA]at h;simp only at h;have be5:=Bo e5;(refine .inr (.inl ⟨_,_,false,0::([]++[]),?_,Bf e5 hs,Ae,oI,dI,?_⟩);focus (exact wI));refine G1 ?_;intro gg;by_cases c5:a5+n≤s.size
  ·rw[if_pos c5]at h;(refine .inl ⟨_,_,true,[],aI,Bc _ (ZX (by omega)),(fun _=>fI),nI,?_⟩);refine G1 ?_;intro gg;by_cases t1:t=1
   ·subst t1;rw[Amr]at h;rw[show(((1:Nat):Int)==1)=true from rfl];refine G0 ?_;rcases e6:I9 s a5 with _|⟨ad,a6⟩
    ·(refine .inr (.inr (.inl ⟨_,false,0::([]++[]),_,?_,Agp (R:=rdC s 0) e6 hs,rfl⟩));focus (exact wI))
    rw[e6,ZA]at h;simp only at h;have be6:=Uk e6;(refine .inr (.inl ⟨_,_,false,0::([]++[]),?_,Ts e6 hs,Ae,oI,dI,?_⟩);focus (exact wI));refine G1 ?_;intro gg;rw[ZA]at h;simp only at h;by_cases c9:a6=a5+n
    ·rw[if_pos c9]at h;(refine .inl ⟨_,_,true,[],aI,Bc _ (ZR.2 (by omega)),(fun _=>fI),nI,?_⟩);refine G1 ?_;intro gg;cases h
    ·(exact .inr (.inr (.inl ⟨_,true,[],_,aM,Ca _ (ZG.2 (by omega)),rfl⟩)))
   by_cases t2:t=16
   ·subst t2;rw[Aio]at h;rw[show(((16:Nat):Int)==1)=false from rfl];refine G0 ?_;rw[show(((16:Nat):Int)==16)=true from rfl];refine G0 ?_;rcases e6:Cr s a5 with _|⟨k,a6⟩
    ·(refine .inr (.inr (.inl ⟨_,false,0::([]++[]),_,?_,Kg (R:=rdC s 0) e6 hs,rfl⟩));focus (exact wI))
    rw[e6,ZA]at h;simp only at h;have be6:=C3 e6;(refine .inr (.inl ⟨_,_,false,0::([]++[]),?_,D8 e6 hs,Ae,oI,dI,?_⟩);focus (exact wI));refine G1 ?_;intro gg;rcases e7:Fx s a6 k with _|⟨tx,a7⟩
    ·(refine .inr (.inr (.inl ⟨_,false,0::([]++[]),_,?_,Ade (R:=rdC s 0) e7 hs (by omega) (by omega),rfl⟩));focus (exact wI))
    rw[e7,ZA]at h;simp only at h;have be7:=J9 e7;(refine .inr (.inl ⟨_,_,false,0::([]++[]),?_,Qv e7 hs (by omega) (by omega),Ae,oI,dI,?_⟩);focus (exact wI));refine G1 ?_;intro gg;rw[ZA]at h;simp only at h;by_cases c9:a7=a5+n
    ·rw[if_pos c9]at h;(refine .inl ⟨_,_,true,[],aI,Bc _ (ZR.2 (by omega)),(fun _=>fI),nI,?_⟩);refine G1 ?_;intro gg;cases h
    ·(exact .inr (.inr (.inl ⟨_,true,[],_,aM,Ca _ (ZG.2 (by omega)),rfl⟩)))
   by_cases t3:t=33
   ·subst t3;rw[Ai6]at h;rw[show(((33:Nat):Int)==1)=false from rfl];refine G0 ?_;rw[show(((33:Nat):Int)==16)=false from rfl];refine G0 ?_;rw[show(((33:Nat):Int)==33)=true from rfl];refine G0 ?_;rcases e6:Cb s a5 with _|⟨z,a6⟩
    ·(refine .inr (.inr (.inl ⟨_,false,0::([]++[]),_,?_,Dt (R:=rdC s 0) e6 hs,rfl⟩));focus (exact wI))
    rw[e6,ZA]at h;simp only at h;have be6:=Bo e6;(refine .inr (.inl ⟨_,_,false,0::([]++[]),?_,Bf e6 hs,Ae,oI,dI,?_⟩);focus (exact wI));refine G1 ?_;intro gg;by_cases c6:z=0
    ·rw[if_pos c6]at h;rw[show((z:Int)==0)=true from ZR.2 (by omega)];refine G0 ?_;rcases e7:Cb s a6 with _|⟨y,a7⟩
     ·(refine .inr (.inr (.inl ⟨_,false,0::([]++[]),_,?_,Dt (R:=rdC s 0) e7 hs,rfl⟩));focus (exact wI))
     rw[e7,ZA]at h;simp only at h;have be7:=Bo e7;(refine .inr (.inl ⟨_,_,false,0::([]++[]),?_,Bf e7 hs,Ae,oI,dI,?_⟩);focus (exact wI));refine G1 ?_;intro gg;by_cases c7:y=0
     ·rw[if_pos c7]at h;(refine .inl ⟨_,_,true,[],aI,Bc _ (ZR.2 (by omega)),(fun _=>fI),nI,?_⟩);refine G1 ?_;intro gg;rcases e8:Cb s a7 with _|⟨pt,a8⟩
      ·(refine .inr (.inr (.inl ⟨_,false,0::([]++[]),_,?_,Dt (R:=rdC s 0) e8 hs,rfl⟩));focus (exact wI))
      rw[e8,ZA]at h;simp only at h;have be8:=Bo e8;(refine .inr (.inl ⟨_,_,false,0::([]++[]),?_,Bf e8 hs,Ae,oI,dI,?_⟩);focus (exact wI));refine G1 ?_;intro gg;rcases e9:Ih s a8 with _|⟨tg,a9⟩
      ·(refine .inr (.inr (.inl ⟨_,false,0::([]++[]),_,?_,Vv (R:=rdC s 0) e9 hs (by omega),rfl⟩));focus (exact wI))
      rw[e9,ZA]at h;simp only at h;have be9:=Hz e9;(refine .inr (.inl ⟨_,_,false,0::([]++[]),?_,J4 e9 hs (by omega),Ae,oI,dI,?_⟩);focus (exact wI));refine G1 ?_;intro gg;rw[ZA]at h;simp only at h;by_cases c9:a9=a5+n
      ·rw[if_pos c9]at h;(refine .inl ⟨_,_,true,[],aI,Bc _ (ZR.2 (by omega)),(fun _=>fI),nI,?_⟩);refine G1 ?_;intro gg;cases h
      ·(exact .inr (.inr (.inl ⟨_,true,[],_,aM,Ca _ (ZG.2 (by omega)),rfl⟩)))
     ·(exact .inr (.inr (.inl ⟨_,true,[],_,aM,Ca _ (ZG.2 (by omega)),rfl⟩)))
    ·rw[show((z:Int)==0)=false from ZG.2 (by omega)];refine G0 ?_;(exact .inr (.inr (.inl ⟨_,true,[],_,aM,Ca _ rfl,rfl⟩)))
   rw[show((t:Int)==1)=false from ZG.2 (by omega)];refine G0 ?_;rw[show((t:Int)==16)=false from ZG.2 (by omega)];refine G0 ?_;rw[show((t:Int)==33)=false from ZG.2 (by omega)];refine G0 ?_;(exact .inr (.inr (.inl ⟨_,true,[],_,aM,Ca _ rfl,rfl⟩)))
  ·(exact .inr (.inr (.inl ⟨_,true,[],_,aM,Ca _ (ZY (by omega)),rfl⟩)))
 ·(exact .inr (.inr (.inl ⟨_,true,[],_,aM,Ca _ (ZG.2 (by omega)),rfl⟩)))
theorem Ys{s:ByteArray}{a a':Nat}{v:Rr}(h:Un s a=some (v,a')):a'≤s.size∧v.nm.size≤1000∧v.tx.size≤s.size∧v.tg.size≤1000:=by
 unfold Un at h;rcases e1:Ih s a with _|⟨nm,a1⟩
 ·rw[e1]at h;cases h
 rw[e1,ZA]at h;simp only at h;rcases e2:Cb s a1 with _|⟨t,a2⟩
 ·rw[e2]at h;cases h
 rw[e2,ZA]at h;simp only at h;rcases e3:Cb s a2 with _|⟨one,a3⟩
 ·rw[e3]at h;cases h
 rw[e3,ZA]at h;simp only at h;split at h
 ·rcases e4:I9 s a3 with _|⟨ls,a4⟩
  ·rw[e4]at h;cases h
  rw[e4,ZA]at h;simp only at h;rcases e5:Cb s a4 with _|⟨n,a5⟩
  ·rw[e5]at h;cases h
  rw[e5,ZA]at h;simp only at h;split at h
  ·rename_i c5;rcases e6:Kx s t a5 with _|⟨⟨ad,tx,pt,tg⟩,a6⟩
   ·rw[e6]at h;cases h
   rw[e6,ZA]at h;simp only at h;split at h
   ·rename_i c6;cases h;have b1:=(Hz e1).2;have key:tx.size≤s.size∧tg.size≤1000:=by
     unfold Kx at e6;split at e6
     ·rcases f1:I9 s a5 with _|⟨x1,y1⟩<;>rw[f1]at e6<;>cases e6;exact⟨ZU _,ZU _⟩
     ·split at e6
      ·rcases f1:Cr s a5 with _|⟨x1,y1⟩
       ·rw[f1]at e6;cases e6
       rw[f1,ZA]at e6;simp only at e6;rcases f2:Fx s y1 x1 with _|⟨x2,y2⟩<;>rw[f2]at e6<;>cases e6
       have:=J9 f2;exact⟨show x2.size≤s.size by omega,ZU _⟩
      ·split at e6
       ·rcases f1:Cb s a5 with _|⟨x1,y1⟩
        ·rw[f1]at e6;cases e6
        rw[f1,ZA]at e6;simp only at e6;split at e6
        ·rcases f2:Cb s y1 with _|⟨x2,y2⟩
         ·rw[f2]at e6;cases e6
         rw[f2,ZA]at e6;simp only at e6;split at e6
         ·rcases f3:Cb s y2 with _|⟨x3,y3⟩
          ·rw[f3]at e6;cases e6
          rw[f3,ZA]at e6;simp only at e6;rcases f4:Ih s y3 with _|⟨x4,y4⟩<;>rw[f4]at e6<;>cases e6
          exact⟨ZU _,(Hz f4).2⟩
         ·cases e6
        ·cases e6
       ·cases e6
    exact⟨by omega,b1,key.1,key.2⟩
   ·cases h
  ·cases h
 ·cases h
def Ax1(id:Int)(an ct:Bool)(co:Int)(qn:ByteArray)(qt:Int)(v:V):List V:=[.v (.int .i64 id),.v (.bool an),.v (.bool ct),.v (.int .i64 co),.v (.string qn),.v (.int .i64 qt),v]
def Bdk(s:ByteArray)(gz gb:Nat)(id:Int)(an ct:Bool)(co:Int)(qn:ByteArray)(qt:Int)(a:Nat)(L:List Rr)(g:Nat):List (Nat×Ent):=
 match L with
 |[]=>[(32,⟨gz,.b 38,7,[Ax1 0 false false 0 ⟨#[]⟩ 0 (.v (.slice none 0 0))]⟩),(48,⟨gb,.b 38,7,[Ax1 id an ct co qn qt (.v (.slice none 0 0))]⟩),(0,⟨0,.b rdT,2,[[.v (.string s),.v (.int .i64 (a:Int))]]⟩)]
 |r::L=>[(32,⟨gz,.b 38,7,[Ax1 0 false false 0 ⟨#[]⟩ 0 (.v (.slice none 0 0))]⟩),(48,⟨gb,.b 38,7,[Ax1 id an ct co qn qt (.own 1168 g)]⟩),(1168,⟨g,.t 51,7,(r::L).map Rr.row⟩),(0,⟨0,.b rdT,2,[[.v (.string s),.v (.int .i64 (a:Int))]]⟩)]
theorem An9(env:Env)(lv:List (Nat×V)):hdE env [] lv=hdE (fun _=>.any) [] lv:=rfl
theorem An6(H:Hp)(ho:List (Nat×Ent)):hdH H [] ho=hdH noH [] ho:=rfl
theorem Ad8(env env':Env):Xe env env' []=True:=rfl
theorem Adw(H H':Hp):W6 H H' []=True:=rfl
structure RcI(s:ByteArray)(n:Nat)(R:Option (List Rr×Nat))(k a:Nat)(L:List Rr):Prop where
 hr:(Ig s (n-k) a).map (fun p=>(L++p.1,p.2))=R
 hk:k≤n
 hl:L.length=k
 ha:a≤s.size
 hz:∀r∈L,r.nm.size≤1000∧r.tx.size≤s.size∧r.tg.size≤1000
theorem Ay1{a:Nat}(h:a<256):(IntKind.i64.wrap ((BitVec.ofInt IntKind.i64.bits (a:Int)&&& ~~~ BitVec.ofInt IntKind.i64.bits 130).toNat)==0)=Aq5 a:=by
 have key:∀k:Fin 256,(IntKind.i64.wrap ((BitVec.ofInt IntKind.i64.bits (k.val:Int)&&& ~~~ BitVec.ofInt IntKind.i64.bits 130).toNat)==0)=Aq5 k.val:=by decide+kernel
 exact key ⟨a,h⟩
theorem Axn{a:Nat}(h:a<256):decide (0<IntKind.i64.wrap ((BitVec.ofInt IntKind.i64.bits (a:Int)&&&BitVec.ofInt IntKind.i64.bits 128).toNat))=decide (128≤a):=by
 have key:∀k:Fin 256,decide (0<IntKind.i64.wrap ((BitVec.ofInt IntKind.i64.bits (k.val:Int)&&&BitVec.ofInt IntKind.i64.bits 128).toNat))=decide (128≤k.val):=by decide+kernel
 exact key ⟨a,h⟩
theorem Axk{a:Nat}(h:a<256):decide (0<IntKind.i64.wrap ((BitVec.ofInt IntKind.i64.bits (a:Int)&&&BitVec.ofInt IntKind.i64.bits 2).toNat))=decide (a%4≥2):=by
 have key:∀k:Fin 256,decide (0<IntKind.i64.wrap ((BitVec.ofInt IntKind.i64.bits (k.val:Int)&&&BitVec.ofInt IntKind.i64.bits 2).toNat))=decide (k.val%4≥2):=by decide+kernel
 exact key ⟨a,h⟩
theorem RcI.start{s:ByteArray}{n a:Nat}(ha:a≤s.size):RcI s n (Ig s n a) 0 a []:=⟨by simp,by omega,rfl,ha,by simp⟩
theorem RcI.next{s:ByteArray}{n k a a2:Nat}{R:Option (List Rr×Nat)}{L:List Rr}{r:Rr}(h:RcI s n R k a L)(hk:k<n)(e:Un s a=some (r,a2)):RcI s n R (k+1) a2 (L++[r]):=by
 have hb:=Ys e;refine⟨?_,by omega,by simp[h.hl],hb.1,fun x hx=>?_⟩
 ·rw[←h.hr,show n-k=(n-(k+1))+1 by omega];rw[Ig,e,ZA];simp only;cases Ig s (n-(k+1)) a2 with
  |none=>rfl
  |some p=>simp
 ·rcases XM.1 hx with hx|hx
  ·exact h.hz x hx
  ·simp at hx;subst hx;exact⟨hb.2.1,hb.2.2.1,hb.2.2.2⟩
theorem RcI.none{s:ByteArray}{n k a:Nat}{R:Option (List Rr×Nat)}{L:List Rr}(h:RcI s n R k a L)(hk:k<n)(e:Un s a=none):R=none:=by
 rw[←h.hr,show n-k=(n-(k+1))+1 by omega,Ig,e];rfl
theorem RcI.end_{s:ByteArray}{n k a:Nat}{R:Option (List Rr×Nat)}{L:List Rr}(h:RcI s n R k a L)(hk:¬k<n):R=some (L,a):=by
 have:=h.hk;rw[←h.hr,show n-k=0 by omega,Ig];simp
end Go.Proofs.YtkbjgdcdjccnaaaGreatDoor
