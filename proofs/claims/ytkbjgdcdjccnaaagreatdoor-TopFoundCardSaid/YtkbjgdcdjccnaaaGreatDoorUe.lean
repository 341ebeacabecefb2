/- Texts of this claim, joined. -/
import Derived.Test.YtkbjgdcdjccnaaaGreatDoorYAbsS
import Derived.WalkKit
import Derived.Defers
import Derived.Recover
import Derived.Laws.Pointers
import Derived.Test.YtkbjgdcdjccnaaaGreatDoorRows
import Derived.Test.YtkbjgdcdjccnaaaGreatDoorUa
import Derived.Test.YtkbjgdcdjccnaaaGreatDoorUb
import Derived.Test.YtkbjgdcdjccnaaaGreatDoorUc
import Derived.Test.YtkbjgdcdjccnaaaGreatDoorUd
set_option linter.unusedSimpArgs false
set_option linter.unusedVariables false
namespace Go.Proofs.YtkbjgdcdjccnaaaGreatDoor
open Go Go.RowKit Pl
def SmR(w:World)(B n:Nat)(l:List UInt8):Prop:=
 ∃C hi,w.heap[B]? =some (.cells C 5 (C.size,hi))∧n≤C.size∧l.length=n∧∀(j:Nat) (x:UInt8),l[j]? =some x→C[j]? =some (Value.int .u8 (x.toNat:Int))
theorem SmR.cell{w:World}{B n:Nat}{l:List UInt8}(h:SmR w B n l){j:Nat}{x:UInt8}(hx:l[j]? =some x):w.cell? ⟨B,j,none⟩=some (.int .u8 (x.toNat:Int)):=by
 obtain⟨C,hi,h1,h2,h3,h4⟩:=h;unfold World.cell?;rw[h1];exact h4 j x hx
theorem SmR.frozen{w:World}{B n:Nat}{l:List UInt8}(h:SmR w B n l){j:Nat}(hj:j<n):w.frozen? ⟨B,j,none⟩=false:=by
 obtain⟨C,hi,h1,h2,h3,h4⟩:=h;unfold World.frozen?;simp only[h1];simp;omega
theorem SmR.set{w:World}{B n:Nat}{l:List UInt8}(h:SmR w B n l){j:Nat}(x:UInt8):SmR (w.setCell ⟨B,j,none⟩ (.int .u8 (x.toNat:Int))) B n (l.set j x):=by
 obtain⟨C,hi,h1,h2,h3,h4⟩:=h;refine⟨C.setIfInBounds j (.int .u8 (x.toNat:Int)),hi,?_,by simpa using h2,by simpa using h3,fun i y hy=>?_⟩
 ·simp[World.setCell,Array.getElem?_modify,h1]
 ·rw[List.getElem?_set]at hy;split at hy
  ·subst j;split at hy
   ·cases hy;have:i<C.size:=by omega
    simp[this]
   ·cases hy
  ·rename_i hne;have:=h4 i y hy;rw[Array.getElem?_setIfInBounds_ne hne];exact this
def smK(s:ByteArray)(k:Nat):List UInt8:=(s.data.toList.take k).map Ih++s.data.toList.drop k
theorem R8(s:ByteArray)(k:Nat):(smK s k).length=s.size:=by
 unfold smK;have:s.data.toList.length=s.size:=by simp
 simp;omega
theorem Aos{s:ByteArray}{k:Nat}(h:k<s.size):(smK s k)[k]? =some s[k]:=by
 unfold smK;have e:s.data.toList.length=s.size:=by simp
 rw[ZP (by simp;omega)];simp[Nat.min_eq_left (Nat.le_of_lt h),h];rfl
theorem Aha{s:ByteArray}{k:Nat}(h:k<s.size):smK s (k+1)=(smK s k).set k (Ih s[k]):=by
 have e:s.data.toList.length=s.size:=by simp
 apply List.ext_getElem?;intro i;rw[List.getElem?_set];unfold smK;rcases Nat.lt_trichotomy i k with g|rfl|g
 ·rw[if_neg (by omega),ZQ (by simp;omega),ZQ (by simp;omega)];simp[g,Nat.lt_succ_of_lt g]
 ·rw[if_pos rfl,if_pos (by have:=R8 s i;unfold smK at this;omega),ZQ (by simp;omega)];simp[h];rfl
 ·rw[if_neg (by omega),ZP (by simp;omega),ZP (by simp;omega)];simp[List.getElem?_drop];congr 1;omega
theorem Ar3{s:ByteArray}{k:Nat}(h:k<s.size)(hx:Ih s[k]=s[k]):smK s (k+1)=smK s k:=by
 rw[Aha h,hx];have h1:=Aos h;apply List.ext_getElem?;intro i;rw[List.getElem?_set];split
 ·subst i;rw[h1];split<;>first|rfl|(exfalso;have:=R8 s k;omega)
 ·rfl
theorem Asp(s:ByteArray):(⟨(smK s s.size).toArray⟩:ByteArray)=C3 s:=by
 have e:s.data.toList.length=s.size:=by simp
 unfold smK C3;rw[List.take_of_length_le (by omega),List.drop_eq_nil_of_le (by omega),List.append_nil]
theorem Axr{s:ByteArray}{wr:World}{B k:Nat}{c:UInt8}(h:SmR wr B s.size (smK s k))(hlt:k<s.size)(hc:c=s[k])(h65:(65:Int)≤(c.toNat:Int))(h90:(c.toNat:Int)≤90):SmR (wr.setCell ⟨B,k,none⟩ (.int .u8 ((c.toNat:Int)+32))) B s.size (smK s (k+1)):=by
 have e:((c.toNat:Int)+32)=((Ih c).toNat:Int):=by
  unfold Ih;rw[if_pos ⟨by omega,by omega⟩,UInt8.toNat_add];show _=(((c.toNat+32)%256:Nat):Int);omega
 rw[e,Aha hlt,←hc];exact h.set _
theorem Akj{s:ByteArray}{wr:World}{B k:Nat}{c:UInt8}(h:SmR wr B s.size (smK s k))(hlt:k<s.size)(hc:c=s[k])(hn:¬((65:Int)≤(c.toNat:Int)∧(c.toNat:Int)≤90)):SmR wr B s.size (smK s (k+1)):=by
 rw[Ar3 hlt]
 ·exact h
 ·rw[←hc];unfold Ih;rw[if_neg (by omega)]
theorem Aq0{w wr:World}{B:Nat}(h:Below B w wr)(k:Nat)(v:Value):Below B w (wr.setCell ⟨B,k,none⟩ v):=Below.setCell h (ZT _) _
theorem Ati{s:ByteArray}{wr:World}{B:Nat}(h:SmR wr B s.size (smK s s.size))(cap:Nat):(convert 173 9 (.slice (some ⟨B,0,none⟩) s.size cap)).run Tryz.prog wr=.ok (.string (C3 s)) wr:=by
 have key:=run_convert_bytes_arg (P:=Tryz.prog) wr 173 5 Tryz.underlying173 Tryz.underlying5 B 0 ((smK s s.size).map fun b:UInt8=>(b.toNat:Int)).length cap ((smK s s.size).map fun b:UInt8=>(b.toNat:Int)) rfl (fun i hi=>by
  rw[ZE]at hi;have hx:(smK s s.size)[i]? =some (smK s s.size)[i]:=ZC hi;have:=h.cell hx;rw[Nat.zero_add,this];simp[List.getD,hi]) 9 Tryz.underlying9
 rw[ZE,R8]at key;rw[key,←Ap0,←Asp];have e:Abv ((smK s s.size).map fun b:UInt8=>(b.toNat:Int))=⟨(smK s s.size).toArray⟩:=by
  unfold Abv;rw[List.map_map,show((fun n:Int=>UInt8.ofNat n.toNat)∘fun b:UInt8=>(b.toNat:Int))=id from funext fun b=>by simp,List.map_id]
 rw[e]
set_option maxRecDepth 100000 in
theorem Ana(s:ByteArray)(w:World)(hs:s.size≤1000000):
  Calls Tryz.prog 189 #[.string s] w fun e w'=>e=.returned (.string (C3 s))∧Below w.heap.size w w':=by
 obtain⟨cap,C,fr,hrun,hR⟩:∃(cap:Nat) (C:Array Value) (fr:Nat×Nat),(convert 9 173 (.string s)).run Tryz.prog w=.ok (.slice (some ⟨w.heap.size,0,none⟩) s.size cap) (w.drew.alloc (.cells C 5 fr))∧SmR (w.alloc (.cells C 5 fr)).drew w.heap.size s.size (smK s 0):=by
  refine⟨_,_,_,run_bytes_of_string w 9 173 5 s Tryz.underlying9 Tryz.underlying173 Tryz.underlying5,?_⟩;refine⟨_,_,heap_alloc_new w _,by unfold bytesRow;simp,R8 s 0,fun j x hx=>?_⟩;have hj:j<s.data.size:=by
   have:=(ZB.1 hx).1;rw[R8]at this;exact this
  rw[bytesRow_at s _ j hj];have:(smK s 0)[j]? =some s.data[j]:=by unfold smK;simp[hj]
  rw[this]at hx;cases hx;rfl
 have HR:=hid hR;clear hR;have HB:=hid (show Below w.heap.size w (w.alloc (.cells C 5 fr)).drew from(by repeat (first|exact Below.refl _ _|assumption|refine Below.drew ?_|refine below_drewN ?_ _|refine Below.alloc ?_ (by simp;try omega) _|refine Below.setCell ?_ (by simp;try omega) _)))
 go_enter Tryz.func189,Tryz.ntmps189
 go_wp2
 go_loopw [10] (fun i wr=>∃k:Nat,k≤s.size∧i=.int .i64 k∧SmR wr w.heap.size s.size (smK s k)∧Below w.heap.size w wr) (fun i _=>s.size-(intOf i).toNat)
 case atStart=>exact⟨0,ZU _,rfl,HR.out,HB.out⟩
 case round=>
  obtain⟨k,hk,rfl,hrow,hbw⟩:=hrel;have HW:=hid hrow;have HL:=hid hbw;clear hrow hbw hrun HR HB;by_cases hlt:k<s.size
  ·have hcell:=HW.out.cell (Aos hlt);have hfro:=HW.out.frozen hlt;have hby:((s[k]).toNat:Int)≤255:=by have:=(s[k]).toNat_lt;omega
   obtain⟨c,hc⟩:∃c,c=s[k]:=⟨_,rfl⟩;have HC:=hid hc;rw[←hc]at hcell hby;clear hc;by_cases h65:(65:Int)≤(c.toNat:Int)
   ·by_cases h90:(c.toNat:Int)≤90
    ·go_wp2
     go_round
     case rel=>exact⟨k+1,by omega,rfl,Axr HW.out hlt HC.out h65 h90,Aq0 HL.out _ _⟩
     case measure=>simp[intOf];omega
    ·go_wp2
     go_round
     case rel=>exact⟨k+1,by omega,rfl,Akj HW.out hlt HC.out (fun q=>h90 q.2),HL.out⟩
     case measure=>simp[intOf];omega
   ·go_wp2
    go_round
    case rel=>exact⟨k+1,by omega,rfl,Akj HW.out hlt HC.out (fun q=>h65 q.1),HL.out⟩
    case measure=>simp[intOf];omega
  ·obtain rfl:k=s.size:=by omega
   have hback:=Ati HW.out cap
   go_wp2
   go_ret
   exact⟨rfl,HL.out⟩
theorem Aby(s:ByteArray)(hs:s.size≤1000000):Fun Tryz.prog 189 [.c (.v (.string s))] [.c (.v (.string (C3 s)))]:=
 Mf (xs:=[.string s]) (Cn Tryz.func189 (by kernel_rfl) (by kernel_rfl)) fun w=>(Ana s w hs).mono fun e w' h=>⟨h.1,h.2⟩
theorem Js{s:ByteArray}{a n:Nat}{v:ByteArray}{a':Nat}(h:Fm s a n=some (v,a')):a+n≤s.size∧v=s.extract a (a+n)∧a'=a+n∧v.size=n:=by
 unfold Fm at h;split at h
 ·cases h;refine⟨by assumption,rfl,rfl,?_⟩;rw[ByteArray.size_extract];omega
 ·cases h
theorem Am9{s:ByteArray}{a n:Nat}(h:Fm s a n=none):¬a+n≤s.size:=by
 unfold Fm at h;split at h
 ·cases h
 ·assumption
theorem Pb{s:ByteArray}{a n:Nat}{v:ByteArray}{a':Nat}(h:Fm s a n=some (v,a'))(hs:s.size≤1000000)(ha:a≤s.size)(hn:n≤1000000):Hz Tryz.prog 190 [.mn rdT (rdC s a) (rdC s a'),.p (.c (.v (.int .i64 (n:Int))))] [.p (.c (.v (.string v)))]:=by
 obtain⟨h1,rfl,rfl,_⟩:=Js h;rw[show rdC s (a+n)=rdZ s ((a:Int)+(n:Int))from rfl];refine Le Jc rfl rfl (Ko rfl) ?_;refine G0 ?_;(refine .inl ⟨_,_,true,[],aI,Bb _ (ZX (by omega)),(fun _=>fI),nI,?_⟩);refine G1 ?_;intro gg;refine⟨a,a+n,⟨_,congrArg (fun z=>V.v (Value.int .i64 z)) (show(a:Int)+(n:Int)-(n:Int)=(a:Int)by omega)⟩,⟨_,rfl⟩,by omega,by omega,?_⟩;refine G0 ?_;(exact⟨0::([]++[]),Ij (by first|exact A9 rfl|assumption) (N8 (gone:=[]) (gone1:=[]) rfl aI (by decide) (by decide) (by decide) (.nil _))⟩)
theorem Abj{s:ByteArray}{a n:Nat}{R:List Par}(h:Fm s a n=none)(hs:s.size≤1000000)(ha:a≤s.size)(hn:n≤1000000):Gz Tryz.prog 190 [.mn rdT (rdC s a) R,.p (.c (.v (.int .i64 (n:Int))))] Gu:=by
 have h1:=Am9 h;refine Ly Jc rfl (Ko rfl) ?_;refine G0 ?_;(exact .inr (.inr (.inl ⟨_,true,[],_,aM,B7 _ (ZY (by omega)),rfl⟩)))
def Aao(e:Option Nat):Int:=e.elim (-1) fun n=>(n:Int)
theorem Aus{n:Nat}(h:n<256):IntKind.i64.wrap ((BitVec.ofInt IntKind.i64.bits (n:Int)&&&BitVec.ofInt IntKind.i64.bits 63).toNat)=((n%64:Nat):Int):=by
 have e1:(BitVec.ofInt IntKind.i64.bits (n:Int)&&&BitVec.ofInt IntKind.i64.bits 63).toNat=n%64:=by
  show(BitVec.ofInt 64 (n:Int)&&&BitVec.ofInt 64 63).toNat=_;rw[BitVec.toNat_and];have a1:(BitVec.ofInt 64 (n:Int)).toNat=n:=by
   rw[BitVec.ofInt_natCast,BitVec.toNat_ofNat];exact Nat.mod_eq_of_lt (by omega)
  have a2:(BitVec.ofInt 64 63).toNat=2^6-1:=by decide
  rw[a1,a2,Nat.and_two_pow_sub_one_eq_mod]
 rw[e1,D7 (by omega) (by omega)]
structure NmI(s:ByteArray)(R:Option (List ByteArray×Nat))(a:Nat)(l:List ByteArray)(e:Option Nat)(fr f:Nat):Prop where
 hr:nameR s f a l e fr=R
 ha:a≤s.size
 hfr:fr≤s.size
 hl:l.length≤9
 hf:fr+9<f+l.length
 hz:∀x∈l,x.size≤30
 he:∀n,e=some n→n≤s.size
theorem Xb{l:List ByteArray}(h:∀x∈l,x.size≤30)(hl:l.length≤9):(Dc ⟨#[46]⟩ l).size≤1000:=by
 have key:∀l:List ByteArray,(∀x∈l,x.size≤30)→(Lib.join (l.map (·.data.toList)) [46]).length≤31*l.length:=by
  intro l
  induction l with
  |nil=>intro _;simp[Lib.join]
  |cons x l ih=>
   intro h;have h1:=h x (by simp);have h2:=ih fun y hy=>h y (by simp[hy]);have h3:x.data.toList.length=x.size:=by simp
   cases l with
   |nil=>simp[Lib.join];omega
   |cons y l=>
    have e:Lib.join ((x::y::l).map (·.data.toList)) [46]=x.data.toList++[46]++Lib.join ((y::l).map (·.data.toList)) [46]:=by simp[Lib.join]
    rw[e];simp only[ZF,ZJ,ZN]at h2 ⊢;omega
 have:=key l h;unfold Dc;show(Lib.join (l.map (·.data.toList)) [46]).toArray.size≤1000;rw[List.size_toArray];omega
theorem Vx(x:ByteArray):(C3 x).size=x.size:=by
 unfold C3;show(x.data.toList.map Ih).toArray.size=_;simp
theorem U5{x:ByteArray}(h:lab x.data.toList=true):x.size≤30:=by
 unfold lab at h;simp at h;have:x.data.toList.length=x.size:=by rw[Array.length_toList];rfl
 omega
theorem Aga{e:Option Nat}{k S:Nat}(h:∀n,e=some n→n≤S)(hk:k≤S):∀n,some (e.getD k)=some n→n≤S:=by
 intro n hn;cases hn;cases e with
 |none=>exact hk
 |some m=>exact h m rfl
theorem Apx{l:List ByteArray}{x:ByteArray}{S:Nat}(h:∀y∈l,y.size≤S)(hx:x.size≤S):∀y∈l++[x],y.size≤S:=by
 intro y hy;rcases XM.1 hy with hy|hy
 ·exact h y hy
 ·simp at hy;subst hy;exact hx
set_option maxHeartbeats 2000000 in
theorem Jn{s:ByteArray}{a a':Nat}{v:ByteArray}(h:H4 s a=some (v,a'))(hs:s.size≤1000000)(ha:a≤s.size):Hz Tryz.prog 106 [.mn rdT (rdC s a) (rdC s a')] [.p (.c (.v (.string v)))]:=by
 obtain⟨⟨ls,a2⟩,hr,hv⟩:=Option.map_eq_some_iff.1 h;simp only[Prod.mk.injEq]at hv;obtain⟨rfl,rfl⟩:=hv;refine Le Ka rfl rfl (Ko rfl) ?_;refine G0 ?_;(refine⟨[(3,48,9,1)],none,{p:Nat×List ByteArray×Option Nat×Nat×Nat×Nat//NmI s (some (ls,a2)) p.1 p.2.1 p.2.2.1 p.2.2.2.1 p.2.2.2.2.1},[0],fun⟨⟨k,l,e,fr,f,g⟩,hp⟩=>[(3,.own 48 g),(4,.v (.int .i64 (Aao e))),(5,.v (.int .i64 (fr:Int)))],[],fun⟨⟨k,l,e,fr,f,g⟩,hp⟩=>[(48,⟨g,9,1,l.map Bm⟩),(0,⟨0,.b rdT,2,[[.v (.string s),.v (.int .i64 (k:Int))]]⟩)],fun⟨⟨k,l,e,fr,f,g⟩,hp⟩=>f,(by exact⟨rfl,by decide,(fun _ _ _ _ h=>by cases h),trivial⟩),fun gs=>⟨trivial,fun _=>⟨⟨(a,[],none,a,a+10,gs 48),⟨hr,ha,ha,by simp,by simp,by simp,by simp⟩⟩,tI,tI,tI,tI⟩⟩,fun⟨⟨k,l,e,fr,f,g⟩,hp⟩=>?_⟩);obtain⟨hp1,hp2,hp3,hp4,hp5,hp6,hp7⟩:=hp;simp only at hp1 hp2 hp3 hp4 hp5 hp6 hp7;rcases f with _|f
 ·exfalso;omega
 rw[nameR]at hp1;refine G0 ?_;rw[ZE];by_cases c1:l.length≤8
 ·rw[if_pos c1]at hp1;(refine .inl ⟨_,_,true,[],aI,Bb _ (ZX (by omega)),(fun _=>fI),nI,?_⟩);refine G1 ?_;intro gg;rcases e1:Co s k with _|⟨n,k1⟩
  ·rw[e1]at hp1;cases hp1
  rw[e1,ZA]at hp1;simp only at hp1;have b1:=Cz e1;(refine .inr (.inl ⟨_,_,false,0::([]++[]),?_,Dx e1 hs,Ad,oI,dI,?_⟩);focus (exact wI));refine G1 ?_;intro gg;by_cases c2:n=0
  ·rw[if_pos c2]at hp1;(refine Gj ?_ ?_;focus (simp[c2]));have hj:=Xb hp6 hp4;obtain⟨e4,e5⟩:l=ls∧e.getD k1=a2:=by simpa using hp1
   subst e4 e5;refine G0 ?_;rcases e with _|m
   ·rw[show decide ((0:Int)≤Aao none)=false from rfl];refine G0 ?_;(refine .inl ⟨_,_,true,[],aI,Sx false l ⟨#[46]⟩ (by omega) (by omega),(fun _=>fI),nI,?_⟩);refine G1 ?_;intro gg;(exact⟨0::([]++[]),Ij (by first|exact A9 rfl|assumption) (N8 (gone:=[]) (gone1:=[]) rfl aI (by decide) (by decide) (by decide) (.nil _))⟩)
   ·rw[show decide ((0:Int)≤Aao (some m))=true from ZX (Int.natCast_nonneg m)];refine G0 ?_;(refine .inl ⟨_,_,true,[],aI,Sx false l ⟨#[46]⟩ (by omega) (by omega),(fun _=>fI),nI,?_⟩);refine G1 ?_;intro gg;(exact⟨0::([]++[]),Ij (by first|exact A9 rfl|assumption) (N8 (gone:=[]) (gone1:=[]) rfl aI (by decide) (by decide) (by decide) (.nil _))⟩)
  ·rw[if_neg c2]at hp1;(refine Fs ?_ ?_;focus (simpa using c2));refine G0 ?_;by_cases c3:192≤n
   ·rw[if_pos c3]at hp1;(refine Gj ?_ ?_;focus (exact ZX (by omega)));refine G0 ?_;refine⟨_,Aus b1.1,?_⟩;refine G0 ?_;refine⟨by decide,_,Aqu (by omega),?_⟩;refine G0 ?_;rcases e2:Co s k1 with _|⟨q,k2⟩
    ·rw[e2]at hp1;cases hp1
    rw[e2,ZA]at hp1;simp only at hp1;have b2:=Cz e2;(refine .inr (.inl ⟨_,_,false,0::([]++[]),?_,Dx e2 hs,Ad,oI,dI,?_⟩);focus (exact wI));refine G1 ?_;intro gg;obtain⟨to,hto⟩:∃to,to=n%64*256+q:=⟨_,rfl⟩;rw[←hto]at hp1;refine⟨(to:Int),by rw[hto];exact or8 (x:=n%64) (by omega) b2.1,?_⟩;refine G0 ?_;rcases e with _|m
    ·rw[show decide (Aao none<(0:Int))=true from rfl];refine G0 ?_;by_cases c4:to<fr
     ·rw[if_pos c4]at hp1;(refine .inl ⟨_,_,true,[],aI,Bb _ (ZX (by omega)),(fun _=>fI),nI,?_⟩);refine G1 ?_;intro gg;(exact⟨none,trivial,fun _=>⟨⟨(to,l,_,to,f,g),⟨hp1,show to≤s.size by omega,show to≤s.size by omega,hp4,show to+9<f+l.length by omega,hp6,Aga hp7 (by omega)⟩⟩,by show f<f+1;omega,tI,tI,tI,tI⟩⟩)
     ·rw[if_neg c4]at hp1;cases hp1
    ·rw[show decide (Aao (some m)<(0:Int))=false from ZY (by have:=Int.natCast_nonneg m;simp only[Aao,Option.elim];omega)];refine G0 ?_;by_cases c4:to<fr
     ·rw[if_pos c4]at hp1;(refine .inl ⟨_,_,true,[],aI,Bb _ (ZX (by omega)),(fun _=>fI),nI,?_⟩);refine G1 ?_;intro gg;(exact⟨none,trivial,fun _=>⟨⟨(to,l,_,to,f,g),⟨hp1,show to≤s.size by omega,show to≤s.size by omega,hp4,show to+9<f+l.length by omega,hp6,Aga hp7 (by omega)⟩⟩,by show f<f+1;omega,tI,tI,tI,tI⟩⟩)
     ·rw[if_neg c4]at hp1;cases hp1
   ·rw[if_neg c3]at hp1;(refine Fs ?_ ?_;focus (exact ZY (by omega)));refine G0 ?_;rcases e3:Fm s k1 n with _|⟨x,k2⟩
    ·rw[e3]at hp1;cases hp1
    rw[e3,ZA]at hp1;simp only at hp1;have b3:=Js e3;(refine .inr (.inl ⟨_,_,false,0::([]++[]),?_,Pb e3 hs (by omega) (by omega),Ad,oI,dI,?_⟩);focus (exact wI));refine G1 ?_;intro gg;have hx:(C3 x).size=x.size:=Vx x;(refine .inl ⟨_,_,false,[],aI,Aby x (by omega),Ad,nI,?_⟩);refine G1 ?_;intro gg;(refine .inl ⟨_,_,false,[],aI,C2 (C3 x) (by omega),Ad,nI,?_⟩);refine G1 ?_;intro gg;by_cases c5:lab (C3 x).data.toList=true
    ·rw[if_pos c5]at hp1;have hz:=U5 c5;refine .inl (cY (Bb _ c5) ?_);(refine goI ?_;repeat (intro gg;refine goI ?_));refine⟨lI,lI,?_⟩;refine G1 ?_;intro gg;(exact⟨none,trivial,fun gr=>⟨⟨(k2,l++[C3 x],e,fr,f,gg),⟨hp1,by omega,hp3,by simp;omega,by simp;omega,Apx hp6 hz,hp7⟩⟩,by show f<f+1;omega,hxI (ZI (f:=Bm) (l₁:=l) (l₂:=[C3 x])),hxI (ZI (f:=Bm) (l₁:=l) (l₂:=[C3 x])),hxI (ZI (f:=Bm) (l₁:=l) (l₂:=[C3 x])),hxI (ZI (f:=Bm) (l₁:=l) (l₂:=[C3 x]))⟩⟩)
    ·rw[if_neg c5]at hp1;cases hp1
 ·rw[if_neg c1]at hp1;cases hp1
set_option maxHeartbeats 2000000 in
theorem U8{s:ByteArray}{a:Nat}{R:List Par}(h:H4 s a=none)(hs:s.size≤1000000)(ha:a≤s.size):Gz Tryz.prog 106 [.mn rdT (rdC s a) R] Gu:=by
 have hr:=Option.map_eq_none_iff.1 h;refine Ly Ka rfl (Ko rfl) ?_;refine G0 ?_;(refine⟨[(3,48,9,1)],none,{p:Nat×List ByteArray×Option Nat×Nat×Nat×Nat//NmI s none p.1 p.2.1 p.2.2.1 p.2.2.2.1 p.2.2.2.2.1},[0],fun⟨⟨k,l,e,fr,f,g⟩,hp⟩=>[(3,.own 48 g),(4,.v (.int .i64 (Aao e))),(5,.v (.int .i64 (fr:Int)))],[],fun⟨⟨k,l,e,fr,f,g⟩,hp⟩=>[(48,⟨g,9,1,l.map Bm⟩),(0,⟨0,.b rdT,2,[[.v (.string s),.v (.int .i64 (k:Int))]]⟩)],fun⟨⟨k,l,e,fr,f,g⟩,hp⟩=>f,(by exact⟨rfl,by decide,(fun _ _ _ _ h=>by cases h),trivial⟩),fun gs=>⟨trivial,fun _=>⟨⟨(a,[],none,a,a+10,gs 48),⟨hr,ha,ha,by simp,by simp,by simp,by simp⟩⟩,tI,tI,tI,tI⟩⟩,fun⟨⟨k,l,e,fr,f,g⟩,hp⟩=>?_⟩);obtain⟨hp1,hp2,hp3,hp4,hp5,hp6,hp7⟩:=hp;simp only at hp1 hp2 hp3 hp4 hp5 hp6 hp7;rcases f with _|f
 ·exfalso;omega
 rw[nameR]at hp1;refine G0 ?_;rw[ZE];by_cases c1:l.length≤8
 ·rw[if_pos c1]at hp1;(refine .inl ⟨_,_,true,[],aI,Bb _ (ZX (by omega)),(fun _=>fI),nI,?_⟩);refine G1 ?_;intro gg;rcases e1:Co s k with _|⟨n,k1⟩
  ·(refine .inr (.inr (.inl ⟨_,false,0::([]++[]),_,?_,Kf (R:=rdC s 0) e1 hs,rfl⟩));focus (exact wI))
  rw[e1,ZA]at hp1;simp only at hp1;have b1:=Cz e1;(refine .inr (.inl ⟨_,_,false,0::([]++[]),?_,Dx e1 hs,Ad,oI,dI,?_⟩);focus (exact wI));refine G1 ?_;intro gg;by_cases c2:n=0
  ·rw[if_pos c2]at hp1;cases hp1
  ·rw[if_neg c2]at hp1;(refine Fs ?_ ?_;focus (simpa using c2));refine G0 ?_;by_cases c3:192≤n
   ·rw[if_pos c3]at hp1;(refine Gj ?_ ?_;focus (exact ZX (by omega)));refine G0 ?_;refine⟨_,Aus b1.1,?_⟩;refine G0 ?_;refine⟨by decide,_,Aqu (by omega),?_⟩;refine G0 ?_;rcases e2:Co s k1 with _|⟨q,k2⟩
    ·(refine .inr (.inr (.inl ⟨_,false,0::([]++[]),_,?_,Kf (R:=rdC s 0) e2 hs,rfl⟩));focus (exact wI))
    rw[e2,ZA]at hp1;simp only at hp1;have b2:=Cz e2;(refine .inr (.inl ⟨_,_,false,0::([]++[]),?_,Dx e2 hs,Ad,oI,dI,?_⟩);focus (exact wI));refine G1 ?_;intro gg;obtain⟨to,hto⟩:∃to,to=n%64*256+q:=⟨_,rfl⟩;rw[←hto]at hp1;refine⟨(to:Int),by rw[hto];exact or8 (x:=n%64) (by omega) b2.1,?_⟩;refine G0 ?_;rcases e with _|m
    ·rw[show decide (Aao none<(0:Int))=true from rfl];refine G0 ?_;by_cases c4:to<fr
     ·rw[if_pos c4]at hp1;(refine .inl ⟨_,_,true,[],aI,Bb _ (ZX (by omega)),(fun _=>fI),nI,?_⟩);refine G1 ?_;intro gg;(exact⟨none,trivial,fun _=>⟨⟨(to,l,_,to,f,g),⟨hp1,show to≤s.size by omega,show to≤s.size by omega,hp4,show to+9<f+l.length by omega,hp6,Aga hp7 (by omega)⟩⟩,by show f<f+1;omega,tI,tI,tI,tI⟩⟩)
     ·(exact .inr (.inr (.inl ⟨_,true,[],_,aM,B7 _ (ZY (by omega)),rfl⟩)))
    ·rw[show decide (Aao (some m)<(0:Int))=false from ZY (by have:=Int.natCast_nonneg m;simp only[Aao,Option.elim];omega)];refine G0 ?_;by_cases c4:to<fr
     ·rw[if_pos c4]at hp1;(refine .inl ⟨_,_,true,[],aI,Bb _ (ZX (by omega)),(fun _=>fI),nI,?_⟩);refine G1 ?_;intro gg;(exact⟨none,trivial,fun _=>⟨⟨(to,l,_,to,f,g),⟨hp1,show to≤s.size by omega,show to≤s.size by omega,hp4,show to+9<f+l.length by omega,hp6,Aga hp7 (by omega)⟩⟩,by show f<f+1;omega,tI,tI,tI,tI⟩⟩)
     ·(exact .inr (.inr (.inl ⟨_,true,[],_,aM,B7 _ (ZY (by omega)),rfl⟩)))
   ·rw[if_neg c3]at hp1;(refine Fs ?_ ?_;focus (exact ZY (by omega)));refine G0 ?_;rcases e3:Fm s k1 n with _|⟨x,k2⟩
    ·(refine .inr (.inr (.inl ⟨_,false,0::([]++[]),_,?_,Abj (R:=rdC s 0) e3 hs (by omega) (by omega),rfl⟩));focus (exact wI))
    rw[e3,ZA]at hp1;simp only at hp1;have b3:=Js e3;(refine .inr (.inl ⟨_,_,false,0::([]++[]),?_,Pb e3 hs (by omega) (by omega),Ad,oI,dI,?_⟩);focus (exact wI));refine G1 ?_;intro gg;have hx:(C3 x).size=x.size:=Vx x;(refine .inl ⟨_,_,false,[],aI,Aby x (by omega),Ad,nI,?_⟩);refine G1 ?_;intro gg;(refine .inl ⟨_,_,false,[],aI,C2 (C3 x) (by omega),Ad,nI,?_⟩);refine G1 ?_;intro gg;by_cases c5:lab (C3 x).data.toList=true
    ·rw[if_pos c5]at hp1;have hz:=U5 c5;refine .inl (cY (Bb _ c5) ?_);(refine goI ?_;repeat (intro gg;refine goI ?_));refine⟨lI,lI,?_⟩;refine G1 ?_;intro gg;(exact⟨none,trivial,fun gr=>⟨⟨(k2,l++[C3 x],e,fr,f,gg),⟨hp1,by omega,hp3,by simp;omega,by simp;omega,Apx hp6 hz,hp7⟩⟩,by show f<f+1;omega,hxI (ZI (f:=Bm) (l₁:=l) (l₂:=[C3 x])),hxI (ZI (f:=Bm) (l₁:=l) (l₂:=[C3 x])),hxI (ZI (f:=Bm) (l₁:=l) (l₂:=[C3 x])),hxI (ZI (f:=Bm) (l₁:=l) (l₂:=[C3 x]))⟩⟩)
    ·(exact .inr (.inr (.inl ⟨_,true,[],_,aM,B7 _ (XE.2 c5),rfl⟩)))
 ·(exact .inr (.inr (.inl ⟨_,true,[],_,aM,B7 _ (ZY (by omega)),rfl⟩)))
theorem Ary{s:ByteArray}:∀{f a:Nat} {l:List ByteArray} {e:Option Nat} {fr:Nat} {ls:List ByteArray} {a':Nat},nameR s f a l e fr=some (ls,a')→(∀x∈l,lab x.data.toList=true)→(∀n,e=some n→n≤s.size)→
  a'≤s.size∧(∀x∈ls,lab x.data.toList=true)∧ls.length≤8:=by
 intro f
 induction f with
 |zero=>intro a l e fr ls a' h;cases h
 |succ f ih=>
  intro a l e fr ls a' h hl he;rw[nameR]at h;by_cases c1:l.length≤8
  ·rw[if_pos c1]at h;rcases e1:Co s a with _|⟨n,k1⟩
   ·rw[e1]at h;cases h
   have b1:=Cz e1;rw[e1,ZA]at h;simp only at h;by_cases c2:n=0
   ·rw[if_pos c2]at h;obtain⟨rfl,rfl⟩:l=ls∧e.getD k1=a':=by simpa using h
    refine⟨?_,hl,c1⟩;cases e with
    |none=>exact b1.2.2
    |some m=>exact he m rfl
   rw[if_neg c2]at h;by_cases c3:192≤n
   ·rw[if_pos c3]at h;rcases e2:Co s k1 with _|⟨q,k2⟩
    ·rw[e2]at h;cases h
    have b2:=Cz e2;rw[e2,ZA]at h;simp only at h;split at h
    ·exact ih h hl (Aga he b2.2.2)
    ·cases h
   ·rw[if_neg c3]at h;rcases e3:Fm s k1 n with _|⟨x,k2⟩
    ·rw[e3]at h;cases h
    rw[e3,ZA]at h;simp only at h;split at h
    ·rename_i c4;exact ih h (fun y hy=>by
      rcases XM.1 hy with hy|hy
      ·exact hl y hy
      ·simp at hy;subst hy;exact c4) he
    ·cases h
  ·rw[if_neg c1]at h;cases h
theorem Hv{s:ByteArray}{a a':Nat}{v:ByteArray}(h:H4 s a=some (v,a')):a'≤s.size∧v.size≤1000:=by
 obtain⟨⟨ls,a2⟩,hr,hv⟩:=Option.map_eq_some_iff.1 h;simp only[Prod.mk.injEq]at hv;obtain⟨rfl,rfl⟩:=hv;have b:=Ary hr (by simp) (by simp);exact⟨b.1,Xb (fun x hx=>U5 (b.2.1 x hx)) (by omega)⟩
theorem Al1{s:ByteArray}{a:Nat}:Ki s 1 a=(Iv s a).bind fun p=>some ((p.1,⟨#[]⟩,0,⟨#[]⟩),p.2):=rfl
theorem Ag5{s:ByteArray}{a:Nat}:Ki s 16 a=(Co s a).bind fun p=>(Fm s p.2 p.1).bind fun q=>some ((0,q.1,0,⟨#[]⟩),q.2):=rfl
theorem Agh{s:ByteArray}{a:Nat}:Ki s 33 a=(B9 s a).bind fun p=>if p.1=0 then(B9 s p.2).bind fun q=>if q.1=0 then(B9 s q.2).bind fun r=>(H4 s r.2).bind fun n=>some ((0,⟨#[]⟩,r.1,n.1),n.2)else none else none:=rfl
theorem As5{s:ByteArray}{t a:Nat}(h1:t≠1)(h2:t≠16)(h3:t≠33):Ki s t a=none:=by
 unfold Ki;rw[if_neg h1,if_neg h2,if_neg h3]
set_option maxHeartbeats 4000000 in
theorem A6{s:ByteArray}{a a':Nat}{v:Rr}(h:Ss s a=some (v,a'))(hs:s.size≤1000000)(ha:a≤s.size):Hz Tryz.prog 107 [.mn rdT (rdC s a) (rdC s a')] [.p (.c (.agg v.row))]:=by
 unfold Ss at h;refine Ako Ix rfl (Ko rfl) ?_;refine G1 ?_;intro gg;rcases e1:H4 s a with _|⟨nm,a1⟩
 ·rw[e1]at h;cases h
 rw[e1,ZA]at h;simp only at h;have be1:=Hv e1;(refine .inr (.inl ⟨_,_,false,0::([]++[]),?_,Jn e1 hs (by omega),Ad,oI,dI,?_⟩);focus (exact wI));refine G1 ?_;intro gg;rcases e2:B9 s a1 with _|⟨t,a2⟩
 ·rw[e2]at h;cases h
 rw[e2,ZA]at h;simp only at h;have be2:=Bo e2;(refine .inr (.inl ⟨_,_,false,0::([]++[]),?_,Bf e2 hs,Ad,oI,dI,?_⟩);focus (exact wI));(refine goI ?_;repeat (intro gg;refine goI ?_));rcases e3:B9 s a2 with _|⟨one,a3⟩
 ·rw[e3]at h;cases h
 rw[e3,ZA]at h;simp only at h;have be3:=Bo e3;(refine .inr (.inl ⟨_,_,false,0::([]++[]),?_,Bf e3 hs,Ad,oI,dI,?_⟩);focus (exact wI));refine G1 ?_;intro gg;by_cases c3:one=1
 ·rw[if_pos c3]at h;(refine .inl ⟨_,_,true,[],aI,Bb _ (ZR.2 (by omega)),(fun _=>fI),nI,?_⟩);refine G1 ?_;intro gg;rcases e4:Iv s a3 with _|⟨ls,a4⟩
  ·rw[e4]at h;cases h
  rw[e4,ZA]at h;simp only at h;have be4:=Rj e4;(refine .inr (.inl ⟨_,_,false,0::([]++[]),?_,S4 e4 hs,Ad,oI,dI,?_⟩);focus (exact wI));refine G1 ?_;intro gg;rcases e5:B9 s a4 with _|⟨n,a5⟩
  ·rw[e5]at h;cases h
  rw[e5,ZA]at h;simp only at h;have be5:=Bo e5;(refine .inr (.inl ⟨_,_,false,0::([]++[]),?_,Bf e5 hs,Ad,oI,dI,?_⟩);focus (exact wI));refine G1 ?_;intro gg;by_cases c5:a5+n≤s.size
  ·rw[if_pos c5]at h;(refine .inl ⟨_,_,true,[],aI,Bb _ (ZX (by omega)),(fun _=>fI),nI,?_⟩);refine G1 ?_;intro gg;by_cases t1:t=1
   ·subst t1;rw[Al1]at h;rw[show(((1:Nat):Int)==1)=true from rfl];refine G0 ?_;rcases e6:Iv s a5 with _|⟨ad,a6⟩
    ·rw[e6]at h;cases h
    rw[e6,ZA]at h;simp only at h;have be6:=Rj e6;(refine .inr (.inl ⟨_,_,false,0::([]++[]),?_,S4 e6 hs,Ad,oI,dI,?_⟩);focus (exact wI));refine G1 ?_;intro gg;rw[ZA]at h;simp only at h;by_cases c9:a6=a5+n
    ·rw[if_pos c9]at h;(refine .inl ⟨_,_,true,[],aI,Bb _ (ZR.2 (by omega)),(fun _=>fI),nI,?_⟩);refine G1 ?_;intro gg;obtain⟨ev,ea⟩:_=v∧_=a':=by simpa using h
     subst ev ea;(exact⟨_,0::([]++[]),.cell1 rfl rfl rfl rfl rfl rfl .nil,Ij (A9 rfl) (N8 (gone:=[]) (gone1:=[]) rfl aI (by decide) (by decide) (by decide) (.nil _))⟩)
    ·rw[if_neg c9]at h;cases h
   by_cases t2:t=16
   ·subst t2;rw[Ag5]at h;rw[show(((16:Nat):Int)==1)=false from rfl];refine G0 ?_;rw[show(((16:Nat):Int)==16)=true from rfl];refine G0 ?_;rcases e6:Co s a5 with _|⟨k,a6⟩
    ·rw[e6]at h;cases h
    rw[e6,ZA]at h;simp only at h;have be6:=Cz e6;(refine .inr (.inl ⟨_,_,false,0::([]++[]),?_,Dx e6 hs,Ad,oI,dI,?_⟩);focus (exact wI));refine G1 ?_;intro gg;rcases e7:Fm s a6 k with _|⟨tx,a7⟩
    ·rw[e7]at h;cases h
    rw[e7,ZA]at h;simp only at h;have be7:=Js e7;(refine .inr (.inl ⟨_,_,false,0::([]++[]),?_,Pb e7 hs (by omega) (by omega),Ad,oI,dI,?_⟩);focus (exact wI));refine G1 ?_;intro gg;rw[ZA]at h;simp only at h;by_cases c9:a7=a5+n
    ·rw[if_pos c9]at h;(refine .inl ⟨_,_,true,[],aI,Bb _ (ZR.2 (by omega)),(fun _=>fI),nI,?_⟩);refine G1 ?_;intro gg;obtain⟨ev,ea⟩:_=v∧_=a':=by simpa using h
     subst ev ea;(exact⟨_,0::([]++[]),.cell1 rfl rfl rfl rfl rfl rfl .nil,Ij (A9 rfl) (N8 (gone:=[]) (gone1:=[]) rfl aI (by decide) (by decide) (by decide) (.nil _))⟩)
    ·rw[if_neg c9]at h;cases h
   by_cases t3:t=33
   ·subst t3;rw[Agh]at h;rw[show(((33:Nat):Int)==1)=false from rfl];refine G0 ?_;rw[show(((33:Nat):Int)==16)=false from rfl];refine G0 ?_;rw[show(((33:Nat):Int)==33)=true from rfl];refine G0 ?_;rcases e6:B9 s a5 with _|⟨z,a6⟩
    ·rw[e6]at h;cases h
    rw[e6,ZA]at h;simp only at h;have be6:=Bo e6;(refine .inr (.inl ⟨_,_,false,0::([]++[]),?_,Bf e6 hs,Ad,oI,dI,?_⟩);focus (exact wI));refine G1 ?_;intro gg;by_cases c6:z=0
    ·rw[if_pos c6]at h;rw[show((z:Int)==0)=true from ZR.2 (by omega)];refine G0 ?_;rcases e7:B9 s a6 with _|⟨y,a7⟩
     ·rw[e7]at h;cases h
     rw[e7,ZA]at h;simp only at h;have be7:=Bo e7;(refine .inr (.inl ⟨_,_,false,0::([]++[]),?_,Bf e7 hs,Ad,oI,dI,?_⟩);focus (exact wI));refine G1 ?_;intro gg;by_cases c7:y=0
     ·rw[if_pos c7]at h;(refine .inl ⟨_,_,true,[],aI,Bb _ (ZR.2 (by omega)),(fun _=>fI),nI,?_⟩);refine G1 ?_;intro gg;rcases e8:B9 s a7 with _|⟨pt,a8⟩
      ·rw[e8]at h;cases h
      rw[e8,ZA]at h;simp only at h;have be8:=Bo e8;(refine .inr (.inl ⟨_,_,false,0::([]++[]),?_,Bf e8 hs,Ad,oI,dI,?_⟩);focus (exact wI));refine G1 ?_;intro gg;rcases e9:H4 s a8 with _|⟨tg,a9⟩
      ·rw[e9]at h;cases h
      rw[e9,ZA]at h;simp only at h;have be9:=Hv e9;(refine .inr (.inl ⟨_,_,false,0::([]++[]),?_,Jn e9 hs (by omega),Ad,oI,dI,?_⟩);focus (exact wI));refine G1 ?_;intro gg;rw[ZA]at h;simp only at h;by_cases c9:a9=a5+n
      ·rw[if_pos c9]at h;(refine .inl ⟨_,_,true,[],aI,Bb _ (ZR.2 (by omega)),(fun _=>fI),nI,?_⟩);refine G1 ?_;intro gg;obtain⟨ev,ea⟩:_=v∧_=a':=by simpa using h
       subst ev ea;(exact⟨_,0::([]++[]),.cell1 rfl rfl rfl rfl rfl rfl .nil,Ij (A9 rfl) (N8 (gone:=[]) (gone1:=[]) rfl aI (by decide) (by decide) (by decide) (.nil _))⟩)
      ·rw[if_neg c9]at h;cases h
     ·rw[if_neg c7]at h;cases h
    ·rw[if_neg c6]at h;cases h
   rw[show((t:Int)==1)=false from ZG.2 (by omega)];refine G0 ?_;rw[show((t:Int)==16)=false from ZG.2 (by omega)];refine G0 ?_;rw[show((t:Int)==33)=false from ZG.2 (by omega)];refine G0 ?_;rw[As5 t1 t2 t3]at h;cases h
  ·rw[if_neg c5]at h;cases h
 ·rw[if_neg c3]at h;cases h
set_option maxHeartbeats 4000000 in
theorem Cs{s:ByteArray}{a:Nat}{R:List Par}(h:Ss s a=none)(hs:s.size≤1000000)(ha:a≤s.size):Gz Tryz.prog 107 [.mn rdT (rdC s a) R] Gu:=by
 unfold Ss at h;refine Abd Ix rfl (Ko rfl) ?_;refine G1 ?_;intro gg;rcases e1:H4 s a with _|⟨nm,a1⟩
 ·(refine .inr (.inr (.inl ⟨_,false,0::([]++[]),_,?_,U8 (R:=rdC s 0) e1 hs (by omega),rfl⟩));focus (exact wI))
 rw[e1,ZA]at h;simp only at h;have be1:=Hv e1;(refine .inr (.inl ⟨_,_,false,0::([]++[]),?_,Jn e1 hs (by omega),Ad,oI,dI,?_⟩);focus (exact wI));refine G1 ?_;intro gg;rcases e2:B9 s a1 with _|⟨t,a2⟩
 ·(refine .inr (.inr (.inl ⟨_,false,0::([]++[]),_,?_,Dm (R:=rdC s 0) e2 hs,rfl⟩));focus (exact wI))
 rw[e2,ZA]at h;simp only at h;have be2:=Bo e2;(refine .inr (.inl ⟨_,_,false,0::([]++[]),?_,Bf e2 hs,Ad,oI,dI,?_⟩);focus (exact wI));(refine goI ?_;repeat (intro gg;refine goI ?_));rcases e3:B9 s a2 with _|⟨one,a3⟩
 ·(refine .inr (.inr (.inl ⟨_,false,0::([]++[]),_,?_,Dm (R:=rdC s 0) e3 hs,rfl⟩));focus (exact wI))
 rw[e3,ZA]at h;simp only at h;have be3:=Bo e3;(refine .inr (.inl ⟨_,_,false,0::([]++[]),?_,Bf e3 hs,Ad,oI,dI,?_⟩);focus (exact wI));refine G1 ?_;intro gg;by_cases c3:one=1
 ·rw[if_pos c3]at h;(refine .inl ⟨_,_,true,[],aI,Bb _ (ZR.2 (by omega)),(fun _=>fI),nI,?_⟩);refine G1 ?_;intro gg;rcases e4:Iv s a3 with _|⟨ls,a4⟩
  ·(refine .inr (.inr (.inl ⟨_,false,0::([]++[]),_,?_,Afs (R:=rdC s 0) e4 hs,rfl⟩));focus (exact wI))
  rw[e4,ZA]at h;simp only at h;have be4:=Rj e4;(refine .inr (.inl ⟨_,_,false,0::([]++[]),?_,S4 e4 hs,Ad,oI,dI,?_⟩);focus (exact wI));refine G1 ?_;intro gg;rcases e5:B9 s a4 with _|⟨n,a5⟩
  ·(refine .inr (.inr (.inl ⟨_,false,0::([]++[]),_,?_,Dm (R:=rdC s 0) e5 hs,rfl⟩));focus (exact wI))
  rw[e5,ZA]at h;simp only at h;have be5:=Bo e5;(refine .inr (.inl ⟨_,_,false,0::([]++[]),?_,Bf e5 hs,Ad,oI,dI,?_⟩);focus (exact wI));refine G1 ?_;intro gg;by_cases c5:a5+n≤s.size
  ·rw[if_pos c5]at h;(refine .inl ⟨_,_,true,[],aI,Bb _ (ZX (by omega)),(fun _=>fI),nI,?_⟩);refine G1 ?_;intro gg;by_cases t1:t=1
   ·subst t1;rw[Al1]at h;rw[show(((1:Nat):Int)==1)=true from rfl];refine G0 ?_;rcases e6:Iv s a5 with _|⟨ad,a6⟩
    ·(refine .inr (.inr (.inl ⟨_,false,0::([]++[]),_,?_,Afs (R:=rdC s 0) e6 hs,rfl⟩));focus (exact wI))
    rw[e6,ZA]at h;simp only at h;have be6:=Rj e6;(refine .inr (.inl ⟨_,_,false,0::([]++[]),?_,S4 e6 hs,Ad,oI,dI,?_⟩);focus (exact wI));refine G1 ?_;intro gg;rw[ZA]at h;simp only at h;by_cases c9:a6=a5+n
    ·rw[if_pos c9]at h;(refine .inl ⟨_,_,true,[],aI,Bb _ (ZR.2 (by omega)),(fun _=>fI),nI,?_⟩);refine G1 ?_;intro gg;cases h
    ·(exact .inr (.inr (.inl ⟨_,true,[],_,aM,B7 _ (ZG.2 (by omega)),rfl⟩)))
   by_cases t2:t=16
   ·subst t2;rw[Ag5]at h;rw[show(((16:Nat):Int)==1)=false from rfl];refine G0 ?_;rw[show(((16:Nat):Int)==16)=true from rfl];refine G0 ?_;rcases e6:Co s a5 with _|⟨k,a6⟩
    ·(refine .inr (.inr (.inl ⟨_,false,0::([]++[]),_,?_,Kf (R:=rdC s 0) e6 hs,rfl⟩));focus (exact wI))
    rw[e6,ZA]at h;simp only at h;have be6:=Cz e6;(refine .inr (.inl ⟨_,_,false,0::([]++[]),?_,Dx e6 hs,Ad,oI,dI,?_⟩);focus (exact wI));refine G1 ?_;intro gg;rcases e7:Fm s a6 k with _|⟨tx,a7⟩
    ·(refine .inr (.inr (.inl ⟨_,false,0::([]++[]),_,?_,Abj (R:=rdC s 0) e7 hs (by omega) (by omega),rfl⟩));focus (exact wI))
    rw[e7,ZA]at h;simp only at h;have be7:=Js e7;(refine .inr (.inl ⟨_,_,false,0::([]++[]),?_,Pb e7 hs (by omega) (by omega),Ad,oI,dI,?_⟩);focus (exact wI));refine G1 ?_;intro gg;rw[ZA]at h;simp only at h;by_cases c9:a7=a5+n
    ·rw[if_pos c9]at h;(refine .inl ⟨_,_,true,[],aI,Bb _ (ZR.2 (by omega)),(fun _=>fI),nI,?_⟩);refine G1 ?_;intro gg;cases h
    ·(exact .inr (.inr (.inl ⟨_,true,[],_,aM,B7 _ (ZG.2 (by omega)),rfl⟩)))
   by_cases t3:t=33
   ·subst t3;rw[Agh]at h;rw[show(((33:Nat):Int)==1)=false from rfl];refine G0 ?_;rw[show(((33:Nat):Int)==16)=false from rfl];refine G0 ?_;rw[show(((33:Nat):Int)==33)=true from rfl];refine G0 ?_;rcases e6:B9 s a5 with _|⟨z,a6⟩
    ·(refine .inr (.inr (.inl ⟨_,false,0::([]++[]),_,?_,Dm (R:=rdC s 0) e6 hs,rfl⟩));focus (exact wI))
    rw[e6,ZA]at h;simp only at h;have be6:=Bo e6;(refine .inr (.inl ⟨_,_,false,0::([]++[]),?_,Bf e6 hs,Ad,oI,dI,?_⟩);focus (exact wI));refine G1 ?_;intro gg;by_cases c6:z=0
    ·rw[if_pos c6]at h;rw[show((z:Int)==0)=true from ZR.2 (by omega)];refine G0 ?_;rcases e7:B9 s a6 with _|⟨y,a7⟩
     ·(refine .inr (.inr (.inl ⟨_,false,0::([]++[]),_,?_,Dm (R:=rdC s 0) e7 hs,rfl⟩));focus (exact wI))
     rw[e7,ZA]at h;simp only at h;have be7:=Bo e7;(refine .inr (.inl ⟨_,_,false,0::([]++[]),?_,Bf e7 hs,Ad,oI,dI,?_⟩);focus (exact wI));refine G1 ?_;intro gg;by_cases c7:y=0
     ·rw[if_pos c7]at h;(refine .inl ⟨_,_,true,[],aI,Bb _ (ZR.2 (by omega)),(fun _=>fI),nI,?_⟩);refine G1 ?_;intro gg;rcases e8:B9 s a7 with _|⟨pt,a8⟩
      ·(refine .inr (.inr (.inl ⟨_,false,0::([]++[]),_,?_,Dm (R:=rdC s 0) e8 hs,rfl⟩));focus (exact wI))
      rw[e8,ZA]at h;simp only at h;have be8:=Bo e8;(refine .inr (.inl ⟨_,_,false,0::([]++[]),?_,Bf e8 hs,Ad,oI,dI,?_⟩);focus (exact wI));refine G1 ?_;intro gg;rcases e9:H4 s a8 with _|⟨tg,a9⟩
      ·(refine .inr (.inr (.inl ⟨_,false,0::([]++[]),_,?_,U8 (R:=rdC s 0) e9 hs (by omega),rfl⟩));focus (exact wI))
      rw[e9,ZA]at h;simp only at h;have be9:=Hv e9;(refine .inr (.inl ⟨_,_,false,0::([]++[]),?_,Jn e9 hs (by omega),Ad,oI,dI,?_⟩);focus (exact wI));refine G1 ?_;intro gg;rw[ZA]at h;simp only at h;by_cases c9:a9=a5+n
      ·rw[if_pos c9]at h;(refine .inl ⟨_,_,true,[],aI,Bb _ (ZR.2 (by omega)),(fun _=>fI),nI,?_⟩);refine G1 ?_;intro gg;cases h
      ·(exact .inr (.inr (.inl ⟨_,true,[],_,aM,B7 _ (ZG.2 (by omega)),rfl⟩)))
     ·(exact .inr (.inr (.inl ⟨_,true,[],_,aM,B7 _ (ZG.2 (by omega)),rfl⟩)))
    ·rw[show((z:Int)==0)=false from ZG.2 (by omega)];refine G0 ?_;(exact .inr (.inr (.inl ⟨_,true,[],_,aM,B7 _ rfl,rfl⟩)))
   rw[show((t:Int)==1)=false from ZG.2 (by omega)];refine G0 ?_;rw[show((t:Int)==16)=false from ZG.2 (by omega)];refine G0 ?_;rw[show((t:Int)==33)=false from ZG.2 (by omega)];refine G0 ?_;(exact .inr (.inr (.inl ⟨_,true,[],_,aM,B7 _ rfl,rfl⟩)))
  ·(exact .inr (.inr (.inl ⟨_,true,[],_,aM,B7 _ (ZY (by omega)),rfl⟩)))
 ·(exact .inr (.inr (.inl ⟨_,true,[],_,aM,B7 _ (ZG.2 (by omega)),rfl⟩)))
theorem Wz{s:ByteArray}{a a':Nat}{v:Rr}(h:Ss s a=some (v,a')):a'≤s.size∧v.nm.size≤1000∧v.tx.size≤s.size∧v.tg.size≤1000:=by
 unfold Ss at h;rcases e1:H4 s a with _|⟨nm,a1⟩
 ·rw[e1]at h;cases h
 rw[e1,ZA]at h;simp only at h;rcases e2:B9 s a1 with _|⟨t,a2⟩
 ·rw[e2]at h;cases h
 rw[e2,ZA]at h;simp only at h;rcases e3:B9 s a2 with _|⟨one,a3⟩
 ·rw[e3]at h;cases h
 rw[e3,ZA]at h;simp only at h;split at h
 ·rcases e4:Iv s a3 with _|⟨ls,a4⟩
  ·rw[e4]at h;cases h
  rw[e4,ZA]at h;simp only at h;rcases e5:B9 s a4 with _|⟨n,a5⟩
  ·rw[e5]at h;cases h
  rw[e5,ZA]at h;simp only at h;split at h
  ·rename_i c5;rcases e6:Ki s t a5 with _|⟨⟨ad,tx,pt,tg⟩,a6⟩
   ·rw[e6]at h;cases h
   rw[e6,ZA]at h;simp only at h;split at h
   ·rename_i c6;cases h;have b1:=(Hv e1).2;have key:tx.size≤s.size∧tg.size≤1000:=by
     unfold Ki at e6;split at e6
     ·rcases f1:Iv s a5 with _|⟨x1,y1⟩<;>rw[f1]at e6<;>cases e6;exact⟨ZU _,ZU _⟩
     ·split at e6
      ·rcases f1:Co s a5 with _|⟨x1,y1⟩
       ·rw[f1]at e6;cases e6
       rw[f1,ZA]at e6;simp only at e6;rcases f2:Fm s y1 x1 with _|⟨x2,y2⟩<;>rw[f2]at e6<;>cases e6
       have:=Js f2;exact⟨show x2.size≤s.size by omega,ZU _⟩
      ·split at e6
       ·rcases f1:B9 s a5 with _|⟨x1,y1⟩
        ·rw[f1]at e6;cases e6
        rw[f1,ZA]at e6;simp only at e6;split at e6
        ·rcases f2:B9 s y1 with _|⟨x2,y2⟩
         ·rw[f2]at e6;cases e6
         rw[f2,ZA]at e6;simp only at e6;split at e6
         ·rcases f3:B9 s y2 with _|⟨x3,y3⟩
          ·rw[f3]at e6;cases e6
          rw[f3,ZA]at e6;simp only at e6;rcases f4:H4 s y3 with _|⟨x4,y4⟩<;>rw[f4]at e6<;>cases e6
          exact⟨ZU _,(Hv f4).2⟩
         ·cases e6
        ·cases e6
       ·cases e6
    exact⟨by omega,b1,key.1,key.2⟩
   ·cases h
  ·cases h
 ·cases h
def Ash(id:Int)(an ct:Bool)(co:Int)(qn:ByteArray)(qt:Int)(v:V):List V:=[.v (.int .i64 id),.v (.bool an),.v (.bool ct),.v (.int .i64 co),.v (.string qn),.v (.int .i64 qt),v]
def Azv(s:ByteArray)(gz gb:Nat)(id:Int)(an ct:Bool)(co:Int)(qn:ByteArray)(qt:Int)(a:Nat)(L:List Rr)(g:Nat):List (Nat×Ent):=
 match L with
 |[]=>[(32,⟨gz,.b 38,7,[Ash 0 false false 0 ⟨#[]⟩ 0 (.v (.slice none 0 0))]⟩),(48,⟨gb,.b 38,7,[Ash id an ct co qn qt (.v (.slice none 0 0))]⟩),(0,⟨0,.b rdT,2,[[.v (.string s),.v (.int .i64 (a:Int))]]⟩)]
 |r::L=>[(32,⟨gz,.b 38,7,[Ash 0 false false 0 ⟨#[]⟩ 0 (.v (.slice none 0 0))]⟩),(48,⟨gb,.b 38,7,[Ash id an ct co qn qt (.own 1168 g)]⟩),(1168,⟨g,.t 51,7,(r::L).map Rr.row⟩),(0,⟨0,.b rdT,2,[[.v (.string s),.v (.int .i64 (a:Int))]]⟩)]
theorem Akt(env:Env)(lv:List (Nat×V)):hdE env [] lv=hdE (fun _=>.any) [] lv:=rfl
theorem Alo(H:Hp)(ho:List (Nat×Ent)):hdH H [] ho=hdH noH [] ho:=rfl
theorem Ac2(env env':Env):Vo env env' []=True:=rfl
theorem Ac0(H H':Hp):Vb H H' []=True:=rfl
structure RcI(s:ByteArray)(n:Nat)(R:Option (List Rr×Nat))(k a:Nat)(L:List Rr):Prop where
 hr:(H3 s (n-k) a).map (fun p=>(L++p.1,p.2))=R
 hk:k≤n
 hl:L.length=k
 ha:a≤s.size
 hz:∀r∈L,r.nm.size≤1000∧r.tx.size≤s.size∧r.tg.size≤1000
theorem Aup{a:Nat}(h:a<256):(IntKind.i64.wrap ((BitVec.ofInt IntKind.i64.bits (a:Int)&&& ~~~ BitVec.ofInt IntKind.i64.bits 130).toNat)==0)=Ao2 a:=by
 have key:∀k:Fin 256,(IntKind.i64.wrap ((BitVec.ofInt IntKind.i64.bits (k.val:Int)&&& ~~~ BitVec.ofInt IntKind.i64.bits 130).toNat)==0)=Ao2 k.val:=by decide+kernel
 exact key ⟨a,h⟩
theorem Av1{a:Nat}(h:a<256):decide (0<IntKind.i64.wrap ((BitVec.ofInt IntKind.i64.bits (a:Int)&&&BitVec.ofInt IntKind.i64.bits 128).toNat))=decide (128≤a):=by
 have key:∀k:Fin 256,decide (0<IntKind.i64.wrap ((BitVec.ofInt IntKind.i64.bits (k.val:Int)&&&BitVec.ofInt IntKind.i64.bits 128).toNat))=decide (128≤k.val):=by decide+kernel
 exact key ⟨a,h⟩
theorem Av6{a:Nat}(h:a<256):decide (0<IntKind.i64.wrap ((BitVec.ofInt IntKind.i64.bits (a:Int)&&&BitVec.ofInt IntKind.i64.bits 2).toNat))=decide (a%4≥2):=by
 have key:∀k:Fin 256,decide (0<IntKind.i64.wrap ((BitVec.ofInt IntKind.i64.bits (k.val:Int)&&&BitVec.ofInt IntKind.i64.bits 2).toNat))=decide (k.val%4≥2):=by decide+kernel
 exact key ⟨a,h⟩
theorem RcI.start{s:ByteArray}{n a:Nat}(ha:a≤s.size):RcI s n (H3 s n a) 0 a []:=⟨by simp,by omega,rfl,ha,by simp⟩
theorem RcI.next{s:ByteArray}{n k a a2:Nat}{R:Option (List Rr×Nat)}{L:List Rr}{r:Rr}(h:RcI s n R k a L)(hk:k<n)(e:Ss s a=some (r,a2)):RcI s n R (k+1) a2 (L++[r]):=by
 have hb:=Wz e;refine⟨?_,by omega,by simp[h.hl],hb.1,fun x hx=>?_⟩
 ·rw[←h.hr,show n-k=(n-(k+1))+1 by omega];rw[H3,e,ZA];simp only;cases H3 s (n-(k+1)) a2 with
  |none=>rfl
  |some p=>simp
 ·rcases XM.1 hx with hx|hx
  ·exact h.hz x hx
  ·simp at hx;subst hx;exact⟨hb.2.1,hb.2.2.1,hb.2.2.2⟩
theorem RcI.none{s:ByteArray}{n k a:Nat}{R:Option (List Rr×Nat)}{L:List Rr}(h:RcI s n R k a L)(hk:k<n)(e:Ss s a=none):R=none:=by
 rw[←h.hr,show n-k=(n-(k+1))+1 by omega,H3,e];rfl
theorem RcI.end_{s:ByteArray}{n k a:Nat}{R:Option (List Rr×Nat)}{L:List Rr}(h:RcI s n R k a L)(hk:¬k<n):R=some (L,a):=by
 have:=h.hk;rw[←h.hr,show n-k=0 by omega,H3];simp
set_option maxHeartbeats 4000000 in
theorem Adb{s:ByteArray}{v:Ms}(h:Re s=some v)(hs:s.size≤1000000):Hz Tryz.prog 51 [.mn rdT (rdC s 0) (rdC s s.size)] [.p (.c (.agg v.row))]:=by
 unfold Re at h;refine Ako H6 rfl (Ko rfl) ?_;refine G1 ?_;intro gg;revert gg;intro gz;rcases e1:B9 s 0 with _|⟨i,a1⟩
 ·rw[e1]at h;cases h
 rw[e1,ZA]at h;simp only at h;have be1:=Bo e1;(refine .inr (.inl ⟨_,_,false,0::([]++[]),?_,Bf e1 hs,Ad,oI,dI,?_⟩);focus (exact wI));(refine goI ?_;repeat (intro gg;refine goI ?_));revert gg;intro gb;rcases e2:Co s a1 with _|⟨fl,a2⟩
 ·rw[e2]at h;cases h
 rw[e2,ZA]at h;simp only at h;have be2:=Cz e2;(refine .inr (.inl ⟨_,_,false,0::([]++[]),?_,Dx e2 hs,Ad,oI,dI,?_⟩);focus (exact wI));refine G1 ?_;intro gg;rcases e3:Co s a2 with _|⟨co,a3⟩
 ·rw[e3]at h;cases h
 rw[e3,ZA]at h;simp only at h;have be3:=Cz e3;(refine .inr (.inl ⟨_,_,false,0::([]++[]),?_,Dx e3 hs,Ad,oI,dI,?_⟩);focus (exact wI));refine G1 ?_;intro gg;refine⟨_,rfl,?_⟩;refine G0 ?_;rw[Aup be2.1];by_cases q1:Ao2 fl=true;rotate_left
 ·rw[if_neg (by simp[q1])]at h;cases h
 rw[q1]at h ⊢;refine G0 ?_;by_cases q2:co<16;rotate_left
 ·rw[if_neg (by simp[q2])]at h;cases h
 rw[if_pos (by simp[q2])]at h;(refine .inl ⟨_,_,true,[],aI,Bb _ (ZX (by omega)),(fun _=>fI),nI,?_⟩);refine G1 ?_;intro gg;refine⟨_,rfl,?_⟩;refine G0 ?_;refine⟨_,rfl,?_⟩;refine G0 ?_;rw[Av1 be2.1,Av6 be2.1];obtain⟨an,han⟩:∃x,x=decide (128≤fl):=⟨_,rfl⟩;obtain⟨ct,hct⟩:∃x,x=decide (fl%4≥2):=⟨_,rfl⟩;rw[←han,←hct]at h ⊢;rcases e4:B9 s a3 with _|⟨one,a4⟩
 ·rw[e4]at h;cases h
 rw[e4,ZA]at h;simp only at h;have be4:=Bo e4;(refine .inr (.inl ⟨_,_,false,0::([]++[]),?_,Bf e4 hs,Ad,oI,dI,?_⟩);focus (exact wI));refine G1 ?_;intro gg;by_cases c4:one=1;rotate_left
 ·rw[if_neg c4]at h;cases h
 rw[if_pos c4]at h;(refine .inl ⟨_,_,true,[],aI,Bb _ (ZR.2 (by omega)),(fun _=>fI),nI,?_⟩);refine G1 ?_;intro gg;rcases e5:B9 s a4 with _|⟨n,a5⟩
 ·rw[e5]at h;cases h
 rw[e5,ZA]at h;simp only at h;have be5:=Bo e5;(refine .inr (.inl ⟨_,_,false,0::([]++[]),?_,Bf e5 hs,Ad,oI,dI,?_⟩);focus (exact wI));refine G1 ?_;intro gg;by_cases c5:n≤20;rotate_left
 ·rw[if_neg c5]at h;cases h
 rw[if_pos c5]at h;rw[show(decide ((n:Int)≤20))=true from ZX (by omega)];refine G0 ?_;rcases e6:B9 s a5 with _|⟨z,a6⟩
 ·rw[e6]at h;cases h
 rw[e6,ZA]at h;simp only at h;have be6:=Bo e6;(refine .inr (.inl ⟨_,_,false,0::([]++[]),?_,Bf e6 hs,Ad,oI,dI,?_⟩);focus (exact wI));refine G1 ?_;intro gg;by_cases c6:z=0;rotate_left
 ·rw[if_neg c6]at h;cases h
 rw[if_pos c6]at h;rw[show((z:Int)==0)=true from ZR.2 (by omega)];refine G0 ?_;rcases e7:B9 s a6 with _|⟨y,a7⟩
 ·rw[e7]at h;cases h
 rw[e7,ZA]at h;simp only at h;have be7:=Bo e7;(refine .inr (.inl ⟨_,_,false,0::([]++[]),?_,Bf e7 hs,Ad,oI,dI,?_⟩);focus (exact wI));refine G1 ?_;intro gg;by_cases c7:y=0;rotate_left
 ·rw[if_neg c7]at h;cases h
 rw[if_pos c7]at h;(refine .inl ⟨_,_,true,[],aI,Bb _ (ZR.2 (by omega)),(fun _=>fI),nI,?_⟩);refine G1 ?_;intro gg;rcases e8:H4 s a7 with _|⟨qn,a8⟩
 ·rw[e8]at h;cases h
 rw[e8,ZA]at h;simp only at h;have be8:=Hv e8;(refine .inr (.inl ⟨_,_,false,0::([]++[]),?_,Jn e8 hs (by omega),Ad,oI,dI,?_⟩);focus (exact wI));refine G1 ?_;intro gg;rcases e9:B9 s a8 with _|⟨qt,a9⟩
 ·rw[e9]at h;cases h
 rw[e9,ZA]at h;simp only at h;have be9:=Bo e9;(refine .inr (.inl ⟨_,_,false,0::([]++[]),?_,Bf e9 hs,Ad,oI,dI,?_⟩);focus (exact wI));refine G1 ?_;intro gg;rcases e10:B9 s a9 with _|⟨d,a10⟩
 ·rw[e10]at h;cases h
 rw[e10,ZA]at h;simp only at h;have be10:=Bo e10;(refine .inr (.inl ⟨_,_,false,0::([]++[]),?_,Bf e10 hs,Ad,oI,dI,?_⟩);focus (exact wI));refine G1 ?_;intro gg;by_cases c10:d=1;rotate_left
 ·rw[if_neg c10]at h;cases h
 rw[if_pos c10]at h;(refine .inl ⟨_,_,true,[],aI,Bb _ (ZR.2 (by omega)),(fun _=>fI),nI,?_⟩);refine G1 ?_;intro gg;have hT:=be10.2.2;clear e1 e2 e3 e4 e5 e6 e7 e8 e9 e10 be1 be2 be3 be4 be6 be7 be9 be10;(refine⟨[],none,{p:Nat×Nat×List Rr×Nat//RcI s n (H3 s n a10) p.1 p.2.1 p.2.2.1},[],fun⟨⟨k,a,L,g⟩,hp⟩=>[(0,.ptr 0 0 0 0),(2,.ptr 32 gz 0 0),(3,.ptr 48 gb 0 0),(65,.v (.int .i64 (n:Int))),(66,.v (.int .i64 (k:Int)))],[],fun⟨⟨k,a,L,g⟩,hp⟩=>Azv s gz gb i an ct co qn qt a L g,fun⟨⟨k,a,L,g⟩,hp⟩=>n-k,trivial,fun _=>⟨trivial,fun _=>⟨⟨(0,a10,[],0),RcI.start hT⟩,tI,A2 _ _,tI,A3 _ _⟩⟩,fun⟨⟨k,a,L,g⟩,hp⟩=>?_⟩);simp only at hp;simp only[Akt,Alo,Ac2,Ac0];have hk:=hp.hk;have hl:=hp.hl;by_cases c11:k<n
 ·rcases e:Ss s a with _|⟨r,a2⟩
  ·have hn:=hp.none c11 e;rw[hn]at h;cases h
  ·have hnx:=RcI.next hp c11 e;have b:=Wz e;have hr7:(([r].map Rr.row):List (List V))=[r.row]:=rfl;have hn20:L.length≤20:=by omega
   rcases L with _|⟨r0,L⟩
   ·refine G0 ?_;(refine Gj ?_ ?_;focus (exact ZX (by omega)));refine G0 ?_;refine⟨?_,?_⟩
    ·refine G0 ?_;refine⟨?_,?_⟩
     ·refine G0 ?_;(refine .inr (.inl ⟨_,_,false,0::([]++[]),?_,A6 e hs hp.ha,Ad,oI,dI,?_⟩);focus (exact wI));(refine goI ?_;repeat (intro gg;refine goI ?_));refine⟨lI,lI,?_⟩;refine G1 ?_;intro gg;(exact⟨none,trivial,fun gr=>⟨⟨(k+1,a2,[r],gg),hnx⟩,by show n-(k+1)<n-k;omega,tI,tI,⟨rfl,⟨rfl,⟨rfl,⟨rfl,trivial⟩⟩⟩⟩,tI⟩⟩)
     ·refine G0 ?_;refine⟨?_,?_⟩
      ·refine G0 ?_;(refine .inr (.inl ⟨_,_,false,0::([]++[]),?_,A6 e hs hp.ha,Ad,oI,dI,?_⟩);focus (exact wI));(refine goI ?_;repeat (intro gg;refine goI ?_));refine⟨lI,lI,?_⟩;refine G1 ?_;intro gg;(exact⟨none,trivial,fun gr=>⟨⟨(k+1,a2,[r],gg),hnx⟩,by show n-(k+1)<n-k;omega,tI,tI,⟨rfl,⟨rfl,⟨rfl,⟨rfl,trivial⟩⟩⟩⟩,tI⟩⟩)
      ·refine G0 ?_;(refine .inr (.inl ⟨_,_,false,0::([]++[]),?_,A6 e hs hp.ha,Ad,oI,dI,?_⟩);focus (exact wI));refine G1 ?_;intro gg;refine⟨?_,?_⟩
       ·refine G1 ?_;intro gg;refine⟨lI,lI,?_⟩;refine G1 ?_;intro gg;(exact⟨none,trivial,fun gr=>⟨⟨(k+1,a2,[r],gg),hnx⟩,by show n-(k+1)<n-k;omega,tI,tI,⟨rfl,⟨rfl,⟨rfl,⟨rfl,trivial⟩⟩⟩⟩,tI⟩⟩)
       ·refine G1 ?_;intro gg;refine⟨lI,lI,?_⟩;refine G1 ?_;intro gg;(exact⟨none,trivial,fun gr=>⟨⟨(k+1,a2,[r],gg),hnx⟩,by show n-(k+1)<n-k;omega,tI,tI,⟨rfl,⟨rfl,⟨rfl,⟨rfl,trivial⟩⟩⟩⟩,tI⟩⟩)
    ·refine G0 ?_;refine⟨?_,?_⟩
     ·refine G0 ?_;refine⟨?_,?_⟩
      ·refine G0 ?_;(refine .inr (.inl ⟨_,_,false,0::([]++[]),?_,A6 e hs hp.ha,Ad,oI,dI,?_⟩);focus (exact wI));(refine goI ?_;repeat (intro gg;refine goI ?_));refine⟨lI,lI,?_⟩;refine G1 ?_;intro gg;(exact⟨none,trivial,fun gr=>⟨⟨(k+1,a2,[r],gg),hnx⟩,by show n-(k+1)<n-k;omega,tI,tI,⟨rfl,⟨rfl,⟨rfl,⟨rfl,trivial⟩⟩⟩⟩,tI⟩⟩)
      ·refine G0 ?_;(refine .inr (.inl ⟨_,_,false,0::([]++[]),?_,A6 e hs hp.ha,Ad,oI,dI,?_⟩);focus (exact wI));refine G1 ?_;intro gg;refine⟨?_,?_⟩
       ·refine G1 ?_;intro gg;refine⟨lI,lI,?_⟩;refine G1 ?_;intro gg;(exact⟨none,trivial,fun gr=>⟨⟨(k+1,a2,[r],gg),hnx⟩,by show n-(k+1)<n-k;omega,tI,tI,⟨rfl,⟨rfl,⟨rfl,⟨rfl,trivial⟩⟩⟩⟩,tI⟩⟩)
       ·refine G1 ?_;intro gg;refine⟨lI,lI,?_⟩;refine G1 ?_;intro gg;(exact⟨none,trivial,fun gr=>⟨⟨(k+1,a2,[r],gg),hnx⟩,by show n-(k+1)<n-k;omega,tI,tI,⟨rfl,⟨rfl,⟨rfl,⟨rfl,trivial⟩⟩⟩⟩,tI⟩⟩)
     ·refine G0 ?_;(refine .inr (.inl ⟨_,_,false,0::([]++[]),?_,A6 e hs hp.ha,Ad,oI,dI,?_⟩);focus (exact wI));refine G1 ?_;intro gg;refine⟨?_,?_⟩
      ·refine G0 ?_;refine⟨?_,?_⟩
       ·refine G1 ?_;intro gg;refine⟨lI,lI,?_⟩;refine G1 ?_;intro gg;(exact⟨none,trivial,fun gr=>⟨⟨(k+1,a2,[r],gg),hnx⟩,by show n-(k+1)<n-k;omega,tI,tI,⟨rfl,⟨rfl,⟨rfl,⟨rfl,trivial⟩⟩⟩⟩,tI⟩⟩)
       ·refine G1 ?_;intro gg;refine⟨lI,lI,?_⟩;refine G1 ?_;intro gg;(exact⟨none,trivial,fun gr=>⟨⟨(k+1,a2,[r],gg),hnx⟩,by show n-(k+1)<n-k;omega,tI,tI,⟨rfl,⟨rfl,⟨rfl,⟨rfl,trivial⟩⟩⟩⟩,tI⟩⟩)
      ·refine G1 ?_;intro gg;refine⟨lI,lI,?_⟩;refine G1 ?_;intro gg;(exact⟨none,trivial,fun gr=>⟨⟨(k+1,a2,[r],gg),hnx⟩,by show n-(k+1)<n-k;omega,tI,tI,⟨rfl,⟨rfl,⟨rfl,⟨rfl,trivial⟩⟩⟩⟩,tI⟩⟩)
   ·have hn21:L.length≤20:=by simp only[ZJ]at hn20;omega
    refine G0 ?_;(refine Gj ?_ ?_;focus (exact ZX (by omega)));refine G0 ?_;refine⟨?_,?_⟩
    ·refine G0 ?_;refine⟨?_,?_⟩
     ·refine G0 ?_;(refine .inr (.inl ⟨_,_,false,0::([]++[]),?_,A6 e hs hp.ha,Ad,oI,dI,?_⟩);focus (exact wI));(refine goI ?_;repeat (intro gg;refine goI ?_));refine⟨lI,lI,?_⟩;refine G1 ?_;intro gg;(exact⟨none,trivial,fun gr=>⟨⟨(k+1,a2,(r0::L)++[r],gg),hnx⟩,by show n-(k+1)<n-k;omega,tI,tI,⟨rfl,⟨rfl,⟨congrArg (fun x=>some (Ent.mk gg (.t 51) 7 x)) (show(r0::L).map Rr.row++[r.row]=((r0::L)++[r]).map Rr.row by rw[ZI];rfl),⟨rfl,trivial⟩⟩⟩⟩,tI⟩⟩)
     ·refine G0 ?_;refine⟨?_,?_⟩
      ·refine G0 ?_;(refine .inr (.inl ⟨_,_,false,0::([]++[]),?_,A6 e hs hp.ha,Ad,oI,dI,?_⟩);focus (exact wI));(refine goI ?_;repeat (intro gg;refine goI ?_));refine⟨lI,lI,?_⟩;refine G1 ?_;intro gg;(exact⟨none,trivial,fun gr=>⟨⟨(k+1,a2,(r0::L)++[r],gg),hnx⟩,by show n-(k+1)<n-k;omega,tI,tI,⟨rfl,⟨rfl,⟨congrArg (fun x=>some (Ent.mk gg (.t 51) 7 x)) (show(r0::L).map Rr.row++[r.row]=((r0::L)++[r]).map Rr.row by rw[ZI];rfl),⟨rfl,trivial⟩⟩⟩⟩,tI⟩⟩)
      ·refine G0 ?_;(refine .inr (.inl ⟨_,_,false,0::([]++[]),?_,A6 e hs hp.ha,Ad,oI,dI,?_⟩);focus (exact wI));refine G1 ?_;intro gg;refine⟨?_,?_⟩
       ·refine G1 ?_;intro gg;refine⟨lI,lI,?_⟩;refine G1 ?_;intro gg;(exact⟨none,trivial,fun gr=>⟨⟨(k+1,a2,(r0::L)++[r],gg),hnx⟩,by show n-(k+1)<n-k;omega,tI,tI,⟨rfl,⟨rfl,⟨congrArg (fun x=>some (Ent.mk gg (.t 51) 7 x)) (show(r0::L).map Rr.row++[r.row]=((r0::L)++[r]).map Rr.row by rw[ZI];rfl),⟨rfl,trivial⟩⟩⟩⟩,tI⟩⟩)
       ·refine G1 ?_;intro gg;refine⟨lI,lI,?_⟩;refine G1 ?_;intro gg;(exact⟨none,trivial,fun gr=>⟨⟨(k+1,a2,(r0::L)++[r],gg),hnx⟩,by show n-(k+1)<n-k;omega,tI,tI,⟨rfl,⟨rfl,⟨congrArg (fun x=>some (Ent.mk gg (.t 51) 7 x)) (show(r0::L).map Rr.row++[r.row]=((r0::L)++[r]).map Rr.row by rw[ZI];rfl),⟨rfl,trivial⟩⟩⟩⟩,tI⟩⟩)
    ·refine G0 ?_;refine⟨?_,?_⟩
     ·refine G0 ?_;refine⟨?_,?_⟩
      ·refine G0 ?_;(refine .inr (.inl ⟨_,_,false,0::([]++[]),?_,A6 e hs hp.ha,Ad,oI,dI,?_⟩);focus (exact wI));(refine goI ?_;repeat (intro gg;refine goI ?_));refine⟨lI,lI,?_⟩;refine G1 ?_;intro gg;(exact⟨none,trivial,fun gr=>⟨⟨(k+1,a2,(r0::L)++[r],gg),hnx⟩,by show n-(k+1)<n-k;omega,tI,tI,⟨rfl,⟨rfl,⟨congrArg (fun x=>some (Ent.mk gg (.t 51) 7 x)) (show(r0::L).map Rr.row++[r.row]=((r0::L)++[r]).map Rr.row by rw[ZI];rfl),⟨rfl,trivial⟩⟩⟩⟩,tI⟩⟩)
      ·refine G0 ?_;(refine .inr (.inl ⟨_,_,false,0::([]++[]),?_,A6 e hs hp.ha,Ad,oI,dI,?_⟩);focus (exact wI));refine G1 ?_;intro gg;refine⟨?_,?_⟩
       ·refine G1 ?_;intro gg;refine⟨lI,lI,?_⟩;refine G1 ?_;intro gg;(exact⟨none,trivial,fun gr=>⟨⟨(k+1,a2,(r0::L)++[r],gg),hnx⟩,by show n-(k+1)<n-k;omega,tI,tI,⟨rfl,⟨rfl,⟨congrArg (fun x=>some (Ent.mk gg (.t 51) 7 x)) (show(r0::L).map Rr.row++[r.row]=((r0::L)++[r]).map Rr.row by rw[ZI];rfl),⟨rfl,trivial⟩⟩⟩⟩,tI⟩⟩)
       ·refine G1 ?_;intro gg;refine⟨lI,lI,?_⟩;refine G1 ?_;intro gg;(exact⟨none,trivial,fun gr=>⟨⟨(k+1,a2,(r0::L)++[r],gg),hnx⟩,by show n-(k+1)<n-k;omega,tI,tI,⟨rfl,⟨rfl,⟨congrArg (fun x=>some (Ent.mk gg (.t 51) 7 x)) (show(r0::L).map Rr.row++[r.row]=((r0::L)++[r]).map Rr.row by rw[ZI];rfl),⟨rfl,trivial⟩⟩⟩⟩,tI⟩⟩)
     ·refine G0 ?_;(refine .inr (.inl ⟨_,_,false,0::([]++[]),?_,A6 e hs hp.ha,Ad,oI,dI,?_⟩);focus (exact wI));refine G1 ?_;intro gg;refine⟨?_,?_⟩
      ·refine G0 ?_;refine⟨?_,?_⟩
       ·refine G1 ?_;intro gg;refine⟨lI,lI,?_⟩;refine G1 ?_;intro gg;(exact⟨none,trivial,fun gr=>⟨⟨(k+1,a2,(r0::L)++[r],gg),hnx⟩,by show n-(k+1)<n-k;omega,tI,tI,⟨rfl,⟨rfl,⟨congrArg (fun x=>some (Ent.mk gg (.t 51) 7 x)) (show(r0::L).map Rr.row++[r.row]=((r0::L)++[r]).map Rr.row by rw[ZI];rfl),⟨rfl,trivial⟩⟩⟩⟩,tI⟩⟩)
       ·refine G1 ?_;intro gg;refine⟨lI,lI,?_⟩;refine G1 ?_;intro gg;(exact⟨none,trivial,fun gr=>⟨⟨(k+1,a2,(r0::L)++[r],gg),hnx⟩,by show n-(k+1)<n-k;omega,tI,tI,⟨rfl,⟨rfl,⟨congrArg (fun x=>some (Ent.mk gg (.t 51) 7 x)) (show(r0::L).map Rr.row++[r.row]=((r0::L)++[r]).map Rr.row by rw[ZI];rfl),⟨rfl,trivial⟩⟩⟩⟩,tI⟩⟩)
      ·refine G1 ?_;intro gg;refine⟨lI,lI,?_⟩;refine G1 ?_;intro gg;(exact⟨none,trivial,fun gr=>⟨⟨(k+1,a2,(r0::L)++[r],gg),hnx⟩,by show n-(k+1)<n-k;omega,tI,tI,⟨rfl,⟨rfl,⟨congrArg (fun x=>some (Ent.mk gg (.t 51) 7 x)) (show(r0::L).map Rr.row++[r.row]=((r0::L)++[r]).map Rr.row by rw[ZI];rfl),⟨rfl,trivial⟩⟩⟩⟩,tI⟩⟩)
 ·have he:=hp.end_ c11;rw[he,ZA]at h;simp only at h;rcases L with _|⟨r0,L⟩
  ·refine G0 ?_;(refine Fs ?_ ?_;focus (exact ZY (by omega)));refine G0 ?_;by_cases c12:a=s.size
   ·rw[if_pos c12]at h;cases h;subst c12;refine .inl (cY (Bb _ (beq_self_eq_true _)) ?_);refine G1 ?_;intro gg;(exact⟨_,0::([]++[]),.cell1 rfl rfl rfl rfl rfl rfl .nil,Acx cBI (N8 (gone:=[]) (gone1:=[]) rfl aI (by decide) (by decide) (by decide) (.nil _))⟩)
   ·rw[if_neg c12]at h;cases h
  ·refine G0 ?_;(refine Fs ?_ ?_;focus (exact ZY (by omega)));refine G0 ?_;by_cases c12:a=s.size
   ·rw[if_pos c12]at h;cases h;subst c12;refine .inl (cY (Bb _ (beq_self_eq_true _)) ?_);refine G1 ?_;intro gg;(exact⟨_,0::([]++[]),.cell1 rfl rfl rfl rfl rfl rfl .nil,Acx cBI (N8 (gone:=[]) (gone1:=[]) rfl aI (by decide) (by decide) (by decide) (.nil _))⟩)
   ·rw[if_neg c12]at h;cases h
set_option maxHeartbeats 4000000 in
theorem Acw{s:ByteArray}{R:List Par}(h:Re s=none)(hs:s.size≤1000000):Gz Tryz.prog 51 [.mn rdT (rdC s 0) R] Gu:=by
 unfold Re at h;refine Abd H6 rfl (Ko rfl) ?_;refine G1 ?_;intro gg;revert gg;intro gz;rcases e1:B9 s 0 with _|⟨i,a1⟩
 ·(refine .inr (.inr (.inl ⟨_,false,0::([]++[]),_,?_,Dm (R:=rdC s 0) e1 hs,rfl⟩));focus (exact wI))
 rw[e1,ZA]at h;simp only at h;have be1:=Bo e1;(refine .inr (.inl ⟨_,_,false,0::([]++[]),?_,Bf e1 hs,Ad,oI,dI,?_⟩);focus (exact wI));(refine goI ?_;repeat (intro gg;refine goI ?_));revert gg;intro gb;rcases e2:Co s a1 with _|⟨fl,a2⟩
 ·(refine .inr (.inr (.inl ⟨_,false,0::([]++[]),_,?_,Kf (R:=rdC s 0) e2 hs,rfl⟩));focus (exact wI))
 rw[e2,ZA]at h;simp only at h;have be2:=Cz e2;(refine .inr (.inl ⟨_,_,false,0::([]++[]),?_,Dx e2 hs,Ad,oI,dI,?_⟩);focus (exact wI));refine G1 ?_;intro gg;rcases e3:Co s a2 with _|⟨co,a3⟩
 ·(refine .inr (.inr (.inl ⟨_,false,0::([]++[]),_,?_,Kf (R:=rdC s 0) e3 hs,rfl⟩));focus (exact wI))
 rw[e3,ZA]at h;simp only at h;have be3:=Cz e3;(refine .inr (.inl ⟨_,_,false,0::([]++[]),?_,Dx e3 hs,Ad,oI,dI,?_⟩);focus (exact wI));refine G1 ?_;intro gg;refine⟨_,rfl,?_⟩;refine G0 ?_;rw[Aup be2.1];by_cases q1:Ao2 fl=true;rotate_left
 ·rw[XE.2 q1];refine G0 ?_;(exact .inr (.inr (.inl ⟨_,true,[],_,aM,B7 _ rfl,rfl⟩)))
 rw[q1]at h ⊢;refine G0 ?_;by_cases q2:co<16;rotate_left
 ·(exact .inr (.inr (.inl ⟨_,true,[],_,aM,B7 _ (ZY (by omega)),rfl⟩)))
 rw[if_pos (by simp[q2])]at h;(refine .inl ⟨_,_,true,[],aI,Bb _ (ZX (by omega)),(fun _=>fI),nI,?_⟩);refine G1 ?_;intro gg;refine⟨_,rfl,?_⟩;refine G0 ?_;refine⟨_,rfl,?_⟩;refine G0 ?_;rw[Av1 be2.1,Av6 be2.1];obtain⟨an,han⟩:∃x,x=decide (128≤fl):=⟨_,rfl⟩;obtain⟨ct,hct⟩:∃x,x=decide (fl%4≥2):=⟨_,rfl⟩;rw[←han,←hct]at h ⊢;rcases e4:B9 s a3 with _|⟨one,a4⟩
 ·(refine .inr (.inr (.inl ⟨_,false,0::([]++[]),_,?_,Dm (R:=rdC s 0) e4 hs,rfl⟩));focus (exact wI))
 rw[e4,ZA]at h;simp only at h;have be4:=Bo e4;(refine .inr (.inl ⟨_,_,false,0::([]++[]),?_,Bf e4 hs,Ad,oI,dI,?_⟩);focus (exact wI));refine G1 ?_;intro gg;by_cases c4:one=1;rotate_left
 ·(exact .inr (.inr (.inl ⟨_,true,[],_,aM,B7 _ (ZG.2 (by omega)),rfl⟩)))
 rw[if_pos c4]at h;(refine .inl ⟨_,_,true,[],aI,Bb _ (ZR.2 (by omega)),(fun _=>fI),nI,?_⟩);refine G1 ?_;intro gg;rcases e5:B9 s a4 with _|⟨n,a5⟩
 ·(refine .inr (.inr (.inl ⟨_,false,0::([]++[]),_,?_,Dm (R:=rdC s 0) e5 hs,rfl⟩));focus (exact wI))
 rw[e5,ZA]at h;simp only at h;have be5:=Bo e5;(refine .inr (.inl ⟨_,_,false,0::([]++[]),?_,Bf e5 hs,Ad,oI,dI,?_⟩);focus (exact wI));refine G1 ?_;intro gg;by_cases c5:n≤20;rotate_left
 ·rw[show(decide ((n:Int)≤20))=false from ZY (by omega)];refine G0 ?_;(exact .inr (.inr (.inl ⟨_,true,[],_,aM,B7 _ rfl,rfl⟩)))
 rw[if_pos c5]at h;rw[show(decide ((n:Int)≤20))=true from ZX (by omega)];refine G0 ?_;rcases e6:B9 s a5 with _|⟨z,a6⟩
 ·(refine .inr (.inr (.inl ⟨_,false,0::([]++[]),_,?_,Dm (R:=rdC s 0) e6 hs,rfl⟩));focus (exact wI))
 rw[e6,ZA]at h;simp only at h;have be6:=Bo e6;(refine .inr (.inl ⟨_,_,false,0::([]++[]),?_,Bf e6 hs,Ad,oI,dI,?_⟩);focus (exact wI));refine G1 ?_;intro gg;by_cases c6:z=0;rotate_left
 ·rw[show((z:Int)==0)=false from ZG.2 (by omega)];refine G0 ?_;(exact .inr (.inr (.inl ⟨_,true,[],_,aM,B7 _ rfl,rfl⟩)))
 rw[if_pos c6]at h;rw[show((z:Int)==0)=true from ZR.2 (by omega)];refine G0 ?_;rcases e7:B9 s a6 with _|⟨y,a7⟩
 ·(refine .inr (.inr (.inl ⟨_,false,0::([]++[]),_,?_,Dm (R:=rdC s 0) e7 hs,rfl⟩));focus (exact wI))
 rw[e7,ZA]at h;simp only at h;have be7:=Bo e7;(refine .inr (.inl ⟨_,_,false,0::([]++[]),?_,Bf e7 hs,Ad,oI,dI,?_⟩);focus (exact wI));refine G1 ?_;intro gg;by_cases c7:y=0;rotate_left
 ·(exact .inr (.inr (.inl ⟨_,true,[],_,aM,B7 _ (ZG.2 (by omega)),rfl⟩)))
 rw[if_pos c7]at h;(refine .inl ⟨_,_,true,[],aI,Bb _ (ZR.2 (by omega)),(fun _=>fI),nI,?_⟩);refine G1 ?_;intro gg;rcases e8:H4 s a7 with _|⟨qn,a8⟩
 ·(refine .inr (.inr (.inl ⟨_,false,0::([]++[]),_,?_,U8 (R:=rdC s 0) e8 hs (by omega),rfl⟩));focus (exact wI))
 rw[e8,ZA]at h;simp only at h;have be8:=Hv e8;(refine .inr (.inl ⟨_,_,false,0::([]++[]),?_,Jn e8 hs (by omega),Ad,oI,dI,?_⟩);focus (exact wI));refine G1 ?_;intro gg;rcases e9:B9 s a8 with _|⟨qt,a9⟩
 ·(refine .inr (.inr (.inl ⟨_,false,0::([]++[]),_,?_,Dm (R:=rdC s 0) e9 hs,rfl⟩));focus (exact wI))
 rw[e9,ZA]at h;simp only at h;have be9:=Bo e9;(refine .inr (.inl ⟨_,_,false,0::([]++[]),?_,Bf e9 hs,Ad,oI,dI,?_⟩);focus (exact wI));refine G1 ?_;intro gg;rcases e10:B9 s a9 with _|⟨d,a10⟩
 ·(refine .inr (.inr (.inl ⟨_,false,0::([]++[]),_,?_,Dm (R:=rdC s 0) e10 hs,rfl⟩));focus (exact wI))
 rw[e10,ZA]at h;simp only at h;have be10:=Bo e10;(refine .inr (.inl ⟨_,_,false,0::([]++[]),?_,Bf e10 hs,Ad,oI,dI,?_⟩);focus (exact wI));refine G1 ?_;intro gg;by_cases c10:d=1;rotate_left
 ·(exact .inr (.inr (.inl ⟨_,true,[],_,aM,B7 _ (ZG.2 (by omega)),rfl⟩)))
 rw[if_pos c10]at h;(refine .inl ⟨_,_,true,[],aI,Bb _ (ZR.2 (by omega)),(fun _=>fI),nI,?_⟩);refine G1 ?_;intro gg;have hT:=be10.2.2;clear e1 e2 e3 e4 e5 e6 e7 e8 e9 e10 be1 be2 be3 be4 be6 be7 be9 be10;(refine⟨[],none,{p:Nat×Nat×List Rr×Nat//RcI s n (H3 s n a10) p.1 p.2.1 p.2.2.1},[],fun⟨⟨k,a,L,g⟩,hp⟩=>[(0,.ptr 0 0 0 0),(2,.ptr 32 gz 0 0),(3,.ptr 48 gb 0 0),(65,.v (.int .i64 (n:Int))),(66,.v (.int .i64 (k:Int)))],[],fun⟨⟨k,a,L,g⟩,hp⟩=>Azv s gz gb i an ct co qn qt a L g,fun⟨⟨k,a,L,g⟩,hp⟩=>n-k,trivial,fun _=>⟨trivial,fun _=>⟨⟨(0,a10,[],0),RcI.start hT⟩,tI,A2 _ _,tI,A3 _ _⟩⟩,fun⟨⟨k,a,L,g⟩,hp⟩=>?_⟩);simp only at hp;simp only[Akt,Alo,Ac2,Ac0];have hk:=hp.hk;have hl:=hp.hl;by_cases c11:k<n
 ·rcases e:Ss s a with _|⟨r,a2⟩
  ·have hn:=hp.none c11 e;rcases L with _|⟨r0,L⟩
   ·refine G0 ?_;(refine Gj ?_ ?_;focus (exact ZX (by omega)));refine G0 ?_;refine⟨?_,?_⟩
    ·refine G0 ?_;refine⟨?_,?_⟩
     ·refine G0 ?_;(refine .inr (.inr (.inl ⟨_,false,0::([]++[]),_,?_,Cs (R:=rdC s 0) e hs hp.ha,rfl⟩));focus (exact wI))
     ·refine G0 ?_;refine⟨?_,?_⟩
      ·refine G0 ?_;(refine .inr (.inr (.inl ⟨_,false,0::([]++[]),_,?_,Cs (R:=rdC s 0) e hs hp.ha,rfl⟩));focus (exact wI))
      ·refine G0 ?_;(refine .inr (.inr (.inl ⟨_,false,0::([]++[]),_,?_,Cs (R:=rdC s 0) e hs hp.ha,rfl⟩));focus (exact wI))
    ·refine G0 ?_;refine⟨?_,?_⟩
     ·refine G0 ?_;refine⟨?_,?_⟩
      ·refine G0 ?_;(refine .inr (.inr (.inl ⟨_,false,0::([]++[]),_,?_,Cs (R:=rdC s 0) e hs hp.ha,rfl⟩));focus (exact wI))
      ·refine G0 ?_;(refine .inr (.inr (.inl ⟨_,false,0::([]++[]),_,?_,Cs (R:=rdC s 0) e hs hp.ha,rfl⟩));focus (exact wI))
     ·refine G0 ?_;(refine .inr (.inr (.inl ⟨_,false,0::([]++[]),_,?_,Cs (R:=rdC s 0) e hs hp.ha,rfl⟩));focus (exact wI))
   ·refine G0 ?_;(refine Gj ?_ ?_;focus (exact ZX (by omega)));refine G0 ?_;refine⟨?_,?_⟩
    ·refine G0 ?_;refine⟨?_,?_⟩
     ·refine G0 ?_;(refine .inr (.inr (.inl ⟨_,false,0::([]++[]),_,?_,Cs (R:=rdC s 0) e hs hp.ha,rfl⟩));focus (exact wI))
     ·refine G0 ?_;refine⟨?_,?_⟩
      ·refine G0 ?_;(refine .inr (.inr (.inl ⟨_,false,0::([]++[]),_,?_,Cs (R:=rdC s 0) e hs hp.ha,rfl⟩));focus (exact wI))
      ·refine G0 ?_;(refine .inr (.inr (.inl ⟨_,false,0::([]++[]),_,?_,Cs (R:=rdC s 0) e hs hp.ha,rfl⟩));focus (exact wI))
    ·refine G0 ?_;refine⟨?_,?_⟩
     ·refine G0 ?_;refine⟨?_,?_⟩
      ·refine G0 ?_;(refine .inr (.inr (.inl ⟨_,false,0::([]++[]),_,?_,Cs (R:=rdC s 0) e hs hp.ha,rfl⟩));focus (exact wI))
      ·refine G0 ?_;(refine .inr (.inr (.inl ⟨_,false,0::([]++[]),_,?_,Cs (R:=rdC s 0) e hs hp.ha,rfl⟩));focus (exact wI))
     ·refine G0 ?_;(refine .inr (.inr (.inl ⟨_,false,0::([]++[]),_,?_,Cs (R:=rdC s 0) e hs hp.ha,rfl⟩));focus (exact wI))
  ·have hnx:=RcI.next hp c11 e;have b:=Wz e;have hr7:(([r].map Rr.row):List (List V))=[r.row]:=rfl;have hn20:L.length≤20:=by omega
   rcases L with _|⟨r0,L⟩
   ·refine G0 ?_;(refine Gj ?_ ?_;focus (exact ZX (by omega)));refine G0 ?_;refine⟨?_,?_⟩
    ·refine G0 ?_;refine⟨?_,?_⟩
     ·refine G0 ?_;(refine .inr (.inl ⟨_,_,false,0::([]++[]),?_,A6 e hs hp.ha,Ad,oI,dI,?_⟩);focus (exact wI));(refine goI ?_;repeat (intro gg;refine goI ?_));refine⟨lI,lI,?_⟩;refine G1 ?_;intro gg;(exact⟨none,trivial,fun gr=>⟨⟨(k+1,a2,[r],gg),hnx⟩,by show n-(k+1)<n-k;omega,tI,tI,⟨rfl,⟨rfl,⟨rfl,⟨rfl,trivial⟩⟩⟩⟩,tI⟩⟩)
     ·refine G0 ?_;refine⟨?_,?_⟩
      ·refine G0 ?_;(refine .inr (.inl ⟨_,_,false,0::([]++[]),?_,A6 e hs hp.ha,Ad,oI,dI,?_⟩);focus (exact wI));(refine goI ?_;repeat (intro gg;refine goI ?_));refine⟨lI,lI,?_⟩;refine G1 ?_;intro gg;(exact⟨none,trivial,fun gr=>⟨⟨(k+1,a2,[r],gg),hnx⟩,by show n-(k+1)<n-k;omega,tI,tI,⟨rfl,⟨rfl,⟨rfl,⟨rfl,trivial⟩⟩⟩⟩,tI⟩⟩)
      ·refine G0 ?_;(refine .inr (.inl ⟨_,_,false,0::([]++[]),?_,A6 e hs hp.ha,Ad,oI,dI,?_⟩);focus (exact wI));refine G1 ?_;intro gg;refine⟨?_,?_⟩
       ·refine G1 ?_;intro gg;refine⟨lI,lI,?_⟩;refine G1 ?_;intro gg;(exact⟨none,trivial,fun gr=>⟨⟨(k+1,a2,[r],gg),hnx⟩,by show n-(k+1)<n-k;omega,tI,tI,⟨rfl,⟨rfl,⟨rfl,⟨rfl,trivial⟩⟩⟩⟩,tI⟩⟩)
       ·refine G1 ?_;intro gg;refine⟨lI,lI,?_⟩;refine G1 ?_;intro gg;(exact⟨none,trivial,fun gr=>⟨⟨(k+1,a2,[r],gg),hnx⟩,by show n-(k+1)<n-k;omega,tI,tI,⟨rfl,⟨rfl,⟨rfl,⟨rfl,trivial⟩⟩⟩⟩,tI⟩⟩)
    ·refine G0 ?_;refine⟨?_,?_⟩
     ·refine G0 ?_;refine⟨?_,?_⟩
      ·refine G0 ?_;(refine .inr (.inl ⟨_,_,false,0::([]++[]),?_,A6 e hs hp.ha,Ad,oI,dI,?_⟩);focus (exact wI));(refine goI ?_;repeat (intro gg;refine goI ?_));refine⟨lI,lI,?_⟩;refine G1 ?_;intro gg;(exact⟨none,trivial,fun gr=>⟨⟨(k+1,a2,[r],gg),hnx⟩,by show n-(k+1)<n-k;omega,tI,tI,⟨rfl,⟨rfl,⟨rfl,⟨rfl,trivial⟩⟩⟩⟩,tI⟩⟩)
      ·refine G0 ?_;(refine .inr (.inl ⟨_,_,false,0::([]++[]),?_,A6 e hs hp.ha,Ad,oI,dI,?_⟩);focus (exact wI));refine G1 ?_;intro gg;refine⟨?_,?_⟩
       ·refine G1 ?_;intro gg;refine⟨lI,lI,?_⟩;refine G1 ?_;intro gg;(exact⟨none,trivial,fun gr=>⟨⟨(k+1,a2,[r],gg),hnx⟩,by show n-(k+1)<n-k;omega,tI,tI,⟨rfl,⟨rfl,⟨rfl,⟨rfl,trivial⟩⟩⟩⟩,tI⟩⟩)
       ·refine G1 ?_;intro gg;refine⟨lI,lI,?_⟩;refine G1 ?_;intro gg;(exact⟨none,trivial,fun gr=>⟨⟨(k+1,a2,[r],gg),hnx⟩,by show n-(k+1)<n-k;omega,tI,tI,⟨rfl,⟨rfl,⟨rfl,⟨rfl,trivial⟩⟩⟩⟩,tI⟩⟩)
     ·refine G0 ?_;(refine .inr (.inl ⟨_,_,false,0::([]++[]),?_,A6 e hs hp.ha,Ad,oI,dI,?_⟩);focus (exact wI));refine G1 ?_;intro gg;refine⟨?_,?_⟩
      ·refine G0 ?_;refine⟨?_,?_⟩
       ·refine G1 ?_;intro gg;refine⟨lI,lI,?_⟩;refine G1 ?_;intro gg;(exact⟨none,trivial,fun gr=>⟨⟨(k+1,a2,[r],gg),hnx⟩,by show n-(k+1)<n-k;omega,tI,tI,⟨rfl,⟨rfl,⟨rfl,⟨rfl,trivial⟩⟩⟩⟩,tI⟩⟩)
       ·refine G1 ?_;intro gg;refine⟨lI,lI,?_⟩;refine G1 ?_;intro gg;(exact⟨none,trivial,fun gr=>⟨⟨(k+1,a2,[r],gg),hnx⟩,by show n-(k+1)<n-k;omega,tI,tI,⟨rfl,⟨rfl,⟨rfl,⟨rfl,trivial⟩⟩⟩⟩,tI⟩⟩)
      ·refine G1 ?_;intro gg;refine⟨lI,lI,?_⟩;refine G1 ?_;intro gg;(exact⟨none,trivial,fun gr=>⟨⟨(k+1,a2,[r],gg),hnx⟩,by show n-(k+1)<n-k;omega,tI,tI,⟨rfl,⟨rfl,⟨rfl,⟨rfl,trivial⟩⟩⟩⟩,tI⟩⟩)
   ·have hn21:L.length≤20:=by simp only[ZJ]at hn20;omega
    refine G0 ?_;(refine Gj ?_ ?_;focus (exact ZX (by omega)));refine G0 ?_;refine⟨?_,?_⟩
    ·refine G0 ?_;refine⟨?_,?_⟩
     ·refine G0 ?_;(refine .inr (.inl ⟨_,_,false,0::([]++[]),?_,A6 e hs hp.ha,Ad,oI,dI,?_⟩);focus (exact wI));(refine goI ?_;repeat (intro gg;refine goI ?_));refine⟨lI,lI,?_⟩;refine G1 ?_;intro gg;(exact⟨none,trivial,fun gr=>⟨⟨(k+1,a2,(r0::L)++[r],gg),hnx⟩,by show n-(k+1)<n-k;omega,tI,tI,⟨rfl,⟨rfl,⟨congrArg (fun x=>some (Ent.mk gg (.t 51) 7 x)) (show(r0::L).map Rr.row++[r.row]=((r0::L)++[r]).map Rr.row by rw[ZI];rfl),⟨rfl,trivial⟩⟩⟩⟩,tI⟩⟩)
     ·refine G0 ?_;refine⟨?_,?_⟩
      ·refine G0 ?_;(refine .inr (.inl ⟨_,_,false,0::([]++[]),?_,A6 e hs hp.ha,Ad,oI,dI,?_⟩);focus (exact wI));(refine goI ?_;repeat (intro gg;refine goI ?_));refine⟨lI,lI,?_⟩;refine G1 ?_;intro gg;(exact⟨none,trivial,fun gr=>⟨⟨(k+1,a2,(r0::L)++[r],gg),hnx⟩,by show n-(k+1)<n-k;omega,tI,tI,⟨rfl,⟨rfl,⟨congrArg (fun x=>some (Ent.mk gg (.t 51) 7 x)) (show(r0::L).map Rr.row++[r.row]=((r0::L)++[r]).map Rr.row by rw[ZI];rfl),⟨rfl,trivial⟩⟩⟩⟩,tI⟩⟩)
      ·refine G0 ?_;(refine .inr (.inl ⟨_,_,false,0::([]++[]),?_,A6 e hs hp.ha,Ad,oI,dI,?_⟩);focus (exact wI));refine G1 ?_;intro gg;refine⟨?_,?_⟩
       ·refine G1 ?_;intro gg;refine⟨lI,lI,?_⟩;refine G1 ?_;intro gg;(exact⟨none,trivial,fun gr=>⟨⟨(k+1,a2,(r0::L)++[r],gg),hnx⟩,by show n-(k+1)<n-k;omega,tI,tI,⟨rfl,⟨rfl,⟨congrArg (fun x=>some (Ent.mk gg (.t 51) 7 x)) (show(r0::L).map Rr.row++[r.row]=((r0::L)++[r]).map Rr.row by rw[ZI];rfl),⟨rfl,trivial⟩⟩⟩⟩,tI⟩⟩)
       ·refine G1 ?_;intro gg;refine⟨lI,lI,?_⟩;refine G1 ?_;intro gg;(exact⟨none,trivial,fun gr=>⟨⟨(k+1,a2,(r0::L)++[r],gg),hnx⟩,by show n-(k+1)<n-k;omega,tI,tI,⟨rfl,⟨rfl,⟨congrArg (fun x=>some (Ent.mk gg (.t 51) 7 x)) (show(r0::L).map Rr.row++[r.row]=((r0::L)++[r]).map Rr.row by rw[ZI];rfl),⟨rfl,trivial⟩⟩⟩⟩,tI⟩⟩)
    ·refine G0 ?_;refine⟨?_,?_⟩
     ·refine G0 ?_;refine⟨?_,?_⟩
      ·refine G0 ?_;(refine .inr (.inl ⟨_,_,false,0::([]++[]),?_,A6 e hs hp.ha,Ad,oI,dI,?_⟩);focus (exact wI));(refine goI ?_;repeat (intro gg;refine goI ?_));refine⟨lI,lI,?_⟩;refine G1 ?_;intro gg;(exact⟨none,trivial,fun gr=>⟨⟨(k+1,a2,(r0::L)++[r],gg),hnx⟩,by show n-(k+1)<n-k;omega,tI,tI,⟨rfl,⟨rfl,⟨congrArg (fun x=>some (Ent.mk gg (.t 51) 7 x)) (show(r0::L).map Rr.row++[r.row]=((r0::L)++[r]).map Rr.row by rw[ZI];rfl),⟨rfl,trivial⟩⟩⟩⟩,tI⟩⟩)
      ·refine G0 ?_;(refine .inr (.inl ⟨_,_,false,0::([]++[]),?_,A6 e hs hp.ha,Ad,oI,dI,?_⟩);focus (exact wI));refine G1 ?_;intro gg;refine⟨?_,?_⟩
       ·refine G1 ?_;intro gg;refine⟨lI,lI,?_⟩;refine G1 ?_;intro gg;(exact⟨none,trivial,fun gr=>⟨⟨(k+1,a2,(r0::L)++[r],gg),hnx⟩,by show n-(k+1)<n-k;omega,tI,tI,⟨rfl,⟨rfl,⟨congrArg (fun x=>some (Ent.mk gg (.t 51) 7 x)) (show(r0::L).map Rr.row++[r.row]=((r0::L)++[r]).map Rr.row by rw[ZI];rfl),⟨rfl,trivial⟩⟩⟩⟩,tI⟩⟩)
       ·refine G1 ?_;intro gg;refine⟨lI,lI,?_⟩;refine G1 ?_;intro gg;(exact⟨none,trivial,fun gr=>⟨⟨(k+1,a2,(r0::L)++[r],gg),hnx⟩,by show n-(k+1)<n-k;omega,tI,tI,⟨rfl,⟨rfl,⟨congrArg (fun x=>some (Ent.mk gg (.t 51) 7 x)) (show(r0::L).map Rr.row++[r.row]=((r0::L)++[r]).map Rr.row by rw[ZI];rfl),⟨rfl,trivial⟩⟩⟩⟩,tI⟩⟩)
     ·refine G0 ?_;(refine .inr (.inl ⟨_,_,false,0::([]++[]),?_,A6 e hs hp.ha,Ad,oI,dI,?_⟩);focus (exact wI));refine G1 ?_;intro gg;refine⟨?_,?_⟩
      ·refine G0 ?_;refine⟨?_,?_⟩
       ·refine G1 ?_;intro gg;refine⟨lI,lI,?_⟩;refine G1 ?_;intro gg;(exact⟨none,trivial,fun gr=>⟨⟨(k+1,a2,(r0::L)++[r],gg),hnx⟩,by show n-(k+1)<n-k;omega,tI,tI,⟨rfl,⟨rfl,⟨congrArg (fun x=>some (Ent.mk gg (.t 51) 7 x)) (show(r0::L).map Rr.row++[r.row]=((r0::L)++[r]).map Rr.row by rw[ZI];rfl),⟨rfl,trivial⟩⟩⟩⟩,tI⟩⟩)
       ·refine G1 ?_;intro gg;refine⟨lI,lI,?_⟩;refine G1 ?_;intro gg;(exact⟨none,trivial,fun gr=>⟨⟨(k+1,a2,(r0::L)++[r],gg),hnx⟩,by show n-(k+1)<n-k;omega,tI,tI,⟨rfl,⟨rfl,⟨congrArg (fun x=>some (Ent.mk gg (.t 51) 7 x)) (show(r0::L).map Rr.row++[r.row]=((r0::L)++[r]).map Rr.row by rw[ZI];rfl),⟨rfl,trivial⟩⟩⟩⟩,tI⟩⟩)
      ·refine G1 ?_;intro gg;refine⟨lI,lI,?_⟩;refine G1 ?_;intro gg;(exact⟨none,trivial,fun gr=>⟨⟨(k+1,a2,(r0::L)++[r],gg),hnx⟩,by show n-(k+1)<n-k;omega,tI,tI,⟨rfl,⟨rfl,⟨congrArg (fun x=>some (Ent.mk gg (.t 51) 7 x)) (show(r0::L).map Rr.row++[r.row]=((r0::L)++[r]).map Rr.row by rw[ZI];rfl),⟨rfl,trivial⟩⟩⟩⟩,tI⟩⟩)
 ·have he:=hp.end_ c11;rw[he,ZA]at h;simp only at h;rcases L with _|⟨r0,L⟩
  ·refine G0 ?_;(refine Fs ?_ ?_;focus (exact ZY (by omega)));refine G0 ?_;by_cases c12:a=s.size
   ·rw[if_pos c12]at h;cases h
   ·(exact .inr (.inr (.inl ⟨_,true,[],_,aM,B7 _ (ZG.2 (by omega)),rfl⟩)))
  ·refine G0 ?_;(refine Fs ?_ ?_;focus (exact ZY (by omega)));refine G0 ?_;by_cases c12:a=s.size
   ·rw[if_pos c12]at h;cases h
   ·(exact .inr (.inr (.inl ⟨_,true,[],_,aM,B7 _ (ZG.2 (by omega)),rfl⟩)))
section
variable {P:Program} {ops:Array Oper} {Q:Exit→Act→List Frame→World→Prop} {a:Act} {cs:List Frame} {w w':World} {i:Nat} {Bl:List Nat} {o:Oper} {v:Value}
end
theorem Aj9(T:TypeId)(w:World):(Instr.typeAssert Gu T 103 true).run Tryz.prog w=.ok (.tuple #[.agg #[],.bool true]) w:=by
 have hu:=Tryz.underlying103;simp[Instr.typeAssert,Gu,run_underlying hu]
theorem Amr(T:TypeId)(w:World):(Instr.typeAssert .nilIface T 103 true).run Tryz.prog w=.ok (.tuple #[.agg #[],.bool false]) w:=by
 have hu:=Tryz.underlying103;have h:(Tryz.prog.info? 103).map (·.zero)=some (some (.agg #[])):=by kernel_rfl
 obtain⟨i,hi,hz⟩:=Option.map_eq_some_iff.1 h;simp[Instr.typeAssert,run_underlying hu,zeroValue,typeInfo,hi,hz]
def Kj:Array Value:= #[.int .i64 0,.bool false,.bool false,.int .i64 0,.string ⟨#[]⟩,.int .i64 0,.slice none 0 0]
structure Aq2(w:World)(p q:Nat)(w':World):Prop where
 m:Blk w' p 38 Kj
 e:Blk w' q 27 #[.int .i64 1]
 fr:Fr (fun k=>k=p∨k=q) w w'
theorem Fr.set_{F:Nat→Prop}{w w':World}(h:Fr F w w'){b:Nat}(hb:F b)(i:Nat)(v:Value):Fr F w (w'.setCell ⟨b,i,none⟩ v):=by
 have hs:=h.size;refine⟨h.os,h.tape,h.output,by simp[World.setCell];omega,fun k hk hF=>?_⟩;rw[←h.block k hk hF];have:k≠b:=fun e=>hF (e▸hb);exact Below.heap_setCell w' ⟨b,i,none⟩ v k this
theorem Fr.alloc_{F:Nat→Prop}{w w':World}(h:Fr F w w')(o:Obj):Fr F w (w'.alloc o):=by
 have hs:=h.size;refine⟨h.os,h.tape,h.output,by rw[show(w'.alloc o).heap.size=w'.heap.size+1 from by simp[World.alloc,-World.alloc_eq]];omega,fun k hk hF=>?_⟩;rw[←h.block k hk hF];exact Below.heap_alloc w' o k (by omega)
set_option maxRecDepth 100000 in
set_option maxHeartbeats 2000000 in
theorem Aii(p q:Nat)(c0 c1 c2 c3 c4 c5 c6 x:Value)(w:World)(hp:Blk w p 38 #[c0,c1,c2,c3,c4,c5,c6])(hq:Blk w q 27 #[x])(hpq:p≠q):
  CallsD Tryz.prog 50 #[.pointer (some ⟨p,0,none⟩),.pointer (some ⟨q,0,none⟩)] (.panicking [{v:=Gu,recovered:=false}]) w fun e u' w'=>e=.returned (.tuple #[])∧u'=.panicking [{v:=Gu,recovered:=true}]∧Aq2 w p q w':=by
 have hlp:=hp.lt;have hlq:=hq.lt;refine callsD_of_wpS Tryz.func50 rfl fun c₀ cs hu=>?_;apply wpS_seq;apply wpS_region;have hrec:recoverD (c₀::cs)=some (Gu,{c₀ with mode:=.panicking ({v:=Gu,recovered:=true} ::[])} ::cs):=by simp[recoverD,hu]
 simp[wpOpsS,go_sem,hrec,Tryz.ntmps50,Exit.thenS,Aj9];have e0:w.cell? ⟨p,0,none⟩=some c0:=hp.cell 0;have e1:w.cell? ⟨p,1,none⟩=some c1:=hp.cell 1;have e2:w.cell? ⟨p,2,none⟩=some c2:=hp.cell 2;have e3:w.cell? ⟨p,3,none⟩=some c3:=hp.cell 3;have e4:w.cell? ⟨p,4,none⟩=some c4:=hp.cell 4;have e5:w.cell? ⟨p,5,none⟩=some c5:=hp.cell 5;have e6:w.cell? ⟨p,6,none⟩=some c6:=hp.cell 6;have f0:=fun i=>hp.frozen i;have g0:w.cell? ⟨q,0,none⟩=some x:=hq.cell 0;have h0:=hq.frozen 0;refine wpS_of_wp ?_
 go_wp2
 have key:Aq2 w p q (((((((((w.setCell ⟨p,0,none⟩ (.int .i64 0)).setCell ⟨p,1,none⟩ (.bool false)).setCell ⟨p,2,none⟩ (.bool false)).setCell ⟨p,3,none⟩ (.int .i64 0)).setCell ⟨p,4,none⟩ (.string ⟨#[]⟩)).setCell ⟨p,5,none⟩ (.int .i64 0)).setCell ⟨p,6,none⟩ (.slice none 0 0)).setCell ⟨q,0,none⟩ (.int .i64 1)).alloc (Obj.cells #[] 103)):=by
  refine⟨?_,?_,?_⟩
  ·exact(((((((((hp.set_ 0 _).set_ 1 _).set_ 2 _).set_ 3 _).set_ 4 _).set_ 5 _).set_ 6 _).far hpq _).alloc _)
  ·exact(((((((((hq.far (Ne.symm hpq) _).far (Ne.symm hpq) _).far (Ne.symm hpq) _).far (Ne.symm hpq) _).far (Ne.symm hpq) _).far (Ne.symm hpq) _).far (Ne.symm hpq) _).set_ 0 _).alloc _)
  ·exact(((((((((Fr.refl _ w).set_ (.inl rfl) 0 _).set_ (.inl rfl) 1 _).set_ (.inl rfl) 2 _).set_ (.inl rfl) 3 _).set_ (.inl rfl) 4 _).set_ (.inl rfl) 5 _).set_ (.inl rfl) 6 _).set_ (.inr rfl) 0 _).alloc_ _
 simp[bodyPostS,results,Tryz.results50];exact key
set_option maxRecDepth 100000 in
set_option maxHeartbeats 2000000 in
theorem Xu(p q:Nat)(w:World):
  CallsD Tryz.prog 50 #[.pointer (some ⟨p,0,none⟩),.pointer (some ⟨q,0,none⟩)] .returning w fun e u' w'=>e=.returned (.tuple #[])∧u'=.returning∧w'=w.alloc (.cells #[] 103):=by
 refine callsD_of_wpS Tryz.func50 rfl fun c₀ cs hu=>?_;apply wpS_seq;apply wpS_region;have hrec:recoverD (c₀::cs)=none:=by simp[recoverD,hu]
 simp[wpOpsS,go_sem,hrec,Tryz.ntmps50,Exit.thenS,Amr];refine wpS_of_wp ?_
 go_wp2
 simp[bodyPostS,results,Tryz.results50,hu];cases c₀;simp_all
theorem Auq{n:Int}(h0:0≤n)(h1:n≤15):IntKind.i64.wrap ((BitVec.ofInt IntKind.i64.bits n|||BitVec.ofInt IntKind.i64.bits 32768).toNat)=n+32768:=by
 have key:∀k:Fin 16,IntKind.i64.wrap ((BitVec.ofInt IntKind.i64.bits (k.val:Int)|||BitVec.ofInt IntKind.i64.bits 32768).toNat)=(k.val:Int)+32768:=by decide
 obtain⟨k,rfl⟩:=Int.eq_ofNat_of_zero_le h0;exact key ⟨k,by omega⟩
theorem Az4{n:Int}(h0:0≤n)(h1:n≤15):IntKind.i64.wrap ((BitVec.ofInt IntKind.i64.bits n|||BitVec.ofInt IntKind.i64.bits 512).toNat)=n+512:=by
 have key:∀k:Fin 16,IntKind.i64.wrap ((BitVec.ofInt IntKind.i64.bits (k.val:Int)|||BitVec.ofInt IntKind.i64.bits 512).toNat)=(k.val:Int)+512:=by decide
 obtain⟨k,rfl⟩:=Int.eq_ofNat_of_zero_le h0;exact key ⟨k,by omega⟩
theorem Avj{n:Int}(h0:0≤n)(h1:n≤15):IntKind.i64.wrap ((BitVec.ofInt IntKind.i64.bits (n+32768)|||BitVec.ofInt IntKind.i64.bits 512).toNat)=n+32768+512:=by
 have key:∀k:Fin 16,IntKind.i64.wrap ((BitVec.ofInt IntKind.i64.bits ((k.val:Int)+32768)|||BitVec.ofInt IntKind.i64.bits 512).toNat)=(k.val:Int)+32768+512:=by decide
 obtain⟨k,rfl⟩:=Int.eq_ofNat_of_zero_le h0;exact key ⟨k,by omega⟩
def C4(id fl n:Int)(qn:ByteArray)(qt:Int):List UInt8:=Au [id,fl,1,n,0,0]++Bp qn++Au [qt,1]
theorem O2{id fl n qt:Int}{qn:ByteArray}(h:qn.size≤120):0<(C4 id fl n qn qt).length∧(C4 id fl n qn qt).length≤15100:=by
 have:=E3 h;unfold C4;rw[ZF,ZF,Ar,Ar];simp only[ZJ,ZN];omega
theorem Wq(m:Ms):Bu m=C4 m.id (Dz m) (m.rs.length:Int) m.qn m.qt++Bn m.rs:=rfl
set_option maxHeartbeats 2000000 in
theorem Agd(m:Ms)(hm:m.Good)(ha:m.an=false)(hc:m.ct=false):Fun Tryz.prog 77 [.c (.agg m.row)] [.c (.v (.string ⟨(Bu m).toArray⟩))]:=by
 obtain⟨id,an,ct,co,qn,qt,rs⟩:=m;obtain⟨h1,h2,h3,h4,h5,h6,h7⟩:=hm;simp only at h1 h2 h3 h4 h5 h6 h7 ha hc;subst ha hc;have eF:Dz ⟨id,false,false,co,qn,qt,rs⟩=co:=by simp[Dz]
 rw[Wq,eF];have hh:=O2 (id:=id) (fl:=co) (n:=(rs.length:Int)) (qt:=qt) h4;have hR:=G9 h7;refine A4 Jk rfl ?_;(refine goI ?_;repeat (intro gg;refine goI ?_));rename_i gw;rw[ZE];(refine .inr (.inl ⟨_,_,true,[128],X4 rfl (Fz rfl) J9 (by decide) (by decide) aM,Dd [] false [id,co,1,(rs.length:Int),0,0] (by simp only[XC,XD,or_false,forall_eq_or_imp,forall_eq];omega) (by simp) (by simp),(fun _=>F9),oI,dI,?_⟩));refine G1 ?_;intro gg;(refine .inr (.inl ⟨_,_,false,[128],aM,I2 ([]++Au [id,co,1,(rs.length:Int),0,0]) qn h3 h4 (by simp only[ZF,Ar,ZJ,ZN];omega),Ad,oI,dI,?_⟩));(refine goI ?_;repeat (intro gg;refine goI ?_));(refine .inr (.inl ⟨_,_,true,[128],aM,Dd ([]++Au [id,co,1,(rs.length:Int),0,0]++Bp qn) false [qt,1] (by simp only[XC,XD,or_false,forall_eq_or_imp,forall_eq];omega) (by simp) (by have:=E3 h4;simp only[ZF,Ar,ZJ,ZN];omega),(fun _=>F9),oI,dI,?_⟩));refine G1 ?_;intro gg;rw[ZE];(refine⟨[],none,{k:Nat//k≤rs.length},[3,40,41],fun⟨k,hk⟩=>[(42,.v (.int .i64 k))],[],fun⟨k,hk⟩=>[(128,⟨gw,.q (Eg wT (C4 id (co) (rs.length:Int) qn qt++Bn (rs.take k))),0,[]⟩)],fun⟨k,hk⟩=>rs.length-k,trivial,fun _=>⟨trivial,fun _=>⟨⟨0,by omega⟩,tI,A2 _ _,?_,A3 _ _⟩⟩,fun⟨k,hk⟩=>?_⟩;focus (exact⟨congrArg (fun r=>some (Ent.mk gw (.q (Eg wT r)) 0 [])) (show C4 id (co) (rs.length:Int) qn qt=C4 id (co) (rs.length:Int) qn qt++Bn (rs.take 0)by simp[Bn]),trivial⟩));refine G0 ?_;(refine Ag (fun q1=>?_) (fun q1=>?_)<;>rw[q1])
 ·have hlt:k<rs.length:=by have:=ZV (show decide ((k:Int)<(rs.length:Int))=true from q1);omega
  have hl1:=G9 (l:=rs.take k) fun r hr=>h7 r (List.mem_of_mem_take hr);rw[ZM]at hl1;have e:C4 id (co) (rs.length:Int) qn qt++Bn (rs.take k)++I6 rs[k]=C4 id (co) (rs.length:Int) qn qt++Bn (rs.take (k+1)):=by rw[M6 hlt,ZS]
  refine G0 ?_;refine⟨k,_,rfl,A7 hlt,?_⟩;refine G1 ?_;intro gg;(refine .inr (.inl ⟨_,_,false,[128],aM,M0 (C4 id (co) (rs.length:Int) qn qt++Bn (rs.take k)) rs[k] (h7 _ (ZK hlt)) (by rw[ZF];omega),Ad,oI,dI,?_⟩));refine G1 ?_;intro gg;(exact⟨none,trivial,fun gr=>⟨⟨k+1,by omega⟩,by show rs.length-(k+1)<rs.length-k;omega,tI,tI,⟨congrArg (fun r=>some (Ent.mk gw (.q (Eg wT r)) 0 [])) e,trivial⟩,tI⟩⟩)
 ·have hge:¬k<rs.length:=by have:=ZW (show decide ((k:Int)<(rs.length:Int))=false from q1);omega
  obtain rfl:k=rs.length:=by omega
  have hne:C4 id (co) (rs.length:Int) qn qt++Bn (rs.take rs.length)≠[]:=fun q=>by
   have:=congrArg List.length q;rw[ZF,ZN]at this;omega
  rw[show Bn rs=Bn (rs.take rs.length)by rw[XF]];refine G0 ?_;(refine .inr (.inl ⟨_,_,false,[128],aM,Fg (T:=wT) (C4 id (co) (rs.length:Int) qn qt++Bn (rs.take rs.length)) hne,Ad,oI,dI,?_⟩));refine G1 ?_;intro gg;(exact⟨[],aI⟩)
set_option maxHeartbeats 2000000 in
theorem Ahc(m:Ms)(hm:m.Good)(ha:m.an=true)(hc:m.ct=false):Fun Tryz.prog 77 [.c (.agg m.row)] [.c (.v (.string ⟨(Bu m).toArray⟩))]:=by
 obtain⟨id,an,ct,co,qn,qt,rs⟩:=m;obtain⟨h1,h2,h3,h4,h5,h6,h7⟩:=hm;simp only at h1 h2 h3 h4 h5 h6 h7 ha hc;subst ha hc;have eF:Dz ⟨id,true,false,co,qn,qt,rs⟩=co+32768:=by simp[Dz]
 rw[Wq,eF];have hh:=O2 (id:=id) (fl:=co+32768) (n:=(rs.length:Int)) (qt:=qt) h4;have hR:=G9 h7;refine A4 Jk rfl ?_;(refine goI ?_;repeat (intro gg;refine goI ?_))
 rename Nat=>gw
 refine⟨_,Auq h2.1 h2.2,?_⟩;refine G1 ?_;intro gg;rw[ZE];(refine .inr (.inl ⟨_,_,true,[128],X4 rfl (Fz rfl) J9 (by decide) (by decide) aM,Dd [] false [id,co+32768,1,(rs.length:Int),0,0] (by simp only[XC,XD,or_false,forall_eq_or_imp,forall_eq];omega) (by simp) (by simp),(fun _=>F9),oI,dI,?_⟩));refine G1 ?_;intro gg;(refine .inr (.inl ⟨_,_,false,[128],aM,I2 ([]++Au [id,co+32768,1,(rs.length:Int),0,0]) qn h3 h4 (by simp only[ZF,Ar,ZJ,ZN];omega),Ad,oI,dI,?_⟩));(refine goI ?_;repeat (intro gg;refine goI ?_));(refine .inr (.inl ⟨_,_,true,[128],aM,Dd ([]++Au [id,co+32768,1,(rs.length:Int),0,0]++Bp qn) false [qt,1] (by simp only[XC,XD,or_false,forall_eq_or_imp,forall_eq];omega) (by simp) (by have:=E3 h4;simp only[ZF,Ar,ZJ,ZN];omega),(fun _=>F9),oI,dI,?_⟩));refine G1 ?_;intro gg;rw[ZE];(refine⟨[],none,{k:Nat//k≤rs.length},[3,40,41],fun⟨k,hk⟩=>[(42,.v (.int .i64 k))],[],fun⟨k,hk⟩=>[(128,⟨gw,.q (Eg wT (C4 id (co+32768) (rs.length:Int) qn qt++Bn (rs.take k))),0,[]⟩)],fun⟨k,hk⟩=>rs.length-k,trivial,fun _=>⟨trivial,fun _=>⟨⟨0,by omega⟩,tI,A2 _ _,?_,A3 _ _⟩⟩,fun⟨k,hk⟩=>?_⟩;focus (exact⟨congrArg (fun r=>some (Ent.mk gw (.q (Eg wT r)) 0 [])) (show C4 id (co+32768) (rs.length:Int) qn qt=C4 id (co+32768) (rs.length:Int) qn qt++Bn (rs.take 0)by simp[Bn]),trivial⟩));refine G0 ?_;(refine Ag (fun q1=>?_) (fun q1=>?_)<;>rw[q1])
 ·have hlt:k<rs.length:=by have:=ZV (show decide ((k:Int)<(rs.length:Int))=true from q1);omega
  have hl1:=G9 (l:=rs.take k) fun r hr=>h7 r (List.mem_of_mem_take hr);rw[ZM]at hl1;have e:C4 id (co+32768) (rs.length:Int) qn qt++Bn (rs.take k)++I6 rs[k]=C4 id (co+32768) (rs.length:Int) qn qt++Bn (rs.take (k+1)):=by rw[M6 hlt,ZS]
  refine G0 ?_;refine⟨k,_,rfl,A7 hlt,?_⟩;refine G1 ?_;intro gg;(refine .inr (.inl ⟨_,_,false,[128],aM,M0 (C4 id (co+32768) (rs.length:Int) qn qt++Bn (rs.take k)) rs[k] (h7 _ (ZK hlt)) (by rw[ZF];omega),Ad,oI,dI,?_⟩));refine G1 ?_;intro gg;(exact⟨none,trivial,fun gr=>⟨⟨k+1,by omega⟩,by show rs.length-(k+1)<rs.length-k;omega,tI,tI,⟨congrArg (fun r=>some (Ent.mk gw (.q (Eg wT r)) 0 [])) e,trivial⟩,tI⟩⟩)
 ·have hge:¬k<rs.length:=by have:=ZW (show decide ((k:Int)<(rs.length:Int))=false from q1);omega
  obtain rfl:k=rs.length:=by omega
  have hne:C4 id (co+32768) (rs.length:Int) qn qt++Bn (rs.take rs.length)≠[]:=fun q=>by
   have:=congrArg List.length q;rw[ZF,ZN]at this;omega
  rw[show Bn rs=Bn (rs.take rs.length)by rw[XF]];refine G0 ?_;(refine .inr (.inl ⟨_,_,false,[128],aM,Fg (T:=wT) (C4 id (co+32768) (rs.length:Int) qn qt++Bn (rs.take rs.length)) hne,Ad,oI,dI,?_⟩));refine G1 ?_;intro gg;(exact⟨[],aI⟩)
set_option maxHeartbeats 2000000 in
theorem Af0(m:Ms)(hm:m.Good)(ha:m.an=false)(hc:m.ct=true):Fun Tryz.prog 77 [.c (.agg m.row)] [.c (.v (.string ⟨(Bu m).toArray⟩))]:=by
 obtain⟨id,an,ct,co,qn,qt,rs⟩:=m;obtain⟨h1,h2,h3,h4,h5,h6,h7⟩:=hm;simp only at h1 h2 h3 h4 h5 h6 h7 ha hc;subst ha hc;have eF:Dz ⟨id,false,true,co,qn,qt,rs⟩=co+512:=by simp[Dz]
 rw[Wq,eF];have hh:=O2 (id:=id) (fl:=co+512) (n:=(rs.length:Int)) (qt:=qt) h4;have hR:=G9 h7;refine A4 Jk rfl ?_;(refine goI ?_;repeat (intro gg;refine goI ?_))
 rename Nat=>gw
 refine⟨_,Az4 h2.1 h2.2,?_⟩;refine G1 ?_;intro gg;rw[ZE];(refine .inr (.inl ⟨_,_,true,[128],X4 rfl (Fz rfl) J9 (by decide) (by decide) aM,Dd [] false [id,co+512,1,(rs.length:Int),0,0] (by simp only[XC,XD,or_false,forall_eq_or_imp,forall_eq];omega) (by simp) (by simp),(fun _=>F9),oI,dI,?_⟩));refine G1 ?_;intro gg;(refine .inr (.inl ⟨_,_,false,[128],aM,I2 ([]++Au [id,co+512,1,(rs.length:Int),0,0]) qn h3 h4 (by simp only[ZF,Ar,ZJ,ZN];omega),Ad,oI,dI,?_⟩));(refine goI ?_;repeat (intro gg;refine goI ?_));(refine .inr (.inl ⟨_,_,true,[128],aM,Dd ([]++Au [id,co+512,1,(rs.length:Int),0,0]++Bp qn) false [qt,1] (by simp only[XC,XD,or_false,forall_eq_or_imp,forall_eq];omega) (by simp) (by have:=E3 h4;simp only[ZF,Ar,ZJ,ZN];omega),(fun _=>F9),oI,dI,?_⟩));refine G1 ?_;intro gg;rw[ZE];(refine⟨[],none,{k:Nat//k≤rs.length},[3,40,41],fun⟨k,hk⟩=>[(42,.v (.int .i64 k))],[],fun⟨k,hk⟩=>[(128,⟨gw,.q (Eg wT (C4 id (co+512) (rs.length:Int) qn qt++Bn (rs.take k))),0,[]⟩)],fun⟨k,hk⟩=>rs.length-k,trivial,fun _=>⟨trivial,fun _=>⟨⟨0,by omega⟩,tI,A2 _ _,?_,A3 _ _⟩⟩,fun⟨k,hk⟩=>?_⟩;focus (exact⟨congrArg (fun r=>some (Ent.mk gw (.q (Eg wT r)) 0 [])) (show C4 id (co+512) (rs.length:Int) qn qt=C4 id (co+512) (rs.length:Int) qn qt++Bn (rs.take 0)by simp[Bn]),trivial⟩));refine G0 ?_;(refine Ag (fun q1=>?_) (fun q1=>?_)<;>rw[q1])
 ·have hlt:k<rs.length:=by have:=ZV (show decide ((k:Int)<(rs.length:Int))=true from q1);omega
  have hl1:=G9 (l:=rs.take k) fun r hr=>h7 r (List.mem_of_mem_take hr);rw[ZM]at hl1;have e:C4 id (co+512) (rs.length:Int) qn qt++Bn (rs.take k)++I6 rs[k]=C4 id (co+512) (rs.length:Int) qn qt++Bn (rs.take (k+1)):=by rw[M6 hlt,ZS]
  refine G0 ?_;refine⟨k,_,rfl,A7 hlt,?_⟩;refine G1 ?_;intro gg;(refine .inr (.inl ⟨_,_,false,[128],aM,M0 (C4 id (co+512) (rs.length:Int) qn qt++Bn (rs.take k)) rs[k] (h7 _ (ZK hlt)) (by rw[ZF];omega),Ad,oI,dI,?_⟩));refine G1 ?_;intro gg;(exact⟨none,trivial,fun gr=>⟨⟨k+1,by omega⟩,by show rs.length-(k+1)<rs.length-k;omega,tI,tI,⟨congrArg (fun r=>some (Ent.mk gw (.q (Eg wT r)) 0 [])) e,trivial⟩,tI⟩⟩)
 ·have hge:¬k<rs.length:=by have:=ZW (show decide ((k:Int)<(rs.length:Int))=false from q1);omega
  obtain rfl:k=rs.length:=by omega
  have hne:C4 id (co+512) (rs.length:Int) qn qt++Bn (rs.take rs.length)≠[]:=fun q=>by
   have:=congrArg List.length q;rw[ZF,ZN]at this;omega
  rw[show Bn rs=Bn (rs.take rs.length)by rw[XF]];refine G0 ?_;(refine .inr (.inl ⟨_,_,false,[128],aM,Fg (T:=wT) (C4 id (co+512) (rs.length:Int) qn qt++Bn (rs.take rs.length)) hne,Ad,oI,dI,?_⟩));refine G1 ?_;intro gg;(exact⟨[],aI⟩)
set_option maxHeartbeats 2000000 in
theorem Agc(m:Ms)(hm:m.Good)(ha:m.an=true)(hc:m.ct=true):Fun Tryz.prog 77 [.c (.agg m.row)] [.c (.v (.string ⟨(Bu m).toArray⟩))]:=by
 obtain⟨id,an,ct,co,qn,qt,rs⟩:=m;obtain⟨h1,h2,h3,h4,h5,h6,h7⟩:=hm;simp only at h1 h2 h3 h4 h5 h6 h7 ha hc;subst ha hc;have eF:Dz ⟨id,true,true,co,qn,qt,rs⟩=co+32768+512:=by simp[Dz]
 rw[Wq,eF];have hh:=O2 (id:=id) (fl:=co+32768+512) (n:=(rs.length:Int)) (qt:=qt) h4;have hR:=G9 h7;refine A4 Jk rfl ?_;(refine goI ?_;repeat (intro gg;refine goI ?_))
 rename Nat=>gw
 refine⟨_,Auq h2.1 h2.2,?_⟩;refine G0 ?_;refine⟨_,Avj h2.1 h2.2,?_⟩;refine G1 ?_;intro gg;rw[ZE];(refine .inr (.inl ⟨_,_,true,[128],X4 rfl (Fz rfl) J9 (by decide) (by decide) aM,Dd [] false [id,co+32768+512,1,(rs.length:Int),0,0] (by simp only[XC,XD,or_false,forall_eq_or_imp,forall_eq];omega) (by simp) (by simp),(fun _=>F9),oI,dI,?_⟩));refine G1 ?_;intro gg;(refine .inr (.inl ⟨_,_,false,[128],aM,I2 ([]++Au [id,co+32768+512,1,(rs.length:Int),0,0]) qn h3 h4 (by simp only[ZF,Ar,ZJ,ZN];omega),Ad,oI,dI,?_⟩));(refine goI ?_;repeat (intro gg;refine goI ?_));(refine .inr (.inl ⟨_,_,true,[128],aM,Dd ([]++Au [id,co+32768+512,1,(rs.length:Int),0,0]++Bp qn) false [qt,1] (by simp only[XC,XD,or_false,forall_eq_or_imp,forall_eq];omega) (by simp) (by have:=E3 h4;simp only[ZF,Ar,ZJ,ZN];omega),(fun _=>F9),oI,dI,?_⟩));refine G1 ?_;intro gg;rw[ZE];(refine⟨[],none,{k:Nat//k≤rs.length},[3,40,41],fun⟨k,hk⟩=>[(42,.v (.int .i64 k))],[],fun⟨k,hk⟩=>[(128,⟨gw,.q (Eg wT (C4 id (co+32768+512) (rs.length:Int) qn qt++Bn (rs.take k))),0,[]⟩)],fun⟨k,hk⟩=>rs.length-k,trivial,fun _=>⟨trivial,fun _=>⟨⟨0,by omega⟩,tI,A2 _ _,?_,A3 _ _⟩⟩,fun⟨k,hk⟩=>?_⟩;focus (exact⟨congrArg (fun r=>some (Ent.mk gw (.q (Eg wT r)) 0 [])) (show C4 id (co+32768+512) (rs.length:Int) qn qt=C4 id (co+32768+512) (rs.length:Int) qn qt++Bn (rs.take 0)by simp[Bn]),trivial⟩));refine G0 ?_;(refine Ag (fun q1=>?_) (fun q1=>?_)<;>rw[q1])
 ·have hlt:k<rs.length:=by have:=ZV (show decide ((k:Int)<(rs.length:Int))=true from q1);omega
  have hl1:=G9 (l:=rs.take k) fun r hr=>h7 r (List.mem_of_mem_take hr);rw[ZM]at hl1;have e:C4 id (co+32768+512) (rs.length:Int) qn qt++Bn (rs.take k)++I6 rs[k]=C4 id (co+32768+512) (rs.length:Int) qn qt++Bn (rs.take (k+1)):=by rw[M6 hlt,ZS]
  refine G0 ?_;refine⟨k,_,rfl,A7 hlt,?_⟩;refine G1 ?_;intro gg;(refine .inr (.inl ⟨_,_,false,[128],aM,M0 (C4 id (co+32768+512) (rs.length:Int) qn qt++Bn (rs.take k)) rs[k] (h7 _ (ZK hlt)) (by rw[ZF];omega),Ad,oI,dI,?_⟩));refine G1 ?_;intro gg;(exact⟨none,trivial,fun gr=>⟨⟨k+1,by omega⟩,by show rs.length-(k+1)<rs.length-k;omega,tI,tI,⟨congrArg (fun r=>some (Ent.mk gw (.q (Eg wT r)) 0 [])) e,trivial⟩,tI⟩⟩)
 ·have hge:¬k<rs.length:=by have:=ZW (show decide ((k:Int)<(rs.length:Int))=false from q1);omega
  obtain rfl:k=rs.length:=by omega
  have hne:C4 id (co+32768+512) (rs.length:Int) qn qt++Bn (rs.take rs.length)≠[]:=fun q=>by
   have:=congrArg List.length q;rw[ZF,ZN]at this;omega
  rw[show Bn rs=Bn (rs.take rs.length)by rw[XF]];refine G0 ?_;(refine .inr (.inl ⟨_,_,false,[128],aM,Fg (T:=wT) (C4 id (co+32768+512) (rs.length:Int) qn qt++Bn (rs.take rs.length)) hne,Ad,oI,dI,?_⟩));refine G1 ?_;intro gg;(exact⟨[],aI⟩)
theorem Ab4(m:Ms)(hm:m.Good):Fun Tryz.prog 77 [.c (.agg m.row)] [.c (.v (.string ⟨(Bu m).toArray⟩))]:=by
 rcases Bool.eq_false_or_eq_true m.an with ha|ha<;>rcases Bool.eq_false_or_eq_true m.ct with hc|hc
 ·exact Agc m hm ha hc
 ·exact Ahc m hm ha hc
 ·exact Af0 m hm ha hc
 ·exact Agd m hm ha hc
namespace Pl
theorem Rx{n a b:Int}(h:(!wIn n a b)=false):a≤n∧n≤b:=by
 unfold wIn at h;cases h1:decide (a≤n)with
 |true=>rw[h1]at h;exact⟨ZV h1,by simpa using h⟩
 |false=>rw[h1]at h;cases h
theorem Mp{nm:ByteArray}(h:As nm=0):nm.size≤120:=by
 unfold As at h;split at h
 ·cases h
 ·split at h
  ·cases h
  ·split at h
   ·cases h
   ·omega
theorem Akh{r:Rr}(h:Eb r=0):r.Good∧r.un=true:=by
 unfold Eb at h;split at h
 ·rename_i h0;exact absurd h h0
 ·rename_i h0;have h0:As r.nm=0:=by simpa using h0
  cases h1:(!Ln r.ty)with
  |true=>rw[h1]at h;cases h
  |false=>
   rw[h1]at h;cases h2:(!wIn r.ls 0 2147483647)with
   |true=>rw[h2]at h;cases h
   |false=>
    rw[h2]at h;cases h3:(!r.un)with
    |true=>rw[h3]at h;cases h
    |false=>
     rw[h3]at h;cases h4:(!wIn r.ad 0 4294967295)with
     |true=>rw[h4]at h;cases h
     |false=>
      rw[h4]at h;cases h5:(!wIn r.pt 0 65535)with
      |true=>rw[h5]at h;cases h
      |false=>
       rw[h5]at h;simp only[cond_false]at h;split at h
       ·cases h
       ·rename_i h6;exact⟨⟨h0,Mp h0,Yu h1,Rx h2,Rx h4,Rx h5,by omega,h,Mp h⟩,by simpa using h3⟩
theorem Vl{l:List Int}(h:Do l=0):∀e∈l,e=0:=by
 induction l with
 |nil=>intro e he;cases he
 |cons a l ih=>
  have h:(if a≠0 then a else Do l)=0:=h;split at h
  ·rename_i ha;exact absurd h ha
  ·rename_i ha;intro e he;rcases XC.1 he with rfl|he
   ·simpa using ha
   ·exact ih h e he
theorem Hl{m:Ms}(h:Bc m=0):m.Good∧∀r∈m.rs,r.un=true:=by
 unfold Bc at h;cases h1:(!wIn m.id 0 65535)with
 |true=>rw[h1]at h;cases h
 |false=>
  rw[h1]at h;cases h2:(!wIn m.co 0 15)with
  |true=>rw[h2]at h;cases h
  |false=>
   rw[h2]at h;simp only[cond_false]at h;split at h
   ·cases h
   ·rename_i h3;split at h
    ·rename_i h4;exact absurd h h4
    ·rename_i h4;have h4:As m.qn=0:=by simpa using h4
     cases h5:(!Ln m.qt)with
     |true=>rw[h5]at h;cases h
     |false=>
      rw[h5]at h;have h6:=Vl h;have h7:∀r∈m.rs,Eb r=0:=fun r hr=>h6 _ (List.mem_map_of_mem hr);exact⟨⟨Rx h1,Rx h2,h4,Mp h4,Yu h5,by omega,fun r hr=>(Akh (h7 r hr)).1⟩,fun r hr=>(Akh (h7 r hr)).2⟩
def wrE(m:Ms):Int:=if Bc m≠0 then Bc m else if 512<(Bu m).length then 2 else 0
def wrS(m:Ms):ByteArray:=if wrE m=0 then⟨(Bu m).toArray⟩else⟨#[]⟩
theorem Arn{m:Ms}(h:Bc m≠0):wrE m=Bc m∧wrS m=⟨#[]⟩:=by
 have e:wrE m=Bc m:=if_pos h;refine⟨e,?_⟩;unfold wrS;rw[e,if_neg h]
theorem Am3{m:Ms}(h:Bc m=0)(h2:512<(Bu m).length):wrE m=2∧wrS m=⟨#[]⟩:=by
 have e:wrE m=2:=by unfold wrE;rw[if_neg (by simpa using h),if_pos h2]
 refine⟨e,?_⟩;unfold wrS;rw[e];rfl
theorem Aeo{m:Ms}(h:Bc m=0)(h2:¬512<(Bu m).length):wrE m=0∧wrS m=⟨(Bu m).toArray⟩:=by
 have e:wrE m=0:=by unfold wrE;rw[if_neg (by simpa using h),if_neg h2]
 refine⟨e,?_⟩;unfold wrS;rw[e];rfl
end Pl
theorem Ab2(m:Ms)(hm:m.Sized)(hl:m.rs.length≤9223372036854775807):Fun Tryz.prog 28 [.c (.agg m.row)] [.c (.v (.string (wrS m))),.c (.v (.int .i64 (wrE m)))]:=by
 have hC:=Ud m hm hl;by_cases he:Bc m=0
 ·have hW:=Ab4 m (Hl he).1;have hs:(⟨(Bu m).toArray⟩:ByteArray).size=(Bu m).length:=by show(Bu m).toArray.size=_;simp
  rw[he]at hC;refine A4 Sr rfl ?_;refine G1 ?_;intro gg;refine .inl (cX hC ?_);refine G1 ?_;intro gg;refine .inl (cX hW ?_);refine G1 ?_;intro gg;refine Ag (fun k0=>?_) (fun k0=>?_)<;>rw[k0]
  ·have k1:=ZV k0;rw[hs]at k1;have h2:512<(Bu m).length:=by omega
   rw[(Am3 he h2).1,(Am3 he h2).2];refine G0 ?_;(exact⟨[],aI⟩)
  ·have k1:=ZW k0;rw[hs]at k1;have h2:¬512<(Bu m).length:=by omega
   rw[(Aeo he h2).1,(Aeo he h2).2];refine G0 ?_;(exact⟨[],aI⟩)
 ·refine A4 Sr rfl ?_;refine G1 ?_;intro gg;refine .inl (cX hC ?_);refine G1 ?_;intro gg;rw[show(Bc m !=0)=true from ZZ.2 he];rw[(Arn he).1,(Arn he).2];refine G0 ?_;(exact⟨[],aI⟩)
namespace Pl
theorem Awd{a b:ByteArray}(h:a.data.toList=b.data.toList):a=b:=by
 obtain⟨a⟩:=a;obtain⟨b⟩:=b;congr 1;exact Array.ext' h
theorem Avi{l:List UInt8}{c:UInt8}{m:Nat}(h:Lib.indexByte l c=(m:Int)):l[m]? =some c:=by
 induction l generalizing m with
 |nil=>simp[Lib.indexByte]at h
 |cons b l ih=>
  unfold Lib.indexByte at h;by_cases hb:(b==c)=true
  ·rw[if_pos hb]at h;have:b=c:=by simpa using hb
   obtain rfl:m=0:=by omega
   simp[this]
  ·rw[if_neg hb]at h;have hg:=Lib.indexByte_ge l c;split at h
   ·omega
   ·rename_i h1;have h1':¬Lib.indexByte l c= -1:=by simpa using h1
    obtain⟨k,hk⟩:∃k:Nat,Lib.indexByte l c=(k:Int):=⟨(Lib.indexByte l c).toNat,by omega⟩;obtain rfl:m=k+1:=by omega
    simpa using ih hk
theorem Ahf(c:UInt8)(s:ByteArray){k:Nat}(h:k<cnb s c):(Bl c s k).data.toList=(Qh c s k).data.toList++[c]++(Bl c s (k+1)).data.toList:=by
 obtain⟨m,h1,h2,h3,h4⟩:=Alm c s h;have hm:=Avi (l:=(Bl c s k).data.toList) (c:=c) (m:=m) h1;have hlen:(Bl c s k).data.toList.length=(Bl c s k).size:=by simp
 rw[h3,h4,Ft,Ft,List.drop_zero];rw[List.take_of_length_le (i:=(Bl c s k).size) (by omega)];have hd:(Bl c s k).data.toList.drop m=c::(Bl c s k).data.toList.drop (m+1):=by
  rw[List.drop_eq_getElem_cons (by omega)];congr 1;rw[ZC (by omega)]at hm;exact Option.some.inj hm
 rw[ZS];show _=List.take m _++(c::List.drop (m+1) _);rw[←hd,List.take_append_drop]
theorem Aoa(s:ByteArray)(c:UInt8):∀(j k:Nat),k+j=cnb s c→Lib.join ((((List.range' k j).map (Qh c s))++[Bl c s (cnb s c)]).map (·.data.toList)) [c]=(Bl c s k).data.toList:=by
 intro j
 induction j with
 |zero=>
  intro k hk;have hk:k=cnb s c:=by omega
  rw[hk];simp[Lib.join]
 |succ j ih=>
  intro k hk;have h1:=ih (k+1) (by omega);rw[List.range'_succ,List.map_cons,List.cons_append,List.map_cons];rw[Ahf c s (k:=k) (by omega),←h1];obtain⟨x,xs,hx⟩:∃x xs,(((List.range' (k+1) j).map (Qh c s))++[Bl c s (cnb s c)]).map (·.data.toList)=x::xs:=by
   cases j<;>simp[List.range'_succ]
  rw[hx];simp[Lib.join]
theorem Aef(s:ByteArray):Dc ⟨#[46]⟩ (Bg s)=s:=by
 apply Awd;unfold Bg;split
 ·rename_i h;have:=toList_inj (ZR.1 h);subst this;rfl
 ·have h:=Aoa s 46 (cnb s 46) 0 (by omega);rw[←List.range_eq_range']at h;exact h
def At(s:ByteArray)(a:Nat)(l:List UInt8):Prop:=∃pre post,s.data.toList=pre++l++post∧pre.length=a
theorem At.app{s:ByteArray}{a:Nat}{l l':List UInt8}(h:At s a (l++l')):At s a l∧At s (a+l.length) l':=by
 obtain⟨pre,post,h1,h2⟩:=h;exact⟨⟨pre,l'++post,by rw[h1];simp,h2⟩,⟨pre++l,post,by rw[h1];simp,by simp[h2]⟩⟩
theorem At.le{s:ByteArray}{a:Nat}{l:List UInt8}(h:At s a l):a+l.length≤s.size:=by
 obtain⟨pre,post,h1,h2⟩:=h;have:=congrArg List.length h1;simp at this;omega
theorem At.byte{s:ByteArray}{a:Nat}{c:UInt8}(h:At s a [c]):Co s a=some (c.toNat,a+1):=by
 obtain⟨pre,post,h1,h2⟩:=h;unfold Co;have:s.data.toList[a]? =some c:=by rw[h1];subst h2;simp
 have hlt:a<s.size:=by
  have:=(ZB.1 this).1;simpa using this
 have e:s[a]? =some c:=by
  rw[getElem?_pos s a hlt];congr 1;have:=(ZB.1 this).2;rw[Array.getElem_toList]at this;exact this
 rw[e];rfl
theorem At.two{s:ByteArray}{a:Nat}{n:Int}(h:At s a (Au [n]))(h0:0≤n)(h1:n≤65535):B9 s a=some (n.toNat,a+2):=by
 have e:Au [n]=[UInt8.ofNat (n/256).toNat]++[UInt8.ofNat (n%256).toNat]:=rfl;rw[e]at h;have b1:=h.app.1.byte;have b2:=h.app.2.byte;unfold B9;rw[b1,ZA];simp only[ZJ,ZN]at b2 ⊢;rw[b2,ZA];have e1:(UInt8.ofNat (n/256).toNat).toNat=(n/256).toNat:=by rw[UInt8.toNat_ofNat'];exact Nat.mod_eq_of_lt (by omega)
 have e2:(UInt8.ofNat (n%256).toNat).toNat=(n%256).toNat:=by rw[UInt8.toNat_ofNat'];exact Nat.mod_eq_of_lt (by omega)
 rw[e1,e2];congr 2;omega
theorem Ei(n:Int)(ns:List Int):Au (n::ns)=Au [n]++Au ns:=by simp[Au]
theorem At.four{s:ByteArray}{a:Nat}{n:Int}(h:At s a (Au [n/65536,n%65536]))(h0:0≤n)(h1:n≤4294967295):Iv s a=some (n.toNat,a+4):=by
 rw[Ei]at h;have b1:=h.app.1.two (by omega) (by omega);have b2:=h.app.2.two (by omega) (by omega);rw[Ar]at b2;unfold Iv;rw[b1,ZA];simp only[ZJ,ZN]at b2 ⊢;rw[b2,ZA];congr 2;omega
theorem At.bytes{s:ByteArray}{a:Nat}{x:ByteArray}(h:At s a x.data.toList):Fm s a x.size=some (x,a+x.size):=by
 have hx:x.data.toList.length=x.size:=by simp
 have:=h.le;unfold Fm;rw[if_pos (by omega)];congr 2;apply Awd;rw[Ft];obtain⟨pre,post,h1,h2⟩:=h;rw[h1,←hx,ZS];subst h2;rw[List.take_append,List.drop_append];simp
theorem Am7{c:UInt8}(h:okB c.toNat=true):Ih c=c:=by
 unfold Ih;rw[if_neg];intro⟨h1,h2⟩;unfold okB at h;simp at h;omega
theorem Aoc{x:ByteArray}(h:lab x.data.toList=true):C3 x=x:=by
 apply Awd;unfold C3;show x.data.toList.map Ih=x.data.toList;have h2:∀c∈x.data.toList,okB c.toNat=true:=by
  unfold lab at h;exact fun c hc=>List.all_eq_true.1 (Bool.and_eq_true_iff.1 h).1 c hc
 have:x.data.toList.map Ih=x.data.toList.map id:=List.map_congr_left fun c hc=>Am7 (h2 c hc);rw[this,List.map_id]
theorem Ae8{x:ByteArray}(h:lab x.data.toList=true):1≤x.size∧x.size≤30:=by
 unfold lab at h;have:=ZV (Bool.and_eq_true_iff.1 h).2;have e:x.data.toList.length=x.size:=by simp
 omega
theorem At.nameR{s:ByteArray}:∀(ls l0:List ByteArray) (a f fr:Nat),At s a (Eh ls++[0])→(∀x∈ls,lab x.data.toList=true)→l0.length+ls.length≤8→ls.length<f→
  nameR s f a l0 none fr=some (l0++ls,a+(Eh ls).length+1):=by
 intro ls
 induction ls with
 |nil=>
  intro l0 a f fr h hl h8 hf;obtain⟨f,rfl⟩:∃f',f=f'+1:=⟨f-1,by simp at hf;omega⟩;have b:=At.byte (c:=0) h;rw[Pl.nameR,if_pos (by simpa using h8),b,ZA];simp only[List.append_nil];rw[if_pos (by decide)];rfl
 |cons x ls ih=>
  intro l0 a f fr h hl h8 hf;obtain⟨f,rfl⟩:∃f',f=f'+1:=⟨f-1,by omega⟩;have hx:=hl x (by simp);have hz:=Ae8 hx;have e:Eh (x::ls)++[0]=[UInt8.ofNat x.size]++(x.data.toList++(Eh ls++[0])):=by simp[Eh,S7]
  rw[e]at h;have b1:=h.app.1.byte;have h2:=h.app.2;rw[show [UInt8.ofNat x.size].length=1 from rfl]at h2;have b2:=h2.app.1.bytes;have h3:=h2.app.2;have el:x.data.toList.length=x.size:=by simp
  rw[el]at h3;have ez:(UInt8.ofNat x.size).toNat=x.size:=by rw[UInt8.toNat_ofNat'];exact Nat.mod_eq_of_lt (by omega)
  rw[ez]at b1;simp only[ZJ]at h8 hf;rw[Pl.nameR,if_pos (by omega),b1,ZA];simp only;rw[if_neg (by omega),if_neg (by omega),b2,ZA];simp only;rw[Aoc hx,if_pos hx,ih (l0++[x]) (a+1+x.size) f fr h3 (fun y hy=>hl y (by simp[hy])) (by simp;omega) (by omega)];have:(Eh (x::ls)).length=1+x.size+(Eh ls).length:=by simp[Eh,S7];omega
  rw[this];simp only[ZS,List.cons_append,List.nil_append];congr 2;omega
theorem Rc{nm:ByteArray}(h:As nm=0):(∀x∈Bg nm,lab x.data.toList=true)∧(Bg nm).length≤8∧nm.size≤120:=by
 unfold As at h;split at h
 ·cases h
 ·rename_i h1;split at h
  ·cases h
  ·split at h
   ·cases h
   ·refine⟨fun x hx=>?_,by omega,by omega⟩;have h2:(Bg nm).any (fun x=> !lab x.data.toList)=false:=by simpa using h1
    have:=List.any_eq_false.1 h2 x hx;simpa using this
theorem At.name{s:ByteArray}{a:Nat}{nm:ByteArray}(h:At s a (Bp nm))(hn:As nm=0):H4 s a=some (nm,a+(Bp nm).length):=by
 obtain⟨h1,h2,h3⟩:=Rc hn;unfold H4;rw[At.nameR (Bg nm) [] a (a+10) a h h1 (by simpa using h2) (by omega)];show some (Dc ⟨#[46]⟩ ([]++Bg nm),_)=_;rw[List.nil_append,Aef];simp[Bp];omega
theorem At.byteN{s:ByteArray}{a n:Nat}{l:List UInt8}(h:At s a (UInt8.ofNat n::l))(hn:n<256):Co s a=some (n,a+1)∧At s (a+1) l:=by
 have h':At s a ([UInt8.ofNat n]++l):=h;refine⟨?_,h'.app.2⟩;rw[h'.app.1.byte,UInt8.toNat_ofNat',Nat.mod_eq_of_lt (by omega)]
theorem Ale{x:ByteArray}(h:em x=true):x=⟨#[]⟩:=toList_inj (ZR.1 h)
theorem Bba{nm tx tg:ByteArray}{ls ad pt:Int}(h:Rr.un ⟨nm,1,ls,ad,tx,pt,tg⟩=true):tx=⟨#[]⟩∧pt=0∧tg=⟨#[]⟩:=by
 unfold Rr.un at h;simp at h;exact⟨Ale h.1,h.2.1,Ale h.2.2⟩
theorem Baj{nm tx tg:ByteArray}{ls ad pt:Int}(h:Rr.un ⟨nm,16,ls,ad,tx,pt,tg⟩=true):ad=0∧pt=0∧tg=⟨#[]⟩:=by
 unfold Rr.un at h;simp at h;exact⟨h.1,h.2.1,Ale h.2.2⟩
theorem Bad{nm tx tg:ByteArray}{ls ad pt:Int}(h:Rr.un ⟨nm,33,ls,ad,tx,pt,tg⟩=true):ad=0∧tx=⟨#[]⟩:=by
 unfold Rr.un at h;simp at h;exact⟨h.1,Ale h.2⟩
theorem At.body{s:ByteArray}{a:Nat}{r:Rr}(h:At s a (inB r))(hg:r.Good)(hu:r.un=true):Ki s r.ty.toNat a=some ((r.ad.toNat,r.tx,r.pt.toNat,r.tg),a+(inB r).length):=by
 obtain⟨nm,ty,ls,ad,tx,pt,tg⟩:=r;obtain⟨h1,h2,h3,h4,h5,h6,h7,h8,h9⟩:=hg;simp only at h1 h2 h3 h4 h5 h6 h7 h8 h9;rcases h3 with rfl|rfl|rfl
 ·obtain⟨rfl,rfl,rfl⟩:=Bba hu;have e:inB ⟨nm,1,ls,ad,⟨#[]⟩,0,⟨#[]⟩⟩=Au [ad/65536,ad%65536]:=rfl;rw[e]at h ⊢;have b:=h.four h5.1 h5.2;show Ki s 1 a=some ((ad.toNat,⟨#[]⟩,0,⟨#[]⟩),_);unfold Ki;rw[if_pos rfl,b,Ar];rfl
 ·obtain⟨rfl,rfl,rfl⟩:=Baj hu;have e:inB ⟨nm,16,ls,0,tx,0,⟨#[]⟩⟩=UInt8.ofNat tx.size::tx.data.toList:=rfl;rw[e]at h ⊢;obtain⟨b1,g1⟩:=h.byteN (by omega);have b2:=g1.bytes;have hx:tx.data.toList.length=tx.size:=by simp
  show Ki s 16 a=some ((0,tx,0,⟨#[]⟩),_);unfold Ki;rw[if_neg (by decide),if_pos rfl,b1,ZA];simp only;rw[b2,ZA];simp only[ZJ,hx];congr 2;omega
 ·obtain⟨rfl,rfl⟩:=Bad hu;have e:inB ⟨nm,33,ls,0,⟨#[]⟩,pt,tg⟩=Au [0]++(Au [0]++(Au [pt]++Bp tg)):=by
   show Au [0,0,pt]++Bp tg=_;simp[Au]
  rw[e]at h ⊢;have b1:=h.app.1.two (by omega) (by omega);have g1:=h.app.2;rw[Ar]at g1;have b2:=g1.app.1.two (by omega) (by omega);have g2:=g1.app.2;rw[Ar]at g2;have b3:=g2.app.1.two h6.1 h6.2;have g3:=g2.app.2;rw[Ar]at g3;have b4:=g3.name h8;simp only[ZJ,ZN]at b2 b3 b4;show Ki s 33 a=some ((0,⟨#[]⟩,pt.toNat,tg),_);unfold Ki;rw[if_neg (by decide),if_neg (by decide),if_pos rfl,b1,ZA];simp only;rw[if_pos (by decide),b2,ZA];simp only;rw[if_pos (by decide),b3,ZA];simp only;rw[b4,ZA];simp only[ZF,Ar,ZJ,ZN];congr 2;omega
theorem Ate(r:Rr):I6 r=Bp r.nm++(Au [r.ty]++(Au [1]++(Au [r.ls/65536,r.ls%65536]++(Au [((inB r).length:Int)]++inB r)))):=by
 unfold I6;rw[Ei r.ty,Ei 1];simp only[ZS]
theorem At.rec_{s:ByteArray}{a:Nat}{r:Rr}(h:At s a (I6 r))(hg:r.Good)(hu:r.un=true):Ss s a=some (r,a+(I6 r).length):=by
 have hin:=Sf hg;have hle:=h.le;rw[Ate]at h hle ⊢;have b1:=h.app.1.name hg.nm;have g1:=h.app.2;have hty:0≤r.ty∧r.ty≤65535:=by rcases hg.ty with q|q|q<;>omega
 have b2:=g1.app.1.two hty.1 hty.2;have g2:=g1.app.2;rw[Ar]at g2;have b3:=g2.app.1.two (by omega) (by omega);have g3:=g2.app.2;rw[Ar]at g3;have b4:=g3.app.1.four hg.ls.1 (by have:=hg.ls.2;omega);have g4:=g3.app.2;rw[Ar]at g4;have b5:=g4.app.1.two (by omega) (by omega);have g5:=g4.app.2;rw[Ar]at g5;have b6:=g5.body hg hu;simp only[ZF,Ar,ZJ,ZN]at b2 b3 b4 b5 b6 hle ⊢;unfold Ss;rw[b1,ZA];simp only;rw[b2,ZA];simp only;rw[b3,ZA];simp only;rw[if_pos (by decide)];have e4:a+(Bp r.nm).length+2*1+2=a+(Bp r.nm).length+2*(0+1)+2*(0+1):=by omega
 simp only[Nat.zero_add,Nat.mul_one]at *;rw[b4,ZA];simp only;rw[show a+(Bp r.nm).length+2+2+4=a+(Bp r.nm).length+2+2+2*(1+1)by omega,b5,ZA];simp only;rw[if_pos (by omega),b6,ZA];simp only;rw[if_pos (by omega)];obtain⟨nm,ty,ls,ad,tx,pt,tg⟩:=r;have q1:=hg.ls.1;have q2:=hg.ad.1;have q3:=hg.pt.1;simp only at q1 q2 q3 hty;simp only[ZD,Prod.mk.injEq,Rr.mk.injEq,true_and,and_true];omega
theorem At.recs{s:ByteArray}:∀(l:List Rr) (a:Nat),At s a (Bn l)→(∀r∈l,r.Good∧r.un=true)→H3 s l.length a=some (l,a+(Bn l).length)
 |[],a,_,_=>rfl
 |r::l,a,h,hg=>by
  have e:Bn (r::l)=I6 r++Bn l:=rfl;rw[e]at h ⊢;have b1:=h.app.1.rec_ (hg r (by simp)).1 (hg r (by simp)).2;have b2:=At.recs l _ h.app.2 fun x hx=>hg x (by simp[hx]);show H3 s (l.length+1) a=_;rw[H3,b1,ZA];simp only;rw[b2,ZA];simp only[ZF];congr 2;omega
theorem Atf(m:Ms)(h:0≤m.co∧m.co≤15):(Dz m/256).toNat=(if m.an then 128 else 0)+(if m.ct then 2 else 0)∧(Dz m%256).toNat=m.co.toNat:=by
 unfold Dz;cases m.an<;>cases m.ct<;>simp<;>omega
theorem Xn(m:Ms):Bu m=Au [m.id]++(UInt8.ofNat (Dz m/256).toNat::UInt8.ofNat (Dz m%256).toNat::(Au [1]++(Au [(m.rs.length:Int)]++(Au [0]++(Au [0]++(Bp m.qn++(Au [m.qt]++(Au [1]++Bn m.rs)))))))):=by
 unfold Bu;rw[Ei m.id,Ei (Dz m),Ei 1,Ei (m.rs.length:Int),Ei 0,Ei m.qt];rw[show Au [Dz m]=[UInt8.ofNat (Dz m/256).toNat,UInt8.ofNat (Dz m%256).toNat]from rfl];simp only[ZS,List.cons_append,List.nil_append]
theorem As4{m:Ms}(hm:m.Good)(hu:∀r∈m.rs,r.un=true):Re ⟨(Bu m).toArray⟩=some m:=by
 have h:At ⟨(Bu m).toArray⟩ 0 (Bu m):=⟨[],[],by simp,rfl⟩;have hs:(⟨(Bu m).toArray⟩:ByteArray).size=(Bu m).length:=by show(Bu m).toArray.size=_;simp
 obtain⟨f1,f2⟩:=Atf m hm.co;generalize hS:(⟨(Bu m).toArray⟩:ByteArray)=s at *;have hlen:(Bu m).length=12+(Bp m.qn).length+4+(Bn m.rs).length:=by
  rw[Xn];simp only[ZF,ZJ,Ar,ZN];omega
 rw[hlen]at hs;rw[Xn]at h;have hty:0≤m.qt∧m.qt≤65535:=by rcases hm.qt with q|q|q<;>omega
 have hln:=hm.len;have hco:=hm.co;have b1:=h.app.1.two hm.id.1 hm.id.2;have g1:=h.app.2;rw[Ar]at g1;have hA:(Dz m/256).toNat<256:=by rw[f1];cases m.an<;>cases m.ct<;>decide
 obtain⟨b2,g2⟩:=g1.byteN hA;obtain⟨b3,g3⟩:=g2.byteN (by rw[f2];omega);have b4:=g3.app.1.two (by omega) (by omega);have g4:=g3.app.2;rw[Ar]at g4;have b5:=g4.app.1.two (by omega) (by omega);have g5:=g4.app.2;rw[Ar]at g5;have b6:=g5.app.1.two (by omega) (by omega);have g6:=g5.app.2;rw[Ar]at g6;have b7:=g6.app.1.two (by omega) (by omega);have g7:=g6.app.2;rw[Ar]at g7;have b8:=g7.app.1.name hm.qn;have g8:=g7.app.2;have b9:=g8.app.1.two hty.1 hty.2;have g9:=g8.app.2;rw[Ar]at g9;have b10:=g9.app.1.two (by omega) (by omega);have g10:=g9.app.2;rw[Ar]at g10;have b11:=At.recs m.rs _ g10 fun r hr=>⟨hm.rs r hr,hu r hr⟩;simp only[ZJ,ZN,Nat.zero_add,Nat.mul_one]at b1 b2 b3 b4 b5 b6 b7 b8 b9 b10 b11;unfold Re;rw[b1,ZA];simp only[Nat.zero_add];rw[b2,ZA];simp only;rw[b3,ZA];simp only;rw[f1,f2,if_pos (by cases m.an<;>cases m.ct<;>simp[Ao2]<;>omega),b4,ZA];simp only;rw[if_pos (by decide),b5,ZA];simp only;rw[if_pos (by omega),b6,ZA];simp only;rw[if_pos (by decide),b7,ZA];simp only;rw[if_pos (by decide),b8,ZA];simp only;rw[b9,ZA];simp only;rw[b10,ZA];simp only;rw[if_pos (by decide),Int.toNat_natCast,b11,ZA];simp only;rw[if_pos (by omega)];obtain⟨id,an,ct,co,qn,qt,rs⟩:=m;have q1:=hm.id.1;simp only at q1 hco hty;simp only[ZD,Ms.mk.injEq,and_true,true_and];refine⟨by omega,?_,?_,by omega,by omega⟩
 ·cases an<;>cases ct<;>simp
 ·cases an<;>cases ct<;>simp
end Pl
namespace Pl
def J5:Ms:=⟨0,false,false,0,⟨#[]⟩,0,[]⟩
def rdP(s:ByteArray):Ms×Int:=if 512<s.size then(J5,2)else match Re s with
 |none=>(J5,1)
 |some m=>if Bc m=0 then(m,0)else(J5,1)
end Pl
theorem Fr.out{L:Nat→Prop}{a b c:World}(h:Fr (fun _=>False) a b)(k:Fr L b c)(hl:∀i,L i→a.heap.size≤i):Fr (fun _=>False) a c:=
 ⟨k.os.trans h.os,k.tape.trans h.tape,k.output.trans h.output,XI h.size k.size,fun i hi _=>(k.block i (XH hi h.size) (fun hL=>by have:=hl i hL;omega)).trans (h.block i hi id)⟩
theorem Fr.blk{L:Nat→Prop}{a b:World}{g:Nat}{t:TypeId}{cs:Array Value}(h:Fr L a b)(hb:Blk a g t cs)(hl:¬L g):Blk b g t cs:=(h.block g hb.lt hl).trans hb
def msV(m:Ms)(y:Value):Value:=.agg #[.int .i64 m.id,.bool m.an,.bool m.ct,.int .i64 m.co,.string m.qn,.int .i64 m.qt,y]
theorem Akr{w:World}{R:Nat→Prop}{m:Ms}{y:Value}(h:RV w R noG (.sl false (m.rs.map Rr.row)) y):RV w R noG (.agg m.row) (msV m y):=by
 refine .agg m.row [.int .i64 m.id,.bool m.an,.bool m.ct,.int .i64 m.co,.string m.qn,.int .i64 m.qt,y] rfl fun i u x hu hx=>?_;unfold Ms.row at hu;rcases i with _|_|_|_|_|_|_|i
 all_goals first
  |(cases hu;cases hx;exact .v _)
  |(cases hu;cases hx;exact h)
  |(simp at hu)
theorem Bag{w:World}{R:Nat→Prop}{m:Ms}{x:Value}(h:RV w R noG (.agg m.row) x):∃y,x=msV m y∧RV w R noG (.sl false (m.rs.map Rr.row)) y:=by
 cases h with
 |agg cs xs hl h=>
  obtain⟨x0,x1,x2,x3,x4,x5,x6,rfl⟩:∃x0 x1 x2 x3 x4 x5 x6,xs=[x0,x1,x2,x3,x4,x5,x6]:=by
   rcases xs with _|⟨x0,_|⟨x1,_|⟨x2,_|⟨x3,_|⟨x4,_|⟨x5,_|⟨x6,_|⟨x7,xs⟩⟩⟩⟩⟩⟩⟩⟩<;>simp[Ms.row]at hl;exact⟨_,_,_,_,_,_,_,rfl⟩
  have h0:=Bt (h 0 _ _ rfl rfl);have h1:=Bt (h 1 _ _ rfl rfl);have h2:=Bt (h 2 _ _ rfl rfl);have h3:=Bt (h 3 _ _ rfl rfl);have h4:=Bt (h 4 _ _ rfl rfl);have h5:=Bt (h 5 _ _ rfl rfl);subst h0 h1 h2 h3 h4 h5;exact⟨x6,rfl,h 6 _ _ rfl rfl⟩
theorem Aqo{w:World}{R:Nat→Prop}{G:Nat→Option Loc}{cl:Bool}{rows:List (List V)}{x:Value}(h:RV w R G (.sl cl rows) x):∃a k c,x=.slice a k c:=by
 generalize e:V.sl cl rows=u at h;cases h with
 |nil=>exact⟨_,_,_,rfl⟩
 |sl=>exact⟨_,_,_,rfl⟩
 |_=>cases e
theorem Abx{w:World}{R:Nat→Prop}{u:V}{x:Value}(h:RV w R noG u x):Ik w R [.c u] [x]:=by
 refine⟨rfl,fun i p y h1 h2=>?_,fun i j T sz rows T' sz' rows' x y b hij h1=>?_,fun b h=>?_⟩
 ·rcases i with _|i
  ·cases h1;cases h2;exact h
  ·simp at h1
 ·rcases i with _|i<;>simp at h1
 ·obtain⟨i,T,sz,rows,x,h1,_⟩:=h;rcases i with _|i<;>simp at h1
theorem Ace{u:V}{x:Value}{b:Nat}(h:Ax [.c u] [x] b):False:=by
 obtain⟨i,T,sz,rows,x,h1,_⟩:=h;rcases i with _|i<;>simp at h1
theorem Acq(w:World)(R:Nat→Prop):RV w R noG (.agg J5.row) (.agg Kj):=Akr (m:=J5) (y:=.slice none 0 0) (.nil false none 0 (by simp))
def Ack(R:Nat→Prop)(w:World)(m:Ms)(er:Int)(e:Ending)(w':World):Prop:=
 ∃(x:Value) (R':Nat→Prop),e=.returned (.tuple #[x,.int .i64 er])∧Fr (fun _=>False) w w'∧(∀b,R b→R' b)∧(∀b,R' b→R b∨(b<w'.heap.size∧w.heap.size≤b))∧RV w' R' noG (.agg m.row) x
theorem Aky{s:ByteArray}{W:World}{R:Nat→Prop}{n:Nat}{cs:List Par}(hb:Blk W n rdT #[.string s,.int .i64 0])(hn:¬R n):Cy W R [.mn rdT (rdC s 0) cs] [.pointer (some ⟨n,0,none⟩)] (fun k=>k=n):=by
 have hp:Ik W R (rdC s 0) [.string s,.int .i64 0]:=by
  refine⟨rfl,fun i p x h1 h2=>?_,fun i j T sz rows T' sz' rows' x y b hij h1=>?_,fun b h=>?_⟩
  ·rcases i with _|_|i
   ·cases h1;cases h2;exact .v _
   ·cases h1;cases h2;exact .v _
   ·simp[rdC,rdZ]at h1
  ·rcases i with _|_|i<;>simp[rdC,rdZ]at h1
  ·obtain⟨i,T,sz,rows,x,h1,_⟩:=h;rcases i with _|_|i<;>simp[rdC,rdZ]at h1
 have hnb:∀k,¬Ax (rdC s 0) [.string s,.int .i64 0] k:=fun k h=>by
  obtain⟨i,T,sz,rows,x,h1,_⟩:=h;rcases i with _|_|i<;>simp[rdC,rdZ]at h1
 refine⟨fun k=>k=n,fun _=>False,⟨n,[.string s,.int .i64 0],rfl,by simp[rdC,rdZ],⟨rfl,.inr ⟨n,1,_,rfl,ZU _,hb,by simp,by decide,rfl,rfl⟩⟩,hp,by simp[Value.oneCell'],hnb n,fun k=>⟨.inl,fun h=>h.elim id (fun h=>absurd h (hnb k))⟩⟩,fun _ h=>h,fun b h=>⟨id,by rw[h];exact hn⟩,fun b=>⟨.inl,fun h=>h.elim id False.elim⟩⟩
set_option maxRecDepth 100000 in
set_option maxHeartbeats 2000000 in
theorem Amf(s:ByteArray)(w:World)(h:(512:Int)<(s.size:Int))(R:Nat→Prop)(hlt:∀b,R b→b<w.heap.size):Calls Tryz.prog 13 #[.string s] w (Ack R w J5 2):=by
 have hmf:∀(fn:Fn) (first cap:Array Value) (w:World),(Instr.makeFunc fn first cap).run Tryz.prog w=.ok (.func fn first cap) w:=fun _ _ _ _=>rfl
 go_enter_defers Tryz.func13,Tryz.ntmps13
 go_wp2
 have B0:=Blk.new w 38 Kj;have B1:=Blk.new (w.alloc (.cells Kj 38)) 27 #[.int .i64 2];have B2:=B0.alloc (.cells #[.int .i64 2] 27);simp[bodyPostD,Leaves,settle,results,Tryz.results13,go_sem];refine⟨.agg Kj,R,rfl,?_,fun b h=>h,fun b h=>.inl h,Acq _ _⟩;exact((Fr.refl _ w).alloc_ _).alloc_ _
set_option maxRecDepth 100000 in
set_option maxHeartbeats 2000000 in
theorem As7(s:ByteArray)(w:World)(h:¬(512:Int)<(s.size:Int))(R:Nat→Prop)(hlt:∀b,R b→b<w.heap.size)(hd:Gz Tryz.prog 51 [.mn rdT (rdC s 0) (rdC s 0)] Gu):Calls Tryz.prog 13 #[.string s] w (Ack R w J5 1):=by
 have hmf:∀(fn:Fn) (first cap:Array Value) (w:World),(Instr.makeFunc fn first cap).run Tryz.prog w=.ok (.func fn first cap) w:=fun _ _ _ _=>rfl
 go_enter_defers Tryz.func13,Tryz.ntmps13
 go_wp2_with fail
 have B0:=Blk.new w 38 Kj;have B1:=Blk.new_ (w.alloc (.cells Kj 38)) 27 #[.int .i64 0] (g:=w.heap.size+1) (by simp[World.alloc,-World.alloc_eq]);have B0':=B0.alloc (.cells #[.int .i64 0] 27);have B2:=Blk.new_ ((w.alloc (.cells Kj 38)).alloc (.cells #[.int .i64 0] 27)) rdT #[.string s,.int .i64 0] (g:=w.heap.size+1+1) (by simp[World.alloc,-World.alloc_eq]);have B0'':=B0'.alloc (.cells #[.string s,.int .i64 0] rdT);have B1'':=B1.alloc (.cells #[.string s,.int .i64 0] rdT);refine(hd.2 _ (fun _=>False) [_] _ (fun _ h=>h.elim) (Aky B2 id)).mono ?_
 rintro e w1 ⟨rfl,hf⟩
 have C0:=hf.blk B0'' (by omega);have C1:=hf.blk B1'' (by omega);refine leaves_cons (f:=50) (args:= #[.pointer (some ⟨w.heap.size,0,none⟩),.pointer (some ⟨w.heap.size+1,0,none⟩)]) (by simp) (by simp[go_sem]) ?_;refine(Aii w.heap.size (w.heap.size+1) _ _ _ _ _ _ _ _ w1 C0 C1 (by omega)).mono ?_
 rintro e u' w2 ⟨rfl,rfl,hC⟩
 obtain⟨D0,D1,hf2⟩:=hC;have e0:w2.cell? ⟨w.heap.size,0,none⟩=some (.int .i64 0):=D0.cell 0;have e1:w2.cell? ⟨w.heap.size,1,none⟩=some (.bool false):=D0.cell 1;have e2:w2.cell? ⟨w.heap.size,2,none⟩=some (.bool false):=D0.cell 2;have e3:w2.cell? ⟨w.heap.size,3,none⟩=some (.int .i64 0):=D0.cell 3;have e4:w2.cell? ⟨w.heap.size,4,none⟩=some (.string ⟨#[]⟩):=D0.cell 4;have e5:w2.cell? ⟨w.heap.size,5,none⟩=some (.int .i64 0):=D0.cell 5;have e6:w2.cell? ⟨w.heap.size,6,none⟩=some (.slice none 0 0):=D0.cell 6;have g0:w2.cell? ⟨w.heap.size+1,0,none⟩=some (.int .i64 1):=D1.cell 0;simp[Leaves,settle,results,Tryz.results13,go_sem,e0,e1,e2,e3,e4,e5,e6,g0];refine⟨.agg Kj,R,rfl,?_,fun b h=>h,fun b h=>.inl h,Acq _ _⟩;have F0:Fr (fun _=>False) w _:=(((Fr.refl _ w).alloc_ (.cells Kj 38)).alloc_ (.cells #[.int .i64 0] 27)).alloc_ (.cells #[.string s,.int .i64 0] rdT);exact(F0.out hf (fun i hi=>by omega)).out hf2 (fun i hi=>by omega)
set_option maxRecDepth 100000 in
set_option maxHeartbeats 2000000 in
theorem Auc(s:ByteArray)(m:Ms)(w:World)(h:¬(512:Int)<(s.size:Int))(R:Nat→Prop)(hlt:∀b,R b→b<w.heap.size)(hm:Hz Tryz.prog 51 [.mn rdT (rdC s 0) (rdC s s.size)] [.p (.c (.agg m.row))])(hc:Fun Tryz.prog 52 [.c (.agg m.row)] [.c (.v (.int .i64 (Bc m)))])(v:Ms)(er:Int)(hv:Bc m=0→v=m∧er=0)(hz:Bc m≠0→v=J5∧er=1):Calls Tryz.prog 13 #[.string s] w (Ack R w v er):=by
 have hv:=hid hv;have hz:=hid hz;have hmf:∀(fn:Fn) (first cap:Array Value) (w:World),(Instr.makeFunc fn first cap).run Tryz.prog w=.ok (.func fn first cap) w:=fun _ _ _ _=>rfl
 go_enter_defers Tryz.func13,Tryz.ntmps13
 go_wp2_with fail
 have B0:=Blk.new w 38 Kj;have B1:=Blk.new_ (w.alloc (.cells Kj 38)) 27 #[.int .i64 0] (g:=w.heap.size+1) (by simp[World.alloc,-World.alloc_eq]);have B0':=B0.alloc (.cells #[.int .i64 0] 27);have B2:=Blk.new_ ((w.alloc (.cells Kj 38)).alloc (.cells #[.int .i64 0] 27)) rdT #[.string s,.int .i64 0] (g:=w.heap.size+1+1) (by simp[World.alloc,-World.alloc_eq]);have B0'':=B0'.alloc (.cells #[.string s,.int .i64 0] rdT);have B1'':=B1.alloc (.cells #[.string s,.int .i64 0] rdT);have F0:Fr (fun _=>False) w _:=(((Fr.refl _ w).alloc_ (.cells Kj 38)).alloc_ (.cells #[.int .i64 0] 27)).alloc_ (.cells #[.string s,.int .i64 0] rdT);refine(hm.2 _ R [_] _ (fun b hb=>XH (hlt b hb) F0.size) (Aky B2 fun hR=>by have:=hlt _ hR;omega)).mono ?_
 rintro e w1 ⟨ys,R1,F1,rfl,hl,hf,hR1,hR2,hp,hF⟩
 have C0:=hf.blk B0'' (by omega);have C1:=hf.blk B1'' (by omega);obtain⟨x,rfl⟩:∃x,ys=[x]:=by
  rcases ys with _|⟨x,_|⟨x',ys⟩⟩<;>simp at hl;exact⟨x,rfl⟩
 obtain⟨y,rfl,hy⟩:∃y,x=msV m y∧RV w1 R1 noG (.sl false (m.rs.map Rr.row)) y:=by
  obtain⟨G1,G2,h1,_⟩:=hp;exact Bag h1.1
 obtain⟨a,k,c,rfl⟩:∃a k c,y=.slice a k c:=by
  exact Aqo hy
 have hy:=hid hy;have hR1:=hid hR1;have hR2:=hid hR2;have hp:=hid hp;have hF:=hid hF;have HF:=hid hf;clear hf;have e0:w1.cell? ⟨w.heap.size,0,none⟩=some (.int .i64 0):=C0.cell 0;have e1:w1.cell? ⟨w.heap.size,1,none⟩=some (.bool false):=C0.cell 1;have e2:w1.cell? ⟨w.heap.size,2,none⟩=some (.bool false):=C0.cell 2;have e3:w1.cell? ⟨w.heap.size,3,none⟩=some (.int .i64 0):=C0.cell 3;have e4:w1.cell? ⟨w.heap.size,4,none⟩=some (.string ⟨#[]⟩):=C0.cell 4;have e5:w1.cell? ⟨w.heap.size,5,none⟩=some (.int .i64 0):=C0.cell 5;have e6:w1.cell? ⟨w.heap.size,6,none⟩=some (.slice none 0 0):=C0.cell 6;have f0:=fun i=>C0.frozen i;have g0:w1.cell? ⟨w.heap.size+1,0,none⟩=some (.int .i64 0):=C1.cell 0;have h0:=C1.frozen 0;simp only[Fx,msV]
 go_wp2_with fail
 have D0:Blk (((((((w1.setCell ⟨w.heap.size,0,none⟩ (.int .i64 m.id)).setCell ⟨w.heap.size,1,none⟩ (.bool m.an)).setCell ⟨w.heap.size,2,none⟩ (.bool m.ct)).setCell ⟨w.heap.size,3,none⟩ (.int .i64 m.co)).setCell ⟨w.heap.size,4,none⟩ (.string m.qn)).setCell ⟨w.heap.size,5,none⟩ (.int .i64 m.qt)).setCell ⟨w.heap.size,6,none⟩ (.slice a k c)) w.heap.size 38 #[.int .i64 m.id,.bool m.an,.bool m.ct,.int .i64 m.co,.string m.qn,.int .i64 m.qt,.slice a k c]:=
  ((((((C0.set_ 0 _).set_ 1 _).set_ 2 _).set_ 3 _).set_ 4 _).set_ 5 _).set_ 6 _
 have D1:=((((((C1.far (p:=⟨w.heap.size,0,none⟩) (by simp) (.int .i64 m.id)).far (p:=⟨w.heap.size,1,none⟩) (by simp) (.bool m.an)).far (p:=⟨w.heap.size,2,none⟩) (by simp) (.bool m.ct)).far (p:=⟨w.heap.size,3,none⟩) (by simp) (.int .i64 m.co)).far (p:=⟨w.heap.size,4,none⟩) (by simp) (.string m.qn)).far (p:=⟨w.heap.size,5,none⟩) (by simp) (.int .i64 m.qt)).far (p:=⟨w.heap.size,6,none⟩) (by simp) (.slice a k c);have F2:Fr (fun k=>k=w.heap.size) w1 _:=(((((((Fr.refl (fun k=>k=w.heap.size) w1).set_ rfl 0 (.int .i64 m.id)).set_ rfl 1 (.bool m.an)).set_ rfl 2 (.bool m.ct)).set_ rfl 3 (.int .i64 m.co)).set_ rfl 4 (.string m.qn)).set_ rfl 5 (.int .i64 m.qt)).set_ rfl 6 (.slice a k c);generalize hw2:(((((((w1.setCell ⟨w.heap.size,0,none⟩ (.int .i64 m.id)).setCell ⟨w.heap.size,1,none⟩ (.bool m.an)).setCell ⟨w.heap.size,2,none⟩ (.bool m.ct)).setCell ⟨w.heap.size,3,none⟩ (.int .i64 m.co)).setCell ⟨w.heap.size,4,none⟩ (.string m.qn)).setCell ⟨w.heap.size,5,none⟩ (.int .i64 m.qt)).setCell ⟨w.heap.size,6,none⟩ (.slice a k c))=w2 at D0 D1 F2 ⊢;clear e0 e1 e2 e3 e4 e5 e6 f0 g0 h0 hw2;have hn1:∀b,R1 b→b≠w.heap.size∧b≠w.heap.size+1:=fun b hb=>by
  rcases hR2.out b hb with g|⟨g1,g2⟩
  ·have:=hlt b g;omega
  ·rcases g2 with g2|g2
   ·omega
   ·have:=F0.size;simp[World.alloc,-World.alloc_eq]at g2;omega
 have hlt1:∀b,R1 b→b<w1.heap.size:=fun b hb=>by
  rcases hR2.out b hb with g|⟨g1,g2⟩
  ·have:=hlt b g;have:=F0.size;have:=HF.out.size;omega
  ·exact g1
 have hy2:=hy.out.mono (fun b hb=>⟨hb,F2.block b (hlt1 b hb) (hn1 b hb).1⟩) (Gle.refl _);refine(hc.2 _ R1 [_] (fun b hb=>XH (hlt1 b hb) F2.size) (Abx (Akr hy2))).mono ?_
 rintro e w3 ⟨ys,R3,rfl,hf3,hR3,hR4,hp3,hF3⟩
 obtain⟨x,rfl⟩:∃x,ys=[x]:=by
  have hl:=hp3.len;rcases ys with _|⟨x,_|⟨x',ys⟩⟩<;>simp at hl
  exact⟨x,rfl⟩
 have hx:x=.int .i64 (Bc m):=Bt (hp3.ok 0 _ _ rfl rfl);subst hx;have hf3':Fr (fun _=>False) w2 w3:=⟨hf3.os,hf3.tape,hf3.output,hf3.size,fun k hk _=>hf3.block k hk Ace⟩;have E0:=hf3'.blk D0 id;have E1:=hf3'.blk D1 id;have hy3:=hid (hy2.mono (fun b hb=>⟨hb,hf3'.block b (XH (hlt1 b hb) F2.size) id⟩) (Gle.refl _));have HF3:=hid hf3';have hp3:=hid hp3;have hn1:=hid hn1;have hlt1:=hid hlt1;clear hf3 hR3 hR4 hF3 hp3 hf3' hy2;simp only[Fx];have e0:w3.cell? ⟨w.heap.size,0,none⟩=some (.int .i64 m.id):=E0.cell 0;have e1:w3.cell? ⟨w.heap.size,1,none⟩=some (.bool m.an):=E0.cell 1;have e2:w3.cell? ⟨w.heap.size,2,none⟩=some (.bool m.ct):=E0.cell 2;have e3:w3.cell? ⟨w.heap.size,3,none⟩=some (.int .i64 m.co):=E0.cell 3;have e4:w3.cell? ⟨w.heap.size,4,none⟩=some (.string m.qn):=E0.cell 4;have e5:w3.cell? ⟨w.heap.size,5,none⟩=some (.int .i64 m.qt):=E0.cell 5;have e6:w3.cell? ⟨w.heap.size,6,none⟩=some (.slice a k c):=E0.cell 6;have f0:=fun i=>E0.frozen i;have g0:w3.cell? ⟨w.heap.size+1,0,none⟩=some (.int .i64 0):=E1.cell 0;have h0:=E1.frozen 0;by_cases hE:Bc m=0
 ·obtain⟨h1,h2⟩:=hv.out hE;have h1:=hid h1;have h2:=hid h2
  go_wp2_with fail
  refine leaves_cons (f:=50) (args:= #[.pointer (some ⟨w.heap.size,0,none⟩),.pointer (some ⟨w.heap.size+1,0,none⟩)]) (by simp) (by simp[go_sem]) ?_;refine(Xu w.heap.size (w.heap.size+1) _).mono ?_
  rintro e u' w4 ⟨rfl,rfl,hw4⟩
  have F4:Fr (fun k=>k=w.heap.size∨k=w.heap.size+1) w3 w4:=by rw[hw4];exact(((((((((Fr.refl (fun k=>k=w.heap.size∨k=w.heap.size+1) w3).set_ (.inl rfl) 0 (.int .i64 m.id)).set_ (.inl rfl) 1 (.bool m.an)).set_ (.inl rfl) 2 (.bool m.ct)).set_ (.inl rfl) 3 (.int .i64 m.co)).set_ (.inl rfl) 4 (.string m.qn)).set_ (.inl rfl) 5 (.int .i64 m.qt)).set_ (.inl rfl) 6 (.slice a k c)).set_ (.inr rfl) 0 (.int .i64 0)).alloc_ (.cells #[] 103)
  have G0:Blk w4 w.heap.size 38 #[.int .i64 m.id,.bool m.an,.bool m.ct,.int .i64 m.co,.string m.qn,.int .i64 m.qt,.slice a k c]:=by rw[hw4];exact((((((((E0.set_ 0 (.int .i64 m.id)).set_ 1 (.bool m.an)).set_ 2 (.bool m.ct)).set_ 3 (.int .i64 m.co)).set_ 4 (.string m.qn)).set_ 5 (.int .i64 m.qt)).set_ 6 (.slice a k c)).far (p:=⟨w.heap.size+1,0,none⟩) (by simp) (.int .i64 0)).alloc (.cells #[] 103)
  have G1:Blk w4 (w.heap.size+1) 27 #[.int .i64 0]:=by rw[hw4];exact((((((((E1.far (p:=⟨w.heap.size,0,none⟩) (by simp) (.int .i64 m.id)).far (p:=⟨w.heap.size,1,none⟩) (by simp) (.bool m.an)).far (p:=⟨w.heap.size,2,none⟩) (by simp) (.bool m.ct)).far (p:=⟨w.heap.size,3,none⟩) (by simp) (.int .i64 m.co)).far (p:=⟨w.heap.size,4,none⟩) (by simp) (.string m.qn)).far (p:=⟨w.heap.size,5,none⟩) (by simp) (.int .i64 m.qt)).far (p:=⟨w.heap.size,6,none⟩) (by simp) (.slice a k c)).set_ 0 (.int .i64 0)).alloc (.cells #[] 103)
  clear hw4 e0 e1 e2 e3 e4 e5 e6 f0 g0 h0;have e0:w4.cell? ⟨w.heap.size,0,none⟩=some (.int .i64 m.id):=G0.cell 0;have e1:w4.cell? ⟨w.heap.size,1,none⟩=some (.bool m.an):=G0.cell 1;have e2:w4.cell? ⟨w.heap.size,2,none⟩=some (.bool m.ct):=G0.cell 2;have e3:w4.cell? ⟨w.heap.size,3,none⟩=some (.int .i64 m.co):=G0.cell 3;have e4:w4.cell? ⟨w.heap.size,4,none⟩=some (.string m.qn):=G0.cell 4;have e5:w4.cell? ⟨w.heap.size,5,none⟩=some (.int .i64 m.qt):=G0.cell 5;have e6:w4.cell? ⟨w.heap.size,6,none⟩=some (.slice a k c):=G0.cell 6;have g0:w4.cell? ⟨w.heap.size+1,0,none⟩=some (.int .i64 0):=G1.cell 0;simp[Leaves,settle,results,Tryz.results13,go_sem,e0,e1,e2,e3,e4,e5,e6,g0];rw[h1.out,h2.out];refine⟨msV m (.slice a k c),R1,rfl,((((F0.out HF.out (fun i hi=>by omega)).out F2 (fun i hi=>by omega)).out HF3.out (fun i hi=>hi.elim))).out F4 (fun i hi=>by omega),hR1.out,fun b hb=>?_,Akr (hy3.out.mono (fun b hb=>⟨hb,F4.block b (XH (hlt1.out b hb) (XI F2.size HF3.out.size)) (by have:=hn1.out b hb;omega)⟩) (Gle.refl _))⟩;rcases hR2.out b hb with g|⟨g1,g2⟩
  ·exact .inl g
  ·refine .inr ⟨XH g1 (XI F2.size (XI HF3.out.size F4.size)),?_⟩;rcases g2 with g2|g2
   ·omega
   ·exact XI F0.size g2
 ·obtain⟨h1,h2⟩:=hz.out hE;have h1:=hid h1;have h2:=hid h2
  go_wp2_with fail
  refine leaves_cons (f:=50) (args:= #[.pointer (some ⟨w.heap.size,0,none⟩),.pointer (some ⟨w.heap.size+1,0,none⟩)]) (by simp) (by simp[go_sem]) ?_;refine(Xu w.heap.size (w.heap.size+1) _).mono ?_
  rintro e u' w4 ⟨rfl,rfl,hw4⟩
  have F4:Fr (fun k=>k=w.heap.size∨k=w.heap.size+1) w3 w4:=by rw[hw4];exact(((((((((Fr.refl (fun k=>k=w.heap.size∨k=w.heap.size+1) w3).set_ (.inl rfl) 0 (.int .i64 0)).set_ (.inl rfl) 1 (.bool false)).set_ (.inl rfl) 2 (.bool false)).set_ (.inl rfl) 3 (.int .i64 0)).set_ (.inl rfl) 4 (.string ⟨#[]⟩)).set_ (.inl rfl) 5 (.int .i64 0)).set_ (.inl rfl) 6 (.slice none 0 0)).set_ (.inr rfl) 0 (.int .i64 1)).alloc_ (.cells #[] 103)
  have G0:Blk w4 w.heap.size 38 #[.int .i64 0,.bool false,.bool false,.int .i64 0,.string ⟨#[]⟩,.int .i64 0,.slice none 0 0]:=by rw[hw4];exact((((((((E0.set_ 0 (.int .i64 0)).set_ 1 (.bool false)).set_ 2 (.bool false)).set_ 3 (.int .i64 0)).set_ 4 (.string ⟨#[]⟩)).set_ 5 (.int .i64 0)).set_ 6 (.slice none 0 0)).far (p:=⟨w.heap.size+1,0,none⟩) (by simp) (.int .i64 1)).alloc (.cells #[] 103)
  have G1:Blk w4 (w.heap.size+1) 27 #[.int .i64 1]:=by rw[hw4];exact((((((((E1.far (p:=⟨w.heap.size,0,none⟩) (by simp) (.int .i64 0)).far (p:=⟨w.heap.size,1,none⟩) (by simp) (.bool false)).far (p:=⟨w.heap.size,2,none⟩) (by simp) (.bool false)).far (p:=⟨w.heap.size,3,none⟩) (by simp) (.int .i64 0)).far (p:=⟨w.heap.size,4,none⟩) (by simp) (.string ⟨#[]⟩)).far (p:=⟨w.heap.size,5,none⟩) (by simp) (.int .i64 0)).far (p:=⟨w.heap.size,6,none⟩) (by simp) (.slice none 0 0)).set_ 0 (.int .i64 1)).alloc (.cells #[] 103)
  clear hw4 e0 e1 e2 e3 e4 e5 e6 f0 g0 h0;have e0:w4.cell? ⟨w.heap.size,0,none⟩=some (.int .i64 0):=G0.cell 0;have e1:w4.cell? ⟨w.heap.size,1,none⟩=some (.bool false):=G0.cell 1;have e2:w4.cell? ⟨w.heap.size,2,none⟩=some (.bool false):=G0.cell 2;have e3:w4.cell? ⟨w.heap.size,3,none⟩=some (.int .i64 0):=G0.cell 3;have e4:w4.cell? ⟨w.heap.size,4,none⟩=some (.string ⟨#[]⟩):=G0.cell 4;have e5:w4.cell? ⟨w.heap.size,5,none⟩=some (.int .i64 0):=G0.cell 5;have e6:w4.cell? ⟨w.heap.size,6,none⟩=some (.slice none 0 0):=G0.cell 6;have g0:w4.cell? ⟨w.heap.size+1,0,none⟩=some (.int .i64 1):=G1.cell 0;simp[Leaves,settle,results,Tryz.results13,go_sem,e0,e1,e2,e3,e4,e5,e6,g0];rw[h1.out,h2.out];refine⟨.agg Kj,R1,rfl,((((F0.out HF.out (fun i hi=>by omega)).out F2 (fun i hi=>by omega)).out HF3.out (fun i hi=>hi.elim))).out F4 (fun i hi=>by omega),hR1.out,fun b hb=>?_,Acq _ _⟩;rcases hR2.out b hb with g|⟨g1,g2⟩
  ·exact .inl g
  ·refine .inr ⟨XH g1 (XI F2.size (XI HF3.out.size F4.size)),?_⟩;rcases g2 with g2|g2
   ·omega
   ·exact XI F0.size g2
theorem Aee{s:ByteArray}:∀{n a:Nat} {L:List Rr} {a':Nat},H3 s n a=some (L,a')→L.length=n∧∀r∈L,r.nm.size≤1000∧r.tx.size≤s.size∧r.tg.size≤1000
 |0,a,L,a',h=>by
  unfold H3 at h;cases h;exact⟨rfl,fun r hr=>by cases hr⟩
 |n+1,a,L,a',h=>by
  unfold H3 at h;rcases e:Ss s a with _|⟨r,a1⟩
  ·rw[e]at h;cases h
  rw[e,ZA]at h;simp only at h;rcases e2:H3 s n a1 with _|⟨L1,a2⟩
  ·rw[e2]at h;cases h
  rw[e2,ZA]at h;cases h;obtain⟨h1,h2⟩:=Aee e2;have hb:=Wz e;refine⟨by rw[ZJ,h1],fun x hx=>?_⟩;rcases XC.1 hx with rfl|hx
  ·exact⟨hb.2.1,hb.2.2.1,hb.2.2.2⟩
  ·exact h2 x hx
theorem Atq{s:ByteArray}{m:Ms}(hs:s.size≤1000000)(h:Re s=some m):m.Sized∧m.rs.length≤20:=by
 unfold Re at h;rcases e1:B9 s 0 with _|⟨x1,a1⟩
 ·rw[e1]at h;cases h
 rw[e1,ZA]at h;simp only at h;rcases e2:Co s a1 with _|⟨x2,a2⟩
 ·rw[e2]at h;cases h
 rw[e2,ZA]at h;simp only at h;rcases e3:Co s a2 with _|⟨x3,a3⟩
 ·rw[e3]at h;cases h
 rw[e3,ZA]at h;simp only at h;split at h;rotate_left
 ·cases h
 rcases e4:B9 s a3 with _|⟨x4,a4⟩
 ·rw[e4]at h;cases h
 rw[e4,ZA]at h;simp only at h;split at h;rotate_left
 ·cases h
 rcases e5:B9 s a4 with _|⟨x5,a5⟩
 ·rw[e5]at h;cases h
 rw[e5,ZA]at h;simp only at h;split at h;rotate_left
 ·cases h
 rename_i c5;rcases e6:B9 s a5 with _|⟨x6,a6⟩
 ·rw[e6]at h;cases h
 rw[e6,ZA]at h;simp only at h;split at h;rotate_left
 ·cases h
 rcases e7:B9 s a6 with _|⟨x7,a7⟩
 ·rw[e7]at h;cases h
 rw[e7,ZA]at h;simp only at h;split at h;rotate_left
 ·cases h
 rcases e8:H4 s a7 with _|⟨x8,a8⟩
 ·rw[e8]at h;cases h
 rw[e8,ZA]at h;simp only at h;rcases e9:B9 s a8 with _|⟨x9,a9⟩
 ·rw[e9]at h;cases h
 rw[e9,ZA]at h;simp only at h;rcases e10:B9 s a9 with _|⟨x10,a10⟩
 ·rw[e10]at h;cases h
 rw[e10,ZA]at h;simp only at h;split at h;rotate_left
 ·cases h
 rcases e11:H3 s x5 a10 with _|⟨x11,a11⟩
 ·rw[e11]at h;cases h
 rw[e11,ZA]at h;simp only at h;split at h;rotate_left
 ·cases h
 cases h;obtain⟨h1,h2⟩:=Aee e11;have h8:=(Hv e8).2;refine⟨⟨by show x8.size≤_;omega,fun r hr=>?_⟩,by show x11.length≤20;omega⟩;obtain⟨g1,g2,g3⟩:=h2 r hr;exact⟨by omega,by omega,by omega⟩
theorem Ya{s:ByteArray}(h:512<s.size):rdP s=(J5,2):=if_pos h
theorem Yw{s:ByteArray}(h:¬512<s.size)(e:Re s=none):rdP s=(J5,1):=by unfold rdP;rw[if_neg h,e]
theorem Sb{s:ByteArray}{m:Ms}(h:¬512<s.size)(e:Re s=some m):rdP s=if Bc m=0 then(m,0)else(J5,1):=by unfold rdP;rw[if_neg h,e]
theorem Ara(s:ByteArray)(w:World)(R:Nat→Prop)(hlt:∀b,R b→b<w.heap.size):Calls Tryz.prog 13 #[.string s] w (Ack R w (rdP s).1 (rdP s).2):=by
 by_cases h:512<s.size
 ·rw[Ya h];exact Amf s w (by omega) R hlt
 ·rcases e:Re s with _|m
  ·rw[Yw h e];exact As7 s w (by omega) R hlt (Acw e (by omega))
  ·obtain⟨h1,h2⟩:=Atq (by omega) e;rw[Sb h e];refine Auc s m w (by omega) R hlt (Adb e (by omega)) (Ud m h1 (by omega)) _ _ (fun he=>?_) (fun he=>?_)
   ·rw[if_pos he];exact⟨rfl,rfl⟩
   ·rw[if_neg he];exact⟨rfl,rfl⟩
theorem S9(s:ByteArray):Fun Tryz.prog 13 [.c (.v (.string s))] [.c (.agg (rdP s).1.row),.c (.v (.int .i64 (rdP s).2))]:=by
 refine⟨⟨_,Tryz.func13,by kernel_rfl,by kernel_rfl⟩,fun w R xs hlt hp=>?_⟩;obtain⟨x,rfl⟩:∃x,xs=[x]:=by
  have hl:=hp.len;rcases xs with _|⟨x,_|⟨x',xs⟩⟩<;>simp at hl
  exact⟨x,rfl⟩
 have hx:x=.string s:=Bt (hp.ok 0 _ _ rfl rfl);subst hx;refine(Ara s w R hlt).mono ?_
 rintro e w' ⟨x,R',rfl,hf,h1,h2,h3⟩
 have hnb:∀b,¬Ax [.c (.agg (rdP s).1.row),.c (.v (.int .i64 (rdP s).2))] [x,.int .i64 (rdP s).2] b:=fun b=>Li (by intro p hp;rcases XC.1 hp with rfl|hp;exact⟨_,rfl⟩;rcases XC.1 hp with rfl|hp;exact⟨_,rfl⟩;cases hp);refine⟨[x,.int .i64 (rdP s).2],R',rfl,⟨hf.os,hf.tape,hf.output,hf.size,fun k hk _=>hf.block k hk id⟩,h1,fun b hb=>(h2 b hb).imp id (fun g=>⟨g.1,.inr g.2⟩),⟨rfl,fun i p y q1 q2=>?_,fun i j T sz rows T' sz' rows' x y b hij q1=>?_,fun b hb=>(hnb b hb).elim⟩,fun b hb=>(hnb b hb).elim⟩
 ·rcases i with _|_|i
  ·cases q1;cases q2;exact h3
  ·cases q1;cases q2;exact .v _
  ·simp at q1
 ·rcases i with _|_|i<;>simp at q1
namespace Pl
def m0:Ms:=⟨258,false,false,0,⟨#[97,46,98]⟩,1,[]⟩
theorem Asd:Bc m0=0:=by decide+kernel
theorem Aj6:(Bu m0).length=21:=by decide+kernel
theorem Yh{m:Ms}(h:Bc m=0)(hl:¬512<(Bu m).length):rdP ⟨(Bu m).toArray⟩=(m,0):=by
 obtain⟨h1,h2⟩:=Hl h;rw[Sb (by simpa[ByteArray.size]using hl) (As4 h1 h2),if_pos h]
end Pl
theorem Fun.sub1{P:Program}{f:FuncId}{u u':V}{rs:List Par}(h:Fun P f [.c u] rs)(hs:∀(w:World) (R:Nat→Prop) (x:Value),RV w R noG u' x→RV w R noG u x):Fun P f [.c u'] rs:=by
 refine⟨h.1,fun w R xs hlt hp=>?_⟩;obtain⟨x,rfl⟩:∃x,xs=[x]:=by
  have hl:=hp.len;rcases xs with _|⟨x,_|⟨x',xs⟩⟩<;>simp at hl
  exact⟨x,rfl⟩
 have hq:∀b,Ax [.c u] [x] b↔Ax [.c u'] [x] b:=fun b=>⟨fun h=>(Ace h).elim,fun h=>(Ace h).elim⟩;refine(h.2 w R [x] hlt (Abx (hs w R x (hp.ok 0 _ _ rfl rfl)))).mono ?_
 rintro e w' ⟨ys,R',h1,h2,h3,h4,h5,h6⟩
 exact⟨ys,R',h1,⟨h2.os,h2.tape,h2.output,h2.size,fun k hk hn=>h2.block k hk fun q=>hn ((hq k).1 q)⟩,h3,fun b hb=>(h4 b hb).imp id fun g=>⟨g.1,g.2.imp (hq b).1 id⟩,h5,fun b hb=>(h6 b hb).imp (hq b).1 id⟩
def U2(m:Ms):List V:=[.v (.int .i64 m.id),.v (.bool m.an),.v (.bool m.ct),.v (.int .i64 m.co),.v (.string m.qn),.v (.int .i64 m.qt),.v (.slice none 0 0)]
theorem Ad7{w:World}{R:Nat→Prop}{m:Ms}{x:Value}(hm:m.rs=[])(h:RV w R noG (.agg (U2 m)) x):RV w R noG (.agg m.row) x:=by
 cases h with
 |agg cs xs hl h=>
  obtain⟨x0,x1,x2,x3,x4,x5,x6,rfl⟩:∃x0 x1 x2 x3 x4 x5 x6,xs=[x0,x1,x2,x3,x4,x5,x6]:=by
   rcases xs with _|⟨x0,_|⟨x1,_|⟨x2,_|⟨x3,_|⟨x4,_|⟨x5,_|⟨x6,_|⟨x7,xs⟩⟩⟩⟩⟩⟩⟩⟩<;>simp[U2]at hl;exact⟨_,_,_,_,_,_,_,rfl⟩
  have h0:=Bt (h 0 _ _ rfl rfl);have h1:=Bt (h 1 _ _ rfl rfl);have h2:=Bt (h 2 _ _ rfl rfl);have h3:=Bt (h 3 _ _ rfl rfl);have h4:=Bt (h 4 _ _ rfl rfl);have h5:=Bt (h 5 _ _ rfl rfl);have h6:=Bt (h 6 _ _ rfl rfl);subst h0 h1 h2 h3 h4 h5 h6;exact Akr (by rw[hm];exact .nil false none 0 (by simp))
theorem Aq4:Fun Tryz.prog 9 [] [.c (.v (.bool true))]:=by
 obtain⟨w1,w2⟩:=Aeo Asd (by rw[Aj6];decide);have r1:=Yh Asd (by rw[Aj6];decide);have hW:=(Ab2 m0 ⟨by decide,by simp[m0]⟩ (by decide)).sub1 (u':=.agg (U2 m0)) fun w R x h=>Ad7 rfl h;rw[w1,w2]at hW;obtain⟨t,ht⟩:∃t:ByteArray,t=⟨(Bu m0).toArray⟩:=⟨_,rfl⟩;have hs:t.size=21:=by rw[ht];simpa[ByteArray.size]using Aj6
 rw[←ht]at hW r1;have hR:=S9 t;rw[r1]at hR;simp only at hR;refine A4 M7 rfl ?_;refine G0 ?_;refine .inl (cX hW ?_);refine G1 ?_;intro gg;refine .inl (cX hR ?_);(refine goI ?_;repeat (intro gg;refine goI ?_));rw[hs];refine G0 ?_;rw[show(m0.qn.toList==(⟨#[97,46,98]⟩:ByteArray).toList)=true from beq_self_eq_true _];(exact⟨[],aI⟩)
namespace Pl
def bA(l:List UInt8):ByteArray:=⟨l.toArray⟩
theorem Ahl(l r:List UInt8):bA l++bA r=bA (l++r):=by
 apply ByteArray.ext;rw[ByteArray.data_append];simp[bA]
theorem Alh(l:List UInt8):(bA l).size=l.length:=by simp[bA,ByteArray.size]
theorem Alb(s:ByteArray):bA s.data.toList=s:=by simp[bA]
end Pl
namespace Pl
end Pl
section
open Go.Joins Go.ChangeShapes Go.WideShapes Go.Deep
def Bd1(B:Nat):V→Prop
 |.v (.string x)=>x.size≤B
 |_=>True
def Bd(B:Nat):V→Prop
 |.v (.string x)=>x.size≤B
 |.sl _ rows=>rows.length≤B∧∀row∈rows,∀u∈row,Bd1 B u
 |_=>True
theorem Bd.one{B:Nat}{u:V}(h:Bd B u):Bd1 B u:=by
 unfold Bd at h;unfold Bd1;split at h<;>simp_all
structure Bc1{H:Type}(bk:DataW H→Nat):Prop where
 str:∀l,l.length≤bk (.lit (.string l))
 agg:∀ds d,d∈ds→bk d≤bk (.agg ds)
 sl:∀es sp,es.length≤bk (.slice es sp)∧∀d∈es,bk d≤bk (.slice es sp)
section
variable {H:Type} {enc:TypeId×Value→H} {P:Program} {w:World} {base:Nat} {spare:Nat→Bool} {held:Bool} {bk:DataW H→Nat} {B:Nat}
end
end

structure Awe(m:Ms):Prop where
 sz:m.Sized
 ln:m.rs.length≤1048576
namespace Pl
def Fa(m:Ms)(n:Nat):Ms:=⟨m.id,m.an,m.ct||decide (n<m.rs.length),m.co,m.qn,m.qt,m.rs.take n⟩
theorem Aml{m:Ms}(h:m.Good)(n:Nat):(Fa m n).Good:=⟨h.id,h.co,h.qn,h.qnz,h.qt,by show(m.rs.take n).length≤20;have:=h.len;rw[ZM];omega,fun r hr=>h.rs r (List.mem_of_mem_take hr)⟩
theorem W4(m:Ms):Fa m m.rs.length=m:=by
 obtain⟨id,an,ct,co,qn,qt,rs⟩:=m;unfold Fa;simp
def Tg(m:Ms)(z:Int):Nat→ByteArray×Int
 |0=>if((Bu (Fa m 0)).length:Int)≤z then(bA (Bu (Fa m 0)),0)else(⟨#[]⟩,2)
 |n+1=>if((Bu (Fa m (n+1))).length:Int)≤z then(bA (Bu (Fa m (n+1))),0)else Tg m z n
theorem Sd{m:Ms}{z:Int}{n:Nat}(h:((Bu (Fa m n)).length:Int)≤z):Tg m z n=(bA (Bu (Fa m n)),0):=by
 cases n with
 |zero=>exact if_pos h
 |succ n=>exact if_pos h
theorem Akk{m:Ms}{z:Int}{n:Nat}(h:¬((Bu (Fa m (n+1))).length:Int)≤z):Tg m z (n+1)=Tg m z n:=if_neg h
theorem Aoz{m:Ms}{z:Int}(h:¬((Bu (Fa m 0)).length:Int)≤z):Tg m z 0=(⟨#[]⟩,2):=if_neg h
def N7(m:Ms)(z:Int):ByteArray×Int:=bif !wIn z 12 512 then(⟨#[]⟩,3)else if Bc m≠0 then(⟨#[]⟩,Bc m)else Tg m z m.rs.length
end Pl
set_option maxHeartbeats 2000000 in
theorem Ato(m:Ms)(z:Int)(hm:Awe m):Fun Tryz.prog 123 [.c (.agg m.row),.c (.v (.int .i64 z))] [.c (.v (.string (N7 m z).1)),.c (.v (.int .i64 (N7 m z).2))]:=by
 have hl:m.rs.length≤9223372036854775807:=by have:=hm.ln;omega
 have hC:=Ud m hm.sz hl;have e0:N7 m z=bif !wIn z 12 512 then(⟨#[]⟩,3)else if Bc m≠0 then(⟨#[]⟩,Bc m)else Tg m z m.rs.length:=rfl
 refine A4 Aj4 rfl ?_;refine G1 ?_;intro gg;revert gg;intro gz;refine .inl (cX (Ia z 12 512) ?_);refine G1 ?_;intro gg;refine Ag (fun k0=>?_) (fun k0=>?_)<;>rw[k0]<;>rw[k0]at e0
 ·refine G0 ?_;rw[e0];(exact⟨[],aI⟩)
 ·simp only[cond_false]at e0;refine G0 ?_;refine .inl (cX hC ?_);refine G1 ?_;intro gg;by_cases he:Bc m=0
  ·rw[if_neg (by simp[he])]at e0;rw[show(Bc m !=0)=false by simp[he]];have hg:=(Hl he).1;have hln:=hg.len;refine G0 ?_;(refine⟨[],none,{n:Nat//n≤m.rs.length∧Tg m z n=Tg m z m.rs.length},[1,2],fun⟨n,hn,hf⟩=>[],[],fun⟨n,hn,hf⟩=>[(32,⟨gz,.b 38,7,[(Fa m n).row]⟩)],fun⟨n,hn,hf⟩=>n,trivial,fun _=>⟨trivial,fun _=>⟨⟨m.rs.length,ZT _,rfl⟩,tI,A2 _ _,?_,A3 _ _⟩⟩,fun⟨n,hn,hf⟩=>?_⟩;focus (exact⟨congrArg (fun r=>some (Ent.mk gz (.b 38) 7 [r])) (show m.row=(Fa m m.rs.length).row by rw[W4]),trivial⟩));have hw:Fun Tryz.prog 77 [.c (.agg (Fa m n).row)] [.c (.v (.string (bA (Bu (Fa m n)))))]:=Ab4 _ (Aml hg n);refine G0 ?_;refine .inl (cX hw ?_);refine G1 ?_;intro gg;rw[Alh];by_cases h1:((Bu (Fa m n)).length:Int)≤z
   ·rw[show decide (((Bu (Fa m n)).length:Int)≤z)=true from ZX h1];rw[←hf,Sd h1]at e0;refine G0 ?_;rw[e0];(exact⟨[],aI⟩)
   ·rw[show decide (((Bu (Fa m n)).length:Int)≤z)=false from ZY h1];rcases n with _|n
    ·rw[←hf,Aoz h1]at e0;refine G0 ?_;rw[e0];(exact⟨[],aI⟩)
    ·have hlen:((Fa m (n+1)).rs.map Rr.row).length=n+1:=by
      show((m.rs.take (n+1)).map Rr.row).length=n+1;rw[ZE,ZM];omega
     have hsb:(((Fa m (n+1)).rs.map Rr.row).length:Int)-1=(n:Int):=by rw[hlen];omega
     have hsl:((((Fa m (n+1)).rs.map Rr.row).drop 0).take (n-0))=(Fa m n).rs.map Rr.row:=by
      show(((m.rs.take (n+1)).map Rr.row).drop 0).take n=(m.rs.take n).map Rr.row;rw[List.drop_zero,←List.map_take,List.take_take,Nat.min_eq_left (by omega)]
     have hct:(m.ct||decide (n<m.rs.length))=true:=by rw[show decide (n<m.rs.length)=true from ZX (by omega),Bool.or_true]
     have hrow:([.v (.int .i64 m.id),.v (.bool m.an),.v (.bool true),.v (.int .i64 m.co),.v (.string m.qn),.v (.int .i64 m.qt),.sl false ((Fa m n).rs.map Rr.row)]:List V)=(Fa m n).row:=by
      unfold Ms.row Fa;rw[hct]
     refine G0 ?_;rw[show((((Fa m (n+1)).rs.map Rr.row).length:Int)==0)=false by rw[hlen];exact ZG.2 (by omega)];refine G0 ?_;refine⟨0,n,rfl,⟨.i64,congrArg (fun x=>V.v (.int .i64 x)) hsb⟩,ZU _,by rw[hlen];omega,.inr ⟨_,A7 (k:=0) (l:=(Fa m (n+1)).rs) (by show 0<(m.rs.take (n+1)).length;rw[ZM];omega),rfl⟩,?_⟩;rw[hsl];refine G0 ?_;(exact⟨none,trivial,fun gr=>⟨⟨n,by omega,(Akk h1).symm.trans hf⟩,by show n<n+1;omega,tI,tI,⟨congrArg (fun r=>some (Ent.mk gz (.b 38) 7 [r])) hrow,trivial⟩,tI⟩⟩)
  ·rw[if_pos he]at e0;rw[show(Bc m !=0)=true from ZZ.2 he];refine G0 ?_;rw[e0];(exact⟨[],aI⟩)
namespace Pl
def atB(s:ByteArray)(a:Nat):Nat:=match s[a]? with|some c=>c.toNat|none=>0
theorem Se{s:ByteArray}{a:Nat}{c:UInt8}(h:s[a]? =some c):atB s a=c.toNat:=by unfold atB;rw[h]
theorem Yo(s:ByteArray)(a:Nat):atB s a<256:=by
 unfold atB;split
 ·exact UInt8.toNat_lt _
 ·omega
def Azf(s:ByteArray)(a:Nat):Nat→Nat
 |0=>0
 |k+1=>256*Azf s a k+atB s (a+k)
def Ol(s:ByteArray)(k a:Nat):Nat:=if a+k≤s.size then Azf s a k else 0
def Fc(s:ByteArray)(k a:Nat):Nat:=if a+k≤s.size then a+k else max a s.size
def Aec(s:ByteArray)(k a:Nat)(b:Bool):Bool:=b||decide (s.size<a+k)
theorem K5{s:ByteArray}{k a m:Nat}(h1:a≤m)(h2:s.size≤m):Fc s k a≤m:=by
 unfold Fc;split<;>omega
end Pl
namespace Pl
abbrev Ok:ByteArray:=⟨#[46]⟩
theorem Z8(l:List ByteArray):Dc Ok l=bA (Lib.join (l.map (·.data.toList)) [46]):=rfl
theorem An1(x:ByteArray):Dc Ok [x]=x:=by
 rw[Z8];simp[Lib.join,List.intercalate,Alb]
theorem Amm(l:List (List UInt8))(x sep:List UInt8)(h:l≠[]):Lib.join (l++[x]) sep=Lib.join l sep++(sep++x):=by
 rcases l with _|⟨y,l⟩
 ·exact absurd rfl h
 ·rw[List.cons_append,Lib.join_cons,Lib.join_cons];unfold Lib.joinTail;simp
theorem Aj5(l:List ByteArray)(x:ByteArray)(h:l≠[]):Dc Ok (l++[x])=Dc Ok l++Ok++x:=by
 rw[Z8,Z8,ZI,List.map_cons,List.map_nil,Amm _ _ _ (by simpa using h)]
 conv=>rhs;rhs;rw[←Alb x]
 rw[show Ok=bA [46]from rfl,Ahl,Ahl,ZS]
theorem Zo{α:Type}{l:List α}{k:Nat}(h:k<l.length):l.take (k+1)=l.take k++[l[k]]:=by rw[XT,ZC h];rfl
theorem Aej{l:List ByteArray}(h:0<l.length):Dc Ok (l.take 0)++l[0]=Dc Ok (l.take (0+1)):=by
 rw[Zo h,List.take_zero,List.nil_append,An1,show Dc Ok []=bA []from rfl]
 conv=>lhs;rhs;rw[←Alb l[0]]
 rw[Ahl,List.nil_append,Alb]
theorem Ail{l:List ByteArray}{k:Nat}(h:k+1<l.length):Dc Ok (l.take (k+1))++Ok++l[k+1]=Dc Ok (l.take (k+1+1)):=by
 rw[Zo h,Aj5 _ _ (by intro e;have:=congrArg List.length e;rw[ZM]at this;simp only[ZN]at this;omega)]
theorem Amk(l:List ByteArray)(h:∀x∈l,x.size≤1000)(k:Nat)(hk:k≤l.length):(Dc Ok (l.take k)).size≤1001*k:=by
 induction k with
 |zero=>exact ZT 0
 |succ k ih=>
  have h1:=ih (by omega);have h2:=h _ (ZK (show k<l.length by omega));rcases k with _|k
  ·rw[←Aej (by omega),XP];omega
  ·rw[←Ail (by omega),XP,XP];have:Ok.size=1:=rfl;omega
end Pl
namespace Pl
def Aoe(s:ByteArray)(a:Nat):Nat→List UInt8
 |0=>[]
 |i+1=>Aoe s a i++[Ih (UInt8.ofNat (atB s (a+i)))]
theorem Aqh(s:ByteArray)(a n:Nat):(Aoe s a n).length=n:=by
 induction n with
 |zero=>rfl
 |succ n ih=>show(Aoe s a n++[_]).length=n+1;rw[ZF,ih];rfl
def P1(s:ByteArray):Nat→Nat→List ByteArray→Option Nat→Nat→Option (List ByteArray×Nat)×Nat
 |0,_,_,_,_=>(none,0)
 |f+1,a,l,e,fr=>
  if a+1≤s.size then
   if atB s a=0 then(some (l,e.getD (a+1)),0)
   else if 192≤atB s a then
    if a+2≤s.size∧(atB s a-192)*256+atB s (a+1)<fr then P1 s f ((atB s a-192)*256+atB s (a+1)) l (some (e.getD (a+2))) ((atB s a-192)*256+atB s (a+1))
    else(none,(atB s a-192)*256+atB s (a+1))
   else if a+1+atB s a≤s.size∧lab (Aoe s (a+1) (atB s a))=true∧l.length+1≤8 then P1 s f (Fc s (atB s a) (a+1)) (l++[bA (Aoe s (a+1) (atB s a))]) e fr
   else(none,Fc s (atB s a) (a+1))
  else(none,max a s.size)
def Aiu(s:ByteArray)(a:Nat)(b:Bool):Option (List ByteArray×Nat)×Nat:=bif b then(none,a)else P1 s (a+10) a [] none a
def Ls(s:ByteArray)(a:Nat)(b:Bool):ByteArray×Nat×Bool:=match Aiu s a b with
 |(some p,_)=>(Dc Ok p.1,p.2,false)
 |(none,x)=>(⟨#[]⟩,x,true)
def eI:Option Nat→Int
 |none=> -1
 |some x=>(x:Int)
structure NqI(s:ByteArray)(Q:Option (List ByteArray×Nat)×Nat)(a:Nat)(b:Bool)(l:List ByteArray)(e:Option Nat)(fr:Nat):Prop where
 ha:a≤1000000
 hl:l.length≤9
 hz:∀x∈l,x.size≤1000
 he:e.getD 0≤1000000
 hf:fr≤1000000
 no:b=false→l.length≤8∧∃f,fr+10≤f+l.length∧P1 s f a l e fr=Q
 yes:b=true→Q=(none,a)
section
variable {s:ByteArray} {Q:Option (List ByteArray×Nat)×Nat} {a fr:Nat} {l:List ByteArray} {e:Option Nat}
theorem NqI.out(h:NqI s Q a false l e fr)(c:¬a+1≤s.size):Q=(none,max a s.size):=by
 obtain⟨h8,f,hf,hq⟩:=h.no rfl;obtain⟨f,rfl⟩:∃f',f=f'+1:=⟨f-1,by omega⟩;rw[←hq,P1,if_neg c]
theorem NqI.zero(h:NqI s Q a false l e fr)(c:a+1≤s.size)(c0:atB s a=0):Q=(some (l,e.getD (a+1)),0):=by
 obtain⟨h8,f,hf,hq⟩:=h.no rfl;obtain⟨f,rfl⟩:∃f',f=f'+1:=⟨f-1,by omega⟩;rw[←hq,P1,if_pos c,if_pos c0]
theorem Azu(s:ByteArray)(a:Nat):(atB s a-192)*256+atB s (a+1)≤1000000:=by
 have:=Yo s a;have:=Yo s (a+1);omega
theorem At6{e:Option Nat}{x:Nat}(h:e.getD 0≤1000000)(hx:x≤1000000):(some (e.getD x)).getD 0≤1000000:=by
 cases e with
 |none=>exact hx
 |some y=>exact h
theorem Awx(h:∀x∈l,x.size≤1000){n:Nat}(hn:n<256)(b:Nat):∀x∈l++[bA (Aoe s b n)],x.size≤1000:=fun x hx=>by
 rcases XM.1 hx with hx|hx
 ·exact h x hx
 ·rw[XN]at hx;subst hx;rw[Alh,Aqh];omega
theorem Ajx{b:Bool}{p:List ByteArray×Nat}{x:Nat}(h:Aiu s a b=(some p,x)):Ls s a b=(Dc Ok p.1,p.2,false):=by unfold Ls;rw[h]
theorem Ai7{b:Bool}{x:Nat}(h:Aiu s a b=(none,x)):Ls s a b=(⟨#[]⟩,x,true):=by unfold Ls;rw[h]
end
end Pl
end Go.Proofs.YtkbjgdcdjccnaaaGreatDoor
