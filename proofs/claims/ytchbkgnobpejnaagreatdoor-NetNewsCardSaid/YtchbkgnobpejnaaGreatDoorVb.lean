/- Texts of this claim, joined. -/
import Derived.Test.YtchbkgnobpejnaaGreatDoorRows
import Derived.BigGuardPart
import Derived.Deep.Light
import Derived.Laws.IdiomStrings
import Derived.Test.YtchbkgnobpejnaaGreatDoorWAbsQ
import Derived.SizedLaws
import Derived.Deep.Slices
import Derived.Laws.CopyRow
import Derived.Laws.CopyOwn
import Derived.Deep.RegionLaw
import Derived.Lib.AppendZerosOnto
import Derived.Lib.Overlaps
import Derived.Laws.Externs
import Derived.OwnWalk
import Derived.Maps.AppendAt
import Derived.Deep.AppendLies
import Derived.Lib.Walk
import Derived.Lib.SliceRun
import Derived.Lib.JoinLaws
import Derived.Lib.AppendZeros
import Derived.WalkSpells
import Derived.Test.YtchbkgnobpejnaaGreatDoorVa
set_option linter.unusedSimpArgs false
set_option linter.unusedVariables false
namespace Go.Proofs.YtchbkgnobpejnaaGreatDoor
open Go.RowKit Pl
theorem Aaa{s:ByteArray}{k:Nat}(h:∀j,(hj:j<s.data.toList.length)→j<k→okB (s.data.toList[j]).toNat=true)(hlt:k<s.size)(hk:okB (s[k]).toNat=true):
  ∀j,(hj:j<s.data.toList.length)→j<k+1→okB (s.data.toList[j]).toNat=true:=by
 intro j hj hjk;rcases(by omega:j<k∨j=k)with g|rfl
 ·exact h j hj g
 ·exact hk
theorem Qh(s:ByteArray):s.toList.isEmpty=decide (s.size=0):=by
 rw[ByteArray.toList_eq,Bool.eq_iff_iff,List.isEmpty_iff_length_eq_zero,decide_eq_true_eq,Array.length_toList];rfl
theorem Aix{s:ByteArray}(h1:1≤s.size∧s.size≤30→lab s.data.toList=true)(h2:¬(1≤s.size∧s.size≤30)→lab s.data.toList=false)(e:s.toList.isEmpty=false):decide ((s.size:Int)≤30)=lab s.data.toList:=by
 have e0:s.size≠0:=by simpa[Qh]using e
 by_cases g:s.size≤30
 ·rw[h1 ⟨by omega,g⟩];simp;omega
 ·rw[h2 (by omega)];simp;omega
theorem Ai8{s:ByteArray}(h2:¬(1≤s.size∧s.size≤30)→lab s.data.toList=false)(e:s.toList.isEmpty=true):false=lab s.data.toList:=by
 have e0:s.size=0:=by simpa[Qh]using e
 rw[h2 (by omega)]
theorem Ahg(w:World)(C:Array Value)(t:TypeId)(fr:Nat×Nat)(k:Nat):(w.alloc (.cells C t fr)).drew.cell? ⟨w.heap.size,k,none⟩=C[k]? :=by
 have h:(w.alloc (.cells C t fr)).drew.heap[w.heap.size]? =some (.cells C t fr):=heap_alloc_new w _;unfold World.cell?;rw[h];rfl
theorem Aec{s:ByteArray}{k:Nat}(hlt:k<s.size)(hk:okB (s[k]).toNat=false):false=lab s.data.toList:=
 (Al3 (i:=k) (s:=s.data.toList) (by simpa using hlt) hk).symm
theorem T4 (s : ByteArray) (w : World) (hs : s.size ≤ 9223372036854775807) :
    Calls Tryz.prog 27 #[.string s] w fun e w' => e = .returned (.bool (lab s.data.toList)) ∧ w = w' := by
  go_enter Tryz.func27, Tryz.ntmps27
  go_wp2
  go_loop [3] (fun i => ∃ k : Nat, k ≤ s.size ∧ i = .int .i64 k ∧ ∀ j, (hj : j < s.data.toList.length) → j < k → okB (s.data.toList[j]).toNat = true) (fun i => s.size - (intOf i).toNat)
  case atStart => exact ⟨0, ZU _, rfl, fun j _ h => absurd h (by omega)⟩
  case round =>
    obtain ⟨k, hk, rfl, hall⟩ := hrel
    have HA := hid hall
    clear hall
    by_cases hlt : k < s.size
    · go_wp2
      all_goals first
        | (go_round
           case rel => exact ⟨k + 1, by omega, by go_num, Aaa HA.out hlt (Aep (by go_light; clear HA; first | omega | (simp_all; done) | (simp_all; omega)))⟩
           case measure => simp [intOf]; omega)
        | (go_ret
           exact ⟨I3 (Aec hlt (Aij (by go_light; clear HA; first | omega | (simp_all; done) | (simp_all; omega)))), rfl⟩)
    · have HL := fun (g : 1 ≤ s.size ∧ s.size ≤ 30) => Af0 (s := s.data.toList) (fun i hi => HA.out i hi (by simp at hi; omega)) (by simpa using g.1) (by simpa using g.2)
      have HN := fun (g : ¬ (1 ≤ s.size ∧ s.size ≤ 30)) => Zx (s := s.data.toList) (by simpa using g)
      have HL := hid HL
      have HN := hid HN
      clear HA
      go_wp2
      all_goals go_ret
      all_goals exact ⟨I3 (by
        go_light
        by_cases g : 1 ≤ s.size ∧ s.size ≤ 30
        · rw [HL.out g] <;> first | rfl | (simp <;> omega)
        · rw [HN.out g] <;> first | rfl | (simp <;> omega)), rfl⟩
theorem Ag4(s:ByteArray)(w:World):∃(cap:Nat) (C:Array Value) (fr:Nat×Nat),
  (convert 9 122 (.string s)).run Tryz.prog w=.ok (.slice (some ⟨w.heap.size,0,none⟩) s.size cap) (w.drew.alloc (.cells C 5 fr))∧
  ∀j,(h:j<s.size)→C[j]? =some (.int .u8 ((s[j]).toNat:Int)):=by
 refine⟨_,_,_,run_bytes_of_string w 9 122 5 s Tryz.underlying9 Tryz.underlying122 Tryz.underlying5,?_⟩;intro j h;exact bytesRow_at s _ j h
set_option maxRecDepth 100000 in
theorem Ab4 (s : ByteArray) (w : World) (hs : s.size ≤ 9223372036854775807) :
    Calls Tryz.prog 44 #[.string s] w fun e w' => e = .returned (.bool (lab s.data.toList)) ∧ Below w.heap.size w w' ∧ w.drawn ≤ w'.drawn := by
  obtain ⟨cap, C, fr, hrun, hC⟩ := Ag4 s w
  have HC := hid hC
  clear hC
  have hB : Below w.heap.size w (w.alloc (.cells C 5 fr)).drew ∧ w.drawn ≤ (w.alloc (.cells C 5 fr)).drew.drawn := ⟨(by repeat (first | exact Below.refl _ _ | assumption | refine Below.drew ?_ | refine below_drewN ?_ _ | refine Below.alloc ?_ (by simp; try omega) _ | refine Below.setCell ?_ (by simp; try omega) _)), Nat.le_succ _⟩
  have HB := hid hB
  clear hB
  go_enter Tryz.func44, Tryz.ntmps44
  go_wp2
  go_loop [8] (fun i => ∃ k : Nat, k ≤ s.size ∧ i = .int .i64 k ∧ ∀ j, (hj : j < s.data.toList.length) → j < k → okB (s.data.toList[j]).toNat = true) (fun i => s.size - (intOf i).toNat)
  case atStart => exact ⟨0, ZU _, rfl, fun j _ h => absurd h (by omega)⟩
  case round =>
    obtain ⟨k, hk, rfl, hall⟩ := hrel
    have HA := hid hall
    clear hall
    by_cases hlt : k < s.size
    · have hcell : (w.alloc (.cells C 5 fr)).drew.cell? ⟨w.heap.size, k, none⟩ = some (.int .u8 ((s[k]).toNat : Int)) := (Ahg w C 5 fr k).trans (HC.out k hlt)
      have hby : ((s[k]).toNat : Int) ≤ 255 := by have := (s[k]).toNat_lt; omega
      clear hrun
      go_wp2
      all_goals first
        | (go_round
           case rel => exact ⟨k + 1, by omega, by go_num, Aaa HA.out hlt (Aep (by go_light; clear HA; first | omega | (simp_all; done) | (simp_all; omega)))⟩
           case measure => simp [intOf]; omega)
        | (go_ret
           exact ⟨I3 (Aec hlt (Aij (by go_light; clear HA; first | omega | (simp_all; done) | (simp_all; omega)))), HB.out⟩)
    · have HL := fun (g : 1 ≤ s.size ∧ s.size ≤ 30) => Af0 (s := s.data.toList) (fun i hi => HA.out i hi (by simp at hi; omega)) (by simpa using g.1) (by simpa using g.2)
      have HN := fun (g : ¬ (1 ≤ s.size ∧ s.size ≤ 30)) => Zx (s := s.data.toList) (by simpa using g)
      have HL := hid HL
      have HN := hid HN
      clear HA
      go_wp2
      all_goals go_ret
      all_goals first
        | exact ⟨I3 (Aix HL.out HN.out ‹s.toList.isEmpty = false›), HB.out⟩
        | exact ⟨I3 (Ai8 HN.out ‹s.toList.isEmpty = true›), HB.out⟩
theorem C2[Glob](s:ByteArray)(hs:s.size≤9223372036854775807):Fun Tryz.prog 44 [.c (.v (.string s))] [.c (.v (.bool (lab s.data.toList)))]:=
 M6 (xs:=[.string s]) (C7 Tryz.func44 (by kernel_rfl) (by kernel_rfl)) fun w=>(Ab4 s w hs).mono fun e w' h=>⟨h.1,h.2.1⟩
theorem Dx[Glob](s:ByteArray)(hs:s.size≤9223372036854775807):Fun Tryz.prog 27 [.c (.v (.string s))] [.c (.v (.bool (lab s.data.toList)))]:=
 M6 (xs:=[.string s]) (C7 Tryz.func27 (by kernel_rfl) (by kernel_rfl)) fun w=>(T4 s w hs).mono fun e w' ⟨h1,h2⟩=>⟨h1,h2▸Below.refl _ _⟩
theorem Uv[Glob](a b:ByteArray):Fun Tryz.prog 93 [.c (.v (.string a)),.c (.v (.string b))] [.c (.v (.int .i64 (En a b)))]:=
 M6 (xs:=[.string a,.string b]) (C7 Tryz.func93 (by kernel_rfl) (by kernel_rfl)) fun w=>(Ahl a b w).mono fun e w' ⟨h1,h2⟩=>⟨h1,h2▸Below.refl _ _⟩
theorem Qn[Glob](a b:Int):Fun Tryz.prog 137 [.c (.v (.int .i64 a)),.c (.v (.int .i64 b))] [.c (.v (.int .i64 (D7 a b)))]:=
 M6 (xs:=[.int .i64 a,.int .i64 b]) (C7 Tryz.func137 (by kernel_rfl) (by kernel_rfl)) fun w=>(Ah6 a b w).mono fun e w' ⟨h1,h2⟩=>⟨h1,h2▸Below.refl _ _⟩
theorem Br[Glob](n a b:Int):Fun Tryz.prog 16 [.c (.v (.int .i64 n)),.c (.v (.int .i64 a)),.c (.v (.int .i64 b))] [.c (.v (.bool (wi n a b)))]:=by
 refine A9 Mr rfl ?_;(refine goI ?_;repeat (intro gg;refine goI ?_));(refine Ab (fun h=>?_) (fun h=>?_)<;>rw[h])
 ·(refine goI ?_;repeat (intro gg;refine goI ?_));rw[Ajo h];(exact⟨[],aI⟩)
 ·(refine goI ?_;repeat (intro gg;refine goI ?_));rw[Ah9 h];(exact⟨[],aI⟩)
theorem Jv[Glob](n:Int):Fun Tryz.prog 63 [.c (.v (.int .i64 n))] [.c (.v (.bool (wi n 0 4294967295)))]:=by
 refine A9 Kw rfl ?_;(refine goI ?_;repeat (intro gg;refine goI ?_));refine .inl (cX (Br _ _ _) ?_);(refine goI ?_;repeat (intro gg;refine goI ?_));(exact⟨[],aI⟩)
theorem Ln{α:Type}(e:α→Int)(a:α):Ad e [a]=e a:=by
 by_cases h:e a=0<;>simp[Ad,h]
theorem C3{α:Type}{mx:Nat}{e:α→Int}{lt:α→α→Bool}{l:List α}(h1:¬mx<l.length)(h2:Ad e l≠0):ckL mx e lt l=Ad e l:=by simp[ckL,h1,h2]
theorem Ng{α:Type}{mx:Nat}{e:α→Int}{lt:α→α→Bool}{l:List α}(h1:¬mx<l.length)(h2:Ad e l=0)(h3:Cg lt l=false):ckL mx e lt l=4:=by simp[ckL,h1,h2,h3]
theorem Jw{α:Type}{mx:Nat}{e:α→Int}{lt:α→α→Bool}{l:List α}(h1:¬mx<l.length)(h2:Ad e l=0)(h3:Cg lt l=true):ckL mx e lt l=0:=by simp[ckL,h1,h2,h3]
theorem Akc(a:Int):D7 a a=0:=by simp[D7]
theorem Akj{a b:Int}(h:a≠b):D7 a b≠0:=by
 unfold D7;split
 ·decide
 ·split
  ·decide
  ·omega
theorem Aic{a b:Int}:0<D7 a b↔b<a:=by
 unfold D7;split
 ·constructor<;>intro h<;>omega
 ·split<;>(constructor<;>intro h<;>omega)
theorem Ahc{a b:Int}{r:List Int}(h:(a !=b)=true):decide (0<Ck (D7 a b::r))=decide (b<a):=by
 have h:a≠b:=by simpa using h
 simp[Ck,Akj h,Aic]
theorem Ah4{a b:Int}{r:List Int}(h:(a !=b)=false):Ck (D7 a b::r)=Ck r:=by
 have h:a=b:=by simpa using h
 subst h;simp[Ck,Akc]
def b2i(b:Bool):Int:=if b then 1 else 0
theorem Aif{p q:Bool}:decide (0<Ck [D7 (b2i p) (b2i q)])=(p&& !q):=by cases p<;>cases q<;>decide
def Ak4(n:Int):List V:=[.v (.int .i64 n)]
instance:FlatRow Ak4:=⟨fun x u hu=>by simp[Ak4]at hu;exact⟨_,hu⟩⟩
theorem Aiw[Glob](c:Bool)(l:List Int)(hl:l.length≤9223372036854775807):Fun Tryz.prog 136 [.c (.sl c (l.map Ak4))] [.c (.v (.int .i64 (Ck l)))]:=by
 refine A9 W6 rfl ?_;(refine goI ?_;repeat (intro gg;refine goI ?_));(refine⟨[],none,{k:Nat//k≤l.length∧∀j,(h:j<l.length)→j<k→l[j]=0},[3,6,7],fun⟨k,hk,h0⟩=>[(8,.v (.int .i64 k))],[],fun⟨k,hk,h0⟩=>[],fun⟨k,hk,h0⟩=>l.length-k,trivial,fun _=>⟨trivial,fun _=>⟨⟨0,by omega,fun j _ h=>by omega⟩,tI,Aj _ _,tI,Ak _ _⟩⟩,fun⟨k,hk,h0⟩=>?_⟩);(refine goI ?_;repeat (intro gg;refine goI ?_));rw[ZE];(refine Ab (fun h=>?_) (fun h=>?_)<;>rw[h])
 ·have hlt:k<l.length:=by simpa using h
  (refine goI ?_;repeat (intro gg;refine goI ?_));refine⟨k,_,rfl,Al hlt,?_⟩;(refine goI ?_;repeat (intro gg;refine goI ?_));(refine Ab (fun h=>?_) (fun h=>?_)<;>rw[h])
  ·(refine goI ?_;repeat (intro gg;refine goI ?_));rw[U7 hlt h0 (by simpa using h)];(exact⟨[],aI⟩)
  ·(refine goI ?_;repeat (intro gg;refine goI ?_));(exact⟨none,trivial,fun _=>⟨⟨k+1,by omega,up1 (p:=fun j h=>l[j]=0) h0 (fun _=>by simpa using h)⟩,by show l.length-(k+1)<l.length-k;omega,tI,tI,tI,tI⟩⟩)
 ·have hge:¬k<l.length:=by simpa using h
  (refine goI ?_;repeat (intro gg;refine goI ?_));rw[Qw (l:=l) (fun i hi=>h0 i hi (by omega))];(exact⟨[],aI⟩)
namespace Pl
structure Mb where
 n:ByteArray
 st:Int
 lf:Int
 ad:Int
 sv:Bool
def Mb.enc(m:Mb):List Value:=[.string m.n,.int .i64 m.st,.int .i64 m.lf,.int .i64 m.ad,.bool m.sv]
def Mb.row(m:Mb):List V:=[.v (.string m.n),.v (.int .i64 m.st),.v (.int .i64 m.lf),.v (.int .i64 m.ad),.v (.bool m.sv)]
theorem Mb.enc_len(m:Mb):m.enc.length=5:=rfl
theorem Mb.enc_one(m:Mb):∀u∈m.enc,u.oneCell'=true:=by
 intro u hu;simp[Mb.enc]at hu;rcases hu with rfl|rfl|rfl|rfl|rfl<;>rfl
instance:FlatRow Mb.row:=⟨fun x u hu=>by simp[Mb.row]at hu;rcases hu with rfl|rfl|rfl|rfl|rfl<;>exact⟨_,rfl⟩⟩
def Mb.ok(m:Mb):Prop:=m.n.size≤9223372036854775807
def Mb.err(m:Mb):Int:=if lab m.n.data.toList then(if wi m.st 1 4 then(if wi m.lf 1 1000000&&wi m.ad 0 4294967295 then 0 else 3)else 7)else 1
def Mb.lt(g h:Mb):Bool:=slt g.n h.n
def Gc(l:List Mb):Int:=ckL 20 Mb.err Mb.lt l
def Mb.cf(name:ByteArray)(g:Mb):Int:=En g.n name
def Mb.kf(g x:Mb):Int:=Mb.cf g.n x
def Mb.cmp(g x:Mb):Int:=Ck [D7 g.lf x.lf,D7 g.st x.st,D7 g.ad x.ad,D7 (b2i g.sv) (b2i x.sv)]
def Mb.nw(g x:Mb):Bool:=decide (0<Mb.cmp g x)
def Mb.is(name:ByteArray)(m:Mb):Bool:=m.n.toList==name.toList
def Mb.same(g h:Mb):Bool:=(g.n.toList==h.n.toList)&&((g.st==h.st)&&((g.lf==h.lf)&&((g.ad==h.ad)&&((g.sv==h.sv)&&true))))
theorem Mb.same_iff{g h:Mb}:Mb.same g h=true↔g=h:=by
 obtain⟨a,b,c,d,e⟩:=g;obtain⟨a',b',c',d',e'⟩:=h;have tl:∀a b:ByteArray,a.toList=b.toList↔a=b:=fun a b=>⟨toList_inj,fun h=>by rw[h]⟩;simp only[Mb.same,Bool.and_true,ZO,ZR,tl,Mb.mk.injEq]
theorem Mb.err_cases(m:Mb):m.err=0∨m.err=1∨m.err=3∨m.err=7:=by
 unfold Mb.err;split
 ·split
  ·split<;>simp
  ·simp
 ·simp
theorem Mb.lt_trans(x y z:Mb)(h1:Mb.lt x y=true)(h2:Mb.lt y z=true):Mb.lt x z=true:=Q3 h1 h2
theorem Mb.lt_cf(name:ByteArray)(x y:Mb)(h:Mb.lt x y=true)(hy:Mb.cf name y≤0):Mb.cf name x<0:=by
 unfold Mb.cf at *;rw[Qe];rcases Bool.eq_false_or_eq_true (slt y.n name)with g|g
 ·exact Q3 h g
 ·have h0:En y.n name=0:=by
   rcases(by omega:En y.n name<0∨En y.n name=0)with q|q
   ·rw[Qe]at q;rw[q]at g;cases g
   ·exact q
  rw[Hw]at h0;rw[←h0];exact h
theorem Qq{l:List Mb}(h:Gc l=0):l.length≤20∧(∀i,(hi:i<l.length)→(l[i]).err=0)∧Cg Mb.lt l=true:=Yn Mb.err_cases h
theorem Mb.smono{l:List Mb}(h:Cg Mb.lt l=true)(name:ByteArray):Uf (Mb.cf name) l:=Z4 Mb.lt_trans (Mb.lt_cf name) h
def Mb.ne(m x:Mb):Bool:= !(x.n.toList==m.n.toList)
theorem Mb.is_eq(name:ByteArray):Mb.is name=fun x=>decide (Mb.cf name x=0):=by
 funext x;unfold Mb.is Mb.cf;by_cases h:x.n=name
 ·rw[h,Tl];simp
 ·have h2:En x.n name≠0:=fun e=>h (Hw.1 e);rw[Yc h];simp[h2]
theorem Mb.ne_eq(m:Mb):Mb.ne m=fun x=>decide (Mb.kf m x≠0):=by
 funext x;have:=congrFun (Mb.is_eq m.n) x;unfold Mb.is at this;unfold Mb.ne Mb.kf;rw[this];simp
theorem Mb.at_eq{l:List Mb}(hs:Cg Mb.lt l=true)(name:ByteArray):at_ (Mb.is name) l=if hit (Mb.cf name) l=true then(low (Mb.cf name) l:Int)else -1:=by
 rw[Mb.is_eq];exact Ag3 (Mb.smono hs name)
theorem Mb.err_inv{m:Mb}(h:m.err=0):lab m.n.data.toList=true∧(1≤m.st∧m.st≤4)∧(1≤m.lf∧m.lf≤1000000)∧(0≤m.ad∧m.ad≤4294967295):=by
 unfold Mb.err at h;split at h
 ·rename_i h1;split at h
  ·rename_i h2;split at h
   ·rename_i h3;rw[ZO,Ev,Ev]at h3;exact⟨h1,Ev.1 h2,h3⟩
   ·omega
  ·omega
 ·omega
theorem Anz(row:List V)(h:Qg [.s,.i,.i,.i,.b] row):∃m:Mb,row=m.row∧m.ok:=by
 obtain⟨u0,_,rfl,f0,h⟩:=Aw h;obtain⟨u1,_,rfl,f1,h⟩:=Aw h;obtain⟨u2,_,rfl,f2,h⟩:=Aw h;obtain⟨u3,_,rfl,f3,h⟩:=Aw h;obtain⟨u4,_,rfl,f4,h⟩:=Aw h;obtain rfl:=K4 h;obtain⟨n,rfl,hn⟩:=Ou f0;obtain⟨a,rfl,_⟩:=El f1;obtain⟨b,rfl,_⟩:=El f2;obtain⟨c,rfl,_⟩:=El f3;obtain⟨d,rfl⟩:=Ae6 f4;exact⟨⟨n,a,b,c,d⟩,rfl,hn⟩
end Pl
namespace Pl
structure Ru where
 m:Mb
 t:Int
def Ru.row(r:Ru):List V:=[.v (.string r.m.n),.v (.int .i64 r.m.st),.v (.int .i64 r.m.lf),.v (.int .i64 r.m.ad),.v (.bool r.m.sv),.v (.int .i64 r.t)]
instance:FlatRow Ru.row:=⟨fun x u hu=>by simp[Ru.row]at hu;rcases hu with rfl|rfl|rfl|rfl|rfl|rfl<;>exact⟨_,rfl⟩⟩
instance:OneRow Ru.row 6:=⟨fun _=>rfl,fun x u hu=>by simp[Ru.row]at hu;rcases hu with rfl|rfl|rfl|rfl|rfl|rfl<;>exact⟨_,rfl,rfl⟩⟩
instance:OneRow Mb.row 5:=⟨fun _=>rfl,fun x u hu=>by simp[Mb.row]at hu;rcases hu with rfl|rfl|rfl|rfl|rfl<;>exact⟨_,rfl,rfl⟩⟩
def Ru.ok(r:Ru):Prop:=r.m.ok
theorem Amx(row:List V)(h:Qg [.s,.i,.i,.i,.b,.i] row):∃m:Ru,row=m.row∧m.ok:=by
 obtain⟨u0,_,rfl,f0,h⟩:=Aw h;obtain⟨u1,_,rfl,f1,h⟩:=Aw h;obtain⟨u2,_,rfl,f2,h⟩:=Aw h;obtain⟨u3,_,rfl,f3,h⟩:=Aw h;obtain⟨u4,_,rfl,f4,h⟩:=Aw h;obtain⟨u5,_,rfl,f5,h⟩:=Aw h;obtain rfl:=K4 h;obtain⟨n,rfl,hn⟩:=Ou f0;obtain⟨a,rfl,_⟩:=El f1;obtain⟨b,rfl,_⟩:=El f2;obtain⟨c,rfl,_⟩:=El f3;obtain⟨d,rfl⟩:=Ae6 f4;obtain⟨e,rfl,_⟩:=El f5;exact⟨⟨⟨n,a,b,c,d⟩,e⟩,rfl,hn⟩
end Pl
namespace Pl
def An(l:List (ByteArray×V)):List (Value×V):=l.map fun p=>(.string p.1,p.2)
def Px(k:ByteArray):List (ByteArray×V)→Nat→Option (Nat×V)
 |[],_=>none
 |(a,v)::es,i=>if k=a then some (i,v)else Px k es (i+1)
theorem N0(k:ByteArray):∀(l:List (ByteArray×V)) (i:Nat),Fz .string (.string k) (An l) i=some (Px k l i)
 |[],i=>rfl
 |(a,v)::es,i=>by
  have ih:=N0 k es (i+1);unfold An at ih;by_cases h:k=a
  ·subst h;have hb:(k==k)=true:=(Go.MapKept.bytes_beq k k).2 rfl;simp[An,Fz,Px,Instr.sameNow,hb]
  ·have hb:(k==a)=false:=by
    cases q:(k==a)with
    |true=>exact absurd ((Go.MapKept.bytes_beq k a).1 q) h
    |false=>rfl
   simp only[An,List.map_cons,Fz,Px,Instr.sameNow,hb,if_neg h];exact ih
def put(l:List (ByteArray×V))(k:ByteArray)(v:V):List (ByteArray×V):=match Px k l 0 with
 |some (i,_)=>l.set i (k,v)
 |none=>l++[(k,v)]
theorem Vi(l:List (ByteArray×V))(k:ByteArray)(v:V):Pg (An l) (.string k) v (Px k l 0)=An (put l k v):=by
 unfold put Pg;cases h:Px k l 0 with
 |none=>simp[An]
 |some p=>obtain⟨i,u⟩:=p;simp[An,List.map_set]
theorem V9(l:List (ByteArray×V)):(An l).length=l.length:=by simp[An]
theorem Xe{k:ByteArray}:∀{l:List (ByteArray×V)} {i j:Nat} {v:V},Px k l i=some (j,v)→i≤j∧l[j-i]? =some (k,v)
 |[],i,j,v,h=>by simp[Px]at h
 |(a,u)::es,i,j,v,h=>by
  unfold Px at h;split at h
  ·rename_i e;simp only[ZD,Prod.mk.injEq]at h;obtain⟨rfl,rfl⟩:=h;subst e;exact⟨ZT _,by simp⟩
  ·obtain⟨h1,h2⟩:=Xe h;exact⟨by omega,by rw[show j-i=(j-(i+1))+1 by omega];simpa using h2⟩
theorem Sa{k:ByteArray}:∀{l:List (ByteArray×V)} {i:Nat},Px k l i=none↔k∉l.map (·.1)
 |[],i=>by simp[Px]
 |(a,u)::es,i=>by
  unfold Px;split
  ·rename_i e;subst e;simp
  ·rename_i e;rw[Sa (l:=es) (i:=i+1)];simp[e]
open Classical in
theorem Ak2{l:List (ByteArray×V)}{k:ByteArray}{v:V}:(put l k v).map (·.1)=if k∈l.map (·.1)then l.map (·.1)else l.map (·.1)++[k]:=by
 unfold put;cases h:Px k l 0 with
 |none=>rw[if_neg (Sa.1 h)];simp
 |some p=>
  obtain⟨i,u⟩:=p;have hk:k∈l.map (·.1):=Classical.byContradiction fun q=>by rw[Sa.2 q]at h;cases h
  rw[if_pos hk];obtain⟨_,h2⟩:=Xe h;simp only[Nat.sub_zero]at h2;show(l.set i (k,v)).map (·.1)=l.map (·.1);rw[List.map_set];apply List.ext_getElem?;intro j;rw[List.getElem?_set];split
  ·rename_i e;subst e;split
   ·simp[h2]
   ·rename_i q;simp at q;simp[q]
  ·rfl
structure G5(l:List (ByteArray×V))(ns:List ByteArray):Prop where
 mem:∀n,n∈l.map (·.1)↔n∈ns
 le:l.length≤ns.length
 all:l.length=ns.length↔ns.Nodup
 cl:∀p∈l,Cl p.2
theorem G5.nil:G5 [] []:=⟨by simp,by simp,by simp,by simp⟩
theorem G5.put{l:List (ByteArray×V)}{ns:List ByteArray}(h:G5 l ns)(k:ByteArray)(v:V)(hv:Cl v):G5 (put l k v) (ns++[k]):=by
 have hk:=Ak2 (l:=l) (k:=k) (v:=v);have hlen:(Pl.put l k v).length=((Pl.put l k v).map (·.1)).length:=by simp
 have hm:=h.mem k;refine⟨fun n=>?_,?_,?_,fun p hp=>?_⟩
 ·rw[hk];split
  ·rename_i q;rw[h.mem n];simp;intro e;subst e;exact hm.1 q
  ·simp only[XM,h.mem n]
 ·rw[hlen,hk];have:=h.le;split<;>simp<;>omega
 ·rw[hlen,hk];split
  ·rename_i q;have:=h.le;constructor
   ·intro e;simp at e;omega
   ·intro e;have:=(List.nodup_append.1 e).2.2 k (hm.1 q) k (by simp);exact absurd rfl this
  ·rename_i q;have hq:k∉ns:=fun e=>q (hm.2 e);simp only[ZF,ZE,ZJ,ZN];rw[List.nodup_append];constructor
   ·intro e;refine⟨h.all.1 (by omega),by simp,?_⟩;intro a ha b hb e';simp at hb;subst hb;subst e';exact hq ha
   ·intro e;have:=h.all.2 e.1;omega
 ·unfold Pl.put at hp;split at hp
  ·rcases List.mem_or_eq_of_mem_set hp with q|rfl
   ·exact h.cl p q
   ·exact hv
  ·rcases XM.1 hp with q|q
   ·exact h.cl p q
   ·simp at q;subst q;exact hv
end Pl
namespace Pl
theorem Ang{α:Type}(p:α→Bool)(l:List α):decide (0≤at_ p l)=l.any p:=by
 rcases Aou (p:=p) (l:=l)with⟨h1,h2⟩|⟨k,hk,h1,h2,_⟩
 ·rw[h1];cases hq:l.any p with
  |false=>rfl
  |true=>
   obtain⟨x,hx,hp⟩:=List.any_eq_true.1 hq;obtain⟨i,hi,rfl⟩:=List.getElem_of_mem hx;rw[h2 i hi]at hp;cases hp
 ·rw[h1];have:l.any p=true:=List.any_eq_true.2 ⟨_,ZK hk,h2⟩;rw[this];simp
def Jg{α:Type}(p:α→Bool)(l:List α):List α:=l.filter fun x=> !p x
structure Ary{α:Type}(p:α→Bool)(l l':List α)(i j:Nat):Prop where
 ij:i<j
 jl:j≤l.length
 len:l'.length=l.length
 ahead:l'.take i=Jg p (l.take j)
 behind:∀k,(h:k<l.length)→j≤k→l'[k]'(by rw[len];exact h)=l[k]
theorem Afo{α:Type}(l:List α)(i:Nat):l.eraseIdx i=l.take i++l.drop (i+1):=List.eraseIdx_eq_take_drop_succ l i
theorem Aby{α β:Type}{f:α→β}{l:List α}{i:Nat}(hi:i<l.length){z:β}{t:List β}{k:Nat}:
  (l.eraseIdx i).map f=(((((l.map f).take i++((l.map f).drop (i+1)).take ((l.map f).length-(i+1))++(l.map f).drop (i+((l.map f).length-(i+1)))).take (0+(i+((l.map f).length-(i+1)))))++List.replicate k z++t)).take (i+((l.map f).length-(i+1))):=by
 have h1:((l.map f).drop (i+1)).take ((l.map f).length-(i+1))=(l.map f).drop (i+1):=List.take_of_length_le (by simp);have h2:((l.map f).take i++(l.map f).drop (i+1)).length=i+((l.map f).length-(i+1)):=by simp;omega
 rw[h1,Nat.zero_add,←h2,List.take_left,ZS,List.take_left,Afo,ZI,List.map_take,List.map_drop]
end Pl
namespace Pl
def Ru.err(r:Ru):Int:=r.m.err
def Ru.bad(r:Ru):Bool:= !(wi r.t 0 100)
def Ru.nm(r:Ru):ByteArray:=r.m.n
def Ru.is(n:ByteArray)(r:Ru):Bool:=r.m.n.toList==n.toList
open Classical in
noncomputable def H5(l:List Ru):Int:=if 20<l.length then 2 else if Ad Ru.err l≠0 then Ad Ru.err l else if l.any Ru.bad=true then 3 else if(l.map Ru.nm).Nodup then 0 else 6
theorem W8{l:List Ru}(h:20<l.length):H5 l=2:=by simp[H5,h]
theorem X1{l:List Ru}(h:¬20<l.length)(h2:Ad Ru.err l≠0):H5 l=Ad Ru.err l:=by simp[H5,h,h2]
theorem Aa2{l:List Ru}(h:¬20<l.length)(h2:Ad Ru.err l=0)(h3:l.any Ru.bad=true):H5 l=3:=by simp only[H5,h,h2,h3,if_false,if_true,ne_eq,not_true]
theorem Zw{l:List Ru}(h:¬20<l.length)(h2:Ad Ru.err l=0)(h3:l.any Ru.bad=false)(h4:¬(l.map Ru.nm).Nodup):H5 l=6:=by simp only[H5,h,h2,h3,h4,if_false,ne_eq,not_true,Bool.false_eq_true]
theorem Adw{l:List Ru}(h:¬20<l.length)(h2:Ad Ru.err l=0)(h3:l.any Ru.bad=false)(h4:(l.map Ru.nm).Nodup):H5 l=0:=by simp only[H5,h,h2,h3,h4,if_false,if_true,ne_eq,not_true,Bool.false_eq_true]
structure Arm(l:List Ru):Prop where
 len:l.length≤20
 each:Ad Ru.err l=0
 rng:∀i,(h:i<l.length)→0≤l[i].t∧l[i].t≤100
 nd:(l.map Ru.nm).Nodup
theorem Ru.bad_iff(r:Ru):r.bad=false↔0≤r.t∧r.t≤100:=by simp[Ru.bad,wi]
theorem Ajs{l:List Ru}(h:H5 l=0):Arm l:=by
 unfold H5 at h;split at h
 ·omega
 ·split at h
  ·rename_i h2;exact absurd h h2
  ·split at h
   ·omega
   ·split at h
    ·rename_i h1 h2 h3 h4;refine⟨by omega,Classical.byContradiction h2,fun i hi=>?_,h4⟩;rw[←Ru.bad_iff];cases q:l[i].bad with
     |false=>rfl
     |true=>exact absurd (List.any_eq_true.2 ⟨_,ZK hi,q⟩) h3
    ·omega
theorem Ru.is_iff{n:ByteArray}{r:Ru}:Ru.is n r=true↔r.nm=n:=by
 unfold Ru.is Ru.nm;constructor
 ·intro h;exact toList_inj (by simpa using h)
 ·intro h;rw[h];simp
theorem Anq{α:Type}{l:List α}(h:l.Nodup){i j:Nat}(hi:i<l.length)(hj:j<l.length)(e:l[i]=l[j]):i=j:=by
 have:=List.pairwise_iff_getElem.1 h;rcases(by omega:i<j∨i=j∨j<i)with q|q|q
 ·exact absurd e (this i j hi hj q)
 ·exact q
 ·exact absurd e.symm (this j i hj hi q)
theorem Aoo{l:List Ru}(h:(l.map Ru.nm).Nodup){i j:Nat}(hi:i<l.length)(hj:j<l.length)(e:l[i].nm=l[j].nm):i=j:=
 Anq h (by simpa using hi) (by simpa using hj) (by simpa using e)
def tt(l:List Ru)(i:Nat):Int:=(l[i]?.map Ru.t).getD 0
def Arx(l:List Ru)(i k:Nat):Bool:=decide (tt l i<tt l k)||(tt l i==tt l k&&decide (k<i))
structure Arz(l:List Ru)(o:List Nat):Prop where
 len:o.length=l.length
 nd:o.Nodup
 mem:∀i,i∈o↔i<l.length
 pw:∀(i j:Nat) (hi:i<o.length) (hj:j<o.length),i<j→Arx l o[i] o[j]=true
end Pl
namespace Pl
structure Good{α:Type}(c:α→α→Int):Prop where
 anti:∀a b,c b a= - c a b
 pp:∀a b d,0<c a b→0<c b d→0<c a d
 zp:∀a b d,c a b=0→0<c b d→0<c a d
 pz:∀a b d,0<c a b→c b d=0→0<c a d
 zz:∀a b d,c a b=0→c b d=0→c a d=0
structure Ars{α:Type}(cf:α→α→Int)(nw:α→α→Bool):Prop where
 irr:∀x,nw x x=false
 trans:∀x y z,nw x y=true→nw y z=true→nw x z=true
 tot:∀x y,cf x y=0→nw x y=false→nw y x=false→x=y
section
variable {α:Type} {lt:α→α→Bool} {cf:α→α→Int} {nw:α→α→Bool}
end
end Pl
namespace Pl
structure Gw where
 c:ByteArray
 a:Int
 v:Int
def Gw.enc(g:Gw):List Value:=[.string g.c,.int .i64 g.a,.int .i64 g.v]
def Gw.row(g:Gw):List V:=[.v (.string g.c),.v (.int .i64 g.a),.v (.int .i64 g.v)]
theorem Gw.enc_len(g:Gw):g.enc.length=3:=rfl
theorem Gw.enc_one(g:Gw):∀u∈g.enc,u.oneCell'=true:=by
 intro u hu;simp[Gw.enc]at hu;rcases hu with rfl|rfl|rfl<;>rfl
instance:FlatRow Gw.row:=⟨fun x u hu=>by simp[Gw.row]at hu;rcases hu with rfl|rfl|rfl<;>exact⟨_,rfl⟩⟩
def Gw.ok(g:Gw):Prop:=g.c.size≤9223372036854775807
def Gw.err(g:Gw):Int:=if lab g.c.data.toList then(if wi g.a 0 4294967295&&wi g.v 1 1000000 then 0 else 3)else 1
def Gw.lt(g h:Gw):Bool:=slt g.c h.c
def Gx(l:List Gw):Int:=ckL 6 Gw.err Gw.lt l
def Gw.cf(name:ByteArray)(g:Gw):Int:=En g.c name
def Gw.kf(g x:Gw):Int:=Gw.cf g.c x
def Gw.cmp(g x:Gw):Int:=Ck [D7 g.v x.v,D7 g.a x.a]
def Gw.nw(g x:Gw):Bool:=decide (0<Gw.cmp g x)
def Gw.is(name:ByteArray)(m:Gw):Bool:=m.c.toList==name.toList
def Gw.same(g h:Gw):Bool:=(g.c.toList==h.c.toList)&&((g.a==h.a)&&((g.v==h.v)&&true))
theorem Gw.same_iff{g h:Gw}:Gw.same g h=true↔g=h:=by
 obtain⟨a,b,c⟩:=g;obtain⟨a',b',c'⟩:=h;have tl:∀a b:ByteArray,a.toList=b.toList↔a=b:=fun a b=>⟨toList_inj,fun h=>by rw[h]⟩;simp only[Gw.same,Bool.and_true,ZO,ZR,tl,Gw.mk.injEq]
theorem Gw.err_cases(m:Gw):m.err=0∨m.err=1∨m.err=3∨m.err=7:=by
 unfold Gw.err;split
 ·split<;>simp
 ·simp
theorem Ajv{l:List Gw}(h:Gx l=0):l.length≤6∧(∀i,(hi:i<l.length)→(l[i]).err=0)∧Cg Gw.lt l=true:=Yn Gw.err_cases h
def Gw.ne(m x:Gw):Bool:= !(x.c.toList==m.c.toList)
theorem Gw.is_eq(name:ByteArray):Gw.is name=fun x=>decide (Gw.cf name x=0):=by
 funext x;unfold Gw.is Gw.cf;by_cases h:x.c=name
 ·rw[h,Tl];simp
 ·have h2:En x.c name≠0:=fun e=>h (Hw.1 e);rw[Yc h];simp[h2]
theorem Gw.ne_eq(m:Gw):Gw.ne m=fun x=>decide (Gw.kf m x≠0):=by
 funext x;have:=congrFun (Gw.is_eq m.c) x;unfold Gw.is at this;unfold Gw.ne Gw.kf;rw[this];simp
structure Rt where
 c:ByteArray
 a:Int
def Rt.row(r:Rt):List V:=[.v (.string r.c),.v (.int .i64 r.a)]
instance:FlatRow Rt.row:=⟨fun x u hu=>by simp[Rt.row]at hu;rcases hu with rfl|rfl<;>exact⟨_,rfl⟩⟩
def Rt.same(g h:Rt):Bool:=(g.c.toList==h.c.toList)&&((g.a==h.a)&&true)
theorem Rt.same_iff{g h:Rt}:Rt.same g h=true↔g=h:=by
 obtain⟨a,b⟩:=g;obtain⟨a',b'⟩:=h;have tl:∀a b:ByteArray,a.toList=b.toList↔a=b:=fun a b=>⟨toList_inj,fun h=>by rw[h]⟩;simp only[Rt.same,Bool.and_true,ZO,ZR,tl,Rt.mk.injEq]
theorem Gw.err_inv{m:Gw}(h:m.err=0):lab m.c.data.toList=true∧(0≤m.a∧m.a≤4294967295)∧(1≤m.v∧m.v≤1000000):=by
 unfold Gw.err at h;split at h
 ·rename_i h1;split at h
  ·rename_i h2;rw[ZO,Ev,Ev]at h2;exact⟨h1,h2⟩
  ·omega
 ·omega
theorem Ao0(row:List V)(h:Qg [.s,.i,.i] row):∃m:Gw,row=m.row∧m.ok:=by
 obtain⟨u0,_,rfl,f0,h⟩:=Aw h;obtain⟨u1,_,rfl,f1,h⟩:=Aw h;obtain⟨u2,_,rfl,f2,h⟩:=Aw h;obtain rfl:=K4 h;obtain⟨n,rfl,hn⟩:=Ou f0;obtain⟨a,rfl,_⟩:=El f1;obtain⟨b,rfl,_⟩:=El f2;exact⟨⟨n,a,b⟩,rfl,hn⟩
end Pl
namespace Pl
structure Sv where
 nd:ByteArray
 id:ByteArray
 nm:ByteArray
 tg:ByteArray
 ad:Int
 pt:Int
 ps:Bool
 vs:Int
 gn:Bool
def Sv.enc(m:Sv):List Value:=[.string m.nd,.string m.id,.string m.nm,.string m.tg,.int .i64 m.ad,.int .i64 m.pt,.bool m.ps,.int .i64 m.vs,.bool m.gn]
def Sv.row(m:Sv):List V:=[.v (.string m.nd),.v (.string m.id),.v (.string m.nm),.v (.string m.tg),.v (.int .i64 m.ad),.v (.int .i64 m.pt),.v (.bool m.ps),.v (.int .i64 m.vs),.v (.bool m.gn)]
theorem Sv.enc_len(m:Sv):m.enc.length=9:=rfl
theorem Sv.enc_one(m:Sv):∀u∈m.enc,u.oneCell'=true:=by
 intro u hu;simp[Sv.enc]at hu;rcases hu with rfl|rfl|rfl|rfl|rfl|rfl|rfl|rfl|rfl<;>rfl
instance:FlatRow Sv.row:=⟨fun x u hu=>by simp[Sv.row]at hu;rcases hu with rfl|rfl|rfl|rfl|rfl|rfl|rfl|rfl|rfl<;>exact⟨_,rfl⟩⟩
def Sv.ok(m:Sv):Prop:=m.nd.size≤9223372036854775807∧m.id.size≤9223372036854775807∧m.nm.size≤9223372036854775807∧m.tg.size≤9223372036854775807
def emp(s:ByteArray):Bool:=s.toList==(ByteArray.mk #[]).toList
def S9(s:ByteArray):Bool:=emp s||lab s.data.toList
def Sv.err(m:Sv):Int:=if lab m.nd.data.toList then(if lab m.id.data.toList then(if lab m.nm.data.toList then(if S9 m.tg then(if wi m.ad 0 4294967295 then(if wi m.pt 0 65535 then(if wi m.vs 1 1000000 then 0 else 3)else 3)else 3)else 1)else 1)else 1)else 1
def Sv.cf(nd id:ByteArray)(x:Sv):Int:=Ck [En x.nd nd,En x.id id]
def Sv.kf(g x:Sv):Int:=Sv.cf g.nd g.id x
def Sv.lt(g h:Sv):Bool:=decide (Sv.cf h.nd h.id g<0)
def Gp(l:List Sv):Int:=ckL 40 Sv.err Sv.lt l
def Sv.cmp(g x:Sv):Int:=Ck [D7 g.vs x.vs,D7 (b2i g.gn) (b2i x.gn),En g.nm x.nm,En g.tg x.tg,D7 g.ad x.ad,D7 g.pt x.pt,D7 (b2i g.ps) (b2i x.ps)]
def Sv.nw(g x:Sv):Bool:=decide (0<Sv.cmp g x)
def Sv.is(nd id:ByteArray)(m:Sv):Bool:=(m.nd.toList==nd.toList)&&(m.id.toList==id.toList)
def Sv.same(g h:Sv):Bool:=(g.nd.toList==h.nd.toList)&&((g.id.toList==h.id.toList)&&((g.nm.toList==h.nm.toList)&&((g.tg.toList==h.tg.toList)&&((g.ad==h.ad)&&((g.pt==h.pt)&&((g.ps==h.ps)&&((g.vs==h.vs)&&((g.gn==h.gn)&&true))))))))
theorem Sv.same_iff{g h:Sv}:Sv.same g h=true↔g=h:=by
 obtain⟨a,b,c,d,e,f,i,j,k⟩:=g;obtain⟨a',b',c',d',e',f',i',j',k'⟩:=h;have tl:∀a b:ByteArray,a.toList=b.toList↔a=b:=fun a b=>⟨toList_inj,fun h=>by rw[h]⟩;simp only[Sv.same,Bool.and_true,ZO,ZR,tl,Sv.mk.injEq]
theorem Sv.err_cases(m:Sv):m.err=0∨m.err=1∨m.err=3∨m.err=7:=by
 unfold Sv.err
 repeat' split
 all_goals simp
theorem Aik{a b c d:ByteArray}(h:a=b):Ck [En a b,En c d]=En c d:=by
 subst h;by_cases h:En c d=0<;>simp[Ck,Tl,h]
theorem Ahq{a b c d:ByteArray}(h:a≠b):Ck [En a b,En c d]=En a b:=by
 have:En a b≠0:=fun e=>h (Hw.1 e);simp[Ck,this]
theorem Sv.cf_neg{nd id:ByteArray}{x:Sv}:Sv.cf nd id x<0↔slt x.nd nd=true∨(x.nd=nd∧slt x.id id=true):=by
 unfold Sv.cf;by_cases h:x.nd=nd
 ·rw[Aik h,Qe,h];simp[E5]
 ·rw[Ahq h,Qe];simp[h]
theorem Sv.cf_zero{nd id:ByteArray}{x:Sv}:Sv.cf nd id x=0↔x.nd=nd∧x.id=id:=by
 unfold Sv.cf;by_cases h:x.nd=nd
 ·rw[Aik h,Hw];simp[h]
 ·rw[Ahq h,Hw];simp[h]
theorem Sv.lt_iff{x y:Sv}:Sv.lt x y=true↔slt x.nd y.nd=true∨(x.nd=y.nd∧slt x.id y.id=true):=by
 unfold Sv.lt;rw[decide_eq_true_iff,Sv.cf_neg]
theorem Ajx{l:List Sv}(h:Gp l=0):l.length≤40∧(∀i,(hi:i<l.length)→(l[i]).err=0)∧Cg Sv.lt l=true:=Yn Sv.err_cases h
theorem Sv.ahead1{x y:Sv}(h:Op.bytesLess x.nd.toList y.nd.toList=true):Sv.lt x y=true:=Sv.lt_iff.2 (.inl h)
theorem Sv.ahead2{x y:Sv}(h:Op.bytesLess x.nd.toList y.nd.toList=false)(h2:(x.nd.toList==y.nd.toList)=true):Sv.lt x y=Op.bytesLess x.id.toList y.id.toList:=by
 have e:=Tv.1 h2;have h':slt x.nd y.nd=false:=h;have:=Sv.lt_iff (x:=x) (y:=y);show Sv.lt x y=slt x.id y.id;cases hb:slt x.id y.id with
 |true=>exact this.2 (.inr ⟨e,hb⟩)
 |false=>
  cases hl:Sv.lt x y with
  |false=>rfl
  |true=>rcases this.1 hl with q|⟨_,q⟩<;>simp_all
theorem Sv.ahead3{x y:Sv}(h:Op.bytesLess x.nd.toList y.nd.toList=false)(h2:(x.nd.toList==y.nd.toList)=false):Sv.lt x y=false:=by
 have e:x.nd≠y.nd:=fun e=>by rw[e]at h2;simp at h2
 have h':slt x.nd y.nd=false:=h;cases hl:Sv.lt x y with
 |false=>rfl
 |true=>rcases Sv.lt_iff.1 hl with q|⟨q,_⟩<;>simp_all
def Sv.ne(m x:Sv):Bool:= !(Sv.is m.nd m.id x)
theorem Sv.is_eq(nd id:ByteArray):Sv.is nd id=fun x=>decide (Sv.cf nd id x=0):=by
 funext x;unfold Sv.is;by_cases h:x.nd=nd∧x.id=id
 ·rw[h.1,h.2];have:Sv.cf nd id x=0:=Sv.cf_zero.2 h;simp[this]
 ·have h2:¬Sv.cf nd id x=0:=fun e=>h (Sv.cf_zero.1 e);have h3:(x.nd.toList==nd.toList&&x.id.toList==id.toList)=false:=by
   cases hb:(x.nd.toList==nd.toList&&x.id.toList==id.toList)with
   |false=>rfl
   |true=>rw[ZO,Tv,Tv]at hb;exact absurd hb h
  rw[h3];simp[h2]
theorem Sv.ne_eq(m:Sv):Sv.ne m=fun x=>decide (Sv.kf m x≠0):=by
 funext x;have:=congrFun (Sv.is_eq m.nd m.id) x;unfold Sv.ne Sv.kf;rw[this];simp
theorem Anw(row:List V)(h:Qg [.s,.s,.s,.s,.i,.i,.b,.i,.b] row):∃m:Sv,row=m.row∧m.ok:=by
 obtain⟨u0,_,rfl,f0,h⟩:=Aw h;obtain⟨u1,_,rfl,f1,h⟩:=Aw h;obtain⟨u2,_,rfl,f2,h⟩:=Aw h;obtain⟨u3,_,rfl,f3,h⟩:=Aw h;obtain⟨u4,_,rfl,f4,h⟩:=Aw h;obtain⟨u5,_,rfl,f5,h⟩:=Aw h;obtain⟨u6,_,rfl,f6,h⟩:=Aw h;obtain⟨u7,_,rfl,f7,h⟩:=Aw h;obtain⟨u8,_,rfl,f8,h⟩:=Aw h;obtain rfl:=K4 h;obtain⟨a,rfl,ha⟩:=Ou f0;obtain⟨b,rfl,hb⟩:=Ou f1;obtain⟨c,rfl,hc⟩:=Ou f2;obtain⟨d,rfl,hd⟩:=Ou f3;obtain⟨e,rfl,_⟩:=El f4;obtain⟨f,rfl,_⟩:=El f5;obtain⟨g,rfl⟩:=Ae6 f6;obtain⟨i,rfl,_⟩:=El f7;obtain⟨j,rfl⟩:=Ae6 f8;exact⟨⟨a,b,c,d,e,f,g,i,j⟩,rfl,ha,hb,hc,hd⟩
end Pl
namespace Pl

end Pl
namespace Pl

end Pl
namespace Pl
structure Pc where
 x:Int
 y:Int
 z:Int
 h:Int
 s:Int
def Pc.row(p:Pc):List V:=[.v (.int .i64 p.x),.v (.int .i64 p.y),.v (.int .i64 p.z),.v (.int .i64 p.h),.v (.int .i64 p.s)]
instance:FlatRow Pc.row:=⟨fun x u hu=>by simp[Pc.row]at hu;rcases hu with rfl|rfl|rfl|rfl|rfl<;>exact⟨_,rfl⟩⟩
def Pc.ok(p:Pc):Prop:=True
def Pc.okb(p:Pc):Bool:=Aje p.x p.y p.z p.h p.s
def Pc.err(p:Pc):Int:=Ad2 p.x p.y p.z p.h p.s
theorem Pc.err_ok{p:Pc}(h:p.okb=true):p.err=0:=by unfold Pc.err Ad2;unfold Pc.okb at h;rw[if_pos h]
theorem Pc.err_bad{p:Pc}(h:p.okb=false):p.err=3:=by unfold Pc.err Ad2;unfold Pc.okb at h;rw[if_neg (by rw[h];decide)]
theorem Pc.err_iff{p:Pc}:p.err=0↔p.okb=true:=by
 cases h:p.okb with
 |true=>simp[Pc.err_ok h]
 |false=>simp[Pc.err_bad h]
end Pl
section
open Go.ChangeShapes Go.WideShapes Go.ChangeAt
theorem Alr{H:Type}{enc:TypeId×Value→H}{P:Program}{w:World}{base:Nat}{spare:Nat→Bool}{held:Bool}{t e:TypeId}{v:Value}{d:DataW H}{p:List MemPlace}{R:Nat→Prop}{G:Nat→Option Loc}{rows:List (List V)}(hu:P.underlying t=some (.slice e))(h:DataW.Trod enc P w base spare held t v d p)(hv:RV w R G (.sl false rows) v){ts:List TypeId}{ds:List (DataW H)}{j:Nat}(hz:(DataW.weightsEach P ts ds).all (·≤reachBytes)=true)(ht:ts[j]? =some t)(hd:ds[j]? =some d):rows.length*P.bytesOf e≤140737488351232:=by
 obtain⟨fuel,hf⟩:=h;have key:∀a len cap,v=.slice a len cap→rows.length=len→rows.length*P.bytesOf e≤140737488351232:=fun a len cap hva hl=>by
  subst hva;rcases Go.Deep.open_slice hu hf with⟨h1,_⟩|⟨a',len',cap',m,n,D,Pl,h1,_,_,_,_,h2,_⟩
  ·have h1:[Value.slice a len cap]=[.slice none 0 0]:=h1;simp only[List.cons.injEq,Value.slice.injEq]at h1;rw[hl,h1.1.2.1];omega
  ·have h1:[Value.slice a len cap]=[.slice (some a') len' cap']:=h1;simp only[List.cons.injEq,Value.slice.injEq]at h1;injection h2 with h2 _
   subst h2;have:=sized_slice hz ht hd hu;rw[ZE,List.length_range]at this;rw[hl,h1.1.2.1];have h3:len'*P.bytesOf e≤(len'+((List.range (m-len')).map fun j=>D (len'+j)).length)*P.bytesOf e:=XG _ (by omega);have h4:reachBytes=140737488351232:=rfl;omega
 generalize hu':V.sl false rows=u at hv;cases hv with
 |nil clip a cap hc=>injection hu' with _ hr;subst hr;exact key _ _ _ rfl rfl
 |sl clip rows' b off cap sz f _ _ _ _ _ _=>injection hu' with _ hr;subst hr;exact key _ _ _ rfl rfl
 |_=>cases hu'
end
namespace Pl
structure Wh where
 nd:ByteArray
 pl:Pc
def Wh.enc(x:Wh):List Value:=[.string x.nd,.int .i64 x.pl.x,.int .i64 x.pl.y,.int .i64 x.pl.z,.int .i64 x.pl.h,.int .i64 x.pl.s]
def Wh.row(x:Wh):List V:=[.v (.string x.nd),.v (.int .i64 x.pl.x),.v (.int .i64 x.pl.y),.v (.int .i64 x.pl.z),.v (.int .i64 x.pl.h),.v (.int .i64 x.pl.s)]
theorem Wh.enc_len(x:Wh):x.enc.length=6:=rfl
theorem Wh.enc_one(x:Wh):∀u∈x.enc,u.oneCell'=true:=by
 intro u hu;simp[Wh.enc]at hu;rcases hu with rfl|rfl|rfl|rfl|rfl|rfl<;>rfl
instance:FlatRow Wh.row:=⟨fun x u hu=>by simp[Wh.row]at hu;rcases hu with rfl|rfl|rfl|rfl|rfl|rfl<;>exact⟨_,rfl⟩⟩
instance:OneRow Wh.row 6:=⟨fun _=>rfl,fun x u hu=>by simp[Wh.row]at hu;rcases hu with rfl|rfl|rfl|rfl|rfl|rfl<;>exact⟨_,rfl,rfl⟩⟩
def Wh.ok(x:Wh):Prop:=x.nd.size≤9223372036854775807
theorem Amy(row:List V)(h:Qg [.s,.i,.i,.i,.i,.i] row):∃m:Wh,row=m.row∧m.ok:=by
 obtain⟨u0,_,rfl,f0,h⟩:=Aw h;obtain⟨u1,_,rfl,f1,h⟩:=Aw h;obtain⟨u2,_,rfl,f2,h⟩:=Aw h;obtain⟨u3,_,rfl,f3,h⟩:=Aw h;obtain⟨u4,_,rfl,f4,h⟩:=Aw h;obtain⟨u5,_,rfl,f5,h⟩:=Aw h;obtain rfl:=K4 h;obtain⟨n,rfl,hn⟩:=Ou f0;obtain⟨a,rfl,_⟩:=El f1;obtain⟨b,rfl,_⟩:=El f2;obtain⟨c,rfl,_⟩:=El f3;obtain⟨d,rfl,_⟩:=El f4;obtain⟨e,rfl,_⟩:=El f5;exact⟨⟨n,a,b,c,d,e⟩,rfl,hn⟩
end Pl
namespace Pl
def Wh.err(x:Wh):Int:=if lab x.nd.data.toList then x.pl.err else 1
def Wh.lt(g h:Wh):Bool:=slt g.nd h.nd
def Gr(l:List Wh):Int:=ckL 20 Wh.err Wh.lt l
structure Nd where
 nm:ByteArray
 ce:ByteArray
 ms:List Mb
 rs:List Ru
 sv:List Sv
 gs:List Gw
 pl:Pc
 wh:List Wh
def Nd.row(n:Nd):List V:=[.v (.string n.nm),.v (.string n.ce),.sl false (n.ms.map Mb.row),.sl false (n.rs.map Ru.row),.sl false (n.sv.map Sv.row),.sl false (n.gs.map Gw.row),
 .v (.int .i64 n.pl.x),.v (.int .i64 n.pl.y),.v (.int .i64 n.pl.z),.v (.int .i64 n.pl.h),.v (.int .i64 n.pl.s),.sl false (n.wh.map Wh.row)]
structure Nd.ok(n:Nd):Prop where
 nm:n.nm.size≤9223372036854775807
 ce:n.ce.size≤9223372036854775807
 msl:n.ms.length≤9223372036854775807
 ms:∀x∈n.ms,x.ok
 rsl:n.rs.length≤9223372036854775807
 rs:∀x∈n.rs,x.ok
 svl:n.sv.length≤9223372036854775807
 sv:∀x∈n.sv,x.ok
 gsl:n.gs.length≤9223372036854775807
 gs:∀x∈n.gs,x.ok
 whl:n.wh.length≤9223372036854775807
 wh:∀x∈n.wh,x.ok
def Rd(ms:List Mb)(r:Ru):Bool:=match ms[low (Mb.cf r.m.n) ms]? with
 |some m=>hit (Mb.cf r.m.n) ms&&decide (Mb.cmp r.m m≤0)
 |none=>false
noncomputable def Nd.cks(n:Nd):List Int:=[Gc n.ms,H5 n.rs,Gp n.sv,Gx n.gs,n.pl.err,Gr n.wh]
def Nd.mine(n:Nd):Int:=match n.ms[low (Mb.cf n.nm) n.ms]? with
 |some m=>if m.st=2∨m.st=3 then 4 else if n.rs.all (Rd n.ms)then 0 else 4
 |none=>4
noncomputable def Nd.err(n:Nd):Int:=
 if lab n.nm.data.toList=false∨lab n.ce.data.toList=false then 1
 else if Ad (fun e=>e) n.cks≠0 then Ad (fun e=>e) n.cks
 else if hit (Mb.cf n.nm) n.ms=false then 5 else n.mine
theorem Nd.err_form{n:Nd}(h:lab n.nm.data.toList=false∨lab n.ce.data.toList=false):n.err=1:=if_pos h
theorem Nd.err_ck{n:Nd}(h1:lab n.nm.data.toList=true)(h2:lab n.ce.data.toList=true)(h:Ad (fun e=>e) n.cks≠0):n.err=Ad (fun e=>e) n.cks:=by
 unfold Nd.err;rw[if_neg (by rw[h1,h2];simp),if_pos h]
theorem Nd.err_none{n:Nd}(h1:lab n.nm.data.toList=true)(h2:lab n.ce.data.toList=true)(h:Ad (fun e=>e) n.cks=0)(h3:hit (Mb.cf n.nm) n.ms=false):n.err=5:=by
 unfold Nd.err;rw[if_neg (by rw[h1,h2];simp),if_neg (by rw[h];simp),if_pos h3]
theorem Nd.err_mine{n:Nd}(h1:lab n.nm.data.toList=true)(h2:lab n.ce.data.toList=true)(h:Ad (fun e=>e) n.cks=0)(h3:hit (Mb.cf n.nm) n.ms=true):n.err=n.mine:=by
 unfold Nd.err;rw[if_neg (by rw[h1,h2];simp),if_neg (by rw[h];simp),if_neg (by rw[h3];simp)]
theorem Nd.mine_at{n:Nd}{m:Mb}(h:n.ms[low (Mb.cf n.nm) n.ms]? =some m):n.mine=if m.st=2∨m.st=3 then 4 else if n.rs.all (Rd n.ms)then 0 else 4:=by
 unfold Nd.mine;rw[h]
theorem Ae7{ms:List Mb}{r:Ru}(h:hit (Mb.cf r.m.n) ms=false):Rd ms r=false:=by
 unfold Rd;split
 ·rw[h];rfl
 ·rfl
theorem Aeb{ms:List Mb}{r:Ru}{m:Mb}(h:hit (Mb.cf r.m.n) ms=true)(hm:ms[low (Mb.cf r.m.n) ms]? =some m):Rd ms r=decide (Mb.cmp r.m m≤0):=by
 unfold Rd;rw[hm];simp[h]
structure Nd.Good(n:Nd):Prop where
 nm:lab n.nm.data.toList=true
 ce:lab n.ce.data.toList=true
 ms:Gc n.ms=0
 rs:H5 n.rs=0
 sv:Gp n.sv=0
 gs:Gx n.gs=0
 pl:n.pl.okb=true
 wh:Gr n.wh=0
 hit:hit (Mb.cf n.nm) n.ms=true
 st:∀m,n.ms[low (Mb.cf n.nm) n.ms]? =some m→m.st≠2∧m.st≠3
 ru:∀r∈n.rs,Rd n.ms r=true
theorem Ab2{n:Nd}(h:Ad (fun e=>e) n.cks=0):Gc n.ms=0∧H5 n.rs=0∧Gp n.sv=0∧Gx n.gs=0∧n.pl.err=0∧Gr n.wh=0:=by
 have g:=Fu h;exact⟨g 0 (by show 0<6;omega),g 1 (by show 1<6;omega),g 2 (by show 2<6;omega),g 3 (by show 3<6;omega),g 4 (by show 4<6;omega),g 5 (by show 5<6;omega)⟩
theorem Nd.good{n:Nd}(h:n.err=0):n.Good:=by
 by_cases h1:lab n.nm.data.toList=false∨lab n.ce.data.toList=false
 ·rw[Nd.err_form h1]at h;cases h
 ·have h2:lab n.nm.data.toList=true:=by cases q:lab n.nm.data.toList<;>simp[q]at h1 ⊢
  have h3:lab n.ce.data.toList=true:=by cases q:lab n.ce.data.toList<;>simp[q]at h1 ⊢
  by_cases h4:Ad (fun e=>e) n.cks=0
  ·cases h5:Pl.hit (Mb.cf n.nm) n.ms with
   |false=>rw[Nd.err_none h2 h3 h4 h5]at h;cases h
   |true=>
    rw[Nd.err_mine h2 h3 h4 h5]at h;have hm:n.ms[low (Mb.cf n.nm) n.ms]? =some (n.ms[low (Mb.cf n.nm) n.ms]'(L0 h5)):=ZC _;rw[Nd.mine_at hm]at h;obtain⟨c1,c2,c3,c4,c5,c6⟩:=Ab2 h4;split at h
    ·cases h
    ·rename_i h6;split at h
     ·rename_i h7;refine⟨h2,h3,c1,c2,c3,c4,Pc.err_iff.1 c5,c6,h5,fun m hm'=>?_,fun r hr=>List.all_eq_true.1 h7 r hr⟩;rw[hm]at hm';injection hm' with hm';subst hm'
      exact⟨fun q=>h6 (.inl q),fun q=>h6 (.inr q)⟩
     ·cases h
  ·rw[Nd.err_ck h2 h3 h4]at h;exact absurd h h4
end Pl
theorem M2[Glob](n a b:Int):Fun Tryz.prog 162 [.c (.v (.int .i64 n)),.c (.v (.int .i64 a)),.c (.v (.int .i64 b))] [.c (.v (.bool (wi n a b)))]:=by
 refine A9 Cn rfl ?_;(refine goI ?_;repeat (intro gg;refine goI ?_));(refine Ab (fun h=>?_) (fun h=>?_)<;>rw[h])
 ·(refine goI ?_;repeat (intro gg;refine goI ?_));rw[Ajo h];(exact⟨[],aI⟩)
 ·(refine goI ?_;repeat (intro gg;refine goI ?_));rw[Ah9 h];(exact⟨[],aI⟩)
theorem Aag[Glob](m:Mb)(hm:m.ok):Fun Tryz.prog 130 [.c (.agg m.row)] [.c (.v (.int .i64 m.err))]:=by
 refine A9 J0 rfl ?_;(refine goI ?_;repeat (intro gg;refine goI ?_));refine .inl (cX (C2 _ hm) ?_);(refine goI ?_;repeat (intro gg;refine goI ?_));(refine Ab (fun h1=>?_) (fun h1=>?_)<;>rw[h1])
 ·(refine goI ?_;repeat (intro gg;refine goI ?_))
  (rw[show m.err=1 from by(first|(simp_all;done)|(unfold Mb.err;simp_all))];(exact⟨[],aI⟩))
 ·(refine goI ?_;repeat (intro gg;refine goI ?_));refine .inl (cX (M2 _ _ _) ?_);(refine goI ?_;repeat (intro gg;refine goI ?_));(refine Ab (fun h2=>?_) (fun h2=>?_)<;>rw[h2])
  ·(refine goI ?_;repeat (intro gg;refine goI ?_))
   (rw[show m.err=7 from by(first|(simp_all;done)|(unfold Mb.err;simp_all))];(exact⟨[],aI⟩))
  ·(refine goI ?_;repeat (intro gg;refine goI ?_));refine .inl (cX (M2 _ _ _) ?_);(refine goI ?_;repeat (intro gg;refine goI ?_));(refine Ab (fun h3=>?_) (fun h3=>?_)<;>rw[h3])
   ·(refine goI ?_;repeat (intro gg;refine goI ?_))
    (rw[show m.err=3 from by(first|(simp_all;done)|(unfold Mb.err;simp_all))];(exact⟨[],aI⟩))
   ·(refine goI ?_;repeat (intro gg;refine goI ?_));refine .inl (cX (M2 _ _ _) ?_);(refine goI ?_;repeat (intro gg;refine goI ?_));(refine Ab (fun h4=>?_) (fun h4=>?_)<;>rw[h4])
    ·(refine goI ?_;repeat (intro gg;refine goI ?_))
     (rw[show m.err=3 from by(first|(simp_all;done)|(unfold Mb.err;simp_all))];(exact⟨[],aI⟩))
    ·(refine goI ?_;repeat (intro gg;refine goI ?_))
     (rw[show m.err=0 from by(first|(simp_all;done)|(unfold Mb.err;simp_all))];(exact⟨[],aI⟩))
theorem Z7[Glob](m:Mb)(hm:m.ok):Fun Tryz.prog 60 [.c (.agg m.row)] [.c (.v (.int .i64 m.err))]:=by
 refine A9 Ky rfl ?_;(refine goI ?_;repeat (intro gg;refine goI ?_));refine .inl (cX (Dx _ hm) ?_);(refine goI ?_;repeat (intro gg;refine goI ?_));(refine Ab (fun h1=>?_) (fun h1=>?_)<;>rw[h1])
 ·(refine goI ?_;repeat (intro gg;refine goI ?_))
  (rw[show m.err=1 from by(first|(simp_all;done)|(unfold Mb.err;simp_all))];(exact⟨[],aI⟩))
 ·(refine goI ?_;repeat (intro gg;refine goI ?_));refine .inl (cX (Br _ _ _) ?_);(refine goI ?_;repeat (intro gg;refine goI ?_));(refine Ab (fun h2=>?_) (fun h2=>?_)<;>rw[h2])
  ·(refine goI ?_;repeat (intro gg;refine goI ?_))
   (rw[show m.err=7 from by(first|(simp_all;done)|(unfold Mb.err;simp_all))];(exact⟨[],aI⟩))
  ·(refine goI ?_;repeat (intro gg;refine goI ?_));refine .inl (cX (Br _ _ _) ?_);(refine goI ?_;repeat (intro gg;refine goI ?_));(refine Ab (fun h3=>?_) (fun h3=>?_)<;>rw[h3])
   ·(refine goI ?_;repeat (intro gg;refine goI ?_))
    (rw[show m.err=3 from by(first|(simp_all;done)|(unfold Mb.err;simp_all))];(exact⟨[],aI⟩))
   ·(refine goI ?_;repeat (intro gg;refine goI ?_));refine .inl (cX (Jv _) ?_);(refine goI ?_;repeat (intro gg;refine goI ?_));(refine Ab (fun h4=>?_) (fun h4=>?_)<;>rw[h4])
    ·(refine goI ?_;repeat (intro gg;refine goI ?_))
     (rw[show m.err=3 from by(first|(simp_all;done)|(unfold Mb.err;simp_all))];(exact⟨[],aI⟩))
    ·(refine goI ?_;repeat (intro gg;refine goI ?_))
     (rw[show m.err=0 from by(first|(simp_all;done)|(unfold Mb.err;simp_all))];(exact⟨[],aI⟩))
theorem Sp[Glob](b:Bool):Fun Tryz.prog 138 [.c (.v (.bool b))] [.c (.v (.int .i64 (b2i b)))]:=by
 refine A9 Rr rfl ?_;(refine goI ?_;repeat (intro gg;refine goI ?_));(refine Ab (fun h=>?_) (fun h=>?_)<;>rw[h])
 ·(refine goI ?_;repeat (intro gg;refine goI ?_));(exact⟨[],aI⟩)
 ·(refine goI ?_;repeat (intro gg;refine goI ?_));(exact⟨[],aI⟩)
theorem Aj7[Glob](g x:Mb):Fun Tryz.prog 94 [.c (.agg g.row),.c (.agg x.row)] [.c (.v (.int .i64 (Mb.cmp g x)))]:=by
 refine A9 Pq rfl ?_;(refine goI ?_;repeat (intro gg;refine goI ?_));(refine⟨_,_,false,aI,Qn _ _,Am,nI,?_⟩);(refine goI ?_;repeat (intro gg;refine goI ?_));(refine⟨_,_,false,aI,Qn _ _,Am,nI,?_⟩);(refine goI ?_;repeat (intro gg;refine goI ?_));(refine⟨_,_,false,aI,Qn _ _,Am,nI,?_⟩);(refine goI ?_;repeat (intro gg;refine goI ?_));(refine⟨_,_,false,aI,Sp _,Am,nI,?_⟩);(refine goI ?_;repeat (intro gg;refine goI ?_));refine .inl (cX (Sp _) ?_);(refine goI ?_;repeat (intro gg;refine goI ?_));refine .inl (cX (Qn _ _) ?_);(refine goI ?_;repeat (intro gg;refine goI ?_));(refine .inl ⟨_,_,true,[],aI,Aiw false [D7 g.lf x.lf,D7 g.st x.st,D7 g.ad x.ad,D7 (b2i g.sv) (b2i x.sv)] (by simp),(fun _=>fI),nI,?_⟩);(refine goI ?_;repeat (intro gg;refine goI ?_));(exact⟨[],aI⟩)
theorem Abs[Glob](g x:Mb):Fun Tryz.prog 35 [.c (.agg g.row),.c (.agg x.row)] [.c (.v (.bool (Mb.nw g x)))]:=by
 refine A9 Jj rfl ?_;(refine goI ?_;repeat (intro gg;refine goI ?_));(refine Ab (fun h1=>?_) (fun h1=>?_)<;>rw[h1])
 ·(refine goI ?_;repeat (intro gg;refine goI ?_));rw[show Mb.nw g x=decide (x.lf<g.lf)from Ahc h1];(exact⟨[],aI⟩)
 ·have e1:Mb.nw g x=decide (0<Ck [D7 g.st x.st,D7 g.ad x.ad,D7 (b2i g.sv) (b2i x.sv)]):=by unfold Mb.nw Mb.cmp;rw[Ah4 h1]
  (refine goI ?_;repeat (intro gg;refine goI ?_));(refine Ab (fun h2=>?_) (fun h2=>?_)<;>rw[h2])
  ·(refine goI ?_;repeat (intro gg;refine goI ?_));rw[e1,Ahc h2];(exact⟨[],aI⟩)
  ·rw[Ah4 h2]at e1;(refine goI ?_;repeat (intro gg;refine goI ?_));(refine Ab (fun h3=>?_) (fun h3=>?_)<;>rw[h3])
   ·(refine goI ?_;repeat (intro gg;refine goI ?_));rw[e1,Ahc h3];(exact⟨[],aI⟩)
   ·rw[Ah4 h3,Aif]at e1;(refine goI ?_;repeat (intro gg;refine goI ?_));(refine Ab (fun h4=>?_) (fun h4=>?_)<;>rw[h4])
    ·(refine goI ?_;repeat (intro gg;refine goI ?_));rw[e1,h4,Bool.true_and];(exact⟨[],aI⟩)
    ·(refine goI ?_;repeat (intro gg;refine goI ?_));rw[e1,h4,Bool.false_and];(exact⟨[],aI⟩)
section
variable {α:Type} {enc:α→List Value} {sz:Nat} {w w':World} {A:Option Addr} {l:List α}
def RL(enc:α→List Value)(sz:Nat)(w:World)(A:Option Addr)(l:List α):Prop:=
 0<l.length→∃b off,A=some ⟨b,off,none⟩∧b<w.heap.size∧∀i,(h:i<l.length)→∀j u,(enc l[i])[j]? =some u→w.cell? ⟨b,off+i*sz+j,none⟩=some u
theorem RL.nil:RL enc sz w A []:=fun h=>absurd h (by simp)
theorem RL.at_(h:RL enc sz w A l){k:Nat}(hk:k<l.length):∃b off,A=some ⟨b,off,none⟩∧b<w.heap.size∧∀j u,(enc l[k])[j]? =some u→w.cell? ⟨b,off+k*sz+j,none⟩=some u:=by
 obtain⟨b,off,hA,hb,hc⟩:=h (by omega);exact⟨b,off,hA,hb,hc k hk⟩
theorem Aib{w:World}{base base':Nat}{e:TypeId}{v:Value}{n:Nat}{xs:List Value}(h:w.ownsRow base e sz v n xs)(hb:base'≤base):w.ownsRow base' e sz v n xs:=by
 obtain⟨h1,h2⟩:=h;refine⟨h1,?_⟩;rcases h2 with h2|⟨g,cap,cur,hv,hg,r⟩
 ·exact .inl h2
 ·exact .inr ⟨g,cap,cur,hv,by omega,r⟩
end
section
variable {P:Program}
theorem Agk(w:World)(dT sT ty elem:TypeId)(sz:Nat)(g o dLen dCap:Nat)(a:Addr)(sLen sCap:Nat)(cur:Array Value)(t:TypeId)(cs:List Value)(hu:P.underlying dT=some (.slice elem))(hs:(P.info? elem).map (·.size)=some sz)(hg:w.heap[g]? =some (.cells cur t (0,0)))(hn:cs.length=Nat.min sLen dLen*sz)(hsrc:∀j v,cs[j]? =some v→w.cell? (a.add j)=some v)(hfit:o+cs.length≤cur.size)(h1:∀v∈cs,v.oneCell'=true):
  (Builtin.copy_ #[dT,sT] ty #[.slice (some ⟨g,o,none⟩) dLen dCap,.slice (some a) sLen sCap]).run P w=
   .ok (goInt (Nat.min sLen dLen)) (w.setRow g (splice cur.toList o cs).toArray):=by
 have hl:=run_loadCells_list (P:=P) w a cs hsrc;have hst:=run_storeCells_at P g o t cs 0 cur w hg (by simpa using hfit) h1;rw[hn]at hl;cases hq:P.info? elem with
 |none=>simp[hq]at hs
 |some i=>
  have hi:i.size=sz:=by simpa[hq]using hs
  simp only[Builtin.copy_,Builtin.lenOf,Builtin.firstCells,sizeOf,typeInfo];simp[run_underlying hu,hq,hi,hl,hst,splice]
theorem Aay{w:World}{o:Oper}{a:Act}{K:Act→World→Prop}{Q:Exit→Act→World→Prop}(d s:Operand)(dT sT:TypeId)(ho:o.op=.call {callee:=.builtin .copy,args:= #[d,s],argTypes:= #[dT,sT]})(elem:TypeId)(sz:Nat)(hu:P.underlying dT=some (.slice elem))(hsz:(P.info? elem).map (·.size)=some sz)(g off dLen dCap:Nat)(ad:Addr)(sLen sCap:Nat)(hd:a.eval d=.slice (some ⟨g,off,none⟩) dLen dCap)(hs:a.eval s=.slice (some ad) sLen sCap)(cur:Array Value)(t:TypeId)(hg:Blk w g t cur)(cs:List Value)(hn:cs.length=Nat.min sLen dLen*sz)(hsrc:∀j v,cs[j]? =some v→w.cell? (ad.add j)=some v)(hfit:off+cs.length≤cur.size)(h1:∀v∈cs,v.oneCell'=true)(h:∀w',Blk w' g t (splice cur.toList off cs).toArray→w.grownBy w' (some g)→w.drawn≤w'.drawn→K (a.put o.dst (goInt (Nat.min sLen dLen))) w'):o.wp P a w K Q:=by
 have hrun:=Agk (P:=P) w dT sT o.type elem sz g off dLen dCap ad sLen sCap cur t cs hu hsz hg hn hsrc hfit h1;unfold Oper.wp;simp[execOp,ho,resolve,invoke,builtin,hd,hs,hrun,Result.andThen];refine h _ ?_ ⟨rfl,rfl,rfl,by simp[World.setRow],fun k hk hne=>setRow_other w g k _ (fun e=>hne (by rw[e]))⟩ (ZT _);exact setRow_heap w g _ _ t _ hg
theorem Qi{w:World}{ops:Array Oper}{rest:List Oper}{o:Oper}{a:Act}{Q:Exit→Act→World→Prop}(hgd:o.guard=none)(d s:Operand)(dT sT:TypeId)(ho:o.op=.call {callee:=.builtin .copy,args:= #[d,s],argTypes:= #[dT,sT]})(elem:TypeId)(sz:Nat)(hu:P.underlying dT=some (.slice elem))(hsz:(P.info? elem).map (·.size)=some sz)(g off dLen dCap:Nat)(ad:Addr)(sLen sCap:Nat)(hd:a.eval d=.slice (some ⟨g,off,none⟩) dLen dCap)(hs:a.eval s=.slice (some ad) sLen sCap)(cur:Array Value)(t:TypeId)(hg:Blk w g t cur)(cs:List Value)(hn:cs.length=Nat.min sLen dLen*sz)(hsrc:∀j v,cs[j]? =some v→w.cell? (ad.add j)=some v)(hfit:off+cs.length≤cur.size)(h1:∀v∈cs,v.oneCell'=true)(h:∀w',Blk w' g t (splice cur.toList off cs).toArray→w.grownBy w' (some g)→w.drawn≤w'.drawn→wpList P ops Q rest (a.put o.dst (goInt (Nat.min sLen dLen))) w'):wpList P ops Q (o::rest) a w:=
 wpList_plain hgd fun _ hK=>Aay d s dT sT ho elem sz hu hsz g off dLen dCap ad sLen sCap hd hs cur t hg cs hn hsrc hfit h1 fun w' hb hw hd=>hK _ _ (h w' hb hw hd)
theorem Zk{w:World}{base:Nat}{e:TypeId}{size:Nat}{v:Value}{n:Nat}{xs:List Value}(h:w.ownsRow base e size v n xs):w.ownsRow 0 e size v n xs:=by
 refine⟨h.1,?_⟩;rcases h.2 with q|⟨g,cap,cur,hv,hg,r⟩
 ·exact .inl q
 ·exact .inr ⟨g,cap,cur,hv,ZU _,r⟩
theorem Gs(w:World){ops:Array Oper}{rest:List Oper}{o:Oper}{a:Act}{Q:Exit→Act→World→Prop}(hgd:o.guard=none)(s x:Operand)(t:TypeId)(ho:o.op=.call {callee:=.builtin .append,args:= #[s,x],argTypes:= #[t,t]})(base:Nat)(e:TypeId)(i:TypeInfo)(z:Value)(size bytes:Nat)(ht:P.underlying t=some (.slice e))(hi:P.info? e=some i)(hz:i.zero=some z)(hsize:i.size=size)(hby:i.bytes=bytes)(hzs:z.cells.size=size)(hsz:0<size)(v:Value)(n:Nat)(xs:List Value)(hs:a.eval s=v)(hown:w.ownsRow base e size v n xs)(ad:Addr)(m c:Nat)(news:List Value)(hx:a.eval x=.slice (some ad) m c)(hl:news.length=m*size)(hnews:∀j u,news[j]? =some u→w.cell? (ad.add j)=some u)(h1:∀u∈news,u.oneCell'=true)(h63:n+m≤maxLen)(hbytes:(n+m)*bytes≤140737488355328)(hbase:base≤w.heap.size)(h:∀v' w',w'.ownsRow base e size v' (n+m) (xs++news)→w.grownBy w' v.ownBlock→w.drawn≤w'.drawn→(v'.ownBlock=v.ownBlock∨v'.ownBlock=some w.heap.size)→wpList P ops Q rest (a.put o.dst v') w'):
  wpList P ops Q (o::rest) a w:=by
 refine wpList_plain hgd fun K hK=>?_;obtain⟨v',w',hr,h2,h3,h4,h5⟩:=run_append_own_at (P:=P) w base t o.type e i z size bytes ht hi hz hsize hby hzs hsz v n xs hown ad m c news hl hnews h1 h63 hbytes hbase;subst hsize hby;have hd:=Ow w t o.type e i z ht hi hz hsz (Zk hown) ad m c news hl hnews h1 h63 hbytes hr;rw[←hs,←hx]at hr;exact C6 (Li ho rfl rfl rfl hr) (hK _ _ (h v' w' h2 h3 hd h5))
theorem Vx{w:World}{ops:Array Oper}{o:Oper}{a:Act}{K:Act→World→Prop}{Q:Exit→Act→World→Prop}{E:Prop}(hgd:o.guard=none)(d s:Operand)(dT sT:TypeId)(ho:o.op=.call {callee:=.builtin .copy,args:= #[d,s],argTypes:= #[dT,sT]})(elem:TypeId)(sz:Nat)(hu:P.underlying dT=some (.slice elem))(hsz:(P.info? elem).map (·.size)=some sz)(g off dLen dCap:Nat)(ad:Addr)(sLen sCap:Nat)(hd:a.eval d=.slice (some ⟨g,off,none⟩) dLen dCap)(hs:a.eval s=.slice (some ad) sLen sCap)(cur:Array Value)(t:TypeId)(hg:Blk w g t cur)(cs:List Value)(hn:cs.length=Nat.min sLen dLen*sz)(hsrc:∀j v,cs[j]? =some v→w.cell? (ad.add j)=some v)(hfit:off+cs.length≤cur.size)(h1:∀v∈cs,v.oneCell'=true)(h:∀w',Blk w' g t (splice cur.toList off cs).toArray→w.grownBy w' (some g)→w.drawn≤w'.drawn→K (a.put o.dst (goInt (Nat.min sLen dLen))) w'):
  if Region.wanted o (yielded ops a.tmps)=true then Oper.wp P o a w K Q else E:=by
 have hw:Region.wanted o (yielded ops a.tmps)=true:=by simp[Region.wanted,hgd]
 rw[if_pos hw];exact Aay d s dT sT ho elem sz hu hsz g off dLen dCap ad sLen sCap hd hs cur t hg cs hn hsrc hfit h1 h
end
theorem Ts{w:World}{a:Addr}{v:Value}(h:w.cell? a=some v):a.block<w.heap.size:=World.block_lt_of_cell? w _ h
theorem K9{w:World}{base:Nat}{e:TypeId}{size:Nat}{v:Value}{n:Nat}{xs:List Value}(h:w.ownsRow base e size v n xs):∃A c,v=.slice A n c:=by
 rcases h.2 with⟨rfl,rfl⟩|⟨g,cap,cur,rfl,_⟩
 ·exact⟨_,_,rfl⟩
 ·exact⟨_,_,rfl⟩
theorem Dz{w:World}{base:Nat}{e:TypeId}{size:Nat}{v:Value}{n:Nat}{xs:List Value}(h:w.ownsRow base e size v n xs):∀k,v.ownBlock=some k→base≤k:=fun k hk=>(h.lt k hk).1
theorem Qb{w:World}{g:Nat}{t:TypeId}{cur:Array Value}{n:Nat}{xs:List Value}(h:Blk w g t cur)(hx:cur.toList.take n=xs)(p:Nat):
  ∀j v,(xs.drop p)[j]? =some v→w.cell? ((⟨g,p,none⟩:Addr).add j)=some v:=fun j v hj=>by
 have e:(⟨g,p,none⟩:Addr).add j=⟨g,p+j,none⟩:=by unfold Addr.add;split<;>simp_all
 rw[e,h.cell];rw[List.getElem?_drop,←hx]at hj;have hlt:p+j<n:=by
  have:=(ZB.1 hj).1;rw[ZM]at this;omega
 rw[XA hlt]at hj;simpa using hj
def LB(A:Option Addr)(b:Nat):Prop:=∃a,A=some a∧a.block=b
theorem Am0{A:Option Addr}{n c k:Nat}(h:(Value.slice A n c).ownBlock=some k):LB A k:=by
 cases A with
 |none=>cases h
 |some a=>exact⟨a,rfl,by simpa[Value.ownBlock]using h⟩
theorem Al8{w a:World}{base:Nat}{e:TypeId}{size:Nat}{v:Value}{n:Nat}{xs:List Value}{L:Nat→Prop}(h:w.ownsRow base e size v n xs)(hL:∀k,v.ownBlock=some k→L k):∀k,v.ownBlock=some k→L k∨a.heap.size≤k:=fun k hk=>.inl (hL k hk)
theorem Fr.drew{L:Nat→Prop}{a w:World}(h:Fr L a w):Fr L a w.drew:=⟨h.os,h.tape,h.output,h.size,h.block⟩
theorem Fr.alloc{L:Nat→Prop}{a w:World}(h:Fr L a w)(o:Obj):Fr L a (w.alloc o):=h.grown (World.grownBy_alloc w o none) (by simp) (ZT _)
theorem Ac6{w:World}{g:Nat}{t:TypeId}{cur:Array Value}{n:Nat}{xs:List Value}(h:Blk w g t cur)(hx:cur.toList.take n=xs):∀j v,xs[j]? =some v→w.cell? ((⟨g,0,none⟩:Addr).add j)=some v:=fun j v hj=>Qb h hx 0 j v (by rwa[List.drop_zero])
theorem Ab9{α:Type}(cur xs vs:List α)(p n:Nat)(hx:cur.take n=xs)(hn:n≤cur.length)(hp:p≤n)(hr:n+vs.length≤cur.length):
  (splice (splice cur (p+vs.length) (xs.drop p)) p vs).take (n+vs.length)=xs.take p++vs++xs.drop p:=by
 have hxl:xs.length=n:=by rw[←hx,ZM];omega
 have e0:cur.take p=xs.take p:=by rw[←hx,List.take_take,Nat.min_eq_left hp]
 unfold splice;have hA:((cur.take (p+vs.length)++(xs.drop p++cur.drop (p+vs.length+(xs.drop p).length))).take p)=xs.take p:=by
  rw[List.take_append_of_le_length (by rw[ZM];omega),List.take_take,Nat.min_eq_left (by omega),e0]
 have hB:((cur.take (p+vs.length)++(xs.drop p++cur.drop (p+vs.length+(xs.drop p).length))).drop (p+vs.length))=xs.drop p++cur.drop (p+vs.length+(xs.drop p).length):=by
  have hlen:(cur.take (p+vs.length)).length=p+vs.length:=by rw[ZM];omega
  conv=>lhs;arg 1;rw[←hlen]
  rw[List.drop_left]
 rw[hA,hB,←ZS,←ZS];rw[List.take_append_of_le_length (by simp;omega)];exact List.take_of_length_le (by simp;omega)
theorem Abx{α:Type}(Z xs vs:List α)(p n:Nat)(hz:Z.take p=xs.take p)(hxl:xs.length=n)(hp:p≤n)(hr:n+vs.length≤Z.length):
  (splice (splice Z p vs) (p+vs.length) (xs.drop p)).take (n+vs.length)=xs.take p++vs++xs.drop p:=by
 unfold splice;have hpl:p≤Z.length:=by omega
 have hA:((Z.take p++(vs++Z.drop (p+vs.length))).take (p+vs.length))=xs.take p++vs:=by
  rw[←ZS,List.take_append_of_le_length (by simp;omega),hz];exact List.take_of_length_le (by simp;omega)
 rw[hA,←ZS,List.take_append_of_le_length (by simp;omega)];exact List.take_of_length_le (by simp;omega)
theorem Zm:(Tryz.prog.info? 47).map (fun i=>(i.zero,i.size,i.bytes))=some (some (.agg #[.string ⟨#[]⟩,.int .i64 0,.int .i64 0,.int .i64 0,.bool false]),5,48):=by kernel_rfl
theorem Tq:(Tryz.prog.info? 47).map (·.size)=some 5:=by kernel_rfl
theorem Ao7:∀w,(Go.sizeOf 47).run Tryz.prog w=.ok 5 w:=by
 intro w;obtain⟨i0,hi0,hz0,hzs,hzb⟩:=info_parts Zm;simp[sizeOf,typeInfo,hi0,hzs]
theorem Adg(vb g:Nat)(vc lb cb off:Nat)(vs cur:Array Value)(w:World)(hv:Blk w vb 47 vs)(hg:Blk w g 47 cur)(hne:vb≠g)(hcur:cur.size≠0):
  (callFunc 242 #[.slice (some ⟨vb,0,none⟩) 1 vc,.slice (some ⟨g,off,none⟩) lb cb]).run Tryz.prog w=.ok (.value (.bool false)) w:=by
 rw[run_callFunc_extern Tryz.func242 (by kernel_rfl) (by kernel_rfl) (by kernel_rfl) (e:=Extern.SlicesOverlaps.overlaps #[36,36] #[4]) (by kernel_rfl),
  Lib.run_overlaps_apart w 36 4 47 Tryz.underlying36 5 Ao7 ⟨vb,0,none⟩ ⟨g,off,none⟩ 1 vc lb cb hne 47 47 vs.size cur.size
   (by unfold Blk at hv;simp[World.shape?,hv]) (by unfold Blk at hg;simp[World.shape?,hg]) hcur (hv.frozen _) (hv.frozen _)]
 rfl
def Ae8(L:Nat→Prop)(base n i:Nat)(xs vs:List Value)(w:World)(e:Ending)(w':World):Prop:=
 ∃A' c',e=.returned (.slice A' (n+1) c')∧w'.ownsRow base 47 5 (.slice A' (n+1) c') (n+1) (xs.take (i*5)++vs++xs.drop (i*5))∧Fr L w w'∧∀k,(Value.slice A' (n+1) c').ownBlock=some k→L k∨w.heap.size≤k
set_option maxHeartbeats 1000000 in
set_option maxRecDepth 100000 in
theorem Afa(base:Nat)(A:Option Addr)(n c:Nat)(xs:List Value)(vb vc:Nat)(vcur:Array Value)(vs:List Value)(w:World)(hown:w.ownsRow base 47 5 (.slice A n c) n xs)(hbase:base≤w.heap.size)(hn:n≤1000)(hv:Blk w vb 47 vcur)(hvc:vcur.toList.take 5=vs)(hvl:vs.length=5)(h1:∀v∈vs,v.oneCell'=true):
  Calls Tryz.prog 201 #[.slice A n c,.int .i64 n,.slice (some ⟨vb,0,none⟩) 1 vc] w (Ae8 (LB A) base n n xs vs w):=by
 obtain⟨i0,hi0,hz0,hzs,hzb⟩:=info_parts Zm;have hnc:n≤c∧c≤9223372036854775807:=by
  rcases hown.2 with⟨hv,hz⟩|⟨g,cap,cur,hv,_,_,h,h',_⟩
  ·injection hv;omega
  ·injection hv with _ _ e;subst e;exact⟨h,h'⟩
 obtain⟨hnc,hc63⟩:=hnc;have hxs:xs.length=n*5:=hown.1;have HXS:=hid hxs;have HVL:=hid hvl;have HV:=hid hv;have HO:=hid hown;have HZ0:=hid hz0;have HZS:=hid hzs;have HZB:=hid hzb;have HI0:=hid hi0;clear hxs hvl hv hown hz0 hzs hzb hi0;have hnn:((n:Int)==(n:Int))=true:=by simp
 go_enter Tryz.func201,Tryz.ntmps201
 go_wp2_with (at_builtin;refine Gs _ rfl _ _ 36 rfl base 47 i0 _ 5 48 Tryz.underlying36 HI0.out HZ0.out HZS.out HZB.out rfl (by decide) _ _ _ rfl HO.out ⟨vb,0,none⟩ 1 vc vs rfl (by simpa using HVL.out) (Ac6 HV.out hvc) h1 (by simp only[maxLen];omega) (by omega) hbase ?_;intro v1 w1 hown1 hg1 hd1 hat1)
 all_goals go_ret
 all_goals
  obtain⟨A',c',rfl⟩:=K9 hown1;refine⟨A',c',rfl,?_,(Fr.refl _ _).grown hg1 (Al8 HO.out (fun k hk=>Am0 (n:=n) (c:=c) hk)) hd1,fun k hk=>?_⟩;rotate_left
  ·rcases hat1 with h|h
   ·exact .inl (Am0 (n:=n) (c:=c) (h.symm.trans hk))
   ·have:=h.symm.trans hk;injection this with this
    exact .inr (by omega)
  rw[List.take_of_length_le (by have:=HXS.out;omega),List.drop_of_length_le (by have:=HXS.out;omega),List.append_nil];exact hown1
set_option maxHeartbeats 2000000 in
set_option maxRecDepth 100000 in
theorem Adc(base g:Nat)(n c i:Nat)(cur:Array Value)(xs:List Value)(vb vc:Nat)(vcur:Array Value)(vs:List Value)(w:World)(hg:Blk w g 47 cur)(hbg:base≤g)(hcs:cur.size=c*5)(hcx:cur.toList.take (n*5)=xs)(hi:i<n)(hr:n+1≤c)(hc63:c≤9223372036854775807)(hn:n≤1000)(hv:Blk w vb 47 vcur)(hvc:vcur.toList.take 5=vs)(hne:vb≠g)(hvl:vs.length=5)(h1:∀v∈vs,v.oneCell'=true)(h1x:∀v∈xs,v.oneCell'=true):
  Calls Tryz.prog 201 #[.slice (some ⟨g,0,none⟩) n c,.int .i64 i,.slice (some ⟨vb,0,none⟩) 1 vc] w (Ae8 (LB (some ⟨g,0,none⟩)) base n i xs vs w):=by
 have hcl:cur.toList.length=c*5:=by rw[Array.length_toList];exact hcs
 have hxl:xs.length=n*5:=by rw[←hcx,ZM,hcl];omega
 have hov:∀lb cb,(callFunc 242 #[.slice (some ⟨vb,0,none⟩) 1 vc,.slice (some ⟨g,(i+1)*5,none⟩) lb cb]).run Tryz.prog w=.ok (.value (.bool false)) w:=fun lb cb=>Adg vb g vc lb cb ((i+1)*5) vcur cur w hv hg hne (by omega);have HB2:Hid ((splice (splice cur.toList ((i+1)*5) (xs.drop (i*5))) (i*5) vs).take ((n+1)*5)=xs.take (i*5)++vs++xs.drop (i*5)):=by
  refine hid ?_;have h:=Ab9 cur.toList xs vs (i*5) (n*5) hcx (by rw[hcl];omega) (by omega) (by rw[hcl,hvl];omega);rw[hvl]at h;rw[Nat.add_mul,Nat.add_mul,Nat.one_mul];exact h
 have HC1:Hid ((xs.drop (i*5)).length=Nat.min (n+1-i) (n-i)*5):=by
  refine hid ?_;rw[List.length_drop,hxl,show Nat.min (n+1-i) (n-i)=n-i from Nat.min_eq_right (by omega),Nat.sub_mul]
 have HC2:=hid (fun j v (hj:(xs.drop (i*5))[j]? =some v)=>Qb hg.drew hcx (i*5) j v hj);have HC3:Hid ((i+1)*5+(xs.drop (i*5)).length≤cur.size):=hid (by rw[List.length_drop];omega);have HC3':Hid ((i+1)*5+(xs.drop (i*5)).length≤cur.toList.length):=hid (by rw[List.length_drop,hcl];omega);have HC4:=hid (fun v (hv:v∈xs.drop (i*5))=>h1x v (List.mem_of_mem_drop hv));have HC5:Hid (vs.length=Nat.min 1 (n+1-i)*5):=by
  refine hid ?_;rw[hvl,show Nat.min 1 (n+1-i)=1 from Nat.min_eq_left (by omega)]
 have HC6:Hid (i*5+vs.length≤(splice cur.toList ((i+1)*5) (xs.drop (i*5))).toArray.size):=by
  refine hid ?_;rw[List.size_toArray,length_splice _ _ _ (by rw[hcl,←hcs];exact HC3.out),hcl,hvl];omega
 have HXL:=hid hxl;have HVL:=hid hvl;have HG:=hid hg;have HV:=hid hv;have HCS:=hid hcs;have HNE:=hid hne;have HCX:=hid hcx;clear hxl hvl hg hv hcs hne hcx;have hw1:IntKind.i64.wrap ((i:Int)+1)=(i:Int)+1:=by rw[IntWalk.i64_in _ (by omega)]
 have hb1:(0:Int)≤(i:Int)+1:=by omega
 have htn:((i:Int)+1).toNat=i+1:=by omega
 have hb3:(i:Int)≤(n:Int)+1:=by omega
 have hb4:(i:Int)+1≤(n:Int)+1:=by omega
 have hb5:(i:Int)≤(n:Int):=by omega
 have hb6:¬c=i:=by omega
 have hb7:¬c=i+1:=by omega
 have hb8:((i:Int)==(n:Int))=false:=by simp;omega
 go_enter Tryz.func201,Tryz.ntmps201
 go_wp2_with (simp only[hov])
 go_region_law (refine Vx rfl (.tmp 73) (.tmp 76) 36 36 rfl 47 5 Tryz.underlying36 Tq g ((i+1)*5) (n-i) (c-(i+1)) ⟨g,i*5,none⟩ (n+1-i) (c-i) (by simp[Act.eval,Act.put]) (by simp[Act.eval,Act.put]) cur 47 HG.out.drew (xs.drop (i*5)) HC1.out HC2.out HC3.out HC4.out ?_;intro w1 hk1 hg1 hd1)
 have HK1:=hid hk1;have HG1:=hid hg1;have HV1:=hid (HV.out.drew.grown hg1 (fun e=>HNE.out (by injection e)));clear hk1 hg1
 go_wp2_with (refine Qi rfl (.tmp 80) (.tmp 81) 36 36 rfl 47 5 Tryz.underlying36 Tq g (i*5) (n+1-i) (c-i) ⟨vb,0,none⟩ 1 vc (by simp[Act.eval]) (by simp[Act.eval]) _ 47 HK1.out vs HC5.out (Ac6 HV1.out hvc) HC6.out h1 ?_;intro w2 hk2 hg2 hd2)
 go_ret
 refine⟨_,_,rfl,⟨?_,.inr ⟨g,c,_,rfl,hbg,hk2,by omega,by simpa[maxLen]using hc63,?_,?_⟩⟩,?_,fun k hk=>.inl ⟨_,rfl,by injection hk with hk⟩⟩
 ·simp only[ZF,ZM,List.length_drop];have:=HXL.out;have:=HVL.out;omega
 ·have h1:=length_splice cur.toList ((i+1)*5) (xs.drop (i*5)) HC3'.out;have h2:=length_splice (splice cur.toList ((i+1)*5) (xs.drop (i*5))) (i*5) vs (by simpa using HC6.out);rw[List.size_toArray,List.toList_toArray,h2,h1];simpa using HCS.out
 ·rw[List.toList_toArray,List.toList_toArray];exact HB2.out
 ·have hlt:=HG.out.lt;exact((Fr.refl _ w).drew.grown HG1.out (fun k hk=>.inl (⟨_,rfl,by injection hk with hk⟩)) hd1).grown hg2 (fun k hk=>.inl (⟨_,rfl,by injection hk with hk⟩)) hd2
set_option maxHeartbeats 2000000 in
set_option maxRecDepth 100000 in
theorem Ac8(base g:Nat)(n c i:Nat)(cur:Array Value)(xs:List Value)(vb vc:Nat)(vcur:Array Value)(vs:List Value)(w:World)(hg:Blk w g 47 cur)(hbase:base≤w.heap.size)(hcs:cur.size=c*5)(hcx:cur.toList.take (n*5)=xs)(hi:i<n)(hnc:n≤c)(hr:c<n+1)(hn:n≤1000)(hv:Blk w vb 47 vcur)(hvc:vcur.toList.take 5=vs)(hvl:vs.length=5)(h1:∀v∈vs,v.oneCell'=true)(h1x:∀v∈xs,v.oneCell'=true):
  Calls Tryz.prog 201 #[.slice (some ⟨g,0,none⟩) n c,.int .i64 i,.slice (some ⟨vb,0,none⟩) 1 vc] w (Ae8 (LB (some ⟨g,0,none⟩)) base n i xs vs w):=by
 obtain⟨i0,hi0,hz0,hzs,hzb⟩:=info_parts Zm;have hcl:cur.toList.length=c*5:=by rw[Array.length_toList];exact hcs
 have hxl:xs.length=n*5:=by rw[←hcx,ZM,hcl];omega
 have hold:(Builtin.firstCells i0.size i (.slice (some ⟨g,0,none⟩) i c)).run Tryz.prog w.drew=.ok (xs.take (i*5)).toArray w.drew:=by
  rw[hzs];exact run_firstCells_some w.drew 5 i ⟨g,0,none⟩ i c (xs.take (i*5)) (by rw[ZM];omega) (fun j v hj=>by
   have hj':(xs.drop 0)[j]? =some v:=by
    rw[List.drop_zero];rw[List.getElem?_take]at hj;split at hj
    ·exact hj
    ·cases hj
   exact Qb hg.drew hcx 0 j v hj')
 have hkk:(n:Int)+1-(i:Int)=((n+1-i:Nat):Int):=by omega
 have hik:i+(n+1-i)=n+1:=by omega
 obtain⟨G,hG⟩:∃G,G=grownCap w (n+1) c 47:=⟨_,rfl⟩;have hGn:n+1≤G:=by rw[hG];exact grownCap_ge w _ _ _
 have hG63:G≤9223372036854775807:=by
  have:=grownCap_le_maxLen w (n+1) c 47 (by unfold maxLen;omega);rw[←hG]at this;unfold maxLen at this;omega
 obtain⟨ROW,hROW⟩:∃ROW:Array Value,ROW=(xs.take (i*5)).toArray++Builtin.zeroCells (Value.agg #[.string ⟨#[]⟩,.int .i64 0,.int .i64 0,.int .i64 0,.bool false]).cells (n+1-i)++Builtin.zeroCells (Value.agg #[.string ⟨#[]⟩,.int .i64 0,.int .i64 0,.int .i64 0,.bool false]).cells (G-(n+1)):=⟨_,rfl⟩;have hrz:∀ty,(Builtin.append_ #[36,3] ty #[.slice (some ⟨g,0,none⟩) i c,.int .i64 ((n:Int)+1-(i:Int))]).run Tryz.prog w=
   .ok (.slice (some ⟨w.heap.size,0,none⟩) (n+1) G) (w.drew.alloc (.cells ROW 47)):=fun ty=>by
  have h:=Lib.run_append_grow_zeros w 36 3 ty 47 i0 _ .i64 .i64 Tryz.underlying36 Tryz.underlying3 hi0 hz0 (some ⟨g,0,none⟩) i c (xs.take (i*5)) hold (n+1-i) (by omega) (by omega) (by omega) (by omega) (by rw[hzb];omega) (by rw[hzb,hik];exact growslice_fits hr (by omega));rw[hik]at h;rw[hkk,hROW,hG];exact h
 have hRs:ROW.size=G*5:=by
  rw[hROW];simp[Builtin.zeroCells,Value.cells];omega
 have hRl:ROW.toList.length=G*5:=by rw[Array.length_toList];exact hRs
 have hRt:ROW.toList.take (i*5)=xs.take (i*5):=by
  rw[hROW,Array.toList_append,Array.toList_append,ZS,List.take_append_of_le_length (by simp;omega),List.toList_toArray,List.take_take,Nat.min_self]
 have HB2:Hid ((splice (splice ROW.toList (i*5) vs) ((i+1)*5) (xs.drop (i*5))).take ((n+1)*5)=xs.take (i*5)++vs++xs.drop (i*5)):=by
  refine hid ?_;have h:=Abx ROW.toList xs vs (i*5) (n*5) hRt hxl (by omega) (by rw[hRl,hvl];omega);rw[hvl]at h;rw[Nat.add_mul,Nat.add_mul,Nat.one_mul];exact h
 have hgl:=hg.lt;have hvlt:=hv.lt;have HN:=hid (Blk.new_ w.drew 47 ROW (g:=w.heap.size) rfl);have HV:=hid ((hv.drew).alloc (.cells ROW 47));have HG0:=hid ((hg.drew).alloc (.cells ROW 47));have HC1:Hid (vs.length=Nat.min 1 (n+1-i)*5):=by
  refine hid ?_;rw[hvl,show Nat.min 1 (n+1-i)=1 from Nat.min_eq_left (by omega)]
 have HC2:Hid (i*5+vs.length≤ROW.size):=hid (by rw[hRs,hvl];omega);have HC2':Hid (i*5+vs.length≤ROW.toList.length):=hid (by rw[hRl,hvl];omega);have HC3:Hid ((xs.drop (i*5)).length=Nat.min (n-i) (n-i)*5):=by
  refine hid ?_;rw[List.length_drop,hxl,show Nat.min (n-i) (n-i)=n-i from Nat.min_self _,Nat.sub_mul]
 have HC4:Hid ((i+1)*5+(xs.drop (i*5)).length≤(splice ROW.toList (i*5) vs).toArray.size):=by
  refine hid ?_;rw[List.size_toArray,length_splice _ _ _ HC2'.out,hRl,List.length_drop];omega
 have HC5:=hid (fun v (hv:v∈xs.drop (i*5))=>h1x v (List.mem_of_mem_drop hv));have HRL:=hid hRl;have HXL:=hid hxl;have HVL:=hid hvl;have HCX:=hid hcx;have HRS:=hid hRs;have HNE:Hid (w.heap.size≠g):=hid (by omega);have HNV:Hid (w.heap.size≠vb):=hid (by omega);clear hRl hxl hvl hcx hRs hold hi0 hz0 hzs hzb hkk hik hROW hG hg hv hcs hcl hRt;have hw1:IntKind.i64.wrap ((i:Int)+1)=(i:Int)+1:=by rw[IntWalk.i64_in _ (by omega)]
 have hb1:(0:Int)≤(i:Int)+1:=by omega
 have htn:((i:Int)+1).toNat=i+1:=by omega
 have hb3:(i:Int)≤(n:Int)+1:=by omega
 have hb4:(i:Int)+1≤(n:Int)+1:=by omega
 have hb5:(i:Int)≤(n:Int):=by omega
 have hb6:¬c=i:=by omega
 have hb7:¬G=i+1:=by omega
 have hb9:¬G=i:=by omega
 have hb8:((i:Int)==(n:Int))=false:=by simp;omega
 go_enter Tryz.func201,Tryz.ntmps201
 go_wp2_with (first
  |(at_builtin;refine Lib.wpList_append_run _ rfl _ _ _ _ rfl _ _ rfl rfl _ _ (hrz _) ?_;clear hrz)
  |(refine Qi rfl (.tmp 43) (.tmp 44) 36 36 rfl 47 5 Tryz.underlying36 Tq w.heap.size (i*5) (n+1-i) (G-i) ⟨vb,0,none⟩ 1 vc (by simp[Act.eval]) (by simp[Act.eval]) ROW 47 HN.out.drew vs HC1.out (Ac6 HV.out.drew hvc) HC2.out h1 ?_;intro w1 hk1 hg1 hd1))
 have HK1:=hid hk1;have HG1:=hid hg1;have HG0':=hid ((show Blk (w.alloc (.cells ROW 47)).drew g 47 cur from HG0.out).grown hg1 (fun e=>HNE.out (by injection e with e;exact e.symm)));have HC2a:=hid (fun j v (hj:(xs.drop (i*5))[j]? =some v)=>Qb HG0'.out.drew HCX.out (i*5) j v hj);clear hk1 hg1
 go_region_law (refine Vx rfl (.tmp 50) (.tmp 53) 36 36 rfl 47 5 Tryz.underlying36 Tq w.heap.size ((i+1)*5) (n-i) (G-(i+1)) ⟨g,i*5,none⟩ (n-i) (c-i) (by simp[Act.eval,Act.put]) (by simp[Act.eval,Act.put]) _ 47 HK1.out.drew (xs.drop (i*5)) HC3.out HC2a.out HC4.out HC5.out ?_;intro w2 hk2 hg2 hd2)
 have HK2:=hid hk2;have HG2:=hid hg2;clear hk2 hg2
 go_wp2
 go_ret
 refine⟨_,_,rfl,⟨?_,.inr ⟨w.heap.size,G,_,rfl,hbase,HK2.out,hGn,by simpa[maxLen]using hG63,?_,?_⟩⟩,?_,fun k hk=>.inr (Nat.le_of_eq (show w.heap.size=k by injection hk))⟩
 ·simp only[ZF,ZM,List.length_drop];have:=HXL.out;have:=HVL.out;omega
 ·have h1:=length_splice ROW.toList (i*5) vs HC2'.out;have h2:=length_splice (splice ROW.toList (i*5) vs) ((i+1)*5) (xs.drop (i*5)) (by simpa using HC4.out);rw[List.size_toArray,List.toList_toArray,h2,h1];simpa using HRS.out
 ·rw[List.toList_toArray,List.toList_toArray];exact HB2.out
 ·exact((((Fr.refl _ w).alloc _).drew.grown HG1.out (fun k hk=>.inr (by injection hk with hk;omega)) hd1).drew).grown HG2.out (fun k hk=>.inr (by injection hk with hk;omega)) hd2
theorem Afy(base:Nat)(A:Option Addr)(n c i:Nat)(xs:List Value)(vb vc:Nat)(vcur:Array Value)(vs:List Value)(w:World)(hown:w.ownsRow base 47 5 (.slice A n c) n xs)(hbase:base≤w.heap.size)(hi:i≤n)(hn:n≤1000)(hv:Blk w vb 47 vcur)(hvc:vcur.toList.take 5=vs)(hne:(Value.slice A n c).ownBlock≠some vb)(hvl:vs.length=5)(h1:∀v∈vs,v.oneCell'=true)(h1x:∀v∈xs,v.oneCell'=true):
  Calls Tryz.prog 201 #[.slice A n c,.int .i64 i,.slice (some ⟨vb,0,none⟩) 1 vc] w (Ae8 (LB A) base n i xs vs w):=by
 by_cases hin:i=n
 ·subst hin;exact Afa base A i c xs vb vc vcur vs w hown hbase hn hv hvc hvl h1
 ·obtain⟨hl,h2⟩:=hown;rcases h2 with⟨_,h0⟩|⟨g,cap,cur,hA,hbg,hh,hnc,hm,hsz,htk⟩
  ·omega
  ·injection hA with hA _ hcap;subst hA;subst hcap;have hne':vb≠g:=fun e=>hne (by subst e;rfl);by_cases hr:n+1≤c
   ·exact Adc base g n c i cur xs vb vc vcur vs w hh hbg hsz htk (by omega) hr (by simpa[maxLen]using hm) hn hv hvc hne' hvl h1 h1x
   ·exact Ac8 base g n c i cur xs vb vc vcur vs w hh hbase hsz htk (by omega) hnc (by omega) hn hv hvc hvl h1 h1x
def Aq1(base n:Nat)(xs:List Value)(w:World)(e:Ending)(w':World):Prop:=
 ∃A' c',e=.returned (.slice A' n c')∧w'.ownsRow base 47 5 (.slice A' n c') n xs∧Below base w w'∧w.drawn≤w'.drawn
set_option maxRecDepth 100000 in
theorem Afd(A:Option Addr)(n c:Nat)(xs:List Value)(w:World)(hA:A=none→n=0)(hn:n≤1000)(hxl:xs.length=n*5)(hx:∀ad,A=some ad→∀j u,xs[j]? =some u→w.cell? (ad.add j)=some u)(h1:∀v∈xs,v.oneCell'=true):
  Calls Tryz.prog 107 #[.slice A n c] w (Aq1 w.heap.size n xs w):=by
 obtain⟨i0,hi0,hz0,hzs,hzb⟩:=info_parts Zm;cases A with
 |none=>
  obtain rfl:=hA rfl;obtain rfl:xs=[]:=XR (by simpa using hxl);clear hx hxl hi0 hz0 hzs hzb h1;have hnl:=fun(w:World)=>Lib.run_eql_slice_nil (P:=Tryz.prog) w 36 47 none 0 c 0 0 Tryz.underlying36
  go_enter Tryz.func107,Tryz.ntmps107
  go_wp2
  go_ret
  exact⟨none,0,rfl,World.ownsRow_nil _ _ _ _,Below.refl _ _,ZT _⟩
 |some ad=>
  have HX:=hid (hx ad rfl);have HXL:=hid hxl;have HZ0:=hid hz0;have HZS:=hid hzs;have HZB:=hid hzb;have HI0:=hid hi0;clear hx hxl hA hi0 hz0 hzs hzb;have hnl:=fun(w:World)=>Lib.run_eql_slice_nil (P:=Tryz.prog) w 36 47 (some ad) n c 0 0 Tryz.underlying36
  go_enter Tryz.func107,Tryz.ntmps107
  have hown0:(w.alloc (.cells #[] 47)).ownsRow w.heap.size 47 5 (.slice (some ⟨w.heap.size,0,none⟩) 0 0) 0 []:=
   ⟨by simp,.inr ⟨w.heap.size,0, #[],rfl,ZT _,heap_alloc_new w _,by omega,by simp[maxLen],by simp,by simp⟩⟩
  have HO:=hid hown0;have HX1:=hid (fun j u (hj:xs[j]? =some u)=>(World.cell?_alloc_lt w (.cells #[] 47) (ad.add j) (Ts (HX.out j u hj))).trans (HX.out j u hj));clear hown0
  go_wp2_with (at_builtin;refine Gs _ rfl _ _ 36 rfl w.heap.size 47 i0 _ 5 48 Tryz.underlying36 HI0.out HZ0.out HZS.out HZB.out rfl (by decide) _ _ _ rfl HO.out ad n c xs rfl HXL.out HX1.out h1 (by simp only[maxLen];omega) (by omega) (by simp) ?_;intro v1 w1 hown1 hg1 hd1 hat1)
  go_ret
  rw[Nat.zero_add,List.nil_append]at hown1;obtain⟨A',c',rfl⟩:=K9 hown1;exact⟨A',c',rfl,hown1,((Below.refl _ _).alloc (ZT _) _).grown hg1 (by simp) (Dz HO.out),hd1⟩
section
variable {α:Type} {enc:α→List Value} {sz:Nat} {w w':World} {R:Nat→Prop}
theorem Fr.imp{L L':Nat→Prop}(h:Fr L w w')(hl:∀k,L k→L' k):Fr L' w w':=⟨h.os,h.tape,h.output,h.size,fun k hk hn=>h.block k hk fun hl'=>hn (hl k hl')⟩
theorem Py{u:V}{xs:List Value}(hp:Ls w R [.c u] xs):∃v,xs=[v]∧RV w R noG u v:=by
 have hl:=hp.len
 match xs,hl with
 |[v],_=>exact⟨v,rfl,hp.ok 0 _ _ rfl rfl⟩
theorem P3(he:∀x,(enc x).length=sz){cl:Bool}{l:List α}{v:Value}(h:RV w R noG (.sl cl (l.map fun x=>(enc x).map .v)) v):
  ∃A c,v=.slice A l.length c∧(A=none→l.length=0)∧∀ad,A=some ad→∀j u,(l.flatMap enc)[j]? =some u→w.cell? (ad.add j)=some u:=by
 generalize hrows:(l.map fun x=>(enc x).map V.v)=rows at h;cases h with
 |nil _ a cap hc=>
  obtain rfl:l=[]:=by simpa using hrows
  exact⟨a,cap,rfl,fun _=>rfl,fun ad _ j u hu=>by simp at hu⟩
 |sl _ _ b off cap sz' f hR hcap hclip hs hcell hh=>
  have hlen:rows.length=l.length:=by rw[←hrows];simp
  rw[hlen];refine⟨some ⟨b,off,none⟩,cap,rfl,(by intro h;cases h),fun ad had j u hu=>?_⟩;injection had with had;subst had
  rw[Aao _ _ rfl];have hj:j<l.length*sz:=by
   have:=(ZB.1 hu).1
   rwa[I5 he]at this
  have hsz:0<sz:=by rcases Nat.eq_zero_or_pos sz with h|h;(subst h;omega);exact h
  have hd:j/sz<l.length:=Nat.div_lt_of_lt_mul (by rw[Nat.mul_comm];exact hj);have hm:j%sz<sz:=Nat.mod_lt _ hsz;have e2:j=j/sz*sz+j%sz:=by rw[Nat.mul_comm];exact(Nat.div_add_mod j sz).symm
  have hrow:rows[j/sz]? =some ((enc l[j/sz]).map V.v):=by rw[←hrows];simp[hd]
  have hsz':sz'=sz:=by rw[←hs _ (ZH hrow)];simp[he]
  subst hsz';rw[e2,Ps he (j/sz') (j%sz') hd hm]at hu;have hu':((enc l[j/sz']).map V.v)[j%sz']? =some (.v u):=by rw[XJ,hu];rfl
  have h1:=hcell _ _ _ _ hrow hu';have h2:=B8 (hh _ _ _ _ hrow hu');rw[h2]at h1;show w.cell? ⟨b,off+j,none⟩=some u;rw[e2,←Nat.add_assoc];exact h1
theorem Ac5(he:∀x,(enc x).length=sz)(h1:∀x,∀v∈enc x,v.oneCell'=true)(l:List α):Cb w R noG (l.flatMap enc) sz (l.map fun x=>(enc x).map V.v):=by
 refine⟨fun row hr=>?_,fun i j row u g1 g2=>?_⟩
 ·obtain⟨x,_,rfl⟩:=XO.1 hr;simp[he]
 ·have hi:i<l.length:=by have:=(ZB.1 g1).1;simpa using this
  have e:row=(enc l[i]).map V.v:=by simp[hi]at g1;exact g1.symm
  subst e;rw[XJ]at g2;cases hq:(enc l[i])[j]? with
  |none=>rw[hq]at g2;cases g2
  |some y=>
   rw[hq]at g2;simp at g2;subst g2;have hj:j<sz:=by rw[←he l[i]];exact(ZB.1 hq).1
   exact⟨y,by rw[Ps he i j hi hj];exact hq,h1 _ y (ZH hq),.v y⟩
theorem Xs(he:∀x,(enc x).length=sz){l:List α}{xs:List Value}(hl:xs.length=l.length*sz)(h:Cb w R noG xs sz (l.map fun x=>(enc x).map V.v)):xs=l.flatMap enc:=by
 apply List.ext_getElem?;intro j;by_cases hj:j<l.length*sz
 ·have hsz:0<sz:=by rcases Nat.eq_zero_or_pos sz with h|h;(subst h;omega);exact h
  have hd:j/sz<l.length:=Nat.div_lt_of_lt_mul (by rw[Nat.mul_comm];exact hj);have hm:j%sz<sz:=Nat.mod_lt _ hsz;have e2:j=j/sz*sz+j%sz:=by rw[Nat.mul_comm];exact(Nat.div_add_mod j sz).symm
  have hrow:(l.map fun x=>(enc x).map V.v)[j/sz]? =some ((enc l[j/sz]).map V.v):=by simp[hd]
  have hy:(enc l[j/sz])[j%sz]? =some ((enc l[j/sz])[j%sz]'(by rw[he];exact hm)):=ZC (by rw[he];exact hm);obtain⟨x,h1,_,h2⟩:=h.2 (j/sz) (j%sz) _ _ hrow (by rw[XJ,hy];rfl);rw[B8 h2]at h1;rw[e2,h1,Ps he _ _ hd hm,hy]
 ·rw[XK (by omega),XK (by rw[I5 he];omega)]
theorem Ai2(he:∀x,(enc x).length=sz)(l:List α)(x:α)(i:Nat):(l.flatMap enc).take (i*sz)++enc x++(l.flatMap enc).drop (i*sz)=(l.take i++[x]++l.drop i).flatMap enc:=by
 have h:∀(i:Nat) (l:List α),(l.flatMap enc).take (i*sz)=(l.take i).flatMap enc∧(l.flatMap enc).drop (i*sz)=(l.drop i).flatMap enc:=by
  intro i
  induction i with
  |zero=>intro l;simp
  |succ i ih=>
   intro l;cases l with
   |nil=>simp
   |cons y l=>
    have hy:=he y;have:=ih l;rw[List.flatMap_cons,Nat.add_mul,Nat.one_mul];constructor
    ·rw[List.take_append,hy,List.take_of_length_le (by rw[hy];omega),show i*sz+sz-sz=i*sz by omega,this.1,List.take_succ_cons,List.flatMap_cons]
    ·rw[List.drop_append,hy,List.drop_of_length_le (by rw[hy];omega),show i*sz+sz-sz=i*sz by omega,this.2,List.drop_succ_cons,List.nil_append]
 rw[(h i l).1,(h i l).2];simp
theorem I4{T:TypeId}{base:Nat}(he:∀x,(enc x).length=sz)(h1:∀x,∀v∈enc x,v.oneCell'=true)(hsz:0<sz){l:List α}{A:Option Addr}{c:Nat}{L:Nat→Prop}(hlt:∀b,R b→b<w.heap.size)(hown:w'.ownsRow base T sz (.slice A l.length c) l.length (l.flatMap enc))(hfr:Fr L w w')(hk:∀k,(Value.slice A l.length c).ownBlock=some k→L k∨w.heap.size≤k)(hn:∀k,(Value.slice A l.length c).ownBlock=some k→¬R k):
  ∃(ys:List Value) (R':Nat→Prop),Ending.returned (.slice A l.length c)=.returned (Da ys)∧Fr L w w'∧(∀b,R b→R' b)∧
   (∀b,R' b→R b∨(b<w'.heap.size∧(L b∨w.heap.size≤b)))∧Ls w' R' [.o T sz (l.map fun x=>(enc x).map V.v)] ys∧(∀b,A4 [.o T sz (l.map fun x=>(enc x).map V.v)] ys b→L b∨w.heap.size≤b):=by
 have hpb:∀b,A4 [.o T sz (l.map fun x=>(enc x).map V.v)] [.slice A l.length c] b→(Value.slice A l.length c).ownBlock=some b:=by
  rintro b ⟨i,T',sz',rows',x,g1,g2,g3⟩
  cases i with
  |zero=>simp at g2;subst g2;exact g3
  |succ i=>simp at g1
 refine⟨[.slice A l.length c],R,rfl,hfr,fun _ h=>h,fun b h=>.inl h,⟨rfl,?_,?_,?_⟩,fun b hb=>hk b (hpb b hb)⟩
 ·intro i p x g1 g2;cases i with
  |zero=>
   simp at g1 g2;subst g1 g2;exact⟨hsz,_,by rw[ZE];exact Aib hown (ZU _),Ac5 he h1 l⟩
  |succ i=>simp at g1
 ·intro i j T1 sz1 rows1 T2 sz2 rows2 x y b hij g1 g2;cases i with
  |zero=>cases j with
   |zero=>exact absurd rfl hij
   |succ j=>simp at g2
  |succ i=>simp at g1
 ·intro b hb;exact hn b (hpb b hb)
theorem Aj4{T:TypeId}(he:∀x,(enc x).length=sz){l:List α}{x:α}{z:Value}{xs:List Value}(hp:Ls w R [.o T sz (l.map fun x=>(enc x).map V.v),.c (.v z),.o T sz [(enc x).map V.v]] xs):
  ∃v0 v2,xs=[v0,z,v2]∧w.ownsRow 0 T sz v0 l.length (l.flatMap enc)∧w.ownsRow 0 T sz v2 1 (enc x)∧(∀b,v0.ownBlock=some b→v2.ownBlock≠some b)∧∀b,A4 [.o T sz (l.map fun x=>(enc x).map V.v),.c (.v z),.o T sz [(enc x).map V.v]] xs b→¬R b:=by
 have hl:=hp.len
 match xs,hl with
 |[v0,v1,v2],_=>
  obtain⟨_,x0,h0,h0'⟩:=hp.ok 0 _ _ rfl rfl;have h1:RV w R noG (.v z) v1:=hp.ok 1 _ _ rfl rfl;obtain⟨_,x2,h2,h2'⟩:=hp.ok 2 _ _ rfl rfl;obtain rfl:=B8 h1;rw[ZE]at h0;obtain rfl:=Xs he h0.1 h0';have h2'':Cb w R noG x2 sz ([x].map fun x=>(enc x).map V.v):=h2';have e2:=Xs he (l:=[x]) h2.1 h2'';simp only[List.flatMap_cons,List.flatMap_nil,List.append_nil]at e2;rw[e2]at h2;exact⟨v0,v2,rfl,h0,h2,fun b g1 g2=>hp.apart 0 2 _ _ _ _ _ _ _ _ b (by omega) rfl rfl rfl rfl g1 g2,hp.free⟩
end
theorem Ab0[Glob]{α:Type}(enc:α→List Value)(he:∀x,(enc x).length=5)(h1:∀x,∀v∈enc x,v.oneCell'=true)(cl:Bool)(l:List α)(hl:l.length≤1000):
  Fun Tryz.prog 107 [.c (.sl cl (l.map fun x=>(enc x).map .v))] [.o 47 5 (l.map fun x=>(enc x).map .v)]:=by
 refine⟨C7 Tryz.func107 (by kernel_rfl) (by kernel_rfl),fun w R xs hlt hp _=>?_⟩;obtain⟨v,rfl,hv⟩:=Py hp;obtain⟨A,c,rfl,hA,hx⟩:=P3 he hv;have hone:∀v∈l.flatMap enc,v.oneCell'=true:=fun v hv=>by
  obtain⟨g,_,hg⟩:=List.mem_flatMap.1 hv;exact h1 g v hg
 refine(Afd A l.length c (l.flatMap enc) w hA hl (I5 he l) hx hone).mono ?_
 rintro e w' ⟨A',c',rfl,hown,hb,hd⟩
 exact I4 he h1 (by decide) hlt hown (Cf hb) (fun k hk=>.inr (Dz hown k hk)) (fun k hk=>by have:=Dz hown k hk;intro h;have:=hlt k h;omega)
set_option maxHeartbeats 1000000 in
theorem Yk[Glob]{α:Type}(enc:α→List Value)(he:∀x,(enc x).length=5)(h1:∀x,∀v∈enc x,v.oneCell'=true)(l:List α)(x:α)(i:Nat)(hi:i≤l.length)(hl:l.length≤1000):
  Fun Tryz.prog 201 [.o 47 5 (l.map fun x=>(enc x).map .v),.c (.v (.int .i64 i)),.o 47 5 [(enc x).map .v]] [.o 47 5 ((l.take i++[x]++l.drop i).map fun x=>(enc x).map .v)]:=by
 refine⟨C7 Tryz.func201 (by kernel_rfl) (by kernel_rfl),fun w R xs hlt hp _=>?_⟩;obtain⟨v0,v2,rfl,o0,o2,hap,hf0⟩:=Aj4 (enc:=enc) he hp;obtain⟨A,c,rfl⟩:=K9 o0;rcases o2.2 with⟨_,h0⟩|⟨g,cap,cur,rfl,_,hh,hcap,_,hsz,htk⟩
 ·omega
 have hone:∀v∈l.flatMap enc,v.oneCell'=true:=fun v hv=>by
  obtain⟨g,_,hg⟩:=List.mem_flatMap.1 hv;exact h1 g v hg
 refine(Afy 0 A l.length c i (l.flatMap enc) g cap cur (enc x) w o0 (ZU _) hi hl hh (by rw[Nat.one_mul]at htk;exact htk) (fun e=>hap g e rfl) (he x) (h1 x) hone).mono ?_
 rintro e w' ⟨A',c',rfl,hown,hb,hk⟩
 rw[Ai2 he l x i,show l.length+1=(l.take i++[x]++l.drop i).length by simp;omega]at hown;rw[show l.length+1=(l.take i++[x]++l.drop i).length by simp;omega]at hk ⊢;have hL:∀k,LB A k→A4 [.o 47 5 (l.map fun x=>(enc x).map .v),.c (.v (.int .i64 i)),.o 47 5 [(enc x).map .v]] [.slice A l.length c,.int .i64 i,.slice (some ⟨g,0,none⟩) 1 cap] k:=fun k ⟨a,ha,hq⟩=>⟨0,_,_,_,_,rfl,rfl,by subst ha;simp only[Value.ownBlock];rw[hq]⟩;exact I4 he h1 (by decide) hlt hown (hb.imp hL) (fun k hk'=>(hk k hk').imp (hL k) (fun h=>h)) (fun k hk'=>by
  rcases hk k hk' with h|h
  ·exact hf0 k (hL k h)
  ·intro h';have:=hlt k h';omega)
theorem Xa[Glob](c:Bool)(l:List Mb)(hl:l.length≤9223372036854775807)(hw:∀m∈l,m.ok):Fun Tryz.prog 129 [.c (.sl c (l.map Mb.row))] [.c (.v (.int .i64 (Ad Mb.err l)))]:=by
 refine A9 Fx rfl ?_;(refine goI ?_;repeat (intro gg;refine goI ?_));rw[ZE];(refine⟨[],none,{k:Nat//k≤l.length∧∀j,(h:j<l.length)→j<k→(l[j]).err=0},[6,7],fun⟨k,hk,h0⟩=>[(8,.v (.int .i64 k))],[],fun⟨k,hk,h0⟩=>[],fun⟨k,hk,h0⟩=>l.length-k,trivial,fun _=>⟨trivial,fun _=>⟨⟨0,by omega,fun j _ h=>by omega⟩,tI,Aj _ _,tI,Ak _ _⟩⟩,fun⟨k,hk,h0⟩=>?_⟩);(refine goI ?_;repeat (intro gg;refine goI ?_));(refine Ab (fun h=>?_) (fun h=>?_)<;>rw[h])
 ·have hlt:k<l.length:=by simpa using h
  (refine goI ?_;repeat (intro gg;refine goI ?_));refine⟨k,_,rfl,Al hlt,?_⟩;(refine goI ?_;repeat (intro gg;refine goI ?_));refine .inl (cX (Aag _ (hw _ (ZK hlt))) ?_);(refine goI ?_;repeat (intro gg;refine goI ?_));(refine Ab (fun h=>?_) (fun h=>?_)<;>rw[h])
  ·(refine goI ?_;repeat (intro gg;refine goI ?_));rw[Bc hlt h0 (by simpa using h)];(exact⟨[],aI⟩)
  ·(refine goI ?_;repeat (intro gg;refine goI ?_));(exact⟨none,trivial,fun _=>⟨⟨k+1,by omega,up1 (p:=fun j h=>(l[j]).err=0) h0 (fun _=>by simpa using h)⟩,by show l.length-(k+1)<l.length-k;omega,tI,tI,tI,tI⟩⟩)
 ·have hge:¬k<l.length:=by simpa using h
  (refine goI ?_;repeat (intro gg;refine goI ?_));rw[A8 (l:=l) (fun i hi=>h0 i hi (by omega))];(exact⟨[],aI⟩)
def Ap4(l:List Mb):List V:=[.sl false (l.map Mb.row)]
theorem Ac3[Glob](c:Bool)(ls:List (List Mb))(hls:ls.length≤9223372036854775807)(hl:∀l∈ls,l.length≤9223372036854775807)(hw:∀l∈ls,∀m∈l,m.ok):Fun Tryz.prog 83 [.c (.sl c (ls.map Ap4))] [.c (.v (.int .i64 (Ad Gc ls)))]:=by
 refine A9 Et rfl ?_;(refine goI ?_;repeat (intro gg;refine goI ?_));rw[ZE];(refine⟨[],none,{k:Nat//k≤ls.length∧∀j,(h:j<ls.length)→j<k→Gc (ls[j])=0},[7,8],fun⟨k,hk,h0⟩=>[(9,.v (.int .i64 k))],[],fun⟨k,hk,h0⟩=>[],fun⟨k,hk,h0⟩=>ls.length-k,trivial,fun _=>⟨trivial,fun _=>⟨⟨0,by omega,fun j _ h=>by omega⟩,tI,Aj _ _,tI,Ak _ _⟩⟩,fun⟨k,hk,h0⟩=>?_⟩);(refine goI ?_;repeat (intro gg;refine goI ?_));(refine Ab (fun h=>?_) (fun h=>?_)<;>rw[h])
 ·have hlt:k<ls.length:=by simpa using h
  (refine goI ?_;repeat (intro gg;refine goI ?_));refine⟨k,_,rfl,Al hlt,?_⟩;(refine goI ?_;repeat (intro gg;refine goI ?_));have HL:=hl _ (ZK hlt);have HW:=hw _ (ZK hlt);have HE:=Bc (e:=Gc) hlt h0;have HN:Gc ls[k]=0→∀j,(h:j<ls.length)→j<k+1→Gc (ls[j])=0:=fun e=>up1 (p:=fun j h=>Gc (ls[j])=0) h0 (fun _=>e);generalize ls[k]=l at *;rw[ZE];(refine Ab (fun h1=>?_) (fun h1=>?_)<;>rw[h1])
  ·(refine goI ?_;repeat (intro gg;refine goI ?_));have e:Gc l=2:=Gt (by have:=ZV h1;omega);rw[HE (by rw[e];decide),e];(exact⟨[],aI⟩)
  ·have h1':¬20<l.length:=(by have:=ZW h1;omega);(refine goI ?_;repeat (intro gg;refine goI ?_));refine .inl (cX (Xa false l HL HW) ?_);(refine goI ?_;repeat (intro gg;refine goI ?_));(refine Ab (fun h2=>?_) (fun h2=>?_)<;>rw[h2])
   ·have h2':Ad Mb.err l≠0:=by simpa using h2
    (refine goI ?_;repeat (intro gg;refine goI ?_));have e:Gc l=Ad Mb.err l:=C3 h1' h2';rw[HE (by rw[e];exact h2'),e];(exact⟨[],aI⟩)
   ·have h2':Ad Mb.err l=0:=by simpa using h2
    (refine goI ?_;repeat (intro gg;refine goI ?_));(refine⟨[],none,{k:Nat//(k<l.length∨k=0)∧∀i,(h:i+1<l.length)→i<k→Mb.lt l[i] l[i+1]=true},[4,7,8,9],fun⟨q,hq,g0⟩=>[(6,.v (.int .i64 ((q:Int)+1)))],[],fun⟨q,hq,g0⟩=>[],fun⟨q,hq,g0⟩=>l.length-q,trivial,fun _=>⟨trivial,fun _=>⟨⟨0,by omega,fun j _ h=>by omega⟩,tI,Aj _ _,tI,Ak _ _⟩⟩,fun⟨q,hq,g0⟩=>?_⟩);(refine goI ?_;repeat (intro gg;refine goI ?_));rw[ZE];(refine Ab (fun h3=>?_) (fun h3=>?_)<;>rw[h3])
    ·have hlt3:q+1<l.length:=(by have:=ZV h3;omega);(refine goI ?_;repeat (intro gg;refine goI ?_));refine⟨q+1,_,by omega,Al hlt3,?_⟩;(refine goI ?_;repeat (intro gg;refine goI ?_));refine⟨q,_,by omega,Al (by omega),?_⟩;(refine goI ?_;repeat (intro gg;refine goI ?_));rw[Ro];(refine Ab (fun h4=>?_) (fun h4=>?_)<;>rw[h4])
     ·(refine goI ?_;repeat (intro gg;refine goI ?_));have e:Gc l=4:=Ng h1' h2' (Dp hlt3 (by simpa[Mb.lt]using h4));rw[HE (by rw[e];decide),e];(exact⟨[],aI⟩)
     ·(refine goI ?_;repeat (intro gg;refine goI ?_));(exact⟨none,trivial,fun _=>⟨⟨q+1,by omega,up2 (p:=fun i h=>Mb.lt l[i] l[i+1]=true) g0 (fun _=>by simpa[Mb.lt]using h4)⟩,by show l.length-(q+1)<l.length-q;omega,tI,tI,tI,tI⟩⟩)
    ·have hge3:¬q+1<l.length:=(by have:=ZW h3;omega);(refine goI ?_;repeat (intro gg;refine goI ?_));have e:Gc l=0:=Jw h1' h2' (D2 fun i hi=>g0 i hi (by omega));(exact⟨none,trivial,fun _=>⟨⟨k+1,by omega,HN e⟩,by show ls.length-(k+1)<ls.length-k;omega,tI,tI,tI,tI⟩⟩)
 ·have hge:¬k<ls.length:=by simpa using h
  (refine goI ?_;repeat (intro gg;refine goI ?_));rw[A8 (l:=ls) (fun i hi=>h0 i hi (by omega))];(exact⟨[],aI⟩)
theorem Vu[Glob](l:List Mb)(hl:l.length≤9223372036854775807)(hw:∀m∈l,m.ok):Fun Tryz.prog 45 [.c (.sl false (l.map Mb.row))] [.c (.v (.int .i64 (Gc l)))]:=by
 refine A9 Hc rfl ?_;(refine goI ?_;repeat (intro gg;refine goI ?_));(refine .inl ⟨_,_,true,[],aI,Ac3 false [l] (by simp) (by simpa using hl) (by simpa using hw),(fun _=>fI),nI,?_⟩);rw[Ln];(refine goI ?_;repeat (intro gg;refine goI ?_));(exact⟨[],aI⟩)
theorem Abr[Glob](c:Bool)(l:List Mb)(hl:l.length≤9223372036854775807)(hw:∀m∈l,m.ok):Fun Tryz.prog 28 [.c (.sl c (l.map Mb.row))] [.c (.v (.int .i64 (Gc l)))]:=by
 refine A9 Io rfl ?_;(refine goI ?_;repeat (intro gg;refine goI ?_));rw[ZE];(refine Ab (fun h1=>?_) (fun h1=>?_)<;>rw[h1])
 ·(refine goI ?_;repeat (intro gg;refine goI ?_));have e:Gc l=2:=Gt (by have:=ZV h1;omega);rw[e];(exact⟨[],aI⟩)
 ·have h1':¬20<l.length:=(by have:=ZW h1;omega);(refine goI ?_;repeat (intro gg;refine goI ?_));(refine⟨[],none,{k:Nat//k≤l.length∧∀j,(h:j<l.length)→j<k→(l[j]).err=0},[0],fun⟨k,hk,h0⟩=>[(3,.v (.int .i64 k))],[],fun⟨k,hk,h0⟩=>[],fun⟨k,hk,h0⟩=>l.length-k,trivial,fun _=>⟨trivial,fun _=>⟨⟨0,by omega,fun j _ h=>by omega⟩,tI,Aj _ _,tI,Ak _ _⟩⟩,fun⟨k,hk,h0⟩=>?_⟩);(refine goI ?_;repeat (intro gg;refine goI ?_));rw[ZE];(refine Ab (fun h=>?_) (fun h=>?_)<;>rw[h])
  ·have hlt:k<l.length:=(by have:=ZV h;omega);(refine goI ?_;repeat (intro gg;refine goI ?_));refine⟨k,_,rfl,Al hlt,?_⟩;(refine goI ?_;repeat (intro gg;refine goI ?_));refine .inl (cX (Z7 _ (hw _ (ZK hlt))) ?_);(refine goI ?_;repeat (intro gg;refine goI ?_));(refine Ab (fun h2=>?_) (fun h2=>?_)<;>rw[h2])
   ·(refine goI ?_;repeat (intro gg;refine goI ?_));have h2':(l[k]).err≠0:=by simpa using h2
    have e0:=Bc hlt h0 h2';have e:Gc l=(l[k]).err:=(C3 h1' (by rw[e0];exact h2')).trans e0;rw[e];(exact⟨[],aI⟩)
   ·(refine goI ?_;repeat (intro gg;refine goI ?_));(exact⟨none,trivial,fun _=>⟨⟨k+1,by omega,up1 (p:=fun j h=>(l[j]).err=0) h0 (fun _=>by simpa using h2)⟩,by show l.length-(k+1)<l.length-k;omega,tI,tI,tI,tI⟩⟩)
  ·have hge:¬k<l.length:=(by have:=ZW h;omega);have h2':Ad Mb.err l=0:=A8 fun i hi=>h0 i hi (by omega);(refine goI ?_;repeat (intro gg;refine goI ?_));(refine⟨[],none,{k:Nat//(k<l.length∨k=0)∧∀i,(h:i+1<l.length)→i<k→Mb.lt l[i] l[i+1]=true},[0],fun⟨q,hq,g0⟩=>[(5,.v (.int .i64 ((q:Int)+1)))],[],fun⟨q,hq,g0⟩=>[],fun⟨q,hq,g0⟩=>l.length-q,trivial,fun _=>⟨trivial,fun _=>⟨⟨0,by omega,fun j _ h=>by omega⟩,tI,Aj _ _,tI,Ak _ _⟩⟩,fun⟨q,hq,g0⟩=>?_⟩);(refine goI ?_;repeat (intro gg;refine goI ?_));rw[ZE];(refine Ab (fun h3=>?_) (fun h3=>?_)<;>rw[h3])
   ·have hlt3:q+1<l.length:=(by have:=ZV h3;omega);(refine goI ?_;repeat (intro gg;refine goI ?_));refine⟨q+1,_,by omega,Al hlt3,?_⟩;(refine goI ?_;repeat (intro gg;refine goI ?_));refine⟨q,_,by omega,Al (by omega),?_⟩;(refine goI ?_;repeat (intro gg;refine goI ?_));rw[Ro];(refine Ab (fun h4=>?_) (fun h4=>?_)<;>rw[h4])
    ·(refine goI ?_;repeat (intro gg;refine goI ?_));have e:Gc l=4:=Ng h1' h2' (Dp hlt3 (by simpa[Mb.lt]using h4));rw[e];(exact⟨[],aI⟩)
    ·(refine goI ?_;repeat (intro gg;refine goI ?_));(exact⟨none,trivial,fun _=>⟨⟨q+1,by omega,up2 (p:=fun i h=>Mb.lt l[i] l[i+1]=true) g0 (fun _=>by simpa[Mb.lt]using h4)⟩,by show l.length-(q+1)<l.length-q;omega,tI,tI,tI,tI⟩⟩)
   ·have hge3:¬q+1<l.length:=(by have:=ZW h3;omega);(refine goI ?_;repeat (intro gg;refine goI ?_));have e:Gc l=0:=Jw h1' h2' (D2 fun i hi=>g0 i hi (by omega));rw[e];(exact⟨[],aI⟩)
theorem Af2[Glob](g:Mb)(name:ByteArray):Fun Tryz.prog 92 [.c (.agg g.row),.c (.v (.string name))] [.c (.v (.int .i64 (Mb.cf name g)))]:=by
 refine A9 Bk rfl ?_;(refine goI ?_;repeat (intro gg;refine goI ?_));refine .inl (cX (Uv _ _) ?_);(refine goI ?_;repeat (intro gg;refine goI ?_));(exact⟨[],aI⟩)
theorem Alu[Glob](c:Bool)(l:List Mb)(name:ByteArray)(hl:l.length≤1000)(hm:An3 (Mb.cf name) l):Fun Tryz.prog 91 [.c (.sl c (l.map Mb.row)),.c (.v (.string name)),.c (.v (.func (.func 92) #[] #[]))] [.c (.v (.int .i64 (low (Mb.cf name) l))),.c (.v (.bool (hit (Mb.cf name) l)))]:=by
 refine A9 As rfl ?_;(refine goI ?_;repeat (intro gg;refine goI ?_));rw[ZE];(refine⟨[],none,{p:Nat×Nat//p.1≤p.2∧p.2≤l.length∧(∀k,(h:k<l.length)→k<p.1→Mb.cf name l[k]<0)∧(∀k,(h:k<l.length)→p.2≤k→0≤Mb.cf name l[k])},[0,1,2,8],fun⟨⟨i,j⟩,h1,h2,h3,h4⟩=>[(9,.v (.int .i64 i)),(10,.v (.int .i64 j))],[],fun⟨⟨i,j⟩,h1,h2,h3,h4⟩=>[],fun⟨⟨i,j⟩,h1,h2,h3,h4⟩=>j-i,trivial,fun _=>⟨trivial,fun _=>⟨⟨(0,l.length),by omega,by omega,fun k _ h=>absurd h (by omega),fun k h h'=>absurd h (by omega)⟩,tI,Aj _ _,tI,Ak _ _⟩⟩,fun⟨⟨i,j⟩,h1,h2,h3,h4⟩=>?_⟩);dsimp only at h1 h2 h3 h4;(refine goI ?_;repeat (intro gg;refine goI ?_));(refine Ab (fun h=>?_) (fun h=>?_)<;>rw[h])
 ·have hlt:i<j:=(by have:=ZV h;omega);have hk:(i+j)/2<l.length:=by omega
  (refine goI ?_;repeat (intro gg;refine goI ?_));refine⟨(i+j)/2,_,by omega,Al hk,?_⟩;(refine goI ?_;repeat (intro gg;refine goI ?_));refine .inl (cX (Af2 _ _) ?_);(refine goI ?_;repeat (intro gg;refine goI ?_));(refine Ab (fun h5=>?_) (fun h5=>?_)<;>rw[h5])
  ·have h5':Mb.cf name l[(i+j)/2]<0:=by simpa using h5
   (refine goI ?_;repeat (intro gg;refine goI ?_));(exact⟨none,trivial,fun _=>⟨⟨((i+j)/2+1,j),by dsimp only;omega,h2,fun k hk' hka=>hm k ((i+j)/2) hk' hk (by dsimp only at hka;omega) h5',h4⟩,by show j-((i+j)/2+1)<j-i;omega,tI,tI,tI,tI⟩⟩)
  ·have h5':¬Mb.cf name l[(i+j)/2]<0:=by simpa using h5
   (refine goI ?_;repeat (intro gg;refine goI ?_));(exact⟨none,trivial,fun _=>⟨⟨(i,(i+j)/2),by dsimp only;omega,by dsimp only;omega,h3,fun k hk' hka=>Int.not_lt.1 (fun h'=>h5' (hm ((i+j)/2) k hk hk' hka h'))⟩,by show(i+j)/2-i<j-i;omega,tI,tI,tI,tI⟩⟩)
 ·have hij:i=j:=(by have:=ZW h;omega);subst hij;have HE:=Ahj (cf:=Mb.cf name) h2 h3 h4;(refine goI ?_;repeat (intro gg;refine goI ?_));(refine Ab (fun h5=>?_) (fun h5=>?_)<;>rw[h5])
  ·have hin:i<l.length:=(by have:=ZV h5;omega);have HH:hit (Mb.cf name) l=decide (Mb.cf name l[i]=0):=by
    have hin':low (Mb.cf name) l<l.length:=by rw[←HE];exact hin
    rw[Ada hin'];simp only[←HE]
   (refine goI ?_;repeat (intro gg;refine goI ?_));refine⟨i,_,rfl,Al hin,?_⟩;(refine goI ?_;repeat (intro gg;refine goI ?_));refine .inl (cX (Af2 _ _) ?_);(refine goI ?_;repeat (intro gg;refine goI ?_));rw[←HE,HH];(exact⟨[],aI⟩)
  ·have HH:hit (Mb.cf name) l=false:=Adu (by rw[←HE];exact(by have:=ZW h5;omega));(refine goI ?_;repeat (intro gg;refine goI ?_));rw[←HE,HH];(exact⟨[],aI⟩)
theorem Xp[Glob](c:Bool)(l:List Mb)(name:ByteArray)(hl:l.length≤1000)(hm:An3 (Mb.cf name) l):Fun Tryz.prog 51 [.c (.sl c (l.map Mb.row)),.c (.v (.string name))] [.c (.v (.int .i64 (low (Mb.cf name) l))),.c (.v (.bool (hit (Mb.cf name) l)))]:=by
 refine A9 Ea rfl ?_;(refine goI ?_;repeat (intro gg;refine goI ?_));refine .inl (cX (Alu c l name hl hm) ?_);(refine goI ?_;repeat (intro gg;refine goI ?_));(exact⟨[],aI⟩)
theorem Ai1[Glob](c:Bool)(l:List Mb)(name:ByteArray)(hl:l.length≤9223372036854775807):Fun Tryz.prog 34 [.c (.sl c (l.map Mb.row)),.c (.v (.string name))] [.c (.v (.int .i64 (at_ (Mb.is name) l)))]:=by
 refine A9 L5 rfl ?_;(refine goI ?_;repeat (intro gg;refine goI ?_));(refine⟨[],none,{k:Nat//k≤l.length∧∀j,(h:j<l.length)→j<k→Mb.is name l[j]=false},[0,1],fun⟨k,hk,h0⟩=>[(5,.v (.int .i64 k))],[],fun⟨k,hk,h0⟩=>[],fun⟨k,hk,h0⟩=>l.length-k,trivial,fun _=>⟨trivial,fun _=>⟨⟨0,by omega,fun j _ h=>by omega⟩,tI,Aj _ _,tI,Ak _ _⟩⟩,fun⟨k,hk,h0⟩=>?_⟩);(refine goI ?_;repeat (intro gg;refine goI ?_));rw[ZE];(refine Ab (fun h=>?_) (fun h=>?_)<;>rw[h])
 ·have hlt:k<l.length:=(by have:=ZV h;omega);(refine goI ?_;repeat (intro gg;refine goI ?_));refine⟨k,_,rfl,Al hlt,?_⟩;(refine goI ?_;repeat (intro gg;refine goI ?_));(refine Ab (fun h2=>?_) (fun h2=>?_)<;>rw[h2])
  ·(refine goI ?_;repeat (intro gg;refine goI ?_));rw[X5 hlt h0 h2];(exact⟨[],aI⟩)
  ·(refine goI ?_;repeat (intro gg;refine goI ?_));(exact⟨none,trivial,fun _=>⟨⟨k+1,by omega,up1 (p:=fun j h=>Mb.is name l[j]=false) h0 (fun _=>h2)⟩,by show l.length-(k+1)<l.length-k;omega,tI,tI,tI,tI⟩⟩)
 ·have hge:¬k<l.length:=(by have:=ZW h;omega);(refine goI ?_;repeat (intro gg;refine goI ?_));rw[Aeh (p:=Mb.is name) (l:=l) (fun i hi=>h0 i hi (by omega))];(exact⟨[],aI⟩)
theorem Sn[Glob](cl:Bool)(l:List Ru)(hl:l.length≤1000):Fun Tryz.prog 108 [.c (.sl cl (l.map Ru.row))] [.o 79 6 (l.map Ru.row)]:=by
 refine A9 Ep rfl ?_;(refine goI ?_;repeat (intro gg;refine goI ?_));rename_i b;have hb:=gg;cases b with
 |true=>
  have e:l.map Ru.row=[]:=hb rfl;(refine goI ?_;repeat (intro gg;refine goI ?_));rw[e];(exact⟨[],aI⟩)
 |false=>
  (refine goI ?_;repeat (intro gg;refine goI ?_));refine⟨Xy,?_⟩;(refine goI ?_;repeat (intro gg;refine goI ?_));refine⟨lI,lI,?_⟩;(refine goI ?_;repeat (intro gg;refine goI ?_));(exact⟨[80],aI⟩)
theorem Am8[Glob](cl:Bool)(l:List Ru)(f:FuncId)(caps:List V)(hcaps:∀u∈caps,Cl u)(p:Ru→Bool)(hl:l.length≤1000)(hf:∀x∈l,Fun Tryz.prog f (.c (.agg (Ru.row x))::caps.map .c) [.c (.v (.bool (p x)))]):
  Fun Tryz.prog 131 [.c (.sl cl (l.map Ru.row)),.c (.clo f caps)] [.c (.v (.int .i64 (at_ p l)))]:=by
 refine A9 Bd rfl ?_;(refine goI ?_;repeat (intro gg;refine goI ?_));rw[ZE];(refine⟨[],none,{k:Nat//k≤l.length∧∀j,(h:j<l.length)→j<k→p l[j]=false},[0,1,7],fun⟨k,hk,h0⟩=>[(8,.v (.int .i64 k))],[],fun⟨k,hk,h0⟩=>[],fun⟨k,hk,h0⟩=>l.length-k,trivial,fun _=>⟨trivial,fun _=>⟨⟨0,by omega,fun j _ h=>by omega⟩,tI,Aj _ _,tI,Ak _ _⟩⟩,fun⟨k,hk,h0⟩=>?_⟩);(refine goI ?_;repeat (intro gg;refine goI ?_));(refine Ab (fun h=>?_) (fun h=>?_)<;>rw[h])
 ·have hlt:k<l.length:=(by have:=ZV h;omega);(refine goI ?_;repeat (intro gg;refine goI ?_));refine⟨k,_,rfl,Al hlt,?_⟩;(refine goI ?_;repeat (intro gg;refine goI ?_));refine .inl (cX (hf _ (ZK hlt)) ?_);(refine goI ?_;repeat (intro gg;refine goI ?_));(refine Ab (fun h2=>?_) (fun h2=>?_)<;>rw[h2])
  ·(refine goI ?_;repeat (intro gg;refine goI ?_));rw[X5 hlt h0 h2];(exact⟨[],aI⟩)
  ·(refine goI ?_;repeat (intro gg;refine goI ?_));(exact⟨none,trivial,fun _=>⟨⟨k+1,by omega,up1 (p:=fun j h=>p l[j]=false) h0 (fun _=>h2)⟩,by show l.length-(k+1)<l.length-k;omega,tI,tI,tI,tI⟩⟩)
 ·have hge:¬k<l.length:=(by have:=ZW h;omega);(refine goI ?_;repeat (intro gg;refine goI ?_));rw[Aeh (p:=p) (l:=l) (fun i hi=>h0 i hi (by omega))];(exact⟨[],aI⟩)
theorem Ym[Glob](cl:Bool)(l:List Ru)(f:FuncId)(p:Ru→Bool)(hl:l.length≤1000)(hf:∀x∈l,Fun Tryz.prog f [.c (.agg (Ru.row x))] [.c (.v (.bool (p x)))]):
  Fun Tryz.prog 131 [.c (.sl cl (l.map Ru.row)),.c (.v (.func (.func f) #[] #[]))] [.c (.v (.int .i64 (at_ p l)))]:=by
 refine A9 Bd rfl ?_;(refine goI ?_;repeat (intro gg;refine goI ?_));rw[ZE];(refine⟨[],none,{k:Nat//k≤l.length∧∀j,(h:j<l.length)→j<k→p l[j]=false},[0,1,7],fun⟨k,hk,h0⟩=>[(8,.v (.int .i64 k))],[],fun⟨k,hk,h0⟩=>[],fun⟨k,hk,h0⟩=>l.length-k,trivial,fun _=>⟨trivial,fun _=>⟨⟨0,by omega,fun j _ h=>by omega⟩,tI,Aj _ _,tI,Ak _ _⟩⟩,fun⟨k,hk,h0⟩=>?_⟩);(refine goI ?_;repeat (intro gg;refine goI ?_));(refine Ab (fun h=>?_) (fun h=>?_)<;>rw[h])
 ·have hlt:k<l.length:=(by have:=ZV h;omega);(refine goI ?_;repeat (intro gg;refine goI ?_));refine⟨k,_,rfl,Al hlt,?_⟩;(refine goI ?_;repeat (intro gg;refine goI ?_));refine .inl (cX (hf _ (ZK hlt)) ?_);(refine goI ?_;repeat (intro gg;refine goI ?_));(refine Ab (fun h2=>?_) (fun h2=>?_)<;>rw[h2])
  ·(refine goI ?_;repeat (intro gg;refine goI ?_));rw[X5 hlt h0 h2];(exact⟨[],aI⟩)
  ·(refine goI ?_;repeat (intro gg;refine goI ?_));(exact⟨none,trivial,fun _=>⟨⟨k+1,by omega,up1 (p:=fun j h=>p l[j]=false) h0 (fun _=>h2)⟩,by show l.length-(k+1)<l.length-k;omega,tI,tI,tI,tI⟩⟩)
 ·have hge:¬k<l.length:=(by have:=ZW h;omega);(refine goI ?_;repeat (intro gg;refine goI ?_));rw[Aeh (p:=p) (l:=l) (fun i hi=>h0 i hi (by omega))];(exact⟨[],aI⟩)
theorem S8[Glob](cl:Bool)(l:List Ru)(f:FuncId)(p:Ru→Bool)(hl:l.length≤1000)(hf:∀x∈l,Fun Tryz.prog f [.c (.agg (Ru.row x))] [.c (.v (.bool (p x)))]):
  Fun Tryz.prog 85 [.c (.sl cl (l.map Ru.row)),.c (.v (.func (.func f) #[] #[]))] [.c (.v (.bool (l.any p)))]:=by
 have hI:=Ym cl l f p hl hf;refine A9 Cc rfl ?_;(refine goI ?_;repeat (intro gg;refine goI ?_));refine .inl (cX hI ?_);(refine goI ?_;repeat (intro gg;refine goI ?_));rw[Ang];(exact⟨[],aI⟩)
theorem Ail[Glob](m:Mb)(hm:m.ok):Fun Tryz.prog 84 [.c (.agg m.row)] [.c (.v (.int .i64 m.err))]:=by
 refine A9 Oz rfl ?_;(refine goI ?_;repeat (intro gg;refine goI ?_));refine .inl (cX (Aag m hm) ?_);(refine goI ?_;repeat (intro gg;refine goI ?_));(exact⟨[],aI⟩)
theorem Ag6[Glob](r:Ru):Fun Tryz.prog 86 [.c (.agg r.row)] [.c (.v (.bool r.bad))]:=by
 refine A9 Ry rfl ?_;(refine goI ?_;repeat (intro gg;refine goI ?_));(refine Ab (fun h=>?_) (fun h=>?_)<;>rw[h])
 ·have e:r.bad=true:=by have:=ZV h;simp[Ru.bad,wi];omega
  (refine goI ?_;repeat (intro gg;refine goI ?_));rw[e];(exact⟨[],aI⟩)
 ·have e:r.bad=decide (100<r.t):=by
   have h0:0≤r.t:=by have:=ZW h;omega
   unfold Ru.bad wi;rw[ZX h0,Bool.true_and];by_cases q:100<r.t
   ·rw[ZX q,ZY (by omega)];rfl
   ·rw[ZY q,ZX (by omega)];rfl
  (refine goI ?_;repeat (intro gg;refine goI ?_));rw[e];(exact⟨[],aI⟩)
theorem Aa1[Glob](cl:Bool)(l:List Ru)(hl:l.length≤9223372036854775807)(hw:∀r∈l,r.m.ok):Fun Tryz.prog 46 [.c (.sl cl (l.map Ru.row))] [.c (.v (.int .i64 (H5 l)))]:=by
 refine A9 Nl rfl ?_;(refine goI ?_;repeat (intro gg;refine goI ?_));rw[ZE];(refine Ab (fun h=>?_) (fun h=>?_)<;>rw[h])
 ·have h1:20<l.length:=(by have:=ZV h;omega);(refine goI ?_;repeat (intro gg;refine goI ?_));rw[W8 h1];(exact⟨[],aI⟩)
 ·have h1:¬20<l.length:=(by have:=ZW h;omega);(refine goI ?_;repeat (intro gg;refine goI ?_))
  rename Nat=>g0
  (refine⟨[],none,{q:Nat×List (ByteArray×V)//q.1≤l.length∧(∀j,(h:j<l.length)→j<q.1→(l[j]).err=0)∧G5 q.2 ((l.take q.1).map Ru.nm)},[0,3,11,12],fun⟨⟨k,E⟩,hk,h0,hE⟩=>[(13,.v (.int .i64 k))],[],fun⟨⟨k,E⟩,hk,h0,hE⟩=>[(160,⟨g0,.q (K0 (An E)),0,[]⟩)],fun⟨⟨k,E⟩,hk,h0,hE⟩=>l.length-k,trivial,fun _=>⟨trivial,fun _=>⟨⟨(0,[]),ZU _,fun j _ h=>absurd h (Nat.not_lt_zero _),G5.nil⟩,tI,Aj _ _,tI,Ak _ _⟩⟩,fun⟨⟨k,E⟩,hk,h0,hE⟩=>?_⟩);(refine goI ?_;repeat (intro gg;refine goI ?_));(refine Ab (fun h2=>?_) (fun h2=>?_)<;>rw[h2])
  ·have hlt:k<l.length:=by have:=ZV h2;simpa using this
   (refine goI ?_;repeat (intro gg;refine goI ?_));refine⟨k,_,rfl,Al hlt,?_⟩;(refine goI ?_;repeat (intro gg;refine goI ?_));refine .inl (cX (Ail (l[k]).m (hw _ (ZK hlt))) ?_);(refine goI ?_;repeat (intro gg;refine goI ?_));(refine Ab (fun h3=>?_) (fun h3=>?_)<;>rw[h3])
   ·(refine goI ?_;repeat (intro gg;refine goI ?_));have e:H5 l=l[k].m.err:=by
     have e1:=Bc (e:=Ru.err) hlt h0 (by simpa[Ru.err]using h3);rw[X1 h1 (by rw[e1];simpa[Ru.err]using h3),e1];rfl
    rw[e];(exact⟨[],aI⟩)
   ·(refine goI ?_;repeat (intro gg;refine goI ?_));refine⟨_,_,rfl,Ez rfl,N0 _ _ _,?_⟩;(refine goI ?_;repeat (intro gg;refine goI ?_));have e:=Vi E l[k].m.n (.v (.bool true));have hE':G5 (put E l[k].m.n (.v (.bool true))) ((l.take (k+1)).map Ru.nm):=by
     rw[XT,ZC hlt,ZI];exact hE.put _ _ (Ez rfl)
    (exact⟨none,trivial,fun gr=>⟨⟨(k+1,put E l[k].m.n (.v (.bool true))),by dsimp only;omega,up1 (p:=fun j h=>(l[j]).err=0) h0 (fun _=>by simpa[Ru.err]using h3),hE'⟩,by show l.length-(k+1)<l.length-k;omega,tI,tI,⟨congrArg (fun x=>some (Ent.mk g0 (.q (K0 x)) 0 [])) e,trivial⟩,tI⟩⟩)
  ·have hge:¬k<l.length:=by have:=ZW h2;simpa using this
   have hz:=A8 (e:=Ru.err) (l:=l) (fun i hi=>h0 i hi (by dsimp only;omega));rw[List.take_of_length_le (by dsimp only;omega)]at hE;have hE:G5 E (l.map Ru.nm):=hE;have hc:=S8 cl l 86 Ru.bad (by omega) (fun x _=>Ag6 x);(refine goI ?_;repeat (intro gg;refine goI ?_));refine .inl (cX hc ?_);(refine goI ?_;repeat (intro gg;refine goI ?_));(refine Ab (fun h3=>?_) (fun h3=>?_)<;>rw[h3])
   ·(refine goI ?_;repeat (intro gg;refine goI ?_));rw[Aa2 h1 hz h3];(exact⟨[],aI⟩)
   ·(refine goI ?_;repeat (intro gg;refine goI ?_))
    (try refine⟨_,rfl,?_⟩)
    (refine goI ?_;repeat (intro gg;refine goI ?_));rw[V9,ZE];have ha:=hE.all;have hle:=hE.le;rw[ZE]at ha hle;(refine Ab (fun h4=>?_) (fun h4=>?_)<;>rw[h4])
    ·have h4':E.length<l.length:=(by have:=ZV h4;omega);(refine goI ?_;repeat (intro gg;refine goI ?_));rw[Zw h1 hz h3 (fun q=>by have:=ha.2 q;omega)];(exact⟨[],aI⟩)
    ·have h4':¬E.length<l.length:=(by have:=ZW h4;omega);(refine goI ?_;repeat (intro gg;refine goI ?_));rw[Adw h1 hz h3 (ha.1 (by omega))];(exact⟨[],aI⟩)
theorem Ya[Glob](cl:Bool)(l:List Ru)(hl:l.length≤9223372036854775807)(hw:∀r∈l,r.m.ok):Fun Tryz.prog 29 [.c (.sl cl (l.map Ru.row))] [.c (.v (.int .i64 (H5 l)))]:=by
 refine A9 Jk rfl ?_;(refine goI ?_;repeat (intro gg;refine goI ?_));rw[ZE];(refine Ab (fun h=>?_) (fun h=>?_)<;>rw[h])
 ·have h1:20<l.length:=(by have:=ZV h;omega);(refine goI ?_;repeat (intro gg;refine goI ?_));rw[W8 h1];(exact⟨[],aI⟩)
 ·have h1:¬20<l.length:=(by have:=ZW h;omega);(refine goI ?_;repeat (intro gg;refine goI ?_));(refine⟨[],none,{k:Nat//k≤l.length∧∀j,(h:j<l.length)→j<k→(l[j]).err=0},[0,5,6,7],fun⟨k,hk,h0⟩=>[(3,.v (.int .i64 k))],[],fun⟨k,hk,h0⟩=>[],fun⟨k,hk,h0⟩=>l.length-k,trivial,fun _=>⟨trivial,fun _=>⟨⟨0,by omega,fun j _ h=>by omega⟩,tI,Aj _ _,tI,Ak _ _⟩⟩,fun⟨k,hk,h0⟩=>?_⟩);(refine goI ?_;repeat (intro gg;refine goI ?_));(refine Ab (fun h2=>?_) (fun h2=>?_)<;>rw[h2])
  ·have hlt:k<l.length:=by have:=ZV h2;simpa using this
   (refine goI ?_;repeat (intro gg;refine goI ?_));refine⟨k,_,rfl,Al hlt,?_⟩;(refine goI ?_;repeat (intro gg;refine goI ?_));refine .inl (cX (Z7 (l[k]).m (hw _ (ZK hlt))) ?_);(refine goI ?_;repeat (intro gg;refine goI ?_));(refine Ab (fun h3=>?_) (fun h3=>?_)<;>rw[h3])
   ·(refine goI ?_;repeat (intro gg;refine goI ?_));have e:H5 l=l[k].m.err:=by
     have e1:=Bc (e:=Ru.err) hlt h0 (by simpa[Ru.err]using h3);rw[X1 h1 (by rw[e1];simpa[Ru.err]using h3),e1];rfl
    rw[e];(exact⟨[],aI⟩)
   ·(refine goI ?_;repeat (intro gg;refine goI ?_));(exact⟨none,trivial,fun _=>⟨⟨k+1,by omega,up1 (p:=fun j h=>(l[j]).err=0) h0 (fun _=>by simpa[Ru.err]using h3)⟩,by show l.length-(k+1)<l.length-k;omega,tI,tI,tI,tI⟩⟩)
  ·have hge:¬k<l.length:=by have:=ZW h2;simpa using this
   have hz:=A8 (e:=Ru.err) (l:=l) (fun i hi=>h0 i hi (by omega));(refine goI ?_;repeat (intro gg;refine goI ?_));(refine⟨[],none,{k:Nat//k≤l.length∧∀j,(h:j<l.length)→j<k→(l[j]).bad=false},[0,6,7],fun⟨k,hk,h0⟩=>[(5,.v (.int .i64 k))],[],fun⟨k,hk,h0⟩=>[],fun⟨k,hk,h0⟩=>l.length-k,trivial,fun _=>⟨trivial,fun _=>⟨⟨0,by omega,fun j _ h=>by omega⟩,tI,Aj _ _,tI,Ak _ _⟩⟩,fun⟨k,hk,h0⟩=>?_⟩);(refine goI ?_;repeat (intro gg;refine goI ?_));(refine Ab (fun h2=>?_) (fun h2=>?_)<;>rw[h2])
   ·have hlt:k<l.length:=by have:=ZV h2;simpa using this
    (refine goI ?_;repeat (intro gg;refine goI ?_));refine⟨k,_,rfl,Al hlt,?_⟩;(refine goI ?_;repeat (intro gg;refine goI ?_));refine .inl (cX (Br _ _ _) ?_);(refine goI ?_;repeat (intro gg;refine goI ?_));(refine Ab (fun h3=>?_) (fun h3=>?_)<;>rw[h3])
    ·(refine goI ?_;repeat (intro gg;refine goI ?_));rw[Aa2 h1 hz (List.any_eq_true.2 ⟨_,ZK hlt,h3⟩)];(exact⟨[],aI⟩)
    ·(refine goI ?_;repeat (intro gg;refine goI ?_));(exact⟨none,trivial,fun _=>⟨⟨k+1,by omega,up1 (p:=fun j h=>(l[j]).bad=false) h0 (fun _=>h3)⟩,by show l.length-(k+1)<l.length-k;omega,tI,tI,tI,tI⟩⟩)
   ·have hge:¬k<l.length:=by have:=ZW h2;simpa using this
    have ha:l.any Ru.bad=false:=by
     rw[List.any_eq_false];intro x hx;obtain⟨i,hi,rfl⟩:=List.getElem_of_mem hx;rw[h0 i hi (by omega)];simp
    (refine goI ?_;repeat (intro gg;refine goI ?_));(refine⟨[],none,{k:Nat//k≤l.length∧∀i,(h:i<l.length)→i<k→∀j,(g:j<i)→(l[j]).nm≠l[i].nm},[0],fun⟨k,hk,h0⟩=>[(6,.v (.int .i64 k))],[],fun⟨k,hk,h0⟩=>[],fun⟨k,hk,h0⟩=>l.length-k,trivial,fun _=>⟨trivial,fun _=>⟨⟨0,by omega,fun j _ h=>by omega⟩,tI,Aj _ _,tI,Ak _ _⟩⟩,fun⟨k,hk,h0⟩=>?_⟩);(refine goI ?_;repeat (intro gg;refine goI ?_));(refine Ab (fun h2=>?_) (fun h2=>?_)<;>rw[h2])
    ·have hlt:k<l.length:=by have:=ZV h2;simpa using this
     (refine goI ?_;repeat (intro gg;refine goI ?_));(refine⟨[],none,{q:Nat//q≤k∧∀j,(h:j<k)→j<q→(l[j]).nm≠l[k].nm},[0,6],fun⟨q,hq,h0'⟩=>[(7,.v (.int .i64 q))],[],fun⟨q,hq,h0'⟩=>[],fun⟨q,hq,h0'⟩=>k-q,trivial,fun _=>⟨trivial,fun _=>⟨⟨0,by omega,fun j _ h=>by omega⟩,tI,Aj _ _,tI,Ak _ _⟩⟩,fun⟨q,hq,h0'⟩=>?_⟩);(refine goI ?_;repeat (intro gg;refine goI ?_));(refine Ab (fun h3=>?_) (fun h3=>?_)<;>rw[h3])
     ·have hqk:q<k:=by have:=ZV h3;omega
      have hql:q<l.length:=by omega
      (refine goI ?_;repeat (intro gg;refine goI ?_));refine⟨q,_,rfl,Al hql,?_⟩;(refine goI ?_;repeat (intro gg;refine goI ?_));refine⟨k,_,rfl,Al hlt,?_⟩;(refine goI ?_;repeat (intro gg;refine goI ?_));(refine Ab (fun h4=>?_) (fun h4=>?_)<;>rw[h4])
      ·have h4':l[q].nm=l[k].nm:=Ru.is_iff.1 h4;(refine goI ?_;repeat (intro gg;refine goI ?_));rw[Zw h1 hz ha (fun hn=>by have:=Aoo hn hql hlt h4';omega)];(exact⟨[],aI⟩)
      ·have h4':l[q].nm≠l[k].nm:=fun e=>by rw[show(l[q].m.n.toList==l[k].m.n.toList)=true from Ru.is_iff.2 e]at h4;cases h4
       (refine goI ?_;repeat (intro gg;refine goI ?_));(exact⟨none,trivial,fun _=>⟨⟨q+1,by omega,up1 (p:=fun j h=>(l[j]).nm≠l[k].nm) h0' (fun _=>h4')⟩,by show k-(q+1)<k-q;omega,tI,tI,tI,tI⟩⟩)
     ·have hqk:¬q<k:=by have:=ZW h3;omega
      (refine goI ?_;repeat (intro gg;refine goI ?_));(exact⟨none,trivial,fun _=>⟨⟨k+1,by omega,up1 (p:=fun i h=>∀j,(g:j<i)→(l[j]).nm≠l[i].nm) h0 (fun _ j g=>h0' j g (by omega))⟩,by show l.length-(k+1)<l.length-k;omega,tI,tI,tI,tI⟩⟩)
    ·have hge:¬k<l.length:=by have:=ZW h2;simpa using this
     (refine goI ?_;repeat (intro gg;refine goI ?_));rw[Adw h1 hz ha (List.pairwise_iff_getElem.2 fun i j hi hj hij=>by
      simp only[XQ];exact h0 j (by simpa using hj) (by simp at hj;omega) i hij)]
     (exact⟨[],aI⟩)
def Ru.same(g h:Ru):Bool:=(g.m.n.toList==h.m.n.toList)&&((g.m.st==h.m.st)&&((g.m.lf==h.m.lf)&&((g.m.ad==h.m.ad)&&((g.m.sv==h.m.sv)&&((g.t==h.t)&&true)))))
theorem Ru.same_iff{g h:Ru}:Ru.same g h=true↔g=h:=by
 obtain⟨⟨a,b,c,d,e⟩,f⟩:=g;obtain⟨⟨a',b',c',d',e'⟩,f'⟩:=h;have tl:∀a b:ByteArray,a.toList=b.toList↔a=b:=fun a b=>⟨toList_inj,fun h=>by rw[h]⟩;simp only[Ru.same,Bool.and_true,ZO,ZR,tl,Ru.mk.injEq,Mb.mk.injEq,and_assoc]
theorem Acn [Glob] (c d : Bool) (a b : List Ru) (ha : a.length ≤ 9223372036854775807) : Fun Tryz.prog 112 [.c (.sl c (a.map Ru.row)), .c (.sl d (b.map Ru.row))] [.c (.v (.bool (L9 Ru.same a b)))] := by
  refine A9 J8 rfl ?_
  (refine goI ?_; repeat (intro gg; refine goI ?_))
  rw [ZE, ZE]
  (refine Ab (fun h => ?_) (fun h => ?_) <;> rw [h])
  · (refine goI ?_; repeat (intro gg; refine goI ?_))
    rw [M7 (fun e => by rw [e] at h; simp at h)]
    (exact ⟨[], aI⟩)
  · have hab : a.length = b.length := by have h' : ((a.length : Int) != (b.length : Int)) = false := h
                                         simp at h'; omega
    (refine goI ?_; repeat (intro gg; refine goI ?_))
    (refine ⟨[], none, {k : Nat // k ≤ a.length ∧ ∀ j, (h : j < a.length) → j < k → Ru.same a[j] (b[j]'(by omega)) = true}, [0, 1], fun ⟨k, hk, h0⟩ => [(5, .v (.int .i64 k))], [], fun ⟨k, hk, h0⟩ => [], fun ⟨k, hk, h0⟩ => a.length - k, trivial, fun _ => ⟨trivial, fun _ => ⟨⟨0, by omega, fun j _ h => by omega⟩, tI, Aj _ _, tI, Ak _ _⟩⟩, fun ⟨k, hk, h0⟩ => ?_⟩)
    (refine goI ?_; repeat (intro gg; refine goI ?_))
    rw [ZE]
    (refine Ab (fun h2 => ?_) (fun h2 => ?_) <;> rw [h2])
    · have hlt : k < a.length := (by have := ZV h2; omega)
      have hlt' : k < b.length := by omega
      (refine goI ?_; repeat (intro gg; refine goI ?_))
      refine ⟨k, _, rfl, Al hlt, ?_⟩
      (refine goI ?_; repeat (intro gg; refine goI ?_))
      refine ⟨k, _, rfl, Al hlt', ?_⟩
      (refine goI ?_; repeat (intro gg; refine goI ?_))
      (refine Ab (fun h3 => ?_) (fun h3 => ?_) <;> rw [h3])
      · (refine goI ?_; repeat (intro gg; refine goI ?_))
        rw [Nn hlt hlt' (Dk (b := Ru.same a[k] b[k]) h3)]
        (exact ⟨[], aI⟩)
      · (refine goI ?_; repeat (intro gg; refine goI ?_))
        (exact ⟨none, trivial, fun _ => ⟨⟨k + 1, by omega, up1 (p := fun j h => Ru.same a[j] (b[j]'(by omega)) = true) h0 (fun _ => Dl (b := Ru.same a[k] b[k]) h3)⟩, by show a.length - (k + 1) < a.length - k; omega, tI, tI, tI, tI⟩⟩)
    · have hge : ¬ k < a.length := (by have := ZW h2; omega)
      (refine goI ?_; repeat (intro gg; refine goI ?_))
      rw [Ht hab (fun i hi _ => h0 i hi (by omega))]
      (exact ⟨[], aI⟩)
theorem Aoq:(Tryz.prog.info? 50).map (fun i=>(i.zero,i.size,i.bytes))=some (some (.agg #[.string ⟨#[]⟩,.string ⟨#[]⟩,.string ⟨#[]⟩,.string ⟨#[]⟩,.int .i64 0,.int .i64 0,.bool false,.int .i64 0,.bool false]),9,104):=by kernel_rfl
def Apo(base n:Nat)(xs:List Value)(w:World)(e:Ending)(w':World):Prop:=
 ∃A' c',e=.returned (.slice A' n c')∧w'.ownsRow base 50 9 (.slice A' n c') n xs∧Below base w w'∧w.drawn≤w'.drawn
set_option maxRecDepth 100000 in
theorem Agu(A:Option Addr)(n c:Nat)(xs:List Value)(w:World)(hA:A=none→n=0)(hn:n≤1000)(hxl:xs.length=n*9)(hx:∀ad,A=some ad→∀j u,xs[j]? =some u→w.cell? (ad.add j)=some u)(h1:∀v∈xs,v.oneCell'=true):
  Calls Tryz.prog 109 #[.slice A n c] w (Apo w.heap.size n xs w):=by
 obtain⟨i0,hi0,hz0,hzs,hzb⟩:=info_parts Aoq;cases A with
 |none=>
  obtain rfl:=hA rfl;obtain rfl:xs=[]:=XR (by simpa using hxl);clear hx hxl hi0 hz0 hzs hzb h1;have hnl:=fun(w:World)=>Lib.run_eql_slice_nil (P:=Tryz.prog) w 38 50 none 0 c 0 0 Tryz.underlying38
  go_enter Tryz.func109,Tryz.ntmps109
  go_wp2
  go_ret
  exact⟨none,0,rfl,World.ownsRow_nil _ _ _ _,Below.refl _ _,ZT _⟩
 |some ad=>
  have HX:=hid (hx ad rfl);have HXL:=hid hxl;have HZ0:=hid hz0;have HZS:=hid hzs;have HZB:=hid hzb;have HI0:=hid hi0;clear hx hxl hA hi0 hz0 hzs hzb;have hnl:=fun(w:World)=>Lib.run_eql_slice_nil (P:=Tryz.prog) w 38 50 (some ad) n c 0 0 Tryz.underlying38
  go_enter Tryz.func109,Tryz.ntmps109
  have hown0:(w.alloc (.cells #[] 50)).ownsRow w.heap.size 50 9 (.slice (some ⟨w.heap.size,0,none⟩) 0 0) 0 []:=
   ⟨by simp,.inr ⟨w.heap.size,0, #[],rfl,ZT _,heap_alloc_new w _,by omega,by simp[maxLen],by simp,by simp⟩⟩
  have HO:=hid hown0;have HX1:=hid (fun j u (hj:xs[j]? =some u)=>(World.cell?_alloc_lt w (.cells #[] 50) (ad.add j) (Ts (HX.out j u hj))).trans (HX.out j u hj));clear hown0
  go_wp2_with (at_builtin;refine Gs _ rfl _ _ 38 rfl w.heap.size 50 i0 _ 9 104 Tryz.underlying38 HI0.out HZ0.out HZS.out HZB.out rfl (by decide) _ _ _ rfl HO.out ad n c xs rfl HXL.out HX1.out h1 (by simp only[maxLen];omega) (by omega) (by simp) ?_;intro v1 w1 hown1 hg1 hd1 hat1)
  go_ret
  rw[Nat.zero_add,List.nil_append]at hown1;obtain⟨A',c',rfl⟩:=K9 hown1;exact⟨A',c',rfl,hown1,((Below.refl _ _).alloc (ZT _) _).grown hg1 (by simp) (Dz HO.out),hd1⟩
theorem Ab6[Glob]{α:Type}(enc:α→List Value)(he:∀x,(enc x).length=9)(h1:∀x,∀v∈enc x,v.oneCell'=true)(cl:Bool)(l:List α)(hl:l.length≤1000):
  Fun Tryz.prog 109 [.c (.sl cl (l.map fun x=>(enc x).map .v))] [.o 50 9 (l.map fun x=>(enc x).map .v)]:=by
 refine⟨C7 Tryz.func109 (by kernel_rfl) (by kernel_rfl),fun w R xs hlt hp _=>?_⟩;obtain⟨v,rfl,hv⟩:=Py hp;obtain⟨A,c,rfl,hA,hx⟩:=P3 he hv;have hone:∀v∈l.flatMap enc,v.oneCell'=true:=fun v hv=>by
  obtain⟨g,_,hg⟩:=List.mem_flatMap.1 hv;exact h1 g v hg
 refine(Agu A l.length c (l.flatMap enc) w hA hl (I5 he l) hx hone).mono ?_
 rintro e w' ⟨A',c',rfl,hown,hb,hd⟩
 exact I4 he h1 (by decide) hlt hown (Cf hb) (fun k hk=>.inr (Dz hown k hk)) (fun k hk=>by have:=Dz hown k hk;intro h;have:=hlt k h;omega)
theorem Mx[Glob](n a b:Int):Fun Tryz.prog 164 [.c (.v (.int .i64 n)),.c (.v (.int .i64 a)),.c (.v (.int .i64 b))] [.c (.v (.bool (wi n a b)))]:=by
 refine A9 Q0 rfl ?_;(refine goI ?_;repeat (intro gg;refine goI ?_));(refine Ab (fun h=>?_) (fun h=>?_)<;>rw[h])
 ·(refine goI ?_;repeat (intro gg;refine goI ?_));rw[Ajo h];(exact⟨[],aI⟩)
 ·(refine goI ?_;repeat (intro gg;refine goI ?_));rw[Ah9 h];(exact⟨[],aI⟩)
theorem Afv[Glob](s:ByteArray)(hs:s.size≤9223372036854775807):Fun Tryz.prog 163 [.c (.v (.string s))] [.c (.v (.bool (S9 s)))]:=by
 refine A9 Rs rfl ?_;(refine goI ?_;repeat (intro gg;refine goI ?_));(refine Ab (fun h=>?_) (fun h=>?_)<;>rw[h])
 ·(refine goI ?_;repeat (intro gg;refine goI ?_));rw[show S9 s=true by unfold S9;rw[show emp s=true from h];rfl];(exact⟨[],aI⟩)
 ·(refine goI ?_;repeat (intro gg;refine goI ?_));refine .inl (cX (C2 _ hs) ?_);(refine goI ?_;repeat (intro gg;refine goI ?_));rw[show S9 s=lab s.data.toList by unfold S9;rw[show emp s=false from h];rfl];(exact⟨[],aI⟩)
theorem Aiv[Glob](m:Sv)(hm:m.ok):Fun Tryz.prog 132 [.c (.agg m.row)] [.c (.v (.int .i64 m.err))]:=by
 obtain⟨o1,o2,o3,o4⟩:=hm;refine A9 Uj rfl ?_;(refine goI ?_;repeat (intro gg;refine goI ?_));refine .inl (cX (C2 _ o1) ?_);(refine goI ?_;repeat (intro gg;refine goI ?_));(refine Ab (fun h1=>?_) (fun h1=>?_)<;>rw[h1])
 ·(refine goI ?_;repeat (intro gg;refine goI ?_))
  (rw[show m.err=1 from by(first|(simp_all;done)|(unfold Sv.err;simp_all))];(exact⟨[],aI⟩))
 ·(refine goI ?_;repeat (intro gg;refine goI ?_));refine .inl (cX (C2 _ o2) ?_);(refine goI ?_;repeat (intro gg;refine goI ?_));(refine Ab (fun h2=>?_) (fun h2=>?_)<;>rw[h2])
  ·(refine goI ?_;repeat (intro gg;refine goI ?_))
   (rw[show m.err=1 from by(first|(simp_all;done)|(unfold Sv.err;simp_all))];(exact⟨[],aI⟩))
  ·(refine goI ?_;repeat (intro gg;refine goI ?_));refine .inl (cX (C2 _ o3) ?_);(refine goI ?_;repeat (intro gg;refine goI ?_));(refine Ab (fun h3=>?_) (fun h3=>?_)<;>rw[h3])
   ·(refine goI ?_;repeat (intro gg;refine goI ?_))
    (rw[show m.err=1 from by(first|(simp_all;done)|(unfold Sv.err;simp_all))];(exact⟨[],aI⟩))
   ·(refine goI ?_;repeat (intro gg;refine goI ?_));refine .inl (cX (Afv _ o4) ?_);(refine goI ?_;repeat (intro gg;refine goI ?_));(refine Ab (fun h4=>?_) (fun h4=>?_)<;>rw[h4])
    ·(refine goI ?_;repeat (intro gg;refine goI ?_))
     (rw[show m.err=1 from by(first|(simp_all;done)|(unfold Sv.err;simp_all))];(exact⟨[],aI⟩))
    ·(refine goI ?_;repeat (intro gg;refine goI ?_));refine .inl (cX (Mx _ _ _) ?_);(refine goI ?_;repeat (intro gg;refine goI ?_));(refine Ab (fun h5=>?_) (fun h5=>?_)<;>rw[h5])
     ·(refine goI ?_;repeat (intro gg;refine goI ?_))
      (rw[show m.err=3 from by(first|(simp_all;done)|(unfold Sv.err;simp_all))];(exact⟨[],aI⟩))
     ·(refine goI ?_;repeat (intro gg;refine goI ?_));refine .inl (cX (Mx _ _ _) ?_);(refine goI ?_;repeat (intro gg;refine goI ?_));(refine Ab (fun h6=>?_) (fun h6=>?_)<;>rw[h6])
      ·(refine goI ?_;repeat (intro gg;refine goI ?_))
       (rw[show m.err=3 from by(first|(simp_all;done)|(unfold Sv.err;simp_all))];(exact⟨[],aI⟩))
      ·(refine goI ?_;repeat (intro gg;refine goI ?_));refine .inl (cX (Mx _ _ _) ?_);(refine goI ?_;repeat (intro gg;refine goI ?_));(refine Ab (fun h7=>?_) (fun h7=>?_)<;>rw[h7])
       ·(refine goI ?_;repeat (intro gg;refine goI ?_))
        (rw[show m.err=3 from by(first|(simp_all;done)|(unfold Sv.err;simp_all))];(exact⟨[],aI⟩))
       ·(refine goI ?_;repeat (intro gg;refine goI ?_))
        (rw[show m.err=0 from by(first|(simp_all;done)|(unfold Sv.err;simp_all))];(exact⟨[],aI⟩))
theorem Ag0[Glob](m:Sv)(hm:m.ok):Fun Tryz.prog 61 [.c (.agg m.row)] [.c (.v (.int .i64 m.err))]:=by
 obtain⟨o1,o2,o3,o4⟩:=hm;refine A9 J9 rfl ?_;(refine goI ?_;repeat (intro gg;refine goI ?_));refine .inl (cX (Dx _ o1) ?_);(refine goI ?_;repeat (intro gg;refine goI ?_));(refine Ab (fun h1=>?_) (fun h1=>?_)<;>rw[h1])
 ·(refine goI ?_;repeat (intro gg;refine goI ?_))
  (rw[show m.err=1 from by(first|(simp_all;done)|(unfold Sv.err;simp_all))];(exact⟨[],aI⟩))
 ·(refine goI ?_;repeat (intro gg;refine goI ?_));refine .inl (cX (Dx _ o2) ?_);(refine goI ?_;repeat (intro gg;refine goI ?_));(refine Ab (fun h2=>?_) (fun h2=>?_)<;>rw[h2])
  ·(refine goI ?_;repeat (intro gg;refine goI ?_))
   (rw[show m.err=1 from by(first|(simp_all;done)|(unfold Sv.err;simp_all))];(exact⟨[],aI⟩))
  ·(refine goI ?_;repeat (intro gg;refine goI ?_));refine .inl (cX (Dx _ o3) ?_);(refine goI ?_;repeat (intro gg;refine goI ?_));(refine Ab (fun h3=>?_) (fun h3=>?_)<;>rw[h3])
   ·(refine goI ?_;repeat (intro gg;refine goI ?_))
    (rw[show m.err=1 from by(first|(simp_all;done)|(unfold Sv.err;simp_all))];(exact⟨[],aI⟩))
   ·(refine goI ?_;repeat (intro gg;refine goI ?_));(refine Ab (fun h4=>?_) (fun h4=>?_)<;>rw[h4])
    ·have hmb:S9 m.tg=lab m.tg.data.toList:=by unfold S9;rw[show emp m.tg=false from Dk h4];rfl
     (refine goI ?_;repeat (intro gg;refine goI ?_));refine .inl (cX (Dx _ o4) ?_);(refine goI ?_;repeat (intro gg;refine goI ?_));(refine Ab (fun h5=>?_) (fun h5=>?_)<;>rw[h5])
     ·(refine goI ?_;repeat (intro gg;refine goI ?_))
      (rw[show m.err=1 from by(first|(simp_all;done)|(unfold Sv.err;simp_all))];(exact⟨[],aI⟩))
     ·(refine goI ?_;repeat (intro gg;refine goI ?_));refine .inl (cX (Jv _) ?_);(refine goI ?_;repeat (intro gg;refine goI ?_));(refine Ab (fun h6=>?_) (fun h6=>?_)<;>rw[h6])
      ·(refine goI ?_;repeat (intro gg;refine goI ?_))
       (rw[show m.err=3 from by(first|(simp_all;done)|(unfold Sv.err;simp_all))];(exact⟨[],aI⟩))
      ·(refine goI ?_;repeat (intro gg;refine goI ?_));refine .inl (cX (Br _ _ _) ?_);(refine goI ?_;repeat (intro gg;refine goI ?_));(refine Ab (fun h7=>?_) (fun h7=>?_)<;>rw[h7])
       ·(refine goI ?_;repeat (intro gg;refine goI ?_))
        (rw[show m.err=3 from by(first|(simp_all;done)|(unfold Sv.err;simp_all))];(exact⟨[],aI⟩))
       ·(refine goI ?_;repeat (intro gg;refine goI ?_));refine .inl (cX (Br _ _ _) ?_);(refine goI ?_;repeat (intro gg;refine goI ?_));(refine Ab (fun h8=>?_) (fun h8=>?_)<;>rw[h8])
        ·(refine goI ?_;repeat (intro gg;refine goI ?_))
         (rw[show m.err=3 from by(first|(simp_all;done)|(unfold Sv.err;simp_all))];(exact⟨[],aI⟩))
        ·(refine goI ?_;repeat (intro gg;refine goI ?_))
         (rw[show m.err=0 from by(first|(simp_all;done)|(unfold Sv.err;simp_all))];(exact⟨[],aI⟩))
    ·have hmb:S9 m.tg=true:=by unfold S9;rw[show emp m.tg=true from Dl h4];rfl
     (refine goI ?_;repeat (intro gg;refine goI ?_));refine .inl (cX (Jv _) ?_);(refine goI ?_;repeat (intro gg;refine goI ?_));(refine Ab (fun h6=>?_) (fun h6=>?_)<;>rw[h6])
     ·(refine goI ?_;repeat (intro gg;refine goI ?_))
      (rw[show m.err=3 from by(first|(simp_all;done)|(unfold Sv.err;simp_all))];(exact⟨[],aI⟩))
     ·(refine goI ?_;repeat (intro gg;refine goI ?_));refine .inl (cX (Br _ _ _) ?_);(refine goI ?_;repeat (intro gg;refine goI ?_));(refine Ab (fun h7=>?_) (fun h7=>?_)<;>rw[h7])
      ·(refine goI ?_;repeat (intro gg;refine goI ?_))
       (rw[show m.err=3 from by(first|(simp_all;done)|(unfold Sv.err;simp_all))];(exact⟨[],aI⟩))
      ·(refine goI ?_;repeat (intro gg;refine goI ?_));refine .inl (cX (Br _ _ _) ?_);(refine goI ?_;repeat (intro gg;refine goI ?_));(refine Ab (fun h8=>?_) (fun h8=>?_)<;>rw[h8])
       ·(refine goI ?_;repeat (intro gg;refine goI ?_))
        (rw[show m.err=3 from by(first|(simp_all;done)|(unfold Sv.err;simp_all))];(exact⟨[],aI⟩))
       ·(refine goI ?_;repeat (intro gg;refine goI ?_))
        (rw[show m.err=0 from by(first|(simp_all;done)|(unfold Sv.err;simp_all))];(exact⟨[],aI⟩))
theorem Ags[Glob](g x:Sv):Fun Tryz.prog 133 [.c (.agg g.row),.c (.agg x.row)] [.c (.v (.int .i64 (Sv.cf x.nd x.id g)))]:=by
 refine A9 Rw rfl ?_;(refine goI ?_;repeat (intro gg;refine goI ?_));(refine⟨_,_,false,aI,Uv _ _,Am,nI,?_⟩);(refine goI ?_;repeat (intro gg;refine goI ?_));refine .inl (cX (Uv _ _) ?_);(refine goI ?_;repeat (intro gg;refine goI ?_));(refine .inl ⟨_,_,true,[],aI,Aiw false [En g.nd x.nd,En g.id x.id] (by simp),(fun _=>fI),nI,?_⟩);(refine goI ?_;repeat (intro gg;refine goI ?_));(exact⟨[],aI⟩)
theorem Afk[Glob](g x:Sv):Fun Tryz.prog 62 [.c (.agg g.row),.c (.agg x.row)] [.c (.v (.bool (Sv.lt g x)))]:=by
 refine A9 Ok rfl ?_;(refine goI ?_;repeat (intro gg;refine goI ?_));(refine Ab (fun h1=>?_) (fun h1=>?_)<;>rw[h1])
 ·(refine goI ?_;repeat (intro gg;refine goI ?_));rw[Sv.ahead1 h1];(exact⟨[],aI⟩)
 ·(refine goI ?_;repeat (intro gg;refine goI ?_));(refine Ab (fun h2=>?_) (fun h2=>?_)<;>rw[h2])
  ·(refine goI ?_;repeat (intro gg;refine goI ?_));rw[Sv.ahead2 h1 h2];(exact⟨[],aI⟩)
  ·(refine goI ?_;repeat (intro gg;refine goI ?_));rw[Sv.ahead3 h1 h2];(exact⟨[],aI⟩)
def An6(l:List Sv):List V:=[.sl false (l.map Sv.row)]
theorem Acl[Glob](c:Bool)(ls:List (List Sv))(hls:ls.length≤9223372036854775807)(hl:∀l∈ls,l.length≤9223372036854775807)(hw:∀l∈ls,∀m∈l,m.ok):Fun Tryz.prog 87 [.c (.sl c (ls.map An6))] [.c (.v (.int .i64 (Ad Gp ls)))]:=by
 refine A9 Ga rfl ?_;(refine goI ?_;repeat (intro gg;refine goI ?_));rw[ZE];(refine⟨[],none,{k:Nat//k≤ls.length∧∀j,(h:j<ls.length)→j<k→Gp (ls[j])=0},[9,10],fun⟨k,hk,h0⟩=>[(11,.v (.int .i64 k))],[],fun⟨k,hk,h0⟩=>[],fun⟨k,hk,h0⟩=>ls.length-k,trivial,fun _=>⟨trivial,fun _=>⟨⟨0,by omega,fun j _ h=>by omega⟩,tI,Aj _ _,tI,Ak _ _⟩⟩,fun⟨k,hk,h0⟩=>?_⟩);(refine goI ?_;repeat (intro gg;refine goI ?_));(refine Ab (fun h=>?_) (fun h=>?_)<;>rw[h])
 ·have hlt:k<ls.length:=by simpa using h
  (refine goI ?_;repeat (intro gg;refine goI ?_));refine⟨k,_,rfl,Al hlt,?_⟩;(refine goI ?_;repeat (intro gg;refine goI ?_));have HL:=hl _ (ZK hlt);have HW:=hw _ (ZK hlt);have HE:=Bc (e:=Gp) hlt h0;have HN:Gp ls[k]=0→∀j,(h:j<ls.length)→j<k+1→Gp (ls[j])=0:=fun e=>up1 (p:=fun j h=>Gp (ls[j])=0) h0 (fun _=>e);generalize ls[k]=l at *;rw[ZE];(refine Ab (fun h1=>?_) (fun h1=>?_)<;>rw[h1])
  ·(refine goI ?_;repeat (intro gg;refine goI ?_));have e:Gp l=2:=Gt (by have:=ZV h1;omega);rw[HE (by rw[e];decide),e];(exact⟨[],aI⟩)
  ·have h1':¬40<l.length:=(by have:=ZW h1;omega);(refine goI ?_;repeat (intro gg;refine goI ?_));rw[ZE];(refine⟨[],none,{q:Nat//q≤l.length∧∀j,(h:j<l.length)→j<q→(l[j]).err=0},[4,9,10,11,18,19],fun⟨q,hq,g0⟩=>[(20,.v (.int .i64 q))],[],fun⟨q,hq,g0⟩=>[],fun⟨q,hq,g0⟩=>l.length-q,trivial,fun _=>⟨trivial,fun _=>⟨⟨0,by omega,fun j _ h=>by omega⟩,tI,Aj _ _,tI,Ak _ _⟩⟩,fun⟨q,hq,g0⟩=>?_⟩);(refine goI ?_;repeat (intro gg;refine goI ?_));(refine Ab (fun h2=>?_) (fun h2=>?_)<;>rw[h2])
   ·have hlt2:q<l.length:=(by have:=ZV h2;omega);(refine goI ?_;repeat (intro gg;refine goI ?_));refine⟨q,_,rfl,Al hlt2,?_⟩;(refine goI ?_;repeat (intro gg;refine goI ?_));refine .inl (cX (Aiv _ (HW _ (ZK hlt2))) ?_);(refine goI ?_;repeat (intro gg;refine goI ?_));(refine Ab (fun h3=>?_) (fun h3=>?_)<;>rw[h3])
    ·have h3':(l[q]).err≠0:=by simpa using h3
     have e0:=Bc hlt2 g0 h3';(refine goI ?_;repeat (intro gg;refine goI ?_));have e:Gp l=(l[q]).err:=(C3 h1' (by rw[e0];exact h3')).trans e0;rw[HE (by rw[e];exact h3'),e];(exact⟨[],aI⟩)
    ·(refine goI ?_;repeat (intro gg;refine goI ?_));(exact⟨none,trivial,fun _=>⟨⟨q+1,by omega,up1 (p:=fun j h=>(l[j]).err=0) g0 (fun _=>by simpa using h3)⟩,by show l.length-(q+1)<l.length-q;omega,tI,tI,tI,tI⟩⟩)
   ·have hge2:¬q<l.length:=(by have:=ZW h2;omega);have h2':Ad Sv.err l=0:=A8 fun i hi=>g0 i hi (by omega);(refine goI ?_;repeat (intro gg;refine goI ?_));(refine⟨[],none,{k:Nat//(k<l.length∨k=0)∧∀i,(h:i+1<l.length)→i<k→Sv.lt l[i] l[i+1]=true},[4,9,10,11],fun⟨q,hq,g0⟩=>[(8,.v (.int .i64 ((q:Int)+1)))],[],fun⟨q,hq,g0⟩=>[],fun⟨q,hq,g0⟩=>l.length-q,trivial,fun _=>⟨trivial,fun _=>⟨⟨0,by omega,fun j _ h=>by omega⟩,tI,Aj _ _,tI,Ak _ _⟩⟩,fun⟨q,hq,g0⟩=>?_⟩);(refine goI ?_;repeat (intro gg;refine goI ?_));rw[ZE];(refine Ab (fun h3=>?_) (fun h3=>?_)<;>rw[h3])
    ·have hlt3:q+1<l.length:=(by have:=ZV h3;omega);(refine goI ?_;repeat (intro gg;refine goI ?_));refine⟨q,_,by omega,Al (by omega),?_⟩;(refine goI ?_;repeat (intro gg;refine goI ?_));refine⟨q+1,_,by omega,Al hlt3,?_⟩;(refine goI ?_;repeat (intro gg;refine goI ?_));refine .inl (cX (Ags _ _) ?_);(refine goI ?_;repeat (intro gg;refine goI ?_));(refine Ab (fun h4=>?_) (fun h4=>?_)<;>rw[h4])
     ·(refine goI ?_;repeat (intro gg;refine goI ?_));have e:Gp l=4:=Ng h1' h2' (Dp hlt3 (ZY (by have:=ZV h4;show¬Sv.cf l[q+1].nd l[q+1].id l[q]<0;omega)));rw[HE (by rw[e];decide),e];(exact⟨[],aI⟩)
     ·(refine goI ?_;repeat (intro gg;refine goI ?_));(exact⟨none,trivial,fun _=>⟨⟨q+1,by omega,up2 (p:=fun i h=>Sv.lt l[i] l[i+1]=true) g0 (fun _=>ZX (by have:=ZW h4;show Sv.cf l[q+1].nd l[q+1].id l[q]<0;omega))⟩,by show l.length-(q+1)<l.length-q;omega,tI,tI,tI,tI⟩⟩)
    ·have hge3:¬q+1<l.length:=(by have:=ZW h3;omega);(refine goI ?_;repeat (intro gg;refine goI ?_));have e:Gp l=0:=Jw h1' h2' (D2 fun i hi=>g0 i hi (by omega));(exact⟨none,trivial,fun _=>⟨⟨k+1,by omega,HN e⟩,by show ls.length-(k+1)<ls.length-k;omega,tI,tI,tI,tI⟩⟩)
 ·have hge:¬k<ls.length:=by simpa using h
  (refine goI ?_;repeat (intro gg;refine goI ?_));rw[A8 (l:=ls) (fun i hi=>h0 i hi (by omega))];(exact⟨[],aI⟩)
theorem U2[Glob](l:List Sv)(hl:l.length≤9223372036854775807)(hw:∀m∈l,m.ok):Fun Tryz.prog 47 [.c (.sl false (l.map Sv.row))] [.c (.v (.int .i64 (Gp l)))]:=by
 refine A9 K2 rfl ?_;(refine goI ?_;repeat (intro gg;refine goI ?_));(refine .inl ⟨_,_,true,[],aI,Acl false [l] (by simp) (by simpa using hl) (by simpa using hw),(fun _=>fI),nI,?_⟩);rw[Ln];(refine goI ?_;repeat (intro gg;refine goI ?_));(exact⟨[],aI⟩)
theorem Zt[Glob](c:Bool)(l:List Sv)(hl:l.length≤9223372036854775807)(hw:∀m∈l,m.ok):Fun Tryz.prog 30 [.c (.sl c (l.map Sv.row))] [.c (.v (.int .i64 (Gp l)))]:=by
 refine A9 Ig rfl ?_;(refine goI ?_;repeat (intro gg;refine goI ?_));rw[ZE];(refine Ab (fun h1=>?_) (fun h1=>?_)<;>rw[h1])
 ·(refine goI ?_;repeat (intro gg;refine goI ?_));have e:Gp l=2:=Gt (by have:=ZV h1;omega);rw[e];(exact⟨[],aI⟩)
 ·have h1':¬40<l.length:=(by have:=ZW h1;omega);(refine goI ?_;repeat (intro gg;refine goI ?_));(refine⟨[],none,{k:Nat//k≤l.length∧∀j,(h:j<l.length)→j<k→(l[j]).err=0},[0],fun⟨k,hk,h0⟩=>[(3,.v (.int .i64 k))],[],fun⟨k,hk,h0⟩=>[],fun⟨k,hk,h0⟩=>l.length-k,trivial,fun _=>⟨trivial,fun _=>⟨⟨0,by omega,fun j _ h=>by omega⟩,tI,Aj _ _,tI,Ak _ _⟩⟩,fun⟨k,hk,h0⟩=>?_⟩);(refine goI ?_;repeat (intro gg;refine goI ?_));rw[ZE];(refine Ab (fun h=>?_) (fun h=>?_)<;>rw[h])
  ·have hlt:k<l.length:=(by have:=ZV h;omega);(refine goI ?_;repeat (intro gg;refine goI ?_));refine⟨k,_,rfl,Al hlt,?_⟩;(refine goI ?_;repeat (intro gg;refine goI ?_));refine .inl (cX (Ag0 _ (hw _ (ZK hlt))) ?_);(refine goI ?_;repeat (intro gg;refine goI ?_));(refine Ab (fun h2=>?_) (fun h2=>?_)<;>rw[h2])
   ·(refine goI ?_;repeat (intro gg;refine goI ?_));have h2':(l[k]).err≠0:=by simpa using h2
    have e0:=Bc hlt h0 h2';have e:Gp l=(l[k]).err:=(C3 h1' (by rw[e0];exact h2')).trans e0;rw[e];(exact⟨[],aI⟩)
   ·(refine goI ?_;repeat (intro gg;refine goI ?_));(exact⟨none,trivial,fun _=>⟨⟨k+1,by omega,up1 (p:=fun j h=>(l[j]).err=0) h0 (fun _=>by simpa using h2)⟩,by show l.length-(k+1)<l.length-k;omega,tI,tI,tI,tI⟩⟩)
  ·have hge:¬k<l.length:=(by have:=ZW h;omega);have h2':Ad Sv.err l=0:=A8 fun i hi=>h0 i hi (by omega);(refine goI ?_;repeat (intro gg;refine goI ?_));(refine⟨[],none,{k:Nat//(k<l.length∨k=0)∧∀i,(h:i+1<l.length)→i<k→Sv.lt l[i] l[i+1]=true},[0],fun⟨q,hq,g0⟩=>[(5,.v (.int .i64 ((q:Int)+1)))],[],fun⟨q,hq,g0⟩=>[],fun⟨q,hq,g0⟩=>l.length-q,trivial,fun _=>⟨trivial,fun _=>⟨⟨0,by omega,fun j _ h=>by omega⟩,tI,Aj _ _,tI,Ak _ _⟩⟩,fun⟨q,hq,g0⟩=>?_⟩);(refine goI ?_;repeat (intro gg;refine goI ?_));rw[ZE];(refine Ab (fun h3=>?_) (fun h3=>?_)<;>rw[h3])
   ·have hlt3:q+1<l.length:=(by have:=ZV h3;omega);(refine goI ?_;repeat (intro gg;refine goI ?_));refine⟨q,_,by omega,Al (by omega),?_⟩;(refine goI ?_;repeat (intro gg;refine goI ?_));refine⟨q+1,_,by omega,Al hlt3,?_⟩;(refine goI ?_;repeat (intro gg;refine goI ?_));refine .inl (cX (Afk _ _) ?_);(refine goI ?_;repeat (intro gg;refine goI ?_));(refine Ab (fun h4=>?_) (fun h4=>?_)<;>rw[h4])
    ·(refine goI ?_;repeat (intro gg;refine goI ?_));have e:Gp l=4:=Ng h1' h2' (Dp hlt3 (Dk h4));rw[e];(exact⟨[],aI⟩)
    ·(refine goI ?_;repeat (intro gg;refine goI ?_));(exact⟨none,trivial,fun _=>⟨⟨q+1,by omega,up2 (p:=fun i h=>Sv.lt l[i] l[i+1]=true) g0 (fun _=>Dl h4)⟩,by show l.length-(q+1)<l.length-q;omega,tI,tI,tI,tI⟩⟩)
   ·have hge3:¬q+1<l.length:=(by have:=ZW h3;omega);(refine goI ?_;repeat (intro gg;refine goI ?_));have e:Gp l=0:=Jw h1' h2' (D2 fun i hi=>g0 i hi (by omega));rw[e];(exact⟨[],aI⟩)
theorem Aor:(Tryz.prog.info? 53).map (fun i=>(i.zero,i.size,i.bytes))=some (some (.agg #[.string ⟨#[]⟩,.int .i64 0,.int .i64 0]),3,32):=by kernel_rfl
def Apy(base n:Nat)(xs:List Value)(w:World)(e:Ending)(w':World):Prop:=
 ∃A' c',e=.returned (.slice A' n c')∧w'.ownsRow base 53 3 (.slice A' n c') n xs∧Below base w w'∧w.drawn≤w'.drawn
set_option maxRecDepth 100000 in
theorem Aft(A:Option Addr)(n c:Nat)(xs:List Value)(w:World)(hA:A=none→n=0)(hn:n≤1000)(hxl:xs.length=n*3)(hx:∀ad,A=some ad→∀j u,xs[j]? =some u→w.cell? (ad.add j)=some u)(h1:∀v∈xs,v.oneCell'=true):
  Calls Tryz.prog 110 #[.slice A n c] w (Apy w.heap.size n xs w):=by
 obtain⟨i0,hi0,hz0,hzs,hzb⟩:=info_parts Aor;cases A with
 |none=>
  obtain rfl:=hA rfl;obtain rfl:xs=[]:=XR (by simpa using hxl);clear hx hxl hi0 hz0 hzs hzb h1;have hnl:=fun(w:World)=>Lib.run_eql_slice_nil (P:=Tryz.prog) w 39 53 none 0 c 0 0 Tryz.underlying39
  go_enter Tryz.func110,Tryz.ntmps110
  go_wp2
  go_ret
  exact⟨none,0,rfl,World.ownsRow_nil _ _ _ _,Below.refl _ _,ZT _⟩
 |some ad=>
  have HX:=hid (hx ad rfl);have HXL:=hid hxl;have HZ0:=hid hz0;have HZS:=hid hzs;have HZB:=hid hzb;have HI0:=hid hi0;clear hx hxl hA hi0 hz0 hzs hzb;have hnl:=fun(w:World)=>Lib.run_eql_slice_nil (P:=Tryz.prog) w 39 53 (some ad) n c 0 0 Tryz.underlying39
  go_enter Tryz.func110,Tryz.ntmps110
  have hown0:(w.alloc (.cells #[] 53)).ownsRow w.heap.size 53 3 (.slice (some ⟨w.heap.size,0,none⟩) 0 0) 0 []:=
   ⟨by simp,.inr ⟨w.heap.size,0, #[],rfl,ZT _,heap_alloc_new w _,by omega,by simp[maxLen],by simp,by simp⟩⟩
  have HO:=hid hown0;have HX1:=hid (fun j u (hj:xs[j]? =some u)=>(World.cell?_alloc_lt w (.cells #[] 53) (ad.add j) (Ts (HX.out j u hj))).trans (HX.out j u hj));clear hown0
  go_wp2_with (at_builtin;refine Gs _ rfl _ _ 39 rfl w.heap.size 53 i0 _ 3 32 Tryz.underlying39 HI0.out HZ0.out HZS.out HZB.out rfl (by decide) _ _ _ rfl HO.out ad n c xs rfl HXL.out HX1.out h1 (by simp only[maxLen];omega) (by omega) (by simp) ?_;intro v1 w1 hown1 hg1 hd1 hat1)
  go_ret
  rw[Nat.zero_add,List.nil_append]at hown1;obtain⟨A',c',rfl⟩:=K9 hown1;exact⟨A',c',rfl,hown1,((Below.refl _ _).alloc (ZT _) _).grown hg1 (by simp) (Dz HO.out),hd1⟩
theorem Aat[Glob]{α:Type}(enc:α→List Value)(he:∀x,(enc x).length=3)(h1:∀x,∀v∈enc x,v.oneCell'=true)(cl:Bool)(l:List α)(hl:l.length≤1000):
  Fun Tryz.prog 110 [.c (.sl cl (l.map fun x=>(enc x).map .v))] [.o 53 3 (l.map fun x=>(enc x).map .v)]:=by
 refine⟨C7 Tryz.func110 (by kernel_rfl) (by kernel_rfl),fun w R xs hlt hp _=>?_⟩;obtain⟨v,rfl,hv⟩:=Py hp;obtain⟨A,c,rfl,hA,hx⟩:=P3 he hv;have hone:∀v∈l.flatMap enc,v.oneCell'=true:=fun v hv=>by
  obtain⟨g,_,hg⟩:=List.mem_flatMap.1 hv;exact h1 g v hg
 refine(Aft A l.length c (l.flatMap enc) w hA hl (I5 he l) hx hone).mono ?_
 rintro e w' ⟨A',c',rfl,hown,hb,hd⟩
 exact I4 he h1 (by decide) hlt hown (Cf hb) (fun k hk=>.inr (Dz hown k hk)) (fun k hk=>by have:=Dz hown k hk;intro h;have:=hlt k h;omega)
theorem So[Glob](n a b:Int):Fun Tryz.prog 165 [.c (.v (.int .i64 n)),.c (.v (.int .i64 a)),.c (.v (.int .i64 b))] [.c (.v (.bool (wi n a b)))]:=by
 refine A9 R4 rfl ?_;(refine goI ?_;repeat (intro gg;refine goI ?_));(refine Ab (fun h=>?_) (fun h=>?_)<;>rw[h])
 ·(refine goI ?_;repeat (intro gg;refine goI ?_));rw[Ajo h];(exact⟨[],aI⟩)
 ·(refine goI ?_;repeat (intro gg;refine goI ?_));rw[Ah9 h];(exact⟨[],aI⟩)
theorem Aha[Glob](m:Gw)(hm:m.ok):Fun Tryz.prog 134 [.c (.agg m.row)] [.c (.v (.int .i64 m.err))]:=by
 refine A9 W1 rfl ?_;(refine goI ?_;repeat (intro gg;refine goI ?_));refine .inl (cX (C2 _ hm) ?_);(refine goI ?_;repeat (intro gg;refine goI ?_));(refine Ab (fun h1=>?_) (fun h1=>?_)<;>rw[h1])
 ·(refine goI ?_;repeat (intro gg;refine goI ?_))
  (rw[show m.err=1 from by(first|(simp_all;done)|(unfold Gw.err;simp_all))];(exact⟨[],aI⟩))
 ·(refine goI ?_;repeat (intro gg;refine goI ?_));refine .inl (cX (So _ _ _) ?_);(refine goI ?_;repeat (intro gg;refine goI ?_));(refine Ab (fun h3=>?_) (fun h3=>?_)<;>rw[h3])
  ·(refine goI ?_;repeat (intro gg;refine goI ?_))
   (rw[show m.err=3 from by(first|(simp_all;done)|(unfold Gw.err;simp_all))];(exact⟨[],aI⟩))
  ·(refine goI ?_;repeat (intro gg;refine goI ?_));refine .inl (cX (So _ _ _) ?_);(refine goI ?_;repeat (intro gg;refine goI ?_));(refine Ab (fun h4=>?_) (fun h4=>?_)<;>rw[h4])
   ·(refine goI ?_;repeat (intro gg;refine goI ?_))
    (rw[show m.err=3 from by(first|(simp_all;done)|(unfold Gw.err;simp_all))];(exact⟨[],aI⟩))
   ·(refine goI ?_;repeat (intro gg;refine goI ?_))
    (rw[show m.err=0 from by(first|(simp_all;done)|(unfold Gw.err;simp_all))];(exact⟨[],aI⟩))
def Aon(l:List Gw):List V:=[.sl false (l.map Gw.row)]
theorem Acb[Glob](c:Bool)(ls:List (List Gw))(hls:ls.length≤9223372036854775807)(hl:∀l∈ls,l.length≤9223372036854775807)(hw:∀l∈ls,∀m∈l,m.ok):Fun Tryz.prog 88 [.c (.sl c (ls.map Aon))] [.c (.v (.int .i64 (Ad Gx ls)))]:=by
 refine A9 G9 rfl ?_;(refine goI ?_;repeat (intro gg;refine goI ?_));rw[ZE];(refine⟨[],none,{k:Nat//k≤ls.length∧∀j,(h:j<ls.length)→j<k→Gx (ls[j])=0},[9,10],fun⟨k,hk,h0⟩=>[(11,.v (.int .i64 k))],[],fun⟨k,hk,h0⟩=>[],fun⟨k,hk,h0⟩=>ls.length-k,trivial,fun _=>⟨trivial,fun _=>⟨⟨0,by omega,fun j _ h=>by omega⟩,tI,Aj _ _,tI,Ak _ _⟩⟩,fun⟨k,hk,h0⟩=>?_⟩);(refine goI ?_;repeat (intro gg;refine goI ?_));(refine Ab (fun h=>?_) (fun h=>?_)<;>rw[h])
 ·have hlt:k<ls.length:=by simpa using h
  (refine goI ?_;repeat (intro gg;refine goI ?_));refine⟨k,_,rfl,Al hlt,?_⟩;(refine goI ?_;repeat (intro gg;refine goI ?_));have HL:=hl _ (ZK hlt);have HW:=hw _ (ZK hlt);have HE:=Bc (e:=Gx) hlt h0;have HN:Gx ls[k]=0→∀j,(h:j<ls.length)→j<k+1→Gx (ls[j])=0:=fun e=>up1 (p:=fun j h=>Gx (ls[j])=0) h0 (fun _=>e);generalize ls[k]=l at *;rw[ZE];(refine Ab (fun h1=>?_) (fun h1=>?_)<;>rw[h1])
  ·(refine goI ?_;repeat (intro gg;refine goI ?_));have e:Gx l=2:=Gt (by have:=ZV h1;omega);rw[HE (by rw[e];decide),e];(exact⟨[],aI⟩)
  ·have h1':¬6<l.length:=(by have:=ZW h1;omega);(refine goI ?_;repeat (intro gg;refine goI ?_));rw[ZE];(refine⟨[],none,{k:Nat//k≤l.length∧∀j,(h:j<l.length)→j<k→(l[j]).err=0},[4,9,10,11,18,19],fun⟨p,hp,p0⟩=>[(20,.v (.int .i64 p))],[],fun⟨p,hp,p0⟩=>[],fun⟨p,hp,p0⟩=>l.length-p,trivial,fun _=>⟨trivial,fun _=>⟨⟨0,by omega,fun j _ h=>by omega⟩,tI,Aj _ _,tI,Ak _ _⟩⟩,fun⟨p,hp,p0⟩=>?_⟩);(refine goI ?_;repeat (intro gg;refine goI ?_));(refine Ab (fun h2=>?_) (fun h2=>?_)<;>rw[h2])
   ·have hlt2:p<l.length:=(by have:=ZV h2;omega);(refine goI ?_;repeat (intro gg;refine goI ?_));refine⟨p,_,rfl,Al hlt2,?_⟩;(refine goI ?_;repeat (intro gg;refine goI ?_));refine .inl (cX (Aha _ (HW _ (ZK hlt2))) ?_);(refine goI ?_;repeat (intro gg;refine goI ?_));(refine Ab (fun h5=>?_) (fun h5=>?_)<;>rw[h5])
    ·(refine goI ?_;repeat (intro gg;refine goI ?_));have h5':(l[p]).err≠0:=by simpa using h5
     have e0:=Bc hlt2 p0 h5';have e:Gx l=(l[p]).err:=(C3 h1' (by rw[e0];exact h5')).trans e0;rw[HE (by rw[e];exact h5'),e];(exact⟨[],aI⟩)
    ·(refine goI ?_;repeat (intro gg;refine goI ?_));(exact⟨none,trivial,fun _=>⟨⟨p+1,by omega,up1 (p:=fun j h=>(l[j]).err=0) p0 (fun _=>by simpa using h5)⟩,by show l.length-(p+1)<l.length-p;omega,tI,tI,tI,tI⟩⟩)
   ·have hge2:¬p<l.length:=(by have:=ZW h2;omega);have h2':Ad Gw.err l=0:=A8 fun i hi=>p0 i hi (by omega);(refine goI ?_;repeat (intro gg;refine goI ?_));(refine⟨[],none,{k:Nat//(k<l.length∨k=0)∧∀i,(h:i+1<l.length)→i<k→Gw.lt l[i] l[i+1]=true},[4,9,10,11],fun⟨q,hq,g0⟩=>[(8,.v (.int .i64 ((q:Int)+1)))],[],fun⟨q,hq,g0⟩=>[],fun⟨q,hq,g0⟩=>l.length-q,trivial,fun _=>⟨trivial,fun _=>⟨⟨0,by omega,fun j _ h=>by omega⟩,tI,Aj _ _,tI,Ak _ _⟩⟩,fun⟨q,hq,g0⟩=>?_⟩);(refine goI ?_;repeat (intro gg;refine goI ?_));rw[ZE];(refine Ab (fun h3=>?_) (fun h3=>?_)<;>rw[h3])
    ·have hlt3:q+1<l.length:=(by have:=ZV h3;omega);(refine goI ?_;repeat (intro gg;refine goI ?_));refine⟨q+1,_,by omega,Al hlt3,?_⟩;(refine goI ?_;repeat (intro gg;refine goI ?_));refine⟨q,_,by omega,Al (by omega),?_⟩;(refine goI ?_;repeat (intro gg;refine goI ?_));rw[Ro];(refine Ab (fun h4=>?_) (fun h4=>?_)<;>rw[h4])
     ·(refine goI ?_;repeat (intro gg;refine goI ?_));have e:Gx l=4:=Ng h1' h2' (Dp hlt3 (by simpa[Gw.lt]using h4));rw[HE (by rw[e];decide),e];(exact⟨[],aI⟩)
     ·(refine goI ?_;repeat (intro gg;refine goI ?_));(exact⟨none,trivial,fun _=>⟨⟨q+1,by omega,up2 (p:=fun i h=>Gw.lt l[i] l[i+1]=true) g0 (fun _=>by simpa[Gw.lt]using h4)⟩,by show l.length-(q+1)<l.length-q;omega,tI,tI,tI,tI⟩⟩)
    ·have hge3:¬q+1<l.length:=(by have:=ZW h3;omega);(refine goI ?_;repeat (intro gg;refine goI ?_));have e:Gx l=0:=Jw h1' h2' (D2 fun i hi=>g0 i hi (by omega));(exact⟨none,trivial,fun _=>⟨⟨k+1,by omega,HN e⟩,by show ls.length-(k+1)<ls.length-k;omega,tI,tI,tI,tI⟩⟩)
 ·have hge:¬k<ls.length:=by simpa using h
  (refine goI ?_;repeat (intro gg;refine goI ?_));rw[A8 (l:=ls) (fun i hi=>h0 i hi (by omega))];(exact⟨[],aI⟩)
theorem Vo[Glob](l:List Gw)(hl:l.length≤9223372036854775807)(hw:∀m∈l,m.ok):Fun Tryz.prog 48 [.c (.sl false (l.map Gw.row))] [.c (.v (.int .i64 (Gx l)))]:=by
 refine A9 L8 rfl ?_;(refine goI ?_;repeat (intro gg;refine goI ?_));(refine .inl ⟨_,_,true,[],aI,Acb false [l] (by simp) (by simpa using hl) (by simpa using hw),(fun _=>fI),nI,?_⟩);rw[Ln];(refine goI ?_;repeat (intro gg;refine goI ?_));(exact⟨[],aI⟩)
theorem Zp[Glob](c:Bool)(l:List Gw)(hl:l.length≤9223372036854775807)(hw:∀m∈l,m.ok):Fun Tryz.prog 31 [.c (.sl c (l.map Gw.row))] [.c (.v (.int .i64 (Gx l)))]:=by
 refine A9 Hk rfl ?_;(refine goI ?_;repeat (intro gg;refine goI ?_));rw[ZE];(refine Ab (fun h1=>?_) (fun h1=>?_)<;>rw[h1])
 ·(refine goI ?_;repeat (intro gg;refine goI ?_));have e:Gx l=2:=Gt (by have:=ZV h1;omega);rw[e];(exact⟨[],aI⟩)
 ·have h1':¬6<l.length:=(by have:=ZW h1;omega);(refine goI ?_;repeat (intro gg;refine goI ?_));(refine⟨[],none,{k:Nat//k≤l.length∧∀j,(h:j<l.length)→j<k→(l[j]).err=0},[0],fun⟨k,hk,h0⟩=>[(3,.v (.int .i64 k))],[],fun⟨k,hk,h0⟩=>[],fun⟨k,hk,h0⟩=>l.length-k,trivial,fun _=>⟨trivial,fun _=>⟨⟨0,by omega,fun j _ h=>by omega⟩,tI,Aj _ _,tI,Ak _ _⟩⟩,fun⟨k,hk,h0⟩=>?_⟩);(refine goI ?_;repeat (intro gg;refine goI ?_));rw[ZE];(refine Ab (fun h=>?_) (fun h=>?_)<;>rw[h])
  ·have hlt:k<l.length:=(by have:=ZV h;omega);have hE:(l[k]).err≠0→Gx l=(l[k]).err:=fun h2'=>by
    have e0:=Bc hlt h0 h2';exact(C3 h1' (by rw[e0];exact h2')).trans e0
   have hN:(l[k]).err=0→_:=fun e=>up1 (p:=fun j h=>(l[j]).err=0) h0 (fun _=>e);(refine goI ?_;repeat (intro gg;refine goI ?_));refine⟨k,_,rfl,Al hlt,?_⟩;(refine goI ?_;repeat (intro gg;refine goI ?_));refine .inl (cX (Dx _ (hw _ (ZK hlt))) ?_);(refine goI ?_;repeat (intro gg;refine goI ?_));(refine Ab (fun h2=>?_) (fun h2=>?_)<;>rw[h2])
   ·(refine goI ?_;repeat (intro gg;refine goI ?_));have e1:(l[k]).err=1:=by unfold Gw.err;simp_all
    rw[hE (by rw[e1];decide),e1];(exact⟨[],aI⟩)
   ·(refine goI ?_;repeat (intro gg;refine goI ?_));refine⟨k,_,rfl,Al hlt,?_⟩;(refine goI ?_;repeat (intro gg;refine goI ?_));refine .inl (cX (Jv _) ?_);(refine goI ?_;repeat (intro gg;refine goI ?_));(refine Ab (fun h3=>?_) (fun h3=>?_)<;>rw[h3])
    ·(refine goI ?_;repeat (intro gg;refine goI ?_));have e1:(l[k]).err=3:=by unfold Gw.err;simp_all
     rw[hE (by rw[e1];decide),e1];(exact⟨[],aI⟩)
    ·(refine goI ?_;repeat (intro gg;refine goI ?_));refine⟨k,_,rfl,Al hlt,?_⟩;(refine goI ?_;repeat (intro gg;refine goI ?_));refine .inl (cX (Br _ _ _) ?_);(refine goI ?_;repeat (intro gg;refine goI ?_));(refine Ab (fun h4=>?_) (fun h4=>?_)<;>rw[h4])
     ·(refine goI ?_;repeat (intro gg;refine goI ?_));have e1:(l[k]).err=3:=by unfold Gw.err;simp_all
      rw[hE (by rw[e1];decide),e1];(exact⟨[],aI⟩)
     ·have e1:(l[k]).err=0:=by unfold Gw.err;simp_all
      (refine goI ?_;repeat (intro gg;refine goI ?_));(exact⟨none,trivial,fun _=>⟨⟨k+1,by omega,hN e1⟩,by show l.length-(k+1)<l.length-k;omega,tI,tI,tI,tI⟩⟩)
  ·have hge:¬k<l.length:=(by have:=ZW h;omega);have h2':Ad Gw.err l=0:=A8 fun i hi=>h0 i hi (by omega);(refine goI ?_;repeat (intro gg;refine goI ?_));(refine⟨[],none,{k:Nat//(k<l.length∨k=0)∧∀i,(h:i+1<l.length)→i<k→Gw.lt l[i] l[i+1]=true},[0],fun⟨q,hq,g0⟩=>[(4,.v (.int .i64 ((q:Int)+1)))],[],fun⟨q,hq,g0⟩=>[],fun⟨q,hq,g0⟩=>l.length-q,trivial,fun _=>⟨trivial,fun _=>⟨⟨0,by omega,fun j _ h=>by omega⟩,tI,Aj _ _,tI,Ak _ _⟩⟩,fun⟨q,hq,g0⟩=>?_⟩);(refine goI ?_;repeat (intro gg;refine goI ?_));rw[ZE];(refine Ab (fun h3=>?_) (fun h3=>?_)<;>rw[h3])
   ·have hlt3:q+1<l.length:=(by have:=ZV h3;omega);(refine goI ?_;repeat (intro gg;refine goI ?_));refine⟨q+1,_,by omega,Al hlt3,?_⟩;(refine goI ?_;repeat (intro gg;refine goI ?_));refine⟨q,_,by omega,Al (by omega),?_⟩;(refine goI ?_;repeat (intro gg;refine goI ?_));rw[Ro];(refine Ab (fun h4=>?_) (fun h4=>?_)<;>rw[h4])
    ·(refine goI ?_;repeat (intro gg;refine goI ?_));have e:Gx l=4:=Ng h1' h2' (Dp hlt3 (by simpa[Gw.lt]using h4));rw[e];(exact⟨[],aI⟩)
    ·(refine goI ?_;repeat (intro gg;refine goI ?_));(exact⟨none,trivial,fun _=>⟨⟨q+1,by omega,up2 (p:=fun i h=>Gw.lt l[i] l[i+1]=true) g0 (fun _=>by simpa[Gw.lt]using h4)⟩,by show l.length-(q+1)<l.length-q;omega,tI,tI,tI,tI⟩⟩)
   ·have hge3:¬q+1<l.length:=(by have:=ZW h3;omega);(refine goI ?_;repeat (intro gg;refine goI ?_));have e:Gx l=0:=Jw h1' h2' (D2 fun i hi=>g0 i hi (by omega));rw[e];(exact⟨[],aI⟩)
end Go.Proofs.YtchbkgnobpejnaaGreatDoor

