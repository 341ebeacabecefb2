/- Texts of this claim, joined. -/
import Derived.WalkKit
import Derived.Below
import Derived.WalkSmall
import Derived.Test.YtjhdlcmecbngkaaDoorRows
import Derived.Lib.Strings
import Derived.Lib.Slices
import Derived.Lib.Walk
import Derived.Lib.Bytealg
import Derived.ProofKit
import Derived.OpenShut
import Derived.ChangeSame
import Derived.Test.YtjhdlcmecbngkaaDoorWAbsG
import Derived.Deep.Slices
import Derived.Deep.Fields
import Derived.Lib.SmallJoins
import Derived.Test.YtjhdlcmecbngkaaDoorWAbsQ
import Derived.Test.YtjhdlcmecbngkaaDoorProg
import Derived.KernelRfl
import Derived.BigGuardPart
import Derived.Deep.Light
import Derived.Laws.IdiomStrings
import Derived.Shelf.Strings.BuilderK
import Derived.Maps.AppendAt
import Derived.Lib.AppendStr
set_option linter.unusedSimpArgs false
namespace Go.Proofs.YtjhdlcmecbngkaaDoor
open Go.RowKit
set_option linter.unusedVariables false
theorem hid {p : Prop} (h : p) : Hid p := h
theorem ret_bool {a b : Bool} (h : a = b) : Ending.returned (.bool a) = .returned (.bool b) := by rw [h]
theorem keep_all {W w1 : World} {g : Nat} {f : Nat → Option Value} (hb : Below W.heap.size W w1) (hlt : g < W.heap.size) (h : ∀ i, W.cell? ⟨g, i, none⟩ = f i) : ∀ i, w1.cell? ⟨g, i, none⟩ = f i :=
 fun i => (hb.cell (p := ⟨g, i, none⟩) hlt).trans (h i)
def Blk (w : World) (g : Nat) (t : TypeId) (cs : Array Value) : Prop := w.heap[g]? = some (.cells cs t (0, 0))
section
variable {w w' : World} {g : Nat} {t : TypeId} {cs : Array Value}
theorem Blk.lt (h : Blk w g t cs) : g < w.heap.size := by
 rcases Nat.lt_or_ge g w.heap.size with hlt | hge
 ·exact hlt
 ·unfold Blk at h; rw [Array.getElem?_eq_none hge] at h; cases h
theorem Blk.cell (h : Blk w g t cs) (i : Nat) : w.cell? ⟨g, i, none⟩ = cs[i]? := by
 unfold Blk at h
 simp [World.cell?, h]
theorem Blk.frozen (h : Blk w g t cs) (i : Nat) : w.frozen? ⟨g, i, none⟩ = false := by
 unfold Blk at h
 simp [World.frozen?, h]
theorem Blk.new (w : World) (t : TypeId) (cs : Array Value) : Blk (w.alloc (.cells cs t)) w.heap.size t cs := heap_alloc_new w _
theorem Blk.new_ (w : World) (t : TypeId) (cs : Array Value) {g : Nat} (h : g = w.heap.size) : Blk (w.alloc (.cells cs t)) g t cs := h ▸ heap_alloc_new w _
theorem Blk.drew (h : Blk w g t cs) : Blk w.drew g t cs := h
theorem Blk.alloc (h : Blk w g t cs) (o : Obj) : Blk (w.alloc o) g t cs := (Below.heap_alloc w o g h.lt).trans h
theorem Blk.set_ (h : Blk w g t cs) (i : Nat) (u : Value) : Blk (w.setCell ⟨g, i, none⟩ u) g t (cs.setIfInBounds i u) := by
 unfold Blk at h ⊢
 simp [World.setCell, Array.getElem?_modify, h]
theorem Blk.far (h : Blk w g t cs) {p : Addr} (hp : g ≠ p.block) (u : Value) : Blk (w.setCell p u) g t cs := (Below.heap_setCell w p u g hp).trans h
theorem Blk.grown {row : Option Nat} (h : Blk w g t cs) (hb : w.grownBy w' row) (hg : some g ≠ row) : Blk w' g t cs := (hb.block g h.lt hg).trans h
end
end Go.Proofs.YtjhdlcmecbngkaaDoor
namespace Go.Proofs.YtjhdlcmecbngkaaDoor
open Go Go.RowKit
set_option linter.unusedVariables false
set_option maxHeartbeats 1000000 in
set_option maxRecDepth 100000 in
theorem count_one (s : ByteArray) (c : UInt8) (w : World) :
  Calls Tryd.prog 77 #[.string s, .string ⟨#[c]⟩] w fun e w' => e = .returned (.int .i64 (Lib.countByte s.data.toList c)) ∧ w' = w := by
 go_enter Tryd.func77, Tryd.ntmps77
 go_wp2
 rw [run_callFunc_extern Tryd.func90 (by kernel_rfl) (by kernel_rfl) (by kernel_rfl) (e := Extern.BytealgCount.count) (by kernel_rfl), Lib.run_countString]
 simp only [Result.andThen]
 rw [Oper.upon_value]
 go_wp2
 go_ret
 exact ⟨rfl, rfl⟩
set_option maxHeartbeats 1000000 in
set_option maxRecDepth 100000 in
theorem indexByte_any (s : ByteArray) (c : Int) (w : World) :
  Calls Tryd.prog 96 #[.string s, .int .u8 c] w fun e w' => e = .returned (.int .i64 (Lib.indexByte s.data.toList c.toNat.toUInt8)) ∧ w' = w := by
 go_enter Tryd.func96, Tryd.ntmps96
 go_wp2
 rw [run_callFunc_extern Tryd.func100 (by kernel_rfl) (by kernel_rfl) (by kernel_rfl) (e := Extern.BytealgIndexByte.indexByte) (by kernel_rfl), Lib.run_indexByteString]
 simp only [Result.andThen]
 rw [Oper.upon_value]
 go_wp2
 go_ret
 exact ⟨rfl, rfl⟩
set_option maxHeartbeats 2000000 in
set_option maxRecDepth 100000 in
theorem liteIndex_one (s : ByteArray) (c : UInt8) (w : World) :
  Calls Tryd.prog 91 #[.string s, .string ⟨#[c]⟩] w fun e w' => e = .returned (.int .i64 (Lib.indexByte s.data.toList c)) ∧ w' = w := by
 go_enter Tryd.func91, Tryd.ntmps91
 go_wp2_with (go_at_call 96; refine (indexByte_any _ _ _).mono ?_; rintro e w' ⟨rfl, rfl⟩)
 ·have h : ([c] == s.toList) = true := by assumption
  go_ret
  refine ⟨?_, rfl⟩
  have e : s.data.toList = [c] := by rw [← Lib.toList_data]; exact (beq_iff_eq.1 h).symm
  rw [e]
  simp [Lib.indexByte]
 ·go_ret
  exact ⟨rfl, rfl⟩
set_option maxHeartbeats 1000000 in
theorem index_one (s : ByteArray) (c : UInt8) (w : World) :
  Calls Tryd.prog 78 #[.string s, .string ⟨#[c]⟩] w fun e w' => e = .returned (.int .i64 (Lib.indexByte s.data.toList c)) ∧ w' = w := by
 go_enter Tryd.func78, Tryd.ntmps78
 go_wp2_with (go_at_call 91; refine (liteIndex_one _ _ _).mono ?_; rintro e w' ⟨rfl, rfl⟩)
 go_ret
 exact ⟨rfl, rfl⟩
end Go.Proofs.YtjhdlcmecbngkaaDoor
namespace Go.Proofs.YtjhdlcmecbngkaaDoor.Pl
set_option linter.unusedVariables false
theorem toList_inj {a b : ByteArray} (h : a.toList = b.toList) : a = b := by
 rw [ByteArray.toList_eq, ByteArray.toList_eq] at h
 cases a; cases b
 congr
 exact Array.toList_inj.1 h
end Go.Proofs.YtjhdlcmecbngkaaDoor.Pl
namespace Go.Proofs.YtjhdlcmecbngkaaDoor.Pl
open Go
set_option linter.unusedVariables false
def ixb (r : ByteArray) (c : UInt8) : Int := Lib.indexByte r.data.toList c
def cnb (r : ByteArray) (c : UInt8) : Nat := Lib.countByte r.data.toList c
theorem ix_neg {l : List UInt8} {c : UInt8} : Lib.indexByte l c = -1 ↔ l.count c = 0 := by
 induction l with
 | nil => simp [Lib.indexByte]
 | cons b l ih =>
  unfold Lib.indexByte
  have hg := Lib.indexByte_ge l c
  by_cases hb : (b == c) = true
  ·rw [if_pos hb]
   have : b = c := by simpa using hb
   subst this
   simp
  ·rw [if_neg hb]
   have hne : b ≠ c := fun e => hb (by simpa using e)
   rw [List.count_cons_of_ne hne]
   split
   ·rename_i h
    have h' : Lib.indexByte l c = -1 := by simpa using h
    simp [ih.1 h']
   ·rename_i h
    have h' : ¬ Lib.indexByte l c = -1 := by simpa using h
    constructor
    ·intro e; omega
    ·intro e; exact absurd (ih.2 e) h'
theorem ix_pos {l : List UInt8} {c : UInt8} (h : 0 < l.count c) : ∃ m : Nat, Lib.indexByte l c = (m : Int) ∧ m < l.length ∧ (l.drop (m + 1)).count c + 1 = l.count c := by
 induction l with
 | nil => simp at h
 | cons b l ih =>
  unfold Lib.indexByte
  by_cases hb : (b == c) = true
  ·rw [if_pos hb]
   have : b = c := by simpa using hb
   subst this
   exact ⟨0, rfl, by simp, by simp⟩
  ·rw [if_neg hb]
   have hne : b ≠ c := fun e => hb (by simpa using e)
   rw [List.count_cons_of_ne hne] at h ⊢
   obtain ⟨m, h1, h2, h3⟩ := ih h
   have hn : ¬ ((Lib.indexByte l c == -1) = true) := by rw [h1]; simp
   rw [if_neg hn, h1]
   exact ⟨m + 1, by simp, by simp; omega, by simpa using h3⟩
def rest (c : UInt8) (s : ByteArray) : Nat → ByteArray
 | 0 => s
 | k + 1 => (rest c s k).extract ((ixb (rest c s k) c).toNat + 1) (rest c s k).size
def piece (c : UInt8) (s : ByteArray) (k : Nat) : ByteArray := (rest c s k).extract 0 (ixb (rest c s k) c).toNat
def pieces (c : UInt8) (s : ByteArray) : List ByteArray := (List.range (cnb s c)).map (piece c s) ++ [rest c s (cnb s c)]
theorem pieces_len (c : UInt8) (s : ByteArray) : (pieces c s).length = cnb s c + 1 := by simp [pieces]
theorem cnb_le (s : ByteArray) (c : UInt8) : cnb s c ≤ s.size := by
 have := List.count_le_length (a := c) (l := s.data.toList)
 simpa [cnb, Lib.countByte] using this
theorem extract_list (s : ByteArray) (a b : Nat) : (s.extract a b).data.toList = (s.data.toList.take b).drop a := by
 simp [ByteArray.data_extract, List.drop_take]
theorem rest_count (c : UInt8) (s : ByteArray) : ∀ k, k ≤ cnb s c → cnb (rest c s k) c + k = cnb s c
 | 0, _ => rfl
 | k + 1, h => by
  have ih := rest_count c s k (by omega)
  have hp : 0 < (rest c s k).data.toList.count c := by have : cnb (rest c s k) c = (rest c s k).data.toList.count c := rfl; omega
  obtain ⟨m, h1, h2, h3⟩ := ix_pos hp
  have hx : ixb (rest c s k) c = (m : Int) := h1
  have e : (rest c s (k + 1)).data.toList = (rest c s k).data.toList.drop (m + 1) := by
   show ((rest c s k).extract ((ixb (rest c s k) c).toNat + 1) (rest c s k).size).data.toList = _
   rw [extract_list, hx]
   congr 1
   exact List.take_of_length_le (by simp)
  have : cnb (rest c s (k + 1)) c + 1 = cnb (rest c s k) c := by
   unfold cnb Lib.countByte
   rw [e]; exact h3
  omega
theorem rest_at (c : UInt8) (s : ByteArray) {k : Nat} (h : k < cnb s c) : ∃ m : Nat, ixb (rest c s k) c = (m : Int) ∧ m + 1 ≤ (rest c s k).size ∧ piece c s k = (rest c s k).extract 0 m ∧ rest c s (k + 1) = (rest c s k).extract (m + 1) (rest c s k).size := by
  have ih := rest_count c s k (by omega)
  have hp : 0 < (rest c s k).data.toList.count c := by have : cnb (rest c s k) c = (rest c s k).data.toList.count c := rfl; omega
  obtain ⟨m, h1, h2, _⟩ := ix_pos hp
  have hx : ixb (rest c s k) c = (m : Int) := h1
  refine ⟨m, hx, by have h4 : m < (rest c s k).size := by simpa using h2
                    omega, ?_, ?_⟩
  · show (rest c s k).extract 0 (ixb (rest c s k) c).toNat = _
    rw [hx]; rfl
  · show (rest c s k).extract ((ixb (rest c s k) c).toNat + 1) (rest c s k).size = _
    rw [hx]; rfl
theorem rest_size (c : UInt8) (s : ByteArray) : ∀ k, (rest c s k).size ≤ s.size
 | 0 => Nat.le_refl _
 | k + 1 => by
  have := rest_size c s k
  show ((rest c s k).extract _ _).size ≤ _
  rw [ByteArray.size_extract]; omega
end Go.Proofs.YtjhdlcmecbngkaaDoor.Pl
namespace Go.Proofs.YtjhdlcmecbngkaaDoor
open Go.ChangeShapes Go.WideShapes Go.ChangeAt Go.RowKit
set_option linter.unusedVariables false
section
variable {H : Type} {enc : TypeId × Value → H} {P : Program}
theorem trodAll_stays (hl : laidOutB P = true) {W W' : World} {B : Nat} (hb : Below B W W') (sp : Nat → Bool) :
  ∀ {ts : List TypeId} {vs : List Value} {ds : List (DataW H)} {p : List MemPlace}, (∀ t ∈ ts, P.readableRec t = true ∧ t < P.types.size) →
   DataW.TrodAll enc P W 0 (fun _ => true) true ts vs ds p → (∀ x ∈ p, sp x.block = true) → (∀ x ∈ p, x.block < B) → B = W.heap.size → DataW.TrodAll enc P W' 0 sp true ts vs ds p
 | [], _, _, _, _, h, _, _, _ => by
  obtain ⟨rfl, rfl, rfl⟩ := trodAll_nil h
  exact trodAll_mk0
 | t :: ts, _, _, _, ht, h, hs, hlt, hB => by
  obtain ⟨v, vs1, d, ds1, a, b, rfl, rfl, rfl, h1, h2⟩ := trodAll_cons h
  obtain ⟨hr, hrow⟩ := ht t (by simp)
  subst hB
  refine ⟨a, b, WideElems.Trod_stays hl hr hrow h1 (fun x hx => hb.same (hlt x (by simp [hx]))) (fun x hx => hs x (by simp [hx])), ?_, rfl⟩
  exact trodAll_stays hl hb sp (fun t h => ht t (by simp [h])) h2 (fun x hx => hs x (by simp [hx])) (fun x hx => hlt x (by simp [hx])) rfl
theorem law_post {f : Func} {s : ChangeSpec} {apart fresh handsOn again : Bool} {W W' : World} {args : Array Value} {ds gs : List (DataW H)} {before : List MemPlace} {tb : TypeId}
  (hW : DataW.Whole enc P f.params.toList s.vars apart W args.toList ds gs before) (hl : laidOutB P = true) (hr : ∀ t ∈ f.params.toList, P.readableRec t = true ∧ t < P.types.size)
  (hv : s.vars = []) (hf : s.fn H (ds ++ gs) = { results := [.lit (.bool true)], args := ds }) (hres : f.resultTypes = #[tb]) (hbool : P.underlying tb = some .bool)
  (hb : Below W.heap.size W W') : s.post enc P f apart fresh handsOn again W args (.bool true) W' := by
 have hW0 := hW
 have hlt : ∀ p ∈ before, p.block < W.heap.size := fun p hp => hW.lt p hp
 obtain ⟨p, q, hA, hV, rfl, hz, hn⟩ := hW
 rw [hv] at hV
 obtain ⟨rfl, rfl⟩ := trodVars_none hV
 simp only [List.append_nil] at *
 have hst : ∀ sp : Nat → Bool, (∀ x ∈ p, sp x.block = true) → DataW.TrodAll enc P W' 0 sp true f.params.toList args.toList ds p := fun sp hs => trodAll_stays hl hb sp hr hA hs hlt rfl
 have hold : ∀ x ∈ p, (fun b => decide (b < W.heap.size)) x.block = true := fun x hx => by simpa using hlt x hx
 have hR : ∀ (b : Nat) (sp : Nat → Bool) (hd : Bool), DataW.TrodAll enc P W' b sp hd f.resultTypes.toList ((Value.bool true).resultList f.resultTypes.size) [.lit (.bool true)] [] := fun b sp hd => by
  rw [hres]
  exact trodAll_cons_mk (shut_bool hbool _) trodAll_mk0
 refine ⟨ds, [], p, [], p, [], hW0, ?_, ?_, ?_, ?_, fun _ => ?_⟩
 ·rw [List.append_nil, hf]; exact hR _ _ _
 ·rw [List.append_nil, hf]; exact hst _ hold
 ·rw [List.append_nil, hv, hf]; rfl
 ·exact World.keptBut_mono (fun x hx => ⟨hx, by simp [hx]⟩) (hb.frame (· ∈ p))
 ·obtain ⟨_, _, _, _, _, hz', hn'⟩ := hW0
  refine ⟨ok_one hres rfl (okWide_bool_mk hbool _), _, [], ([] ++ p) ++ [], ⟨[] ++ p, [], trodAll_append (hst _ (fun _ _ => rfl)) (hR _ _ _), ?_, rfl, ?_, ?_⟩, ?_⟩
  ·rw [hv]; rfl
  ·intro b off hp
   rw [hb.frozen (hlt _ (by simpa using hp))]
   exact hz b off (by simpa using hp)
  ·intro ha
   simpa using hn ha
  ·intro x hx _
   simpa using hx
end
end Go.Proofs.YtjhdlcmecbngkaaDoor
namespace Go.Proofs.YtjhdlcmecbngkaaDoor
open Go.Joins Go.ChangeShapes Go.WideShapes Go.RowKit Go.Deep
set_option linter.unusedVariables false
inductive Ty where
 | i
 | s
 | b
 | l (row : List Ty)
inductive FitV : Ty → V → Prop where
 | i (n : Int) (h1 : -9223372036854775808 ≤ n) (h2 : n ≤ 9223372036854775807) : FitV .i (.v (.int .i64 n))
 | s (x : ByteArray) (h : x.size ≤ 9223372036854775807) : FitV .s (.v (.string x))
 | b (x : Bool) : FitV .b (.v (.bool x))
 | l (tys : List Ty) (rows : List (List V)) (hl : rows.length ≤ 9223372036854775807) (hr : ∀ row ∈ rows, tys.length = row.length) (h : ∀ row ∈ rows, ∀ (j : Nat) (t : Ty) (u : V), tys[j]? = some t → row[j]? = some u → FitV t u) : FitV (.l tys) (.sl false rows)
def Fits (tys : List Ty) (us : List V) : Prop := tys.length = us.length ∧ ∀ (j : Nat) (t : Ty) (u : V), tys[j]? = some t → us[j]? = some u → FitV t u
def tyFs (P : Program) (rc : TypeId → Option (List Ty)) : List Field → Nat → Option (List Ty)
  | [], _ => some []
  | f :: fs, off => match rc f.type with
    | some ts => if f.offset == off && P.cellsOf f.type == ts.length then (match tyFs P rc fs (off + ts.length) with
      | some r => some (ts ++ r)
      | none => none) else none
    | none => none
def tyOf (P : Program) : Nat → TypeId → Option (List Ty)
 | 0, _ => none
 | d + 1, t => match P.underlying t with
  | some (.int .i64) => some [.i]
  | some .string => some [.s]
  | some .bool => some [.b]
  | some (.struct fs) => match tyFs P (tyOf P d) fs.toList 0 with
   | some ts => if P.cellsOf t == ts.length then some ts else none
   | none => none
  | some (.slice e) => match tyOf P d e with
   | some ts => if P.cellsOf e == ts.length && 0 < ts.length then some [.l ts] else none
   | none => none
  | _ => none
section
variable {H : Type} {enc : TypeId × Value → H} {P : Program} {w : World} {base : Nat} {spare : Nat → Bool} {held : Bool}
def Reads (w : World) (tys : List Ty) (cs : List Value) (us : List V) : Prop :=
 Fits tys us ∧ cs.length = us.length ∧ ∀ (j : Nat) (u : V) (x : Value), us[j]? = some u → cs[j]? = some x → RV w (fun b => b < w.heap.size) noG u x
theorem Reads.app {t1 t2 : List Ty} {c1 c2 : List Value} {u1 u2 : List V} (h1 : Reads w t1 c1 u1) (h2 : Reads w t2 c2 u2) : Reads w (t1 ++ t2) (c1 ++ c2) (u1 ++ u2) := by
 obtain ⟨⟨a1, a2⟩, a3, a4⟩ := h1
 obtain ⟨⟨b1, b2⟩, b3, b4⟩ := h2
 refine ⟨⟨by simp [a1, b1], fun j t u g1 g2 => ?_⟩, by simp [a3, b3], fun j u x g1 g2 => ?_⟩
 ·by_cases hj : j < t1.length
  ·rw [List.getElem?_append_left hj] at g1
   rw [List.getElem?_append_left (by omega)] at g2
   exact a2 j t u g1 g2
  ·rw [List.getElem?_append_right (by omega)] at g1 g2
   rw [← a1] at g2
   exact b2 _ t u g1 g2
 ·by_cases hj : j < u1.length
  ·rw [List.getElem?_append_left hj] at g1
   rw [List.getElem?_append_left (by omega)] at g2
   exact a4 j u x g1 g2
  ·rw [List.getElem?_append_right (by omega)] at g1 g2
   rw [a3] at g2
   exact b4 _ u x g1 g2
theorem reads_one {t : Ty} {x : Value} {u : V} (h : FitV t u) (hr : RV w (fun b => b < w.heap.size) noG u x) : Reads w [t] [x] [u] := by
 refine ⟨⟨rfl, fun j t' u' g1 g2 => ?_⟩, rfl, fun j u' x' g1 g2 => ?_⟩
 ·cases j with
  | zero => simp at g1 g2; subst g1 g2; exact h
  | succ j => simp at g1
 ·cases j with
  | zero => simp at g1 g2; subst g1 g2; exact hr
  | succ j => simp at g1
theorem add_full (a : Addr) (n : Nat) (h : a.spot = none) : a.add n = ⟨a.block, a.off + n, none⟩ := by
 obtain ⟨b, o, sp⟩ := a
 simp only at h; subst h
 unfold Addr.add
 split <;> simp_all
end
theorem fits_cons {t : Ty} {ts : List Ty} {us : List V} (h : Fits (t :: ts) us) : ∃ u us', us = u :: us' ∧ FitV t u ∧ Fits ts us' := by
 obtain ⟨h1, h2⟩ := h
 match us, h1 with
 | u :: us', h1 => exact ⟨u, us', rfl, h2 0 _ _ rfl rfl, by simpa using h1, fun j t' u' g1 g2 => h2 (j + 1) t' u' (by simpa using g1) (by simpa using g2)⟩
theorem fits_nil {us : List V} (h : Fits [] us) : us = [] := List.eq_nil_of_length_eq_zero h.1.symm
theorem fit_i {u : V} (h : FitV .i u) : ∃ n : Int, u = .v (.int .i64 n) ∧ -9223372036854775808 ≤ n ∧ n ≤ 9223372036854775807 := by cases h with | i n h1 h2 => exact ⟨n, rfl, h1, h2⟩
theorem fit_s {u : V} (h : FitV .s u) : ∃ x : ByteArray, u = .v (.string x) ∧ x.size ≤ 9223372036854775807 := by cases h with | s x h => exact ⟨x, rfl, h⟩
theorem fit_b {u : V} (h : FitV .b u) : ∃ x : Bool, u = .v (.bool x) := by cases h with | b x => exact ⟨x, rfl⟩
theorem fit_l {tys : List Ty} {u : V} (h : FitV (.l tys) u) : ∃ rows, u = .sl false rows ∧ rows.length ≤ 9223372036854775807 ∧ ∀ row ∈ rows, Fits tys row := by
 cases h with | l tys rows hl hr h => exact ⟨rows, rfl, hl, fun row hm => ⟨hr row hm, h row hm⟩⟩
theorem rows_dec {α : Type} {enc : α → List V} {p : α → Prop} {tys : List Ty} (hd : ∀ row, Fits tys row → ∃ x : α, row = enc x ∧ p x) : ∀ (rows : List (List V)), (∀ row ∈ rows, Fits tys row) → ∃ l : List α, rows = l.map enc ∧ ∀ x ∈ l, p x
 | [], _ => ⟨[], rfl, by simp⟩
 | row :: rows, h => by
  obtain ⟨x, hx, px⟩ := hd row (h row (by simp))
  obtain ⟨l, hl, pl⟩ := rows_dec hd rows fun r hr => h r (by simp [hr])
  exact ⟨x :: l, by simp [hx, hl], by simpa using ⟨px, pl⟩⟩
theorem fit_list {α : Type} {enc : α → List V} {p : α → Prop} {tys : List Ty} {u : V} (hd : ∀ row, Fits tys row → ∃ x : α, row = enc x ∧ p x) (h : FitV (.l tys) u) : ∃ l : List α, u = .sl false (l.map enc) ∧ l.length ≤ 9223372036854775807 ∧ ∀ x ∈ l, p x := by
 obtain ⟨rows, rfl, hl, hr⟩ := fit_l h
 obtain ⟨l, rfl, hp⟩ := rows_dec hd rows hr
 exact ⟨l, rfl, by simpa using hl, hp⟩
theorem pars_v {w : World} {R : Nat → Prop} : ∀ {xs ys : List Value}, Pars w R (xs.map fun x => .c (.v x)) ys → ys = xs
 | xs, ys, h => by
  apply List.ext_getElem?
  intro i
  have hl := h.len
  rw [List.length_map] at hl
  by_cases hi : i < xs.length
  ·have h1 : xs[i]? = some xs[i] := List.getElem?_eq_getElem hi
   have h2 : ys[i]? = some (ys[i]'(by omega)) := List.getElem?_eq_getElem (by omega)
   have h3 : ParOk w R (.c (.v xs[i])) (ys[i]'(by omega)) := h.ok i _ _ (by rw [List.getElem?_map, h1]; rfl) h2
   have h4 : RV w R noG (.v xs[i]) (ys[i]'(by omega)) := h3
   rw [h1, h2, rv_v h4]
  ·rw [List.getElem?_eq_none (by omega), List.getElem?_eq_none (by omega)]
theorem no_blk {ps : List Par} {xs : List Value} {b : Nat} (h : ∀ p ∈ ps, ∃ u, p = .c u) : ¬ ParBlk ps xs b := by
 rintro ⟨i, T, sz, rows, x, h1, _⟩
 obtain ⟨u, hu⟩ := h _ (List.mem_of_getElem? h1)
 cases hu
theorem fr_of_below {L : Nat → Prop} {w w' : World} (h : Below w.heap.size w w') : Fr L w w' := ⟨h.os, h.tape, h.output, h.size, fun k hk _ => h.block k hk⟩
theorem fun_flat {P : Program} {f : FuncId} {xs : List Value} {v : Value} (hc : Callable P f) (h : ∀ w, Calls P f xs.toArray w fun e w' => e = .returned v ∧ Below w.heap.size w w') : Fun P f (xs.map fun x => .c (.v x)) [.c (.v v)] := by
 refine ⟨hc, fun w R ys hlt hp => ?_⟩
 obtain rfl := pars_v hp
 refine (h w).mono fun e w' ⟨he, hb⟩ => ⟨[v], R, by rw [he]; rfl, fr_of_below hb, fun _ h => h, fun b h => .inl h, ⟨rfl, ?_, ?_, ?_⟩, ?_⟩
 ·intro i p x h1 h2
  cases i with
  | zero => simp at h1 h2; subst h1 h2; exact .v _
  | succ i => simp at h1
 ·intro i j T sz rows T' sz' rows' x y b _ h1
  cases i with
  | zero => simp at h1
  | succ i => simp at h1
 ·intro b hb'
  exact absurd hb' (no_blk (by simp))
 ·intro b hb'
  exact absurd hb' (no_blk (by simp))
theorem callable {P : Program} {f : FuncId} {fn : Func} (h1 : P.funcs[f]? = some fn) (h2 : (fn.name == "runtime.NumGoroutine") = false) (h3 : fn.body.isNone = false) : Callable P f := ⟨fn, h1, h2, h3⟩
theorem tieF {P : Program} {f : FuncId} {ps : List Par} {xs : List Value} {v : Value} {w : World} (hF : Fun P f ps [.c (.v v)]) (hc : ∀ p ∈ ps, ∃ u, p = .c u) (hl : ps.length = xs.length)
  (hp : ∀ (i : Nat) (u : V) (x : Value), ps[i]? = some (.c u) → xs[i]? = some x → RV w (fun b => b < w.heap.size) noG u x) : Calls P f xs.toArray w fun e w' => e = .returned v ∧ Below w.heap.size w w' := by
 refine (hF.2 w (fun b => b < w.heap.size) xs (fun _ h => h) ⟨hl, ?_, ?_, ?_⟩).mono ?_
 ·intro i p x h1 h2
  obtain ⟨u, rfl⟩ := hc p (List.mem_of_getElem? h1)
  exact hp i u x h1 h2
 ·intro i j T sz rows T' sz' rows' x y b _ h1
  obtain ⟨u, hu⟩ := hc _ (List.mem_of_getElem? h1)
  cases hu
 ·intro b hb; exact absurd hb (no_blk hc)
 ·rintro e w' ⟨ys, R', rfl, hfr, _, _, hpr, _⟩
  have hy : ys.length = 1 := hpr.len.symm
  match ys, hy with
  | [y], _ =>
   have : RV w' R' noG (.v v) y := hpr.ok 0 _ y rfl rfl
   obtain rfl := rv_v this
   exact ⟨rfl, hfr.os, hfr.tape, hfr.output, hfr.size, fun k hk => hfr.block k hk (no_blk hc)⟩
def RVL (w : World) : List V → List Value → Prop
 | [], [] => True
 | u :: us, x :: xs => RV w (fun b => b < w.heap.size) noG u x ∧ RVL w us xs
 | _, _ => False
theorem rvl_len {w : World} : ∀ {us : List V} {xs : List Value}, RVL w us xs → us.length = xs.length
 | [], [], _ => rfl
 | u :: us, x :: xs, h => by simp [rvl_len h.2]
 | [], _ :: _, h => h.elim
 | _ :: _, [], h => h.elim
theorem rvl_at {w : World} : ∀ {us : List V} {xs : List Value}, RVL w us xs → ∀ (i : Nat) (u : V) (x : Value), us[i]? = some u → xs[i]? = some x → RV w (fun b => b < w.heap.size) noG u x
 | [], [], _, i, u, x, h1, _ => by simp at h1
 | u' :: us, x' :: xs, h, 0, u, x, h1, h2 => by simp at h1 h2; subst h1 h2; exact h.1
 | u' :: us, x' :: xs, h, i + 1, u, x, h1, h2 => rvl_at h.2 i u x (by simpa using h1) (by simpa using h2)
 | [], _ :: _, h, _, _, _, _, _ => h.elim
 | _ :: _, [], h, _, _, _, _, _ => h.elim
theorem tieL {P : Program} {f : FuncId} {us : List V} {xs : List Value} {v : Value} {w : World} (hF : Fun P f (us.map .c) [.c (.v v)]) (h : RVL w us xs) : Calls P f xs.toArray w fun e w' => e = .returned v ∧ Below w.heap.size w w' :=
 tieF hF (by simp) (by rw [List.length_map]; exact rvl_len h) (fun i u x h1 h2 => by
  rw [List.getElem?_map] at h1
  cases hq : us[i]? with
  | none => rw [hq] at h1; cases h1
  | some u' => rw [hq] at h1; simp at h1; subst h1; exact rvl_at h i u' x hq h2)
end Go.Proofs.YtjhdlcmecbngkaaDoor
namespace Go.Proofs.YtjhdlcmecbngkaaDoor.Pl
set_option linter.unusedVariables false
end Go.Proofs.YtjhdlcmecbngkaaDoor.Pl
namespace Go.Proofs.YtjhdlcmecbngkaaDoor.Pl
set_option linter.unusedVariables false
section
variable {α : Type} {cf : α → Int} {l : List α}
end
end Go.Proofs.YtjhdlcmecbngkaaDoor.Pl
namespace Go.Proofs.YtjhdlcmecbngkaaDoor.Pl
set_option linter.unusedVariables false
section
variable {α : Type}
variable {mx : Nat} {e : α → Int} {lt : α → α → Bool} {l : List α}
end
end Go.Proofs.YtjhdlcmecbngkaaDoor.Pl
namespace Go.Proofs.YtjhdlcmecbngkaaDoor.Pl
set_option linter.unusedVariables false
section
variable {α : Type}
def at_ (p : α → Bool) (l : List α) : Int := match l.findIdx? p with
 | some i => (i : Int)
 | none => -1
theorem at_yes {p : α → Bool} {l : List α} {k : Nat} (hk : k < l.length) (h0 : ∀ i, (h : i < l.length) → i < k → p l[i] = false) (h1 : p l[k] = true) : at_ p l = k := by
 have : l.findIdx? p = some k := by
  rw [List.findIdx?_eq_some_iff_getElem]
  exact ⟨hk, h1, fun j hj => by simp [h0 j (by omega) hj]⟩
 simp [at_, this]
theorem at_no {p : α → Bool} {l : List α} (h0 : ∀ i, (h : i < l.length) → p l[i] = false) : at_ p l = -1 := by
 have : l.findIdx? p = none := by
  rw [List.findIdx?_eq_none_iff]
  intro x hx
  obtain ⟨i, hi, rfl⟩ := List.getElem_of_mem hx
  exact h0 i hi
 simp [at_, this]
theorem at_inv {p : α → Bool} {l : List α} : (at_ p l = -1 ∧ ∀ i, (h : i < l.length) → p l[i] = false) ∨ ∃ k, ∃ hk : k < l.length, at_ p l = (k : Int) ∧ p l[k] = true ∧ ∀ i, (h : i < l.length) → i < k → p l[i] = false := by
 cases h : l.findIdx? p with
 | none =>
  left
  refine ⟨by simp [at_, h], fun i hi => ?_⟩
  rw [List.findIdx?_eq_none_iff] at h
  exact h _ (List.getElem_mem hi)
 | some k =>
  right
  rw [List.findIdx?_eq_some_iff_getElem] at h
  obtain ⟨hk, h1, h2⟩ := h
  refine ⟨k, hk, ?_, h1, fun i hi hik => by simpa using h2 i hik⟩
  have : l.findIdx? p = some k := by
   rw [List.findIdx?_eq_some_iff_getElem]
   exact ⟨hk, h1, h2⟩
  simp [at_, this]
end
end Go.Proofs.YtjhdlcmecbngkaaDoor.Pl
namespace Go.Proofs.YtjhdlcmecbngkaaDoor
open Go.RowKit Pl
set_option linter.unusedVariables false
theorem wrap_u64 {n : Int} (h1 : 0 ≤ n) (h2 : n ≤ 18446744073709551615) : IntKind.u64.wrap n = n := IntWalk.u64_in n ⟨h1, h2⟩
theorem fdiv_half {n : Int} (h : 0 ≤ n) : n.fdiv (2 ^ (min (1 : Int).toNat IntKind.u64.bits)) = n / 2 := by
 have e : (2 : Int) ^ (min (1 : Int).toNat IntKind.u64.bits) = 2 := by decide
 rw [e, Int.fdiv_eq_ediv_of_nonneg _ (by decide)]
class FlatRow {α : Type} (enc : α → List V) : Prop where
 flat : ∀ x, ∀ u ∈ enc x, ∃ v, u = .v v
theorem row_map {α : Type} {f : α → List V} {l : List α} {k : Nat} (h : k < l.length) : (l.map f)[k]? = some (f l[k]) := by simp [h]
theorem fl_row {α : Type} {enc : α → List V} [hf : FlatRow enc] {x : α} : ∀ u ∈ enc x, Fl u := fun u hu => by
 obtain ⟨v, rfl⟩ := hf.flat x u hu
 exact fl_v v
theorem fl_rows {α : Type} {enc : α → List V} [FlatRow enc] {l : List α} : ∀ row ∈ l.map enc, ∀ u ∈ row, Fl u := fun row hr u hu => by
 obtain ⟨x, _, rfl⟩ := List.mem_map.1 hr
 exact fl_row u hu
theorem cl_rows {α : Type} {enc : α → List V} [FlatRow enc] {l : List α} : ∀ row ∈ l.map enc, ∀ u ∈ row, Cl u := fun row hr u hu => (fl_rows row hr u hu).cl
theorem cl_list {α : Type} {enc : α → List V} [FlatRow enc] {c : Bool} {l : List α} : Cl (.sl c (l.map enc)) := cl_sl cl_rows
theorem cl_nil {c : Bool} : Cl (.sl c []) := cl_sl (by simp)
theorem cl_one {α : Type} {enc : α → List V} [FlatRow enc] {x : α} : Cl (.agg (enc x)) := cl_agg fun u hu => (fl_row u hu).cl
def vB : V → Bool
 | .v _ => true
 | _ => false
def vsB : List V → Bool
 | [] => true
 | u :: us => bif vB u then vsB us else false
def clB : V → Bool
 | .v _ => true
 | .agg cs => vsB cs
 | .tup cs => vsB cs
 | .clo _ cs => vsB cs
 | .sl false [] => true
 | _ => false
def clRs : List (List V) → Bool
 | [] => true
 | r :: rs => bif vsB r then clRs rs else false
theorem vB_fl {u : V} (h : vB u = true) : Fl u := by
 cases u <;> first | exact fl_v _ | cases h
theorem vsB_fl : ∀ {us : List V}, vsB us = true → ∀ u ∈ us, Fl u
 | [], _, u, hu => by cases hu
 | v :: us, h, u, hu => by
  unfold vsB at h
  cases hv : vB v with
  | false => rw [hv] at h; cases h
  | true =>
   rw [hv] at h
   rcases List.mem_cons.1 hu with rfl | hu
   ·exact vB_fl hv
   ·exact vsB_fl h u hu
theorem clRs_fl : ∀ {rs : List (List V)}, clRs rs = true → ∀ r ∈ rs, ∀ u ∈ r, Fl u
 | [], _, r, hr => by cases hr
 | r' :: rs, h, r, hr => by
  unfold clRs at h
  cases hv : vsB r' with
  | false => rw [hv] at h; cases h
  | true =>
   rw [hv] at h
   rcases List.mem_cons.1 hr with rfl | hr
   ·exact vsB_fl hv
   ·exact clRs_fl h r hr
theorem fl_clo {f : FuncId} {cs : List V} (h : ∀ u ∈ cs, Fl u) : Fl (.clo f cs) := fun w w' R R' G G' x hx => by
 cases hx with
 | clo f cs xs hl hh => exact .clo f cs xs hl fun i u x h1 h2 => h u (List.mem_of_getElem? h1) _ _ _ _ _ _ _ (hh i u x h1 h2)
theorem fl_b {u : V} (h : clB u = true) : Fl u := by
 cases u with
 | v x => exact fl_v x
 | agg cs => exact fl_agg (vsB_fl h)
 | tup cs => exact fl_tup (vsB_fl h)
 | clo f cs => exact fl_clo (vsB_fl h)
 | sl c rows => cases c <;> cases rows <;> first | exact fl_nil | cases h
 | _ => cases h
theorem cl_b {u : V} (h : clB u = true) : Cl u := (fl_b h).cl
theorem cl_rs {rs : List (List V)} (h : clRs rs = true) : ∀ r ∈ rs, ∀ u ∈ r, Cl u := fun r hr u hu => (clRs_fl h r hr u hu).cl
theorem cl_rl1 {α : Type} {enc : α → List V} [FlatRow enc] {c : Bool} {l : List α} : ∀ row ∈ [[V.sl c (l.map enc)]], ∀ u ∈ row, Cl u := by
 intro row hr u hu
 simp only [List.mem_cons, List.not_mem_nil, or_false] at hr; subst hr
 simp only [List.mem_cons, List.not_mem_nil, or_false] at hu; subst hu
 exact cl_list
theorem cl_rl2 {α : Type} {enc : α → List V} [FlatRow enc] {c d : Bool} {l m : List α} : ∀ row ∈ [[V.sl c (l.map enc)], [V.sl d (m.map enc)]], ∀ u ∈ row, Cl u := by
 intro row hr u hu
 simp only [List.mem_cons, List.not_mem_nil, or_false] at hr
 rcases hr with rfl | rfl <;> (simp only [List.mem_cons, List.not_mem_nil, or_false] at hu; subst hu; exact cl_list)
theorem cl_ll1 {α : Type} {enc : α → List V} [FlatRow enc] {c e : Bool} {l : List α} : Cl (.sl e [[V.sl c (l.map enc)]]) := cl_sl cl_rl1
theorem cl_ll2 {α : Type} {enc : α → List V} [FlatRow enc] {c d e : Bool} {l m : List α} : Cl (.sl e [[V.sl c (l.map enc)], [V.sl d (m.map enc)]]) := cl_sl cl_rl2
def flB : List Par → Bool
 | [] => true
 | .c u :: ps => bif clB u then flB ps else false
 | _ => false
theorem flat_b : ∀ {rs : List Par}, flB rs = true → flatRes rs
 | [], _ => fun r hr => by cases hr
 | .c u :: ps, h => by
  unfold flB at h
  cases hv : clB u with
  | false => rw [hv] at h; cases h
  | true =>
   rw [hv] at h
   intro r hr
   rcases List.mem_cons.1 hr with rfl | hr
   ·exact fl_b hv
   ·exact flat_b h r hr
 | .o _ _ _ :: _, h => by cases h
theorem flat_own {α : Type} {enc : α → List V} [FlatRow enc] {T : TypeId} {sz : Nat} {l : List α} : flatRes [.o T sz (l.map enc)] := by
 intro r hr
 simp only [List.mem_cons, List.not_mem_nil, or_false] at hr; subst hr
 exact fl_rows
theorem flat_own1 {α : Type} {enc : α → List V} [FlatRow enc] {T : TypeId} {sz : Nat} {l : List α} {ps : List Par} (h : flB ps = true) : flatRes (.o T sz (l.map enc) :: ps) := by
 intro r hr
 rcases List.mem_cons.1 hr with rfl | hr
 ·exact fl_rows
 ·exact flat_b h r hr
theorem cl_setB {α : Type} {enc : α → List V} [FlatRow enc] {l : List α} {i : Nat} {row : List V} (h : vsB row = true) : ∀ r ∈ (l.map enc).set i row, ∀ u ∈ r, Cl u := fun r hr u hu => by
 rcases List.mem_or_eq_of_mem_set hr with h1 | rfl
 ·exact cl_rows r h1 u hu
 ·exact (vsB_fl h u hu).cl
theorem cl_setG {rows : List (List V)} {i : Nat} {row : List V} (h0 : ∀ r ∈ rows, ∀ u ∈ r, Cl u) (h : vsB row = true) : ∀ r ∈ rows.set i row, ∀ u ∈ r, Cl u := fun r hr u hu => by
 rcases List.mem_or_eq_of_mem_set hr with h1 | rfl
 ·exact h0 r h1 u hu
 ·exact (vsB_fl h u hu).cl
theorem cl_appB {rs rs' : List (List V)} (h : ∀ r ∈ rs, ∀ u ∈ r, Cl u) (h' : ∀ r ∈ rs', ∀ u ∈ r, Cl u) : ∀ r ∈ rs ++ rs', ∀ u ∈ r, Cl u := fun r hr u hu => by
 rcases List.mem_append.1 hr with h1 | h1
 ·exact h r h1 u hu
 ·exact h' r h1 u hu
theorem give' {H : Nat → Option Ent} {all : List Nat} {bor : Bool} {gone : List Nat} {id g : Nat} {T : TypeId} {sz : Nat} {rows : List (List V)} {us : List V} {ps : List Par} (he : H id = some ⟨g, .t T, sz, rows⟩) (hr : ∀ row ∈ rows, ∀ u ∈ row, Cl u) (hn : id ∉ gone) (ha : id ∈ all) (h : ArgsOk H all bor gone us ps) : ArgsOk H all bor (id :: gone) (.own id g :: us) (.o T sz rows :: ps) :=
 ArgsOk.give (e := ⟨g, .t T, sz, rows⟩) he rfl rfl hr hn ha h
theorem not_t {b : Bool} (h : (!b) = true) : b = false := by cases b; rfl; cases h
theorem not_f {b : Bool} (h : (!b) = false) : b = true := by cases b; cases h; rfl
theorem nobor {p : Prop} : false = true → p := by simp
theorem up1 {n k : Nat} {p : (j : Nat) → (j < n) → Prop} (h0 : ∀ j (h : j < n), j < k → p j h) (hk : ∀ h : k < n, p k h) : ∀ j (h : j < n), j < k + 1 → p j h := fun j h hj => by
 rcases (by omega : j < k ∨ j = k) with g | rfl
 ·exact h0 j h g
 ·exact hk h
theorem cl_row {row : List V} (h : clRs [row] = true) : ∀ u ∈ row, Cl u := fun u hu => cl_rs h row (by simp) u hu
theorem GetR.cell1 {env : Nat → V} {H : Nat → Option Ent} {a id gen k off sz : Nat} {agg : Bool} {e : Ent} {row : List V} {r : List RT} {u : V} {us : List V} (h1 : env a = .ptr id gen k off) (h2 : H id = some e) (h3 : e.gen = gen) (h4 : e.rows[k]? = some row) (h5 : Nat.ble (off + sz) row.length = true) (hu : u = mkV agg ((row.drop off).take sz)) (h : GetR env H r us) :
  GetR env H ((a, some (agg, sz)) :: r) (u :: us) := by rw [hu]; exact .cell h1 h2 h3 h4 (Nat.le_of_ble_eq_true h5) h
class OneRow {α : Type} (enc : α → List V) (sz : outParam Nat) : Prop where
 len : ∀ x, (enc x).length = sz
 one : ∀ x, ∀ u ∈ enc x, ∃ v, u = .v v ∧ v.oneCell' = true
theorem outs_b {rs : List ParM} (h : rs.all outM = true) : ∀ p ∈ rs, outM p = true := List.all_eq_true.1 h
theorem cl_r1 {c : Bool} {rows : List (List V)} (h : clRs rows = true) : ∀ u ∈ [V.sl c rows], Cl u := fun u hu => by
 simp only [List.mem_cons, List.not_mem_nil, or_false] at hu; subst hu
 exact cl_sl (cl_rs h)
theorem cl_r1b {α : Type} {enc : α → List V} [FlatRow enc] {c : Bool} {l : List α} : ∀ u ∈ [V.sl c (l.map enc)], Cl u := fun u hu => by
 simp only [List.mem_cons, List.not_mem_nil, or_false] at hu; subst hu
 exact cl_list
theorem flat_own2 {α β : Type} {enc : α → List V} {enc' : β → List V} [FlatRow enc] [FlatRow enc'] {T T' : TypeId} {sz sz' : Nat} {l : List α} {l' : List β} {ps : List Par} (h : flB ps = true) : flatRes (.o T sz (l.map enc) :: .o T' sz' (l'.map enc') :: ps) := by
 intro r hr
 rcases List.mem_cons.1 hr with rfl | hr
 ·exact fl_rows
 ·exact flat_own1 h r hr
theorem nI {a b : Nat} (h : Nat.ble a b = true := by exact rfl) : a ≤ b := Nat.le_of_ble_eq_true h
theorem oI {rs : List ParM} (h : rs.all outM = true := by exact rfl) : ∀ p ∈ rs, outM p = true := outs_b h
theorem dI {l : List Nat} (h : ndB l = true := by exact rfl) : l.Nodup := nd_b h
theorem tI {p : Prop} (h : p := by (repeat' (first | exact trivial | refine ⟨rfl, ?_⟩))) : p := h
theorem lI {p : Prop} (h : p := by (simp only [List.length_map, List.length_append, List.length_cons, List.length_nil, List.length_set, List.length_replicate, maxLen]; omega)) : p := h
theorem fI {rs : List Par} (h : flatRes rs := by (first | exact flat_b rfl | exact flat_own | exact flat_own1 rfl | exact flat_own2 rfl)) : flatRes rs := h
theorem cBI {H : Nat → Option Ent} {all : List Nat} {cs cs' : List V} (h : CellsB H all cs cs' := by (repeat' (first | exact CellsB.nil | refine CellsB.same (by first | exact cl_b rfl | exact cl_list | exact cl_nil | assumption) ?_ | refine CellsB.nilsl _ ?_ | refine cB_own rfl rfl (by first | exact cl_rs rfl | exact cl_rows | exact cl_setB rfl | exact cl_setG (cl_setB rfl) rfl | exact cl_appB cl_rows (cl_rs rfl) | exact cl_rl1 | exact cl_rl2) (by decide) ?_))) : CellsB H all cs cs' := h
theorem aI {H : Nat → Option Ent} {all gone : List Nat} {bor : Bool} {us : List V} {ps : List Par} (h : ArgsOk H all bor gone us ps := by (repeat' (first | exact ArgsOk.nil _ | exact argsOk_cells (by assumption) | refine ArgsOk.same (by first | exact cl_b rfl | exact cl_list | exact cl_nil | exact cl_one | exact cl_ll1 | exact cl_ll2 | exact cl_clo (by assumption) | exact cl_agg' (by repeat' (first | exact clcs_nil | refine clcs_cons (by first | exact cl_b rfl | exact cl_list | exact cl_nil | assumption) ?_))) ?_ | refine ArgsOk.nilsl _ ?_ | refine ArgsOk.nilown _ _ (by decide) ?_ | refine ArgsOk.borp rfl rfl rfl (cl_row rfl) (by decide) ?_ | refine ArgsOk.borc (by (repeat' (first | exact cap_n | refine cap_p rfl rfl rfl (by first | exact cl_row rfl | exact cl_r1 rfl | exact cl_r1b) ?_ ?_ | refine cap_m rfl (by decide) ?_ | refine cap_c (by first | exact cl_b rfl | exact cl_list | exact cl_nil | exact cl_one | exact cl_ll1 | exact cl_ll2 | exact cl_clo (by assumption) | exact cl_agg' (by repeat' (first | exact clcs_nil | refine clcs_cons (by first | exact cl_b rfl | exact cl_list | exact cl_nil | assumption) ?_))) ?_ | decide))) ?_ | refine ArgsOk.bora cBI ?_ | refine ArgsOk.bor rfl rfl (deref_flat (by first | exact cl_rs rfl | exact cl_rows | exact cl_setB rfl | exact cl_setG (cl_setB rfl) rfl | exact cl_appB cl_rows (cl_rs rfl) | exact cl_rl1 | exact cl_rl2)) (by decide) ?_ | refine give' rfl (by first | exact cl_rs rfl | exact cl_rows | exact cl_setB rfl | exact cl_setG (cl_setB rfl) rfl | exact cl_appB cl_rows (cl_rs rfl) | exact cl_rl1 | exact cl_rl2) (by decide) (by decide) ?_))) : ArgsOk H all bor gone us ps := h
theorem aM {H : Nat → Option Ent} {all gone : List Nat} {bor : Bool} {us : List V} {ps : List ParM} (h : ArgsM H all bor gone us ps := by (repeat' (first | exact ArgsM.nil _ | refine aM_same (by first | exact cl_b rfl | exact cl_list | exact cl_nil | exact cl_one | exact cl_ll1 | exact cl_ll2 | exact cl_clo (by assumption) | exact cl_agg' (by repeat' (first | exact clcs_nil | refine clcs_cons (by first | exact cl_b rfl | exact cl_list | exact cl_nil | assumption) ?_))) ?_ | refine aM_nilsl _ ?_ | refine aM_nilown _ _ (by decide) ?_ | refine aM_mf rfl (cl_row rfl) (by decide) (by decide) rfl ?_ | refine aM_pf rfl (cl_row rfl) (by decide) (by decide) ?_ | refine aM_mo rfl (by decide) (by decide) ?_ | refine aM_po rfl (by decide) (by decide) ?_ | refine aM_borp rfl rfl rfl (cl_row rfl) (by decide) ?_ | refine aM_borc (by (repeat' (first | exact cap_n | refine cap_p rfl rfl rfl (by first | exact cl_row rfl | exact cl_r1 rfl | exact cl_r1b) ?_ ?_ | refine cap_m rfl (by decide) ?_ | refine cap_c (by first | exact cl_b rfl | exact cl_list | exact cl_nil | exact cl_one | exact cl_ll1 | exact cl_ll2 | exact cl_clo (by assumption) | exact cl_agg' (by repeat' (first | exact clcs_nil | refine clcs_cons (by first | exact cl_b rfl | exact cl_list | exact cl_nil | assumption) ?_))) ?_ | decide))) ?_ | refine aM_bora cBI ?_ | refine aM_bor rfl rfl (deref_flat (by first | exact cl_rs rfl | exact cl_rows | exact cl_setB rfl | exact cl_setG (cl_setB rfl) rfl | exact cl_appB cl_rows (cl_rs rfl) | exact cl_rl1 | exact cl_rl2)) (by decide) ?_ | refine aM_give rfl (by first | exact cl_rs rfl | exact cl_rows | exact cl_setB rfl | exact cl_setG (cl_setB rfl) rfl | exact cl_appB cl_rows (cl_rs rfl) | exact cl_rl1 | exact cl_rl2) (by decide) (by decide) ?_ | refine aM_ms rfl (by first | exact cl_rs rfl | exact cl_rows | exact cl_setB rfl | exact cl_setG (cl_setB rfl) rfl | exact cl_appB cl_rows (cl_rs rfl) | exact cl_rl1 | exact cl_rl2) (by decide) (by decide) (by simp) ?_))) : ArgsM H all bor gone us ps := h
theorem hxI {α : Type} {a b : α} {p : Prop} (hn : a = b) (h : a = b → p := by (intro hq; (repeat' (first | exact trivial | refine ⟨rfl, ?_⟩ | refine ⟨(by show some (Ent.mk _ _ _ _) = some (Ent.mk _ _ _ _); (first | (rw [hq]; done) | (rw [hq]; rfl) | (rw [hq, List.map_append]; done) | (rw [hq, List.map_append]; rfl) | (rw [hq, List.map_append, List.map_append]; done) | (rw [hq, List.map_append, List.map_append]; rfl))), ?_⟩ | refine ⟨(by show V.v _ = V.v _; (first | (rw [hq]; done) | (rw [hq]; rfl) | (rw [hq, List.map_append]; done) | (rw [hq, List.map_append]; rfl) | (rw [hq, List.map_append, List.map_append]; done) | (rw [hq, List.map_append, List.map_append]; rfl))), ?_⟩ | refine ⟨(by show V.sl _ _ = V.sl _ _; (first | (rw [hq]; done) | (rw [hq]; rfl) | (rw [hq, List.map_append]; done) | (rw [hq, List.map_append]; rfl) | (rw [hq, List.map_append, List.map_append]; done) | (rw [hq, List.map_append, List.map_append]; rfl))), ?_⟩)))) : p := h hn
structure Hold (q : Prop) : Prop where
 out : q
theorem goI {p q : Prop} (h : q) (e : Hold q → p := by (intro hq; (conv => whnf); (repeat' ((first | refine ⟨rfl, ?_⟩ | refine ⟨_, row_map (by assumption), ?_⟩ | refine ⟨_, (by exact some_rfl), ?_⟩ | refine ⟨_, wrap_ok (by omega) (by omega), ?_⟩ | refine ⟨_, wrap_u64 (by omega) (by omega), ?_⟩ | refine ⟨by decide, _, fdiv_half (by omega), ?_⟩); (conv => whnf))); exact hq.out)) : p := e ⟨h⟩
theorem G0 {p q : Prop} (h : q) (e : Hold q → p := by (intro hq; (conv => whnf); (repeat' ((first | refine ⟨rfl, ?_⟩ | refine ⟨_, row_map (by assumption), ?_⟩ | refine ⟨_, (by exact some_rfl), ?_⟩ | refine ⟨_, wrap_ok (by omega) (by omega), ?_⟩ | refine ⟨_, wrap_u64 (by omega) (by omega), ?_⟩ | refine ⟨by decide, _, fdiv_half (by omega), ?_⟩); (conv => whnf))); exact hq.out)) : p := e ⟨h⟩
theorem G1 {α0 : Type} {p : Prop} {q : α0 → Prop} (h : ∀ a0, q a0) (e : (∀ a0, Hold (q a0)) → p := by (intro hq; (conv => whnf); (repeat' ((first | refine ⟨rfl, ?_⟩ | refine ⟨_, row_map (by assumption), ?_⟩ | refine ⟨_, (by exact some_rfl), ?_⟩ | refine ⟨_, wrap_ok (by omega) (by omega), ?_⟩ | refine ⟨_, wrap_u64 (by omega) (by omega), ?_⟩ | refine ⟨by decide, _, fdiv_half (by omega), ?_⟩); (conv => whnf))); intro g0; (conv => whnf); (repeat' ((first | refine ⟨rfl, ?_⟩ | refine ⟨_, row_map (by assumption), ?_⟩ | refine ⟨_, (by exact some_rfl), ?_⟩ | refine ⟨_, wrap_ok (by omega) (by omega), ?_⟩ | refine ⟨_, wrap_u64 (by omega) (by omega), ?_⟩ | refine ⟨by decide, _, fdiv_half (by omega), ?_⟩); (conv => whnf))); exact (hq g0).out)) : p := e fun a0 => ⟨h a0⟩
theorem G2 {α0 α1 : Type} {p : Prop} {q : α0 → α1 → Prop} (h : ∀ a0 a1, q a0 a1) (e : (∀ a0 a1, Hold (q a0 a1)) → p := by (intro hq; (conv => whnf); (repeat' ((first | refine ⟨rfl, ?_⟩ | refine ⟨_, row_map (by assumption), ?_⟩ | refine ⟨_, (by exact some_rfl), ?_⟩ | refine ⟨_, wrap_ok (by omega) (by omega), ?_⟩ | refine ⟨_, wrap_u64 (by omega) (by omega), ?_⟩ | refine ⟨by decide, _, fdiv_half (by omega), ?_⟩); (conv => whnf))); intro g0; (conv => whnf); (repeat' ((first | refine ⟨rfl, ?_⟩ | refine ⟨_, row_map (by assumption), ?_⟩ | refine ⟨_, (by exact some_rfl), ?_⟩ | refine ⟨_, wrap_ok (by omega) (by omega), ?_⟩ | refine ⟨_, wrap_u64 (by omega) (by omega), ?_⟩ | refine ⟨by decide, _, fdiv_half (by omega), ?_⟩); (conv => whnf))); intro g1; (conv => whnf); (repeat' ((first | refine ⟨rfl, ?_⟩ | refine ⟨_, row_map (by assumption), ?_⟩ | refine ⟨_, (by exact some_rfl), ?_⟩ | refine ⟨_, wrap_ok (by omega) (by omega), ?_⟩ | refine ⟨_, wrap_u64 (by omega) (by omega), ?_⟩ | refine ⟨by decide, _, fdiv_half (by omega), ?_⟩); (conv => whnf))); exact (hq g0 g1).out)) : p := e fun a0 a1 => ⟨h a0 a1⟩
end Go.Proofs.YtjhdlcmecbngkaaDoor
namespace Go.Proofs.YtjhdlcmecbngkaaDoor
set_option linter.unusedVariables false
abbrev zq0 : List Value := [(.int .i64 0), (.bool false), (.bool false), (.int .i64 0), (.string ⟨#[]⟩), (.int .i64 0), (.slice none 0 0)]
abbrev zq1 : List Value := [(.string ⟨#[]⟩), (.int .i64 0), (.int .i64 0), (.int .i64 0), (.string ⟨#[]⟩), (.int .i64 0), (.string ⟨#[]⟩)]
def rc_hearsaylaw_DnsChecks : RCode :=
 .seq (.reg [Rq 2 (.mv (.const (.bool false)))])
 (.seq (.reg [Rq 3 (.call (.func 20) []),Rq 4 (.mv 3),Gq 5 4 true (.mv 0),Gq 6 4 true (.call (.func 21) [5]),Gq 7 4 true (.mv 0),Gq 8 4 true (.call (.func 22) [7]),Gq 9 4 true (.bin .eql 6 8),Rq 10 (.pick 4 9 (.const (.bool false))),Rq 2 (.mv 10)])
 (.ret))
theorem ck_hearsaylaw_DnsChecks : chkFun Tryd.prog 6 1 = some (rc_hearsaylaw_DnsChecks, [2]) := by kernel_rfl
def rc_hearsaylaw_DnsWrites : RCode :=
 .seq (.reg [Rq 1 (.box 40 7 0),Rq 2 (.mv (.const (.bool false)))])
 (.seq (.reg [Rq 8 (.load true 7 1),Rq 9 (.call (.func 23) [8]),Rq 7 (.mv 9),Rq 10 (.ext 7 0),Rq 11 (.ext 7 1),Rq 3 (.mv 10),Rq 4 (.mv 11)])
 (.seq (.reg [Rq 12 (.load true 7 1),Rq 13 (.call (.func 24) [12]),Rq 5 (.mv 13),Rq 6 (.mv (.const (.string ⟨#[]⟩)))])
 (.seq (.seq (.reg [Rq 14 (.mv 5),Rq 15 (.bin .eql 14 (Kq 0))])
 (.cond 15
 (.seq (.reg [Rq 16 (.load true 7 1),Rq 17 (.call (.func 25) [16]),Rq 6 (.mv 17)])
 (.seq (.reg [Rq 18 (.mv 6),Rq 19 (.len true 18),Rq 20 (.bin .gtr 19 (Kq 512))])
 (.cond 20
 (.reg [Rq 5 (.mv (Kq 2))])
 (.skip))))
 (.skip)))
 (.seq (.reg [Rq 21 (.call (.func 20) []),Rq 22 (.mv 21),Gq 23 22 true (.mv 3),Gq 24 22 true (.mv 4),Gq 25 22 true (.mv 5),Gq 26 22 true (.mv 6),Gq 27 22 true (.call (.func 17) [23, 24, 25, 26]),Rq 28 (.pick 22 27 (.const (.bool false))),Rq 2 (.mv 28)])
 (.ret)))))
theorem ck_hearsaylaw_DnsWrites : chkFun Tryd.prog 7 1 = some (rc_hearsaylaw_DnsWrites, [2]) := by kernel_rfl
def rc_hearsaylaw_DnsBack : RCode :=
 .seq (.reg [Rq 2 (.box 40 7 0),Rq 4 (.mv (.const (.bool false)))])
 (.seq (.seq (.reg [Rq 13 (.call (.func 20) []),Rq 14 (.not 13)])
 (.cond 14
 (.seq (.reg [Rq 4 (.mv (.const (.bool false)))])
 (.ret))
 (.skip)))
 (.seq (.seq (.reg [Rq 16 (.load true 7 2),Rq 17 (.call (.func 23) [16]),Rq 15 (.mv 17),Rq 18 (.ext 15 0),Rq 19 (.ext 15 1),Rq 5 (.mv 18),Rq 6 (.mv 19)])
 (.seq (.reg [Rq 20 (.mv 6),Rq 21 (.bin .eql 20 (Kq 0))])
 (.cond 21
 (.seq (.reg [Rq 23 (.mv 5),Rq 24 (.call (.func 26) [23]),Rq 22 (.mv 24),Rq 25 (.ext 22 0),Rq 26 (.ext 22 1),Rq 7 (.zbox 40 zq0),Sq 7 7 25,Rq 8 (.mv 26)])
 (.seq (.reg [Rq 27 (.mv 8),Rq 28 (.bin .neq 27 (Kq 0)),Rq 29 (.mv 28),Gq 30 29 false (.load true 7 7),Gq 31 29 false (.load true 7 2),Gq 32 29 false (.call (.func 28) [30, 31]),Gq 33 29 false (.not 32),Rq 34 (.pick 29 (.const (.bool true)) 33)])
 (.cond 34
 (.seq (.reg [Rq 4 (.mv (.const (.bool false)))])
 (.ret))
 (.skip))))
 (.skip))))
 (.seq (.reg [Rq 36 (.mv 1),Rq 37 (.call (.func 26) [36]),Rq 35 (.mv 37),Rq 38 (.ext 35 0),Rq 39 (.ext 35 1),Rq 9 (.zbox 40 zq0),Sq 7 9 38,Rq 10 (.mv 39)])
 (.seq (.seq (.reg [Rq 40 (.mv 10),Rq 41 (.bin .neq 40 (Kq 0))])
 (.cond 41
 (.seq (.reg [Rq 4 (.mv (.const (.bool true)))])
 (.ret))
 (.skip)))
 (.seq (.reg [Rq 43 (.load true 7 9),Rq 44 (.call (.func 23) [43]),Rq 42 (.mv 44),Rq 45 (.ext 42 0),Rq 46 (.ext 42 1),Rq 11 (.mv 45),Rq 10 (.mv 46)])
 (.seq (.seq (.reg [Rq 47 (.mv 10),Rq 48 (.bin .neq 47 (Kq 0))])
 (.cond 48
 (.seq (.reg [Rq 49 (.mv 10),Rq 50 (.bin .eql 49 (Kq 2)),Rq 4 (.mv 50)])
 (.ret))
 (.skip)))
 (.seq (.reg [Rq 52 (.mv 11),Rq 53 (.call (.func 26) [52]),Rq 51 (.mv 53),Rq 54 (.ext 51 0),Rq 55 (.ext 51 1),Rq 12 (.zbox 40 zq0),Sq 7 12 54,Rq 10 (.mv 55)])
 (.seq (.reg [Rq 56 (.mv 10),Rq 57 (.bin .eql 56 (Kq 0)),Rq 58 (.mv 57),Gq 59 58 true (.load true 7 9),Gq 60 58 true (.load true 7 12),Gq 61 58 true (.call (.func 28) [59, 60]),Rq 62 (.pick 58 61 (.const (.bool false))),Rq 4 (.mv 62)])
 (.ret)))))))))
theorem ck_hearsaylaw_DnsBack : chkFun Tryd.prog 9 2 = some (rc_hearsaylaw_DnsBack, [4]) := by kernel_rfl
def rc_hearsaylaw_DnsFits : RCode :=
 .seq (.reg [Rq 2 (.box 40 7 0),Rq 4 (.mv (.const (.bool false)))])
 (.seq (.reg [Rq 10 (.load true 7 2),Rq 11 (.mv 1),Rq 12 (.call (.func 29) [10, 11]),Rq 9 (.mv 12),Rq 13 (.ext 9 0),Rq 14 (.ext 9 1),Rq 5 (.mv 13),Rq 6 (.mv 14)])
 (.seq (.reg [Rq 16 (.load true 7 2),Rq 17 (.mv 1),Rq 18 (.call (.func 30) [16, 17]),Rq 15 (.mv 18),Rq 19 (.ext 15 0),Rq 20 (.ext 15 1),Rq 7 (.mv 19),Rq 8 (.mv 20)])
 (.seq (.reg [Rq 21 (.call (.func 20) []),Rq 22 (.mv 21),Gq 23 22 true (.mv 5),Gq 24 22 true (.mv 6),Gq 25 22 true (.mv 8),Gq 26 22 true (.mv 7),Gq 27 22 true (.call (.func 17) [23, 24, 25, 26]),Rq 28 (.pick 22 27 (.const (.bool false))),Rq 4 (.mv 28)])
 (.ret))))
theorem ck_hearsaylaw_DnsFits : chkFun Tryd.prog 10 2 = some (rc_hearsaylaw_DnsFits, [4]) := by kernel_rfl
def rc_hearsaylaw_DnsCuts : RCode :=
 .seq (.reg [Rq 2 (.box 40 7 0),Rq 4 (.mv (.const (.bool false)))])
 (.seq (.seq (.reg [Rq 9 (.call (.func 20) []),Rq 10 (.not 9)])
 (.cond 10
 (.seq (.reg [Rq 4 (.mv (.const (.bool false)))])
 (.ret))
 (.skip)))
 (.seq (.reg [Rq 12 (.load true 7 2),Rq 13 (.mv 1),Rq 14 (.call (.func 29) [12, 13]),Rq 11 (.mv 14),Rq 15 (.ext 11 0),Rq 16 (.ext 11 1),Rq 5 (.mv 15),Rq 6 (.mv 16)])
 (.seq (.seq (.reg [Rq 17 (.mv 6),Rq 18 (.bin .neq 17 (Kq 0))])
 (.cond 18
 (.seq (.reg [Rq 19 (.mv 5),Rq 20 (.bin .eql 19 (.const (.string ⟨#[]⟩))),Rq 4 (.mv 20)])
 (.ret))
 (.skip)))
 (.seq (.reg [Rq 22 (.mv 5),Rq 23 (.call (.func 26) [22]),Rq 21 (.mv 23),Rq 24 (.ext 21 0),Rq 25 (.ext 21 1),Rq 7 (.zbox 40 zq0),Sq 7 7 24,Rq 6 (.mv 25)])
 (.seq (.reg [Rq 26 (.fldA 6 7),Rq 27 (.load false 1 26),Rq 28 (.len false 27),Rq 8 (.mv 28)])
 (.seq (.dreg [[Rq 29 (.mv 6)],[Rq 30 (.bin .eql 29 (Kq 0))],[Rq 31 (.mv 30)],[Gq 32 31 true (.mv 5),Gq 33 31 true (.len true 32),Gq 34 31 true (.mv 1)],[Gq 35 31 true (.bin .leq 33 34)],[Rq 36 (.pick 31 35 (.const (.bool false)))],[Rq 37 (.mv 36)],[Gq 38 37 true (.mv 8),Gq 39 37 true (.fldA 6 2),Gq 40 37 true (.load false 1 39),Gq 41 37 true (.len false 40)],[Gq 42 37 true (.bin .leq 38 41)],[Rq 43 (.pick 37 42 (.const (.bool false)))],[Rq 44 (.mv 43)],[Gq 45 44 true (.fldA 6 7),Gq 46 44 true (.load false 1 45),Gq 47 44 true (.fldA 6 2),Gq 48 44 true (.load false 1 47),Gq 49 44 true (.mv 8),Gq 50 44 true (.slcL 7 48 none (some 49) none)],[Gq 51 44 true (.call (.func 31) [46, 50])],[Rq 52 (.pick 44 51 (.const (.bool false)))],[Rq 53 (.mv 52)],[Gq 54 53 true (.fldA 2 7),Gq 55 53 true (.load false 1 54),Gq 56 53 true (.fldA 2 2),Gq 57 53 true (.load false 1 56),Gq 58 53 true (.mv 57),Gq 59 58 false (.mv 8),Gq 60 58 false (.fldA 6 2),Gq 61 58 false (.load false 1 60),Gq 62 58 false (.len false 61),Gq 63 58 false (.bin .lss 59 62),Gq 64 53 true (.pick 58 (.const (.bool true)) 63)],[Gq 65 53 true (.eqb false 55 64)],[Rq 66 (.pick 53 65 (.const (.bool false)))],[Rq 67 (.mv 66)],[Gq 68 67 true (.fldA 0 7),Gq 69 67 true (.load false 1 68),Gq 70 67 true (.fldA 0 2),Gq 71 67 true (.load false 1 70)],[Gq 72 67 true (.bin .eql 69 71)],[Rq 73 (.pick 67 72 (.const (.bool false)))],[Rq 74 (.mv 73)],[Gq 75 74 true (.fldA 4 7),Gq 76 74 true (.load true 2 75),Gq 77 74 true (.fldA 4 2),Gq 78 74 true (.load true 2 77)],[Gq 79 74 true (.eqS false [1, 0] 76 78)],[Rq 80 (.pick 74 79 (.const (.bool false)))],[Rq 4 (.mv 80)]])
 (.ret)))))))
theorem ck_hearsaylaw_DnsCuts : chkFun Tryd.prog 11 2 = some (rc_hearsaylaw_DnsCuts, [4]) := by kernel_rfl
def rc_hearsaylaw_textIs : RCode :=
 .seq (.reg [Rq 8 (.mv (.const (.bool false)))])
 (.seq (.seq (.reg [Rq 9 (.mv 2),Rq 10 (.bin .neq 9 (Kq 0))])
 (.cond 10
 (.reg [Rq 3 (.mv (.const (.string ⟨#[]⟩)))])
 (.skip)))
 (.seq (.reg [Rq 11 (.mv 1),Rq 12 (.mv 2),Rq 13 (.bin .eql 11 12),Rq 14 (.mv 13),Gq 15 14 true (.mv 0),Gq 16 14 true (.mv 3),Gq 17 14 true (.bin .eql 15 16),Rq 18 (.pick 14 17 (.const (.bool false))),Rq 8 (.mv 18)])
 (.ret)))
theorem ck_hearsaylaw_textIs : chkFun Tryd.prog 17 4 = some (rc_hearsaylaw_textIs, [8]) := by kernel_rfl
def rc_hearsaylaw_dnsBegun : RCode :=
 .seq (.reg [Rq 0 (.mv (.const (.bool false)))])
 (.seq (.reg [Rq 6 (.build [(.string ⟨#[]⟩), (.int .i64 0)] [(0, 1, (.const (.string ⟨#[97, 46, 98]⟩))), (1, 1, (Kq 1))]),Rq 7 (.build zq0 [(0, 1, (Kq 258)), (4, 2, 6)]),Rq 8 (.call (.func 23) [7]),Rq 5 (.mv 8),Rq 9 (.ext 5 0),Rq 10 (.ext 5 1),Rq 1 (.mv 9),Rq 2 (.mv 10)])
 (.seq (.reg [Rq 12 (.mv 1),Rq 13 (.call (.func 26) [12]),Rq 11 (.mv 13),Rq 14 (.ext 11 0),Rq 15 (.ext 11 1),Rq 3 (.zbox 40 zq0),Sq 7 3 14,Rq 4 (.mv 15)])
 (.seq (.reg [Rq 16 (.mv 2),Rq 17 (.bin .eql 16 (Kq 0)),Rq 18 (.mv 17),Gq 19 18 true (.mv 4),Gq 20 18 true (.bin .eql 19 (Kq 0)),Rq 21 (.pick 18 20 (.const (.bool false))),Rq 22 (.mv 21),Gq 23 22 true (.mv 1),Gq 24 22 true (.len true 23),Gq 25 22 true (.bin .eql 24 (Kq 21)),Rq 26 (.pick 22 25 (.const (.bool false))),Rq 27 (.mv 26),Gq 28 27 true (.fldA 0 3),Gq 29 27 true (.load false 1 28),Gq 30 27 true (.bin .eql 29 (Kq 258)),Rq 31 (.pick 27 30 (.const (.bool false))),Rq 32 (.mv 31),Gq 33 32 true (.fldA 4 3),Gq 34 32 true (.fldA 0 33),Gq 35 32 true (.load false 1 34),Gq 36 32 true (.bin .eql 35 (.const (.string ⟨#[97, 46, 98]⟩))),Rq 37 (.pick 32 36 (.const (.bool false))),Rq 0 (.mv 37)])
 (.ret))))
theorem ck_hearsaylaw_dnsBegun : chkFun Tryd.prog 20 0 = some (rc_hearsaylaw_dnsBegun, [0]) := by kernel_rfl
def rc_dns_Check : RCode :=
 .seq (.reg [Rq 2 (.mv (Kq 0))])
 (.seq (.reg [Rq 4 (.mv 0),Rq 5 (.call (.func 41) [4]),Rq 3 (.mv 5)])
 (.seq (.block 0
 (.seq (.reg [Rq 7 (.mv 3),Rq 8 (.call (.func 33) [7, (.func 42)]),Rq 6 (.mv 8)])
 (.cond 6
 (.seq (.reg [Rq 2 (.mv (Kq 1))])
 (.ret))
 (.seq (.reg [Rq 10 (.mv 3),Rq 11 (.len false 10),Rq 12 (.bin .gtr 11 (Kq 8)),Rq 13 (.mv 12),Gq 14 13 false (.mv 0),Gq 15 13 false (.len true 14),Gq 16 13 false (.bin .gtr 15 (Kq 120)),Rq 17 (.pick 13 (.const (.bool true)) 16),Rq 9 (.mv 17)])
 (.cond 9
 (.seq (.reg [Rq 2 (.mv (Kq 2))])
 (.ret))
 (.skip))))))
 (.seq (.reg [Rq 2 (.mv (Kq 0))])
 (.ret))))
theorem ck_dns_Check : chkFun Tryd.prog 21 1 = some (rc_dns_Check, [2]) := by kernel_rfl
def rc_hearsayref_CheckName : RCode :=
 .seq (.reg [Rq 2 (.mv (Kq 0))])
 (.seq (.reg [Rq 5 (.mv 0),Rq 6 (.call (.func 40) [5]),Rq 3 (.mv 6)])
 (.seq (.seq (.reg [Rq 4 (.mv (Kq 0))])
 (.block 0
 (.loop
 (.seq (.seq (.reg [Rq 7 (.mv 4),Rq 8 (.mv 3),Rq 9 (.len false 8),Rq 10 (.bin .lss 7 9)])
 (.cond 10
 (.skip)
 (.exit 0)))
 (.seq (.block 1
 (.seq (.reg [Rq 13 (.mv 3),Rq 14 (.mv 4),Rq 15 (.idxA 1 13 14),Rq 16 (.load false 1 15),Rq 17 (.call (.func 38) [16]),Rq 18 (.not 17)])
 (.cond 18
 (.seq (.reg [Rq 2 (.mv (Kq 1))])
 (.ret))
 (.skip))))
 (.reg [Rq 11 (.mv 4),Rq 12 (.bin .add 11 (Kq 1)),Rq 4 (.mv 12)]))))))
 (.seq (.seq (.reg [Rq 19 (.mv 3),Rq 20 (.len false 19),Rq 21 (.bin .gtr 20 (Kq 8)),Rq 22 (.mv 21),Gq 23 22 false (.mv 0),Gq 24 22 false (.len true 23),Gq 25 22 false (.bin .gtr 24 (Kq 120)),Rq 26 (.pick 22 (.const (.bool true)) 25)])
 (.cond 26
 (.seq (.reg [Rq 2 (.mv (Kq 2))])
 (.ret))
 (.skip)))
 (.seq (.reg [Rq 2 (.mv (Kq 0))])
 (.ret)))))
theorem ck_hearsayref_CheckName : chkFun Tryd.prog 22 1 = some (rc_hearsayref_CheckName, [2]) := by kernel_rfl
def rc_dns_Write : RCode :=
 .seq (.reg [Rq 1 (.box 40 7 0),Rq 2 (.mv (.const (.string ⟨#[]⟩))),Rq 3 (.mv (Kq 0))])
 (.seq (.seq (.reg [Rq 6 (.load true 7 1),Rq 7 (.call (.func 43) [6]),Rq 4 (.mv 7)])
 (.seq (.reg [Rq 8 (.mv 4),Rq 9 (.bin .neq 8 (Kq 0))])
 (.cond 9
 (.seq (.reg [Rq 10 (.mv 4),Rq 2 (.mv (.const (.string ⟨#[]⟩))),Rq 3 (.mv 10)])
 (.ret))
 (.skip))))
 (.seq (.reg [Rq 11 (.load true 7 1),Rq 12 (.call (.func 44) [11]),Rq 5 (.mv 12)])
 (.seq (.seq (.reg [Rq 13 (.mv 5),Rq 14 (.len true 13),Rq 15 (.bin .gtr 14 (Kq 512))])
 (.cond 15
 (.seq (.reg [Rq 2 (.mv (.const (.string ⟨#[]⟩))),Rq 3 (.mv (Kq 2))])
 (.ret))
 (.skip)))
 (.seq (.reg [Rq 16 (.mv 5),Rq 2 (.mv 16),Rq 3 (.mv (Kq 0))])
 (.ret)))))
theorem ck_dns_Write : chkFun Tryd.prog 23 1 = some (rc_dns_Write, [2, 3]) := by kernel_rfl
def rc_hearsayref_CheckMessage : RCode :=
 .seq (.reg [Rq 1 (.box 40 7 0),Rq 2 (.mv (Kq 0))])
 (.seq (.seq (.reg [Rq 5 (.fldA 0 1),Rq 6 (.load false 1 5),Rq 7 (.call (.func 45) [6, (Kq 0), (Kq 65535)]),Rq 8 (.not 7),Rq 9 (.mv 8),Gq 10 9 false (.fldA 3 1),Gq 11 9 false (.load false 1 10),Gq 12 9 false (.call (.func 45) [11, (Kq 0), (Kq 15)]),Gq 13 9 false (.not 12),Rq 14 (.pick 9 (.const (.bool true)) 13)])
 (.cond 14
 (.seq (.reg [Rq 2 (.mv (Kq 3))])
 (.ret))
 (.skip)))
 (.seq (.seq (.reg [Rq 15 (.fldA 6 1),Rq 16 (.load false 1 15),Rq 17 (.len false 16),Rq 18 (.bin .gtr 17 (Kq 20))])
 (.cond 18
 (.seq (.reg [Rq 2 (.mv (Kq 2))])
 (.ret))
 (.skip)))
 (.seq (.reg [Rq 19 (.fldA 4 1),Rq 20 (.fldA 0 19),Rq 21 (.load false 1 20),Rq 22 (.call (.func 22) [21]),Rq 3 (.mv 22)])
 (.seq (.seq (.reg [Rq 23 (.mv 3),Rq 24 (.bin .neq 23 (Kq 0))])
 (.cond 24
 (.seq (.reg [Rq 25 (.mv 3),Rq 2 (.mv 25)])
 (.ret))
 (.skip)))
 (.seq (.seq (.reg [Rq 26 (.fldA 4 1),Rq 27 (.fldA 1 26),Rq 28 (.load false 1 27),Rq 29 (.call (.func 46) [28]),Rq 30 (.not 29)])
 (.cond 30
 (.seq (.reg [Rq 2 (.mv (Kq 7))])
 (.ret))
 (.skip)))
 (.seq (.seq (.reg [Rq 4 (.mv (Kq 0))])
 (.block 0
 (.loop
 (.seq (.seq (.reg [Rq 31 (.mv 4),Rq 32 (.fldA 6 1),Rq 33 (.load false 1 32),Rq 34 (.len false 33),Rq 35 (.bin .lss 31 34)])
 (.cond 35
 (.skip)
 (.exit 0)))
 (.seq (.block 1
 (.seq (.reg [Rq 38 (.fldA 6 1),Rq 39 (.load false 1 38),Rq 40 (.mv 4),Rq 41 (.idxA 7 39 40),Rq 42 (.load true 7 41),Rq 43 (.call (.func 47) [42]),Rq 3 (.mv 43)])
 (.seq (.reg [Rq 44 (.mv 3),Rq 45 (.bin .neq 44 (Kq 0))])
 (.cond 45
 (.seq (.reg [Rq 46 (.mv 3),Rq 2 (.mv 46)])
 (.ret))
 (.skip)))))
 (.reg [Rq 36 (.mv 4),Rq 37 (.bin .add 36 (Kq 1)),Rq 4 (.mv 37)]))))))
 (.seq (.reg [Rq 2 (.mv (Kq 0))])
 (.ret))))))))
theorem ck_hearsayref_CheckMessage : chkFun Tryd.prog 24 1 = some (rc_hearsayref_CheckMessage, [2]) := by kernel_rfl
def rc_hearsayref_MessageBytes : RCode :=
 .seq (.reg [Rq 1 (.box 40 7 0),Rq 2 (.mv (.const (.string ⟨#[]⟩)))])
 (.seq (.reg [Rq 3 (.mv (Kq 0))])
 (.seq (.seq (.reg [Rq 8 (.fldA 1 1),Rq 9 (.load false 1 8)])
 (.cond 9
 (.reg [Rq 10 (.mv 3),Rq 11 (.bin .add 10 (Kq 128)),Rq 3 (.mv 11)])
 (.skip)))
 (.seq (.seq (.reg [Rq 12 (.fldA 2 1),Rq 13 (.load false 1 12)])
 (.cond 13
 (.reg [Rq 14 (.mv 3),Rq 15 (.bin .add 14 (Kq 2)),Rq 3 (.mv 15)])
 (.skip)))
 (.seq (.dreg [[Rq 16 (.fldA 0 1),Rq 17 (.load false 1 16),Rq 18 (.call (.func 48) [17, (Kq 2)]),Rq 19 (.mv 3),Rq 20 (.call (.func 48) [19, (Kq 1)]),Rq 21 (.bin .add 18 20),Rq 22 (.fldA 3 1),Rq 23 (.load false 1 22),Rq 24 (.call (.func 48) [23, (Kq 1)]),Rq 25 (.bin .add 21 24),Rq 26 (.call (.func 48) [(Kq 1), (Kq 2)]),Rq 27 (.bin .add 25 26),Rq 28 (.fldA 6 1),Rq 29 (.load false 1 28),Rq 30 (.len false 29),Rq 31 (.call (.func 48) [30, (Kq 2)]),Rq 32 (.bin .add 27 31),Rq 33 (.call (.func 48) [(Kq 0), (Kq 4)]),Rq 34 (.bin .add 32 33),Rq 35 (.fldA 4 1),Rq 36 (.fldA 0 35),Rq 37 (.load false 1 36),Rq 38 (.call (.func 49) [37]),Rq 39 (.bin .add 34 38),Rq 40 (.fldA 4 1),Rq 41 (.fldA 1 40),Rq 42 (.load false 1 41),Rq 43 (.call (.func 48) [42, (Kq 2)]),Rq 44 (.bin .add 39 43),Rq 45 (.call (.func 48) [(Kq 1), (Kq 2)])],[Rq 46 (.bin .add 44 45)],[Rq 4 (.mv 46)]])
 (.seq (.seq (.reg [Rq 5 (.mv (Kq 0))])
 (.block 0
 (.loop
 (.seq (.seq (.reg [Rq 47 (.mv 5),Rq 48 (.fldA 6 1),Rq 49 (.load false 1 48),Rq 50 (.len false 49),Rq 51 (.bin .lss 47 50)])
 (.cond 51
 (.skip)
 (.exit 0)))
 (.seq (.block 1
 (.seq (.reg [Rq 54 (.fldA 6 1),Rq 55 (.load false 1 54),Rq 56 (.mv 5),Rq 57 (.idxA 7 55 56),Rq 58 (.load true 7 57),Rq 6 (.zbox 64 zq1),Sq 7 6 58])
 (.seq (.reg [Rq 7 (.mv (.const (.string ⟨#[]⟩)))])
 (.seq (.seq (.reg [Rq 59 (.fldA 1 6),Rq 60 (.load false 1 59)])
 (.block 2
 (.seq (.reg [Rq 62 (.bin .eql 60 (Kq 1)),Rq 61 (.mv 62)])
 (.cond 61
 (.reg [Rq 63 (.fldA 3 6),Rq 64 (.load false 1 63),Rq 65 (.call (.func 48) [64, (Kq 4)]),Rq 7 (.mv 65)])
 (.seq (.reg [Rq 67 (.bin .eql 60 (Kq 16)),Rq 66 (.mv 67)])
 (.cond 66
 (.dreg [[Rq 68 (.fldA 4 6),Rq 69 (.load false 1 68),Rq 70 (.len true 69),Rq 71 (.call (.func 48) [70, (Kq 1)]),Rq 72 (.fldA 4 6),Rq 73 (.load false 1 72)],[Rq 74 (.bin .add 71 73)],[Rq 7 (.mv 74)]])
 (.seq (.reg [Rq 76 (.bin .eql 60 (Kq 33)),Rq 75 (.mv 76)])
 (.cond 75
 (.dreg [[Rq 77 (.call (.func 48) [(Kq 0), (Kq 4)]),Rq 78 (.fldA 5 6),Rq 79 (.load false 1 78),Rq 80 (.call (.func 48) [79, (Kq 2)]),Rq 81 (.bin .add 77 80),Rq 82 (.fldA 6 6),Rq 83 (.load false 1 82),Rq 84 (.call (.func 49) [83])],[Rq 85 (.bin .add 81 84)],[Rq 7 (.mv 85)]])
 (.skip)))))))))
 (.dreg [[Rq 86 (.mv 4),Rq 87 (.fldA 0 6),Rq 88 (.load false 1 87),Rq 89 (.call (.func 49) [88]),Rq 90 (.fldA 1 6),Rq 91 (.load false 1 90),Rq 92 (.call (.func 48) [91, (Kq 2)]),Rq 93 (.bin .add 89 92),Rq 94 (.call (.func 48) [(Kq 1), (Kq 2)]),Rq 95 (.bin .add 93 94),Rq 96 (.fldA 2 6),Rq 97 (.load false 1 96),Rq 98 (.call (.func 48) [97, (Kq 4)]),Rq 99 (.bin .add 95 98),Rq 100 (.mv 7),Rq 101 (.len true 100),Rq 102 (.call (.func 48) [101, (Kq 2)]),Rq 103 (.bin .add 99 102),Rq 104 (.mv 7),Rq 105 (.bin .add 103 104)],[Rq 106 (.bin .add 86 105)],[Rq 4 (.mv 106)]])))))
 (.reg [Rq 52 (.mv 5),Rq 53 (.bin .add 52 (Kq 1)),Rq 5 (.mv 53)]))))))
 (.seq (.reg [Rq 107 (.mv 4),Rq 2 (.mv 107)])
 (.ret)))))))
theorem ck_hearsayref_MessageBytes : chkFun Tryd.prog 25 1 = some (rc_hearsayref_MessageBytes, [2]) := by kernel_rfl
def rc_hearsayref_SameMessage : RCode :=
 .seq (.reg [Rq 2 (.box 40 7 0),Rq 3 (.box 40 7 1),Rq 4 (.mv (.const (.bool false)))])
 (.seq (.reg [Rq 5 (.fldA 0 2),Rq 6 (.load false 1 5),Rq 7 (.fldA 0 3),Rq 8 (.load false 1 7),Rq 9 (.bin .eql 6 8),Rq 10 (.mv 9),Gq 11 10 true (.fldA 1 2),Gq 12 10 true (.load false 1 11),Gq 13 10 true (.fldA 1 3),Gq 14 10 true (.load false 1 13),Gq 15 10 true (.eqb false 12 14),Rq 16 (.pick 10 15 (.const (.bool false))),Rq 17 (.mv 16),Gq 18 17 true (.fldA 2 2),Gq 19 17 true (.load false 1 18),Gq 20 17 true (.fldA 2 3),Gq 21 17 true (.load false 1 20),Gq 22 17 true (.eqb false 19 21),Rq 23 (.pick 17 22 (.const (.bool false))),Rq 24 (.mv 23),Gq 25 24 true (.fldA 3 2),Gq 26 24 true (.load false 1 25),Gq 27 24 true (.fldA 3 3),Gq 28 24 true (.load false 1 27),Gq 29 24 true (.bin .eql 26 28),Rq 30 (.pick 24 29 (.const (.bool false))),Rq 31 (.mv 30),Gq 32 31 true (.fldA 4 2),Gq 33 31 true (.load true 2 32),Gq 34 31 true (.fldA 4 3),Gq 35 31 true (.load true 2 34),Gq 36 31 true (.eqS false [1, 0] 33 35),Rq 37 (.pick 31 36 (.const (.bool false))),Rq 38 (.mv 37),Gq 39 38 true (.fldA 6 2),Gq 40 38 true (.load false 1 39),Gq 41 38 true (.fldA 6 3),Gq 42 38 true (.load false 1 41),Gq 43 38 true (.call (.func 31) [40, 42]),Rq 44 (.pick 38 43 (.const (.bool false))),Rq 4 (.mv 44)])
 (.ret))
theorem ck_hearsayref_SameMessage : chkFun Tryd.prog 28 2 = some (rc_hearsayref_SameMessage, [4]) := by kernel_rfl
def rc_dns_Fit : RCode :=
 .seq (.reg [Rq 2 (.box 40 7 0),Rq 4 (.mv (.const (.string ⟨#[]⟩))),Rq 5 (.mv (Kq 0))])
 (.seq (.seq (.reg [Rq 8 (.mv 1),Rq 9 (.call (.func 54) [8, (Kq 12), (Kq 512)]),Rq 10 (.not 9)])
 (.cond 10
 (.seq (.reg [Rq 4 (.mv (.const (.string ⟨#[]⟩))),Rq 5 (.mv (Kq 3))])
 (.ret))
 (.skip)))
 (.seq (.seq (.reg [Rq 11 (.load true 7 2),Rq 12 (.call (.func 43) [11]),Rq 6 (.mv 12)])
 (.seq (.reg [Rq 13 (.mv 6),Rq 14 (.bin .neq 13 (Kq 0))])
 (.cond 14
 (.seq (.reg [Rq 15 (.mv 6),Rq 4 (.mv (.const (.string ⟨#[]⟩))),Rq 5 (.mv 15)])
 (.ret))
 (.skip))))
 (.block 0
 (.loop
 (.block 1
 (.seq (.reg [Rq 16 (.load true 7 2),Rq 17 (.call (.func 44) [16]),Rq 7 (.mv 17)])
 (.seq (.block 2
 (.seq (.reg [Rq 19 (.mv 7),Rq 20 (.len true 19),Rq 21 (.mv 1),Rq 22 (.bin .leq 20 21),Rq 18 (.mv 22)])
 (.cond 18
 (.seq (.reg [Rq 23 (.mv 7),Rq 4 (.mv 23),Rq 5 (.mv (Kq 0))])
 (.ret))
 (.seq (.reg [Rq 25 (.fldA 6 2),Rq 26 (.load false 1 25),Rq 27 (.len false 26),Rq 28 (.bin .eql 27 (Kq 0)),Rq 24 (.mv 28)])
 (.cond 24
 (.seq (.reg [Rq 4 (.mv (.const (.string ⟨#[]⟩))),Rq 5 (.mv (Kq 2))])
 (.ret))
 (.skip))))))
 (.reg [Rq 29 (.fldA 6 2),Rq 30 (.load false 1 29),Rq 31 (.fldA 6 2),Rq 32 (.load false 1 31),Rq 33 (.len false 32),Rq 34 (.bin .sub 33 (Kq 1)),Rq 35 (.slcL 7 30 none (some 34) none),Rq 36 (.fldA 6 2),Sq 1 36 35,Rq 37 (.fldA 2 2),Sq 1 37 (.const (.bool true))]))))))))
theorem ck_dns_Fit : chkFun Tryd.prog 29 2 = some (rc_dns_Fit, [4, 5]) := by kernel_rfl
def rc_hearsayref_FitOf : RCode :=
 .seq (.reg [Rq 2 (.box 40 7 0),Rq 4 (.mv (.const (.string ⟨#[]⟩))),Rq 5 (.mv (Kq 0))])
 (.seq (.seq (.reg [Rq 10 (.mv 1),Rq 11 (.call (.func 45) [10, (Kq 12), (Kq 512)]),Rq 12 (.not 11)])
 (.cond 12
 (.seq (.reg [Rq 4 (.mv (.const (.string ⟨#[]⟩))),Rq 5 (.mv (Kq 3))])
 (.ret))
 (.skip)))
 (.seq (.reg [Rq 13 (.load true 7 2),Rq 14 (.call (.func 24) [13]),Rq 6 (.mv 14)])
 (.seq (.seq (.reg [Rq 15 (.mv 6),Rq 16 (.bin .neq 15 (Kq 0))])
 (.cond 16
 (.seq (.reg [Rq 17 (.mv 6),Rq 4 (.mv (.const (.string ⟨#[]⟩))),Rq 5 (.mv 17)])
 (.ret))
 (.skip)))
 (.seq (.seq (.reg [Rq 18 (.fldA 6 2),Rq 19 (.load false 1 18),Rq 20 (.len false 19),Rq 7 (.mv 20)])
 (.block 0
 (.loop
 (.seq (.seq (.reg [Rq 21 (.mv 7),Rq 22 (.bin .geq 21 (Kq 0))])
 (.cond 22
 (.skip)
 (.exit 0)))
 (.seq (.block 1
 (.seq (.reg [Rq 25 (.load true 7 2),Rq 8 (.zbox 40 zq0),Sq 7 8 25])
 (.seq (.reg [Rq 26 (.fldA 6 2),Rq 27 (.load false 1 26),Rq 28 (.mv 7),Rq 29 (.slcL 7 27 none (some 28) none),Rq 30 (.fldA 6 8),Sq 1 30 29])
 (.seq (.reg [Rq 31 (.fldA 2 2),Rq 32 (.load false 1 31),Rq 33 (.mv 32),Gq 34 33 false (.mv 7),Gq 35 33 false (.fldA 6 2),Gq 36 33 false (.load false 1 35),Gq 37 33 false (.len false 36),Gq 38 33 false (.bin .lss 34 37),Rq 39 (.pick 33 (.const (.bool true)) 38),Rq 40 (.fldA 2 8),Sq 1 40 39])
 (.seq (.reg [Rq 41 (.load true 7 8),Rq 42 (.call (.func 25) [41]),Rq 9 (.mv 42)])
 (.seq (.reg [Rq 43 (.mv 9),Rq 44 (.len true 43),Rq 45 (.mv 1),Rq 46 (.bin .leq 44 45)])
 (.cond 46
 (.seq (.reg [Rq 47 (.mv 9),Rq 4 (.mv 47),Rq 5 (.mv (Kq 0))])
 (.ret))
 (.skip))))))))
 (.reg [Rq 23 (.mv 7),Rq 24 (.bin .sub 23 (Kq 1)),Rq 7 (.mv 24)]))))))
 (.seq (.reg [Rq 4 (.mv (.const (.string ⟨#[]⟩))),Rq 5 (.mv (Kq 2))])
 (.ret))))))
theorem ck_hearsayref_FitOf : chkFun Tryd.prog 30 2 = some (rc_hearsayref_FitOf, [4, 5]) := by kernel_rfl
def rc_hearsayref_SameRecords : RCode :=
 .seq (.reg [Rq 4 (.mv (.const (.bool false)))])
 (.seq (.seq (.reg [Rq 6 (.mv 0),Rq 7 (.len false 6),Rq 8 (.mv 1),Rq 9 (.len false 8),Rq 10 (.bin .neq 7 9)])
 (.cond 10
 (.seq (.reg [Rq 4 (.mv (.const (.bool false)))])
 (.ret))
 (.skip)))
 (.seq (.seq (.reg [Rq 5 (.mv (Kq 0))])
 (.block 0
 (.loop
 (.seq (.seq (.reg [Rq 11 (.mv 5),Rq 12 (.mv 0),Rq 13 (.len false 12),Rq 14 (.bin .lss 11 13)])
 (.cond 14
 (.skip)
 (.exit 0)))
 (.seq (.block 1
 (.seq (.dreg [[Rq 17 (.mv 0),Rq 18 (.mv 5),Rq 19 (.idxA 7 17 18),Rq 20 (.load true 7 19),Rq 21 (.mv 1),Rq 22 (.mv 5),Rq 23 (.idxA 7 21 22),Rq 24 (.load true 7 23)],[Rq 25 (.eqS true [1, 0, 0, 0, 1, 0, 1] 20 24)]])
 (.cond 25
 (.seq (.reg [Rq 4 (.mv (.const (.bool false)))])
 (.ret))
 (.skip))))
 (.reg [Rq 15 (.mv 5),Rq 16 (.bin .add 15 (Kq 1)),Rq 5 (.mv 16)]))))))
 (.seq (.reg [Rq 4 (.mv (.const (.bool true)))])
 (.ret))))
theorem ck_hearsayref_SameRecords : chkFun Tryd.prog 31 2 = some (rc_hearsayref_SameRecords, [4]) := by kernel_rfl
def rc_slices_ContainsFunc_string_string : RCode :=
 .seq (.reg [Rq 4 (.mv (.const (.bool false)))])
 (.seq (.reg [Rq 5 (.mv 0),Rq 6 (.mv 1),Rq 7 (.call (.func 58) [5, 6]),Rq 8 (.bin .geq 7 (Kq 0)),Rq 4 (.mv 8)])
 (.ret))
theorem ck_slices_ContainsFunc_string_string : chkFun Tryd.prog 33 2 = some (rc_slices_ContainsFunc_string_string, [4]) := by kernel_rfl
def rc_strings_Split : RCode :=
 .seq (.reg [Rq 4 (.mv (.const (.slice none 0 0)))])
 (.seq (.reg [Rq 5 (.mv 0),Rq 6 (.mv 1),Rq 7 (.call (.func 60) [5, 6, (Kq 0), (.const (.int .i64 (-1)))]),Rq 4 (.mv 7)])
 (.ret))
theorem ck_strings_Split : chkFun Tryd.prog 39 2 = some (rc_strings_Split, [4]) := by kernel_rfl
def rc_hearsayref_LabelsOf : RCode :=
 .seq (.reg [Rq 2 (.mv (.const (.slice none 0 0)))])
 (.seq (.seq (.reg [Rq 6 (.mv 0),Rq 7 (.bin .eql 6 (.const (.string ⟨#[]⟩)))])
 (.cond 7
 (.seq (.reg [Rq 2 (.mv (.const (.slice none 0 0)))])
 (.ret))
 (.skip)))
 (.seq (.reg [Rq 3 (.mv (.const (.slice none 0 0)))])
 (.seq (.reg [Rq 4 (.mv (Kq 0))])
 (.seq (.seq (.reg [Rq 5 (.mv (Kq 0))])
 (.block 0
 (.loop
 (.seq (.seq (.reg [Rq 8 (.mv 5),Rq 9 (.mv 0),Rq 10 (.len true 9),Rq 11 (.bin .lss 8 10)])
 (.cond 11
 (.skip)
 (.exit 0)))
 (.seq (.block 1
 (.seq (.reg [Rq 14 (.mv 0),Rq 15 (.mv 5),Rq 16 (.idxS 14 15),Rq 17 (.bin .eql 16 (.const (.int .u8 46)))])
 (.cond 17
 (.seq (.reg [Rq 18 (.mv 3),Rq 19 (.mv 0),Rq 20 (.mv 4),Rq 21 (.mv 5),Rq 22 (.slcS 19 (some 20) (some 21)),Rq 23 (.mks 9 1 1 [(.string ⟨#[]⟩)] [(0, 22)]),Rq 24 (.app 9 1 16 (.string ⟨#[]⟩) 18 23),Rq 3 (.mv 24)])
 (.reg [Rq 25 (.mv 5),Rq 26 (.bin .add 25 (Kq 1)),Rq 4 (.mv 26)]))
 (.skip))))
 (.reg [Rq 12 (.mv 5),Rq 13 (.bin .add 12 (Kq 1)),Rq 5 (.mv 13)]))))))
 (.seq (.reg [Rq 27 (.mv 3),Rq 28 (.mv 0),Rq 29 (.mv 4),Rq 30 (.slcS 28 (some 29) none),Rq 31 (.mks 9 1 1 [(.string ⟨#[]⟩)] [(0, 30)]),Rq 32 (.app 9 1 16 (.string ⟨#[]⟩) 27 31),Rq 2 (.mv 32)])
 (.ret))))))
theorem ck_hearsayref_LabelsOf : chkFun Tryd.prog 40 1 = some (rc_hearsayref_LabelsOf, [2]) := by kernel_rfl
def rc_dns_labels : RCode :=
 .seq (.reg [Rq 2 (.mv (.const (.slice none 0 0)))])
 (.seq (.seq (.reg [Rq 3 (.mv 0),Rq 4 (.bin .eql 3 (.const (.string ⟨#[]⟩)))])
 (.cond 4
 (.seq (.reg [Rq 2 (.mv (.const (.slice none 0 0)))])
 (.ret))
 (.skip)))
 (.seq (.reg [Rq 5 (.mv 0),Rq 6 (.call (.func 39) [5, (.const (.string ⟨#[46]⟩))]),Rq 2 (.mv 6)])
 (.ret)))
theorem ck_dns_labels : chkFun Tryd.prog 41 1 = some (rc_dns_labels, [2]) := by kernel_rfl
def rc_dns_Check_1 : RCode :=
 .seq (.reg [Rq 2 (.mv (.const (.bool false)))])
 (.seq (.reg [Rq 3 (.mv 0),Rq 4 (.call (.func 35) [3]),Rq 5 (.not 4),Rq 2 (.mv 5)])
 (.ret))
theorem ck_dns_Check_1 : chkFun Tryd.prog 42 1 = some (rc_dns_Check_1, [2]) := by kernel_rfl
def rc_dns_check : RCode :=
 .seq (.reg [Rq 1 (.box 40 7 0),Rq 2 (.mv (Kq 0))])
 (.seq (.block 0
 (.seq (.reg [Rq 8 (.fldA 0 1),Rq 9 (.load false 1 8),Rq 10 (.call (.func 54) [9, (Kq 0), (Kq 65535)]),Rq 11 (.not 10),Rq 12 (.mv 11),Gq 13 12 false (.fldA 3 1),Gq 14 12 false (.load false 1 13),Gq 15 12 false (.call (.func 54) [14, (Kq 0), (Kq 15)]),Gq 16 12 false (.not 15),Rq 17 (.pick 12 (.const (.bool true)) 16),Rq 7 (.mv 17)])
 (.cond 7
 (.seq (.reg [Rq 2 (.mv (Kq 3))])
 (.ret))
 (.seq (.reg [Rq 19 (.fldA 6 1),Rq 20 (.load false 1 19),Rq 21 (.len false 20),Rq 22 (.bin .gtr 21 (Kq 20)),Rq 18 (.mv 22)])
 (.cond 18
 (.seq (.reg [Rq 2 (.mv (Kq 2))])
 (.ret))
 (.skip))))))
 (.seq (.seq (.reg [Rq 23 (.fldA 4 1),Rq 24 (.fldA 0 23),Rq 25 (.load false 1 24),Rq 26 (.call (.func 21) [25]),Rq 3 (.mv 26)])
 (.seq (.reg [Rq 27 (.mv 3),Rq 28 (.bin .neq 27 (Kq 0))])
 (.cond 28
 (.seq (.reg [Rq 29 (.mv 3),Rq 2 (.mv 29)])
 (.ret))
 (.skip))))
 (.seq (.seq (.reg [Rq 30 (.fldA 4 1),Rq 31 (.fldA 1 30),Rq 32 (.load false 1 31),Rq 33 (.call (.func 61) [32]),Rq 34 (.not 33)])
 (.cond 34
 (.seq (.reg [Rq 2 (.mv (Kq 7))])
 (.ret))
 (.skip)))
 (.seq (.seq (.reg [Rq 35 (.fldA 6 1),Rq 36 (.load false 1 35),Rq 37 (.len false 36),Rq 38 (.mv (Kq 0))])
 (.block 1
 (.loop
 (.seq (.reg [Rq 39 (.bin .lss 38 37)])
 (.seq (.cond 39
 (.skip)
 (.exit 1))
 (.seq (.block 2
 (.seq (.reg [Rq 40 (.idxA 7 36 38),Rq 41 (.load true 7 40),Rq 5 (.zbox 64 zq1),Sq 7 5 41])
 (.seq (.reg [Rq 42 (.load true 7 5),Rq 43 (.call (.func 62) [42]),Rq 6 (.mv 43)])
 (.seq (.reg [Rq 44 (.mv 6),Rq 45 (.bin .neq 44 (Kq 0))])
 (.cond 45
 (.seq (.reg [Rq 46 (.mv 6),Rq 2 (.mv 46)])
 (.ret))
 (.skip))))))
 (.reg [Rq 47 (.bin .add 38 (Kq 1)),Rq 38 (.mv 47)])))))))
 (.seq (.reg [Rq 2 (.mv (Kq 0))])
 (.ret))))))
theorem ck_dns_check : chkFun Tryd.prog 43 1 = some (rc_dns_check, [2]) := by kernel_rfl
def rc_dns_write : RCode :=
 .seq (.reg [Rq 1 (.box 40 7 0),Rq 2 (.mv (.const (.string ⟨#[]⟩)))])
 (.seq (.reg [Rq 7 (.build [(.pointer none), (.slice none 0 0)] []),Rq 8 (.box 90 2 7),Rq 3 (.mv 8)])
 (.seq (.reg [Rq 9 (.fldA 3 1),Rq 10 (.load false 1 9),Rq 4 (.mv 10)])
 (.seq (.seq (.reg [Rq 11 (.fldA 1 1),Rq 12 (.load false 1 11)])
 (.cond 12
 (.reg [Rq 13 (.mv 4),Rq 14 (.bin .or 13 (Kq 32768)),Rq 4 (.mv 14)])
 (.skip)))
 (.seq (.seq (.reg [Rq 15 (.fldA 2 1),Rq 16 (.load false 1 15)])
 (.cond 16
 (.reg [Rq 17 (.mv 4),Rq 18 (.bin .or 17 (Kq 512)),Rq 4 (.mv 18)])
 (.skip)))
 (.seq (.reg [Rq 19 (.mv 3),Rq 20 (.fldA 0 1),Rq 21 (.load false 1 20),Rq 22 (.mv 4),Rq 23 (.fldA 6 1),Rq 24 (.load false 1 23),Rq 25 (.len false 24),Rq 26 (.mks 3 1 6 [(.int .i64 0)] [(0, 21), (1, 22), (2, (Kq 1)), (3, 25), (4, (Kq 0)), (5, (Kq 0))]),Rq 27 (.call (.func 63) [19, 26])])
 (.seq (.reg [Rq 28 (.mv 3),Rq 29 (.fldA 4 1),Rq 30 (.fldA 0 29),Rq 31 (.load false 1 30),Rq 32 (.call (.func 64) [28, 31])])
 (.seq (.reg [Rq 33 (.mv 3),Rq 34 (.fldA 4 1),Rq 35 (.fldA 1 34),Rq 36 (.load false 1 35),Rq 37 (.mks 3 1 2 [(.int .i64 0)] [(0, 36), (1, (Kq 1))]),Rq 38 (.call (.func 63) [33, 37])])
 (.seq (.seq (.reg [Rq 39 (.fldA 6 1),Rq 40 (.load false 1 39),Rq 41 (.len false 40),Rq 42 (.mv (Kq 0))])
 (.block 0
 (.loop
 (.seq (.reg [Rq 43 (.bin .lss 42 41)])
 (.seq (.cond 43
 (.skip)
 (.exit 0))
 (.seq (.block 1
 (.seq (.reg [Rq 44 (.idxA 7 40 42),Rq 45 (.load true 7 44),Rq 6 (.zbox 64 zq1),Sq 7 6 45])
 (.reg [Rq 46 (.mv 3),Rq 47 (.load true 7 6),Rq 48 (.call (.func 65) [46, 47])])))
 (.reg [Rq 49 (.bin .add 42 (Kq 1)),Rq 42 (.mv 49)])))))))
 (.seq (.reg [Rq 50 (.mv 3),Rq 51 (.fldA 0 50),Rq 52 (.fldA 0 51),Rq 53 (.call (.func 66) [52]),Rq 2 (.mv 53)])
 (.ret))))))))))
theorem ck_dns_write : chkFun Tryd.prog 44 1 = some (rc_dns_write, [2]) := by kernel_rfl
def rc_hearsayref_between : RCode :=
 .seq (.reg [Rq 6 (.mv (.const (.bool false)))])
 (.seq (.reg [Rq 7 (.mv 0),Rq 8 (.mv 1),Rq 9 (.bin .geq 7 8),Rq 10 (.mv 9),Gq 11 10 true (.mv 0),Gq 12 10 true (.mv 2),Gq 13 10 true (.bin .leq 11 12),Rq 14 (.pick 10 13 (.const (.bool false))),Rq 6 (.mv 14)])
 (.ret))
theorem ck_hearsayref_between : chkFun Tryd.prog 45 3 = some (rc_hearsayref_between, [6]) := by kernel_rfl
def rc_hearsayref_IsType : RCode :=
 .seq (.reg [Rq 2 (.mv (.const (.bool false)))])
 (.seq (.reg [Rq 3 (.mv 0),Rq 4 (.bin .eql 3 (Kq 1)),Rq 5 (.mv 4),Gq 6 5 false (.mv 0),Gq 7 5 false (.bin .eql 6 (Kq 16)),Rq 8 (.pick 5 (.const (.bool true)) 7),Rq 9 (.mv 8),Gq 10 9 false (.mv 0),Gq 11 9 false (.bin .eql 10 (Kq 33)),Rq 12 (.pick 9 (.const (.bool true)) 11),Rq 2 (.mv 12)])
 (.ret))
theorem ck_hearsayref_IsType : chkFun Tryd.prog 46 1 = some (rc_hearsayref_IsType, [2]) := by kernel_rfl
def rc_hearsayref_CheckRecord : RCode :=
 .seq (.reg [Rq 1 (.box 64 7 0),Rq 2 (.mv (Kq 0))])
 (.seq (.reg [Rq 4 (.fldA 0 1),Rq 5 (.load false 1 4),Rq 6 (.call (.func 22) [5]),Rq 3 (.mv 6)])
 (.seq (.block 0
 (.seq (.reg [Rq 8 (.mv 3),Rq 9 (.bin .neq 8 (Kq 0)),Rq 7 (.mv 9)])
 (.cond 7
 (.seq (.reg [Rq 10 (.mv 3),Rq 2 (.mv 10)])
 (.ret))
 (.seq (.reg [Rq 12 (.fldA 1 1),Rq 13 (.load false 1 12),Rq 14 (.call (.func 46) [13]),Rq 15 (.not 14),Rq 11 (.mv 15)])
 (.cond 11
 (.seq (.reg [Rq 2 (.mv (Kq 7))])
 (.ret))
 (.seq (.reg [Rq 17 (.fldA 2 1),Rq 18 (.load false 1 17),Rq 19 (.call (.func 45) [18, (Kq 0), (Kq 2147483647)]),Rq 20 (.not 19),Rq 16 (.mv 20)])
 (.cond 16
 (.seq (.reg [Rq 2 (.mv (Kq 3))])
 (.ret))
 (.seq (.seq (.reg [Rq 22 (.fldA 1 1),Rq 23 (.load false 1 22),Rq 24 (.bin .neq 23 (Kq 1)),Rq 25 (.mv 24),Gq 26 25 true (.fldA 3 1),Gq 27 25 true (.load false 1 26),Gq 28 25 true (.bin .neq 27 (Kq 0)),Rq 29 (.pick 25 28 (.const (.bool false))),Rq 21 (.mv 29)])
 (.cond 21
 (.skip)
 (.seq (.reg [Rq 30 (.fldA 1 1),Rq 31 (.load false 1 30),Rq 32 (.bin .neq 31 (Kq 16)),Rq 33 (.mv 32),Gq 34 33 true (.fldA 4 1),Gq 35 33 true (.load false 1 34),Gq 36 33 true (.bin .neq 35 (.const (.string ⟨#[]⟩))),Rq 37 (.pick 33 36 (.const (.bool false))),Rq 21 (.mv 37)])
 (.cond 21
 (.skip)
 (.reg [Rq 38 (.fldA 1 1),Rq 39 (.load false 1 38),Rq 40 (.bin .neq 39 (Kq 33)),Rq 41 (.mv 40),Gq 42 41 true (.fldA 5 1),Gq 43 41 true (.load false 1 42),Gq 44 41 true (.bin .neq 43 (Kq 0)),Gq 45 41 true (.mv 44),Gq 46 45 false (.fldA 6 1),Gq 47 45 false (.load false 1 46),Gq 48 45 false (.bin .neq 47 (.const (.string ⟨#[]⟩))),Gq 49 41 true (.pick 45 (.const (.bool true)) 48),Rq 50 (.pick 41 49 (.const (.bool false))),Rq 21 (.mv 50)])))))
 (.cond 21
 (.seq (.reg [Rq 2 (.mv (Kq 1))])
 (.ret))
 (.seq (.seq (.reg [Rq 52 (.fldA 3 1),Rq 53 (.load false 1 52),Rq 54 (.call (.func 67) [53]),Rq 55 (.not 54),Rq 51 (.mv 55)])
 (.cond 51
 (.skip)
 (.reg [Rq 56 (.fldA 5 1),Rq 57 (.load false 1 56),Rq 58 (.call (.func 45) [57, (Kq 0), (Kq 65535)]),Rq 59 (.not 58),Rq 51 (.mv 59)])))
 (.cond 51
 (.seq (.reg [Rq 2 (.mv (Kq 3))])
 (.ret))
 (.seq (.reg [Rq 61 (.fldA 4 1),Rq 62 (.load false 1 61),Rq 63 (.len true 62),Rq 64 (.bin .gtr 63 (Kq 200)),Rq 60 (.mv 64)])
 (.cond 60
 (.seq (.reg [Rq 2 (.mv (Kq 2))])
 (.ret))
 (.skip))))))))))))))
 (.seq (.reg [Rq 65 (.fldA 6 1),Rq 66 (.load false 1 65),Rq 67 (.call (.func 22) [66]),Rq 2 (.mv 67)])
 (.ret))))
theorem ck_hearsayref_CheckRecord : chkFun Tryd.prog 47 1 = some (rc_hearsayref_CheckRecord, [2]) := by kernel_rfl
def rc_hearsayref_Number : RCode :=
 .seq (.reg [Rq 4 (.mv (.const (.string ⟨#[]⟩)))])
 (.seq (.reg [Rq 5 (.mv (.const (.string ⟨#[]⟩)))])
 (.seq (.seq (.reg [Rq 6 (.mv (Kq 0))])
 (.block 0
 (.loop
 (.seq (.seq (.reg [Rq 7 (.mv 6),Rq 8 (.mv 1),Rq 9 (.bin .lss 7 8)])
 (.cond 9
 (.skip)
 (.exit 0)))
 (.seq (.block 1
 (.seq (.reg [Rq 12 (.mv 0),Rq 13 (.bin .rem 12 (Kq 256)),Rq 14 (.conv .u8 13),Rq 15 (.mks 5 1 1 [(.int .u8 0)] [(0, 14)]),Rq 16 (.ofB 15),Rq 17 (.mv 5),Rq 18 (.bin .add 16 17),Rq 5 (.mv 18)])
 (.reg [Rq 19 (.mv 0),Rq 20 (.bin .quo 19 (Kq 256)),Rq 0 (.mv 20)])))
 (.reg [Rq 10 (.mv 6),Rq 11 (.bin .add 10 (Kq 1)),Rq 6 (.mv 11)]))))))
 (.seq (.reg [Rq 21 (.mv 5),Rq 4 (.mv 21)])
 (.ret))))
theorem ck_hearsayref_Number : chkFun Tryd.prog 48 2 = some (rc_hearsayref_Number, [4]) := by kernel_rfl
def rc_hearsayref_NameBytes : RCode :=
 .seq (.reg [Rq 2 (.mv (.const (.string ⟨#[]⟩)))])
 (.seq (.reg [Rq 3 (.mv (.const (.string ⟨#[]⟩)))])
 (.seq (.reg [Rq 6 (.mv 0),Rq 7 (.call (.func 40) [6]),Rq 4 (.mv 7)])
 (.seq (.seq (.reg [Rq 5 (.mv (Kq 0))])
 (.block 0
 (.loop
 (.seq (.seq (.reg [Rq 8 (.mv 5),Rq 9 (.mv 4),Rq 10 (.len false 9),Rq 11 (.bin .lss 8 10)])
 (.cond 11
 (.skip)
 (.exit 0)))
 (.seq (.block 1
 (.dreg [[Rq 14 (.mv 3),Rq 15 (.mv 4),Rq 16 (.mv 5),Rq 17 (.idxA 1 15 16),Rq 18 (.load false 1 17),Rq 19 (.len true 18),Rq 20 (.call (.func 48) [19, (Kq 1)]),Rq 21 (.mv 4),Rq 22 (.mv 5),Rq 23 (.idxA 1 21 22),Rq 24 (.load false 1 23),Rq 25 (.bin .add 20 24)],[Rq 26 (.bin .add 14 25)],[Rq 3 (.mv 26)]]))
 (.reg [Rq 12 (.mv 5),Rq 13 (.bin .add 12 (Kq 1)),Rq 5 (.mv 13)]))))))
 (.seq (.reg [Rq 27 (.mv 3),Rq 28 (.call (.func 48) [(Kq 0), (Kq 1)]),Rq 29 (.bin .add 27 28),Rq 2 (.mv 29)])
 (.ret)))))
theorem ck_hearsayref_NameBytes : chkFun Tryd.prog 49 1 = some (rc_hearsayref_NameBytes, [2]) := by kernel_rfl
def rc_dns_reader_message : RCode :=
 .seq (.reg [Rq 2 (.zbox 40 zq0)])
 (.seq (.reg [Rq 7 (.mv 0),Rq 8 (.call (.func 68) [7]),Rq 9 (.build zq0 [(0, 1, 8)]),Rq 3 (.zbox 40 zq0),Sq 7 3 9])
 (.seq (.reg [Rq 10 (.mv 0),Rq 11 (.call (.func 69) [10]),Rq 12 (.mv 0),Rq 13 (.call (.func 69) [12]),Rq 4 (.mv 11),Rq 5 (.mv 13)])
 (.seq (.reg [Rq 14 (.mv 0),Rq 15 (.mv 4),Rq 16 (.bin .andNot 15 (Kq 130)),Rq 17 (.bin .eql 16 (Kq 0)),Rq 18 (.mv 17),Gq 19 18 true (.mv 5),Gq 20 18 true (.bin .lss 19 (Kq 16)),Rq 21 (.pick 18 20 (.const (.bool false))),Rq 22 (.call (.func 70) [14, 21])])
 (.seq (.reg [Rq 23 (.mv 4),Rq 24 (.bin .and 23 (Kq 128)),Rq 25 (.bin .gtr 24 (Kq 0)),Rq 26 (.mv 4),Rq 27 (.bin .and 26 (Kq 2)),Rq 28 (.bin .gtr 27 (Kq 0)),Rq 29 (.mv 5),Rq 30 (.fldA 1 3),Sq 1 30 25,Rq 31 (.fldA 2 3),Sq 1 31 28,Rq 32 (.fldA 3 3),Sq 1 32 29])
 (.seq (.reg [Rq 33 (.mv 0),Rq 34 (.mv 0),Rq 35 (.call (.func 68) [34]),Rq 36 (.bin .eql 35 (Kq 1)),Rq 37 (.call (.func 70) [33, 36])])
 (.seq (.reg [Rq 38 (.mv 0),Rq 39 (.call (.func 68) [38]),Rq 6 (.mv 39)])
 (.seq (.reg [Rq 40 (.mv 0),Rq 41 (.mv 6),Rq 42 (.bin .leq 41 (Kq 20)),Rq 43 (.mv 42),Gq 44 43 true (.mv 0),Gq 45 43 true (.call (.func 68) [44]),Gq 46 43 true (.bin .eql 45 (Kq 0)),Rq 47 (.pick 43 46 (.const (.bool false))),Rq 48 (.mv 47),Gq 49 48 true (.mv 0),Gq 50 48 true (.call (.func 68) [49]),Gq 51 48 true (.bin .eql 50 (Kq 0)),Rq 52 (.pick 48 51 (.const (.bool false))),Rq 53 (.call (.func 70) [40, 52])])
 (.seq (.reg [Rq 54 (.mv 0),Rq 55 (.call (.func 71) [54]),Rq 56 (.mv 0),Rq 57 (.call (.func 68) [56]),Rq 58 (.build [(.string ⟨#[]⟩), (.int .i64 0)] [(0, 1, 55), (1, 1, 57)]),Rq 59 (.fldA 4 3),Sq 2 59 58])
 (.seq (.reg [Rq 60 (.mv 0),Rq 61 (.mv 0),Rq 62 (.call (.func 68) [61]),Rq 63 (.bin .eql 62 (Kq 1)),Rq 64 (.call (.func 70) [60, 63])])
 (.seq (.seq (.reg [Rq 65 (.mv 6),Rq 66 (.mv (Kq 0))])
 (.block 0
 (.loop
 (.seq (.reg [Rq 67 (.bin .lss 66 65)])
 (.seq (.cond 67
 (.skip)
 (.exit 0))
 (.seq (.block 1
 (.dreg [[],[⟨none, none, .mkm⟩],[Rq 68 (.fldA 6 3),Rq 69 (.load false 1 68),Rq 70 (.mv 0),Rq 71 (.call (.func 72) [70]),Rq 72 (.mks 64 7 1 zq1 [(0, 71)])],[Rq 73 (.app 64 7 80 (.agg #[(.string ⟨#[]⟩), (.int .i64 0), (.int .i64 0), (.int .i64 0), (.string ⟨#[]⟩), (.int .i64 0), (.string ⟨#[]⟩)]) 69 72)],[Rq 74 (.fldA 6 3)],[Sq 1 74 73]]))
 (.reg [Rq 75 (.bin .add 66 (Kq 1)),Rq 66 (.mv 75)])))))))
 (.seq (.dreg [[Rq 76 (.mv 0),Rq 77 (.mv 0),Rq 78 (.fldA 0 77),Rq 79 (.fldA 1 78),Rq 80 (.load false 1 79),Rq 81 (.mv 0),Rq 82 (.fldA 0 81),Rq 83 (.fldA 0 82),Rq 84 (.load false 1 83),Rq 85 (.len true 84),Rq 86 (.bin .eql 80 85)],[Rq 87 (.call (.func 70) [76, 86])]])
 (.seq (.reg [Rq 88 (.load true 7 3),Sq 7 2 88])
 (.ret)))))))))))))
theorem ck_dns_reader_message : chkFunC Tryd.prog 51 1 = some (rc_dns_reader_message, [(2, some (true, 7))]) := by kernel_rfl
def rc_dns_within : RCode :=
 .seq (.reg [Rq 6 (.mv (.const (.bool false)))])
 (.seq (.reg [Rq 7 (.mv 0),Rq 8 (.mv 1),Rq 9 (.bin .geq 7 8),Rq 10 (.mv 9),Gq 11 10 true (.mv 0),Gq 12 10 true (.mv 2),Gq 13 10 true (.bin .leq 11 12),Rq 14 (.pick 10 13 (.const (.bool false))),Rq 6 (.mv 14)])
 (.ret))
theorem ck_dns_within : chkFun Tryd.prog 54 3 = some (rc_dns_within, [6]) := by kernel_rfl
def rc_slices_IndexFunc_string_string : RCode :=
 .seq (.reg [Rq 4 (.mv (Kq 0))])
 (.seq (.seq (.reg [Rq 6 (.mv 0),Rq 7 (.len false 6),Rq 8 (.mv (Kq 0))])
 (.block 0
 (.loop
 (.seq (.reg [Rq 9 (.bin .lss 8 7)])
 (.seq (.cond 9
 (.skip)
 (.exit 0))
 (.seq (.block 1
 (.seq (.reg [Rq 10 (.mv 8),Rq 5 (.mv 10)])
 (.seq (.reg [Rq 11 (.mv 1),Rq 12 (.mv 0),Rq 13 (.mv 5),Rq 14 (.idxA 1 12 13),Rq 15 (.load false 1 14),Rq 16 (.call 11 [15])])
 (.cond 16
 (.seq (.reg [Rq 17 (.mv 5),Rq 4 (.mv 17)])
 (.ret))
 (.skip)))))
 (.reg [Rq 18 (.bin .add 8 (Kq 1)),Rq 8 (.mv 18)])))))))
 (.seq (.reg [Rq 4 (.mv (.const (.int .i64 (-1))))])
 (.ret)))
theorem ck_slices_IndexFunc_string_string : chkFun Tryd.prog 58 2 = some (rc_slices_IndexFunc_string_string, [4]) := by kernel_rfl
def rc_strings_genSplit : RCode :=
 .seq (.reg [Rq 8 (.mv (.const (.slice none 0 0)))])
 (.seq (.seq (.reg [Rq 12 (.mv 3),Rq 13 (.bin .eql 12 (Kq 0))])
 (.cond 13
 (.seq (.reg [Rq 8 (.mv (.const (.slice none 0 0)))])
 (.ret))
 (.skip)))
 (.seq (.seq (.reg [Rq 14 (.mv 1),Rq 15 (.bin .eql 14 (.const (.string ⟨#[]⟩)))])
 (.cond 15
 (.seq (.reg [Rq 16 (.mv 0),Rq 17 (.mv 3),Rq 18 (.call (.func 76) [16, 17]),Rq 8 (.mv 18)])
 (.ret))
 (.skip)))
 (.seq (.seq (.reg [Rq 19 (.mv 3),Rq 20 (.bin .lss 19 (Kq 0))])
 (.cond 20
 (.reg [Rq 21 (.mv 0),Rq 22 (.mv 1),Rq 23 (.call (.func 77) [21, 22]),Rq 24 (.bin .add 23 (Kq 1)),Rq 3 (.mv 24)])
 (.skip)))
 (.seq (.reg [Rq 25 (.mv 3),Rq 26 (.mv 0),Rq 27 (.len true 26),Rq 28 (.bin .add 27 (Kq 1)),Rq 29 (.mm false 25 28),Rq 3 (.mv 29)])
 (.seq (.reg [Rq 30 (.mv 3),Rq 31 (.mkn 9 1 16 [(.string ⟨#[]⟩)] 30 30),Rq 9 (.mv 31)])
 (.seq (.reg [Rq 32 (.mv 3),Rq 33 (.bin .sub 32 (Kq 1)),Rq 3 (.mv 33)])
 (.seq (.reg [Rq 10 (.mv (Kq 0))])
 (.seq (.block 0
 (.loop
 (.seq (.seq (.reg [Rq 34 (.mv 10),Rq 35 (.mv 3),Rq 36 (.bin .lss 34 35)])
 (.cond 36
 (.skip)
 (.exit 0)))
 (.block 1
 (.seq (.reg [Rq 37 (.mv 0),Rq 38 (.mv 1),Rq 39 (.call (.func 78) [37, 38]),Rq 11 (.mv 39)])
 (.seq (.seq (.reg [Rq 40 (.mv 11),Rq 41 (.bin .lss 40 (Kq 0))])
 (.cond 41
 (.exit 0)
 (.skip)))
 (.seq (.reg [Rq 42 (.mv 9),Rq 43 (.mv 10),Rq 44 (.mv 0),Rq 45 (.mv 11),Rq 46 (.mv 2),Rq 47 (.bin .add 45 46),Rq 48 (.slcS 44 none (some 47)),Rq 49 (.idxA 1 42 43),Sq 1 49 48])
 (.seq (.reg [Rq 50 (.mv 0),Rq 51 (.mv 11),Rq 52 (.mv 1),Rq 53 (.len true 52),Rq 54 (.bin .add 51 53),Rq 55 (.slcS 50 (some 54) none),Rq 0 (.mv 55)])
 (.reg [Rq 56 (.mv 10),Rq 57 (.bin .add 56 (Kq 1)),Rq 10 (.mv 57)])))))))))
 (.seq (.reg [Rq 58 (.mv 9),Rq 59 (.mv 10),Rq 60 (.mv 0),Rq 61 (.idxA 1 58 59),Sq 1 61 60])
 (.seq (.reg [Rq 62 (.mv 9),Rq 63 (.mv 10),Rq 64 (.bin .add 63 (Kq 1)),Rq 65 (.slcL 1 62 none (some 64) none),Rq 8 (.mv 65)])
 (.ret)))))))))))
theorem ck_strings_genSplit : chkFun Tryd.prog 60 4 = some (rc_strings_genSplit, [8]) := by kernel_rfl
def rc_dns_IsType : RCode :=
 .seq (.reg [Rq 2 (.mv (.const (.bool false)))])
 (.seq (.reg [Rq 3 (.mks 3 1 3 [(.int .i64 0)] [(0, (Kq 1)), (1, (Kq 16)), (2, (Kq 33))]),Rq 4 (.mv 0),Rq 5 (.call (.func 79) [3, 4]),Rq 2 (.mv 5)])
 (.ret))
theorem ck_dns_IsType : chkFun Tryd.prog 61 1 = some (rc_dns_IsType, [2]) := by kernel_rfl
def rc_dns_checkRecord : RCode :=
 .seq (.reg [Rq 1 (.box 64 7 0),Rq 2 (.mv (Kq 0))])
 (.seq (.seq (.reg [Rq 4 (.fldA 0 1),Rq 5 (.load false 1 4),Rq 6 (.call (.func 21) [5]),Rq 3 (.mv 6)])
 (.seq (.reg [Rq 7 (.mv 3),Rq 8 (.bin .neq 7 (Kq 0))])
 (.cond 8
 (.seq (.reg [Rq 9 (.mv 3),Rq 2 (.mv 9)])
 (.ret))
 (.skip))))
 (.seq (.block 0
 (.seq (.reg [Rq 11 (.fldA 1 1),Rq 12 (.load false 1 11),Rq 13 (.call (.func 61) [12]),Rq 14 (.not 13),Rq 10 (.mv 14)])
 (.cond 10
 (.seq (.reg [Rq 2 (.mv (Kq 7))])
 (.ret))
 (.seq (.reg [Rq 16 (.fldA 2 1),Rq 17 (.load false 1 16),Rq 18 (.call (.func 54) [17, (Kq 0), (Kq 2147483647)]),Rq 19 (.not 18),Rq 15 (.mv 19)])
 (.cond 15
 (.seq (.reg [Rq 2 (.mv (Kq 3))])
 (.ret))
 (.seq (.reg [Rq 21 (.load true 7 1),Rq 22 (.call (.func 80) [21]),Rq 23 (.not 22),Rq 20 (.mv 23)])
 (.cond 20
 (.seq (.reg [Rq 2 (.mv (Kq 1))])
 (.ret))
 (.seq (.reg [Rq 25 (.fldA 3 1),Rq 26 (.load false 1 25),Rq 27 (.call (.func 54) [26, (Kq 0), (Kq 4294967295)]),Rq 28 (.not 27),Rq 29 (.mv 28),Gq 30 29 false (.fldA 5 1),Gq 31 29 false (.load false 1 30),Gq 32 29 false (.call (.func 54) [31, (Kq 0), (Kq 65535)]),Gq 33 29 false (.not 32),Rq 34 (.pick 29 (.const (.bool true)) 33),Rq 24 (.mv 34)])
 (.cond 24
 (.seq (.reg [Rq 2 (.mv (Kq 3))])
 (.ret))
 (.seq (.reg [Rq 36 (.fldA 4 1),Rq 37 (.load false 1 36),Rq 38 (.len true 37),Rq 39 (.bin .gtr 38 (Kq 200)),Rq 35 (.mv 39)])
 (.cond 35
 (.seq (.reg [Rq 2 (.mv (Kq 2))])
 (.ret))
 (.skip))))))))))))
 (.seq (.reg [Rq 40 (.fldA 6 1),Rq 41 (.load false 1 40),Rq 42 (.call (.func 21) [41]),Rq 2 (.mv 42)])
 (.ret))))
theorem ck_dns_checkRecord : chkFun Tryd.prog 62 1 = some (rc_dns_checkRecord, [2]) := by kernel_rfl
def rc_dns_writer_two : RCode :=
 .seq (.reg [Rq 6 (.mv 1),Rq 7 (.len false 6),Rq 8 (.mv (Kq 0))])
 (.block 0
 (.loop
 (.seq (.reg [Rq 9 (.bin .lss 8 7)])
 (.seq (.cond 9
 (.skip)
 (.exit 0))
 (.seq (.block 1
 (.seq (.reg [Rq 10 (.idxA 1 6 8),Rq 11 (.load false 1 10),Rq 5 (.mv 11)])
 (.seq (.reg [Rq 12 (.mv 0),Rq 13 (.fldA 0 12),Rq 14 (.fldA 0 13),Rq 15 (.mv 5),Rq 16 (.bin .shr 15 (.const (.int .u64 8))),Rq 17 (.conv .u8 16),Rq 18 (.call (.func 81) [14, 17])])
 (.reg [Rq 19 (.mv 0),Rq 20 (.fldA 0 19),Rq 21 (.fldA 0 20),Rq 22 (.mv 5),Rq 23 (.conv .u8 22),Rq 24 (.call (.func 81) [21, 23])]))))
 (.reg [Rq 25 (.bin .add 8 (Kq 1)),Rq 8 (.mv 25)]))))))
theorem ck_dns_writer_two : chkFun Tryd.prog 63 2 = some (rc_dns_writer_two, []) := by kernel_rfl
def rc_dns_writer_name : RCode :=
 .seq (.seq (.reg [Rq 6 (.mv 1),Rq 7 (.call (.func 41) [6]),Rq 8 (.len false 7),Rq 9 (.mv (Kq 0))])
 (.block 0
 (.loop
 (.seq (.reg [Rq 10 (.bin .lss 9 8)])
 (.seq (.cond 10
 (.skip)
 (.exit 0))
 (.seq (.block 1
 (.seq (.reg [Rq 11 (.idxA 1 7 9),Rq 12 (.load false 1 11),Rq 5 (.mv 12)])
 (.seq (.reg [Rq 13 (.mv 0),Rq 14 (.fldA 0 13),Rq 15 (.fldA 0 14),Rq 16 (.mv 5),Rq 17 (.len true 16),Rq 18 (.conv .u8 17),Rq 19 (.call (.func 81) [15, 18])])
 (.reg [Rq 20 (.mv 0),Rq 21 (.fldA 0 20),Rq 22 (.fldA 0 21),Rq 23 (.mv 5),Rq 24 (.call (.func 75) [22, 23])]))))
 (.reg [Rq 25 (.bin .add 9 (Kq 1)),Rq 9 (.mv 25)])))))))
 (.reg [Rq 26 (.mv 0),Rq 27 (.fldA 0 26),Rq 28 (.fldA 0 27),Rq 29 (.call (.func 81) [28, (.const (.int .u8 0))])])
theorem ck_dns_writer_name : chkFun Tryd.prog 64 2 = some (rc_dns_writer_name, []) := by kernel_rfl
def rc_dns_writer_record : RCode :=
 .seq (.reg [Rq 3 (.box 64 7 1)])
 (.seq (.reg [Rq 5 (.mv 0),Rq 6 (.fldA 0 3),Rq 7 (.load false 1 6),Rq 8 (.call (.func 64) [5, 7])])
 (.seq (.reg [Rq 9 (.mv 0),Rq 10 (.fldA 1 3),Rq 11 (.load false 1 10),Rq 12 (.fldA 2 3),Rq 13 (.load false 1 12),Rq 14 (.bin .shr 13 (.const (.int .u64 16))),Rq 15 (.fldA 2 3),Rq 16 (.load false 1 15),Rq 17 (.bin .and 16 (Kq 65535)),Rq 18 (.mks 3 1 4 [(.int .i64 0)] [(0, 11), (1, (Kq 1)), (2, 14), (3, 17)]),Rq 19 (.call (.func 63) [9, 18])])
 (.seq (.reg [Rq 20 (.build [(.pointer none), (.slice none 0 0)] []),Rq 21 (.box 90 2 20),Rq 4 (.mv 21)])
 (.seq (.seq (.reg [Rq 22 (.fldA 1 3),Rq 23 (.load false 1 22)])
 (.block 0
 (.seq (.reg [Rq 25 (.bin .eql 23 (Kq 1)),Rq 24 (.mv 25)])
 (.cond 24
 (.reg [Rq 26 (.mv 4),Rq 27 (.fldA 3 3),Rq 28 (.load false 1 27),Rq 29 (.bin .shr 28 (.const (.int .u64 16))),Rq 30 (.fldA 3 3),Rq 31 (.load false 1 30),Rq 32 (.bin .and 31 (Kq 65535)),Rq 33 (.mks 3 1 2 [(.int .i64 0)] [(0, 29), (1, 32)]),Rq 34 (.call (.func 63) [26, 33])])
 (.seq (.reg [Rq 36 (.bin .eql 23 (Kq 16)),Rq 35 (.mv 36)])
 (.cond 35
 (.seq (.dreg [[Rq 37 (.mv 4),Rq 38 (.fldA 0 37),Rq 39 (.fldA 0 38),Rq 40 (.fldA 4 3),Rq 41 (.load false 1 40),Rq 42 (.len true 41),Rq 43 (.conv .u8 42)],[Rq 44 (.call (.func 81) [39, 43])]])
 (.dreg [[Rq 45 (.mv 4),Rq 46 (.fldA 0 45),Rq 47 (.fldA 0 46),Rq 48 (.fldA 4 3),Rq 49 (.load false 1 48)],[Rq 50 (.call (.func 75) [47, 49])]]))
 (.seq (.reg [Rq 52 (.bin .eql 23 (Kq 33)),Rq 51 (.mv 52)])
 (.cond 51
 (.seq (.reg [Rq 53 (.mv 4),Rq 54 (.fldA 5 3),Rq 55 (.load false 1 54),Rq 56 (.mks 3 1 3 [(.int .i64 0)] [(0, (Kq 0)), (1, (Kq 0)), (2, 55)]),Rq 57 (.call (.func 63) [53, 56])])
 (.reg [Rq 58 (.mv 4),Rq 59 (.fldA 6 3),Rq 60 (.load false 1 59),Rq 61 (.call (.func 64) [58, 60])]))
 (.skip)))))))))
 (.seq (.reg [Rq 62 (.mv 0),Rq 63 (.mv 4),Rq 64 (.fldA 0 63),Rq 65 (.fldA 0 64),Rq 66 (.call (.func 82) [65]),Rq 67 (.mks 3 1 1 [(.int .i64 0)] [(0, 66)]),Rq 68 (.call (.func 63) [62, 67])])
 (.dreg [[],[Rq 75 (.call (.func 66) [74]),Rq 70 (.mkm),Rq 71 (.mkm)],[Rq 69 (.mv 0),Rq 70 (.fldA 0 69),Rq 71 (.fldA 0 70),Rq 72 (.mv 4),Rq 73 (.fldA 0 72),Rq 74 (.fldA 0 73)],[Rq 76 (.call (.func 75) [71, 75])]]))))))
theorem ck_dns_writer_record : chkFun Tryd.prog 65 2 = some (rc_dns_writer_record, []) := by kernel_rfl
def rc_hearsayref_IsAddress : RCode :=
 .seq (.reg [Rq 2 (.mv (.const (.bool false)))])
 (.seq (.reg [Rq 3 (.mv 0),Rq 4 (.call (.func 45) [3, (Kq 0), (Kq 4294967295)]),Rq 2 (.mv 4)])
 (.ret))
theorem ck_hearsayref_IsAddress : chkFun Tryd.prog 67 1 = some (rc_hearsayref_IsAddress, [2]) := by kernel_rfl
def rc_dns_reader_two : RCode :=
 .seq (.reg [Rq 2 (.mv (Kq 0))])
 (.seq (.reg [Rq 3 (.mv 0),Rq 4 (.call (.func 69) [3]),Rq 5 (.bin .shl 4 (.const (.int .u64 8))),Rq 6 (.mv 0),Rq 7 (.call (.func 69) [6]),Rq 8 (.bin .or 5 7),Rq 2 (.mv 8)])
 (.ret))
theorem ck_dns_reader_two : chkFun Tryd.prog 68 1 = some (rc_dns_reader_two, [2]) := by kernel_rfl
def rc_dns_reader_byte : RCode :=
 .seq (.reg [Rq 2 (.mv (Kq 0))])
 (.seq (.dreg [[Rq 3 (.mv 0),Rq 4 (.mv 0),Rq 5 (.fldA 0 4),Rq 6 (.fldA 1 5),Rq 7 (.load false 1 6),Rq 8 (.mv 0),Rq 9 (.fldA 0 8),Rq 10 (.fldA 0 9),Rq 11 (.load false 1 10),Rq 12 (.len true 11),Rq 13 (.bin .lss 7 12)],[Rq 14 (.call (.func 70) [3, 13])]])
 (.seq (.reg [Rq 15 (.mv 0),Rq 16 (.fldA 0 15),Rq 17 (.fldA 1 16),Rq 18 (.load false 1 17),Rq 19 (.bin .add 18 (Kq 1)),Rq 20 (.fldA 0 15),Rq 21 (.fldA 1 20),Sq 1 21 19])
 (.seq (.dreg [[Rq 22 (.mv 0),Rq 23 (.fldA 0 22),Rq 24 (.fldA 0 23),Rq 25 (.load false 1 24),Rq 26 (.mv 0),Rq 27 (.fldA 0 26),Rq 28 (.fldA 1 27),Rq 29 (.load false 1 28),Rq 30 (.bin .sub 29 (Kq 1))],[Rq 31 (.idxS 25 30)],[Rq 32 (.conv .i64 31)],[Rq 2 (.mv 32)]])
 (.ret))))
theorem ck_dns_reader_byte : chkFun Tryd.prog 69 1 = some (rc_dns_reader_byte, [2]) := by kernel_rfl
def rc_dns_reader_must : RCode :=
 .seq (.reg [Rq 4 (.mv 1),Rq 5 (.not 4)])
 (.cond 5
 (.reg [Rq 6 (.build [] []),Rq 7 (.mki 68 6),⟨none, none, .die 7⟩])
 (.skip))
theorem ck_dns_reader_must : chkFun Tryd.prog 70 2 = some (rc_dns_reader_must, []) := by kernel_rfl
def rc_dns_reader_name : RCode :=
 .seq (.reg [Rq 2 (.mv (.const (.string ⟨#[]⟩)))])
 (.seq (.reg [Rq 3 (.mv (.const (.slice none 0 0)))])
 (.seq (.dreg [[Rq 9 (.mv 0),Rq 10 (.fldA 0 9),Rq 11 (.fldA 1 10),Rq 12 (.load false 1 11),Rq 4 (.mv (.const (.int .i64 (-1))))],[Rq 5 (.mv 12)]])
 (.block 0
 (.loop
 (.block 1
 (.seq (.reg [Rq 13 (.mv 0),Rq 14 (.mv 3),Rq 15 (.len false 14),Rq 16 (.bin .leq 15 (Kq 8)),Rq 17 (.call (.func 70) [13, 16])])
 (.seq (.reg [Rq 18 (.mv 0),Rq 19 (.call (.func 69) [18]),Rq 6 (.mv 19)])
 (.block 2
 (.seq (.reg [Rq 33 (.mv 6),Rq 34 (.bin .eql 33 (Kq 0)),Rq 32 (.mv 34)])
 (.cond 32
 (.seq (.seq (.reg [Rq 35 (.mv 4),Rq 36 (.bin .geq 35 (Kq 0))])
 (.cond 36
 (.reg [Rq 37 (.mv 0),Rq 38 (.mv 4),Rq 39 (.fldA 0 37),Rq 40 (.fldA 1 39),Sq 1 40 38])
 (.skip)))
 (.seq (.reg [Rq 41 (.mv 3),Rq 42 (.call (.func 55) [41, (.const (.string ⟨#[46]⟩))]),Rq 2 (.mv 42)])
 (.ret)))
 (.seq (.reg [Rq 44 (.mv 6),Rq 45 (.bin .geq 44 (Kq 192)),Rq 43 (.mv 45)])
 (.cond 43
 (.seq (.reg [Rq 46 (.mv 6),Rq 47 (.bin .and 46 (Kq 63)),Rq 48 (.bin .shl 47 (.const (.int .u64 8))),Rq 49 (.mv 0),Rq 50 (.call (.func 69) [49]),Rq 51 (.bin .or 48 50),Rq 7 (.mv 51)])
 (.seq (.seq (.reg [Rq 52 (.mv 4),Rq 53 (.bin .lss 52 (Kq 0))])
 (.cond 53
 (.reg [Rq 54 (.mv 0),Rq 55 (.fldA 0 54),Rq 56 (.fldA 1 55),Rq 57 (.load false 1 56),Rq 4 (.mv 57)])
 (.skip)))
 (.seq (.reg [Rq 58 (.mv 0),Rq 59 (.mv 7),Rq 60 (.mv 5),Rq 61 (.bin .lss 59 60),Rq 62 (.call (.func 70) [58, 61])])
 (.reg [Rq 63 (.mv 0),Rq 64 (.mv 7),Rq 65 (.mv 7),Rq 66 (.fldA 0 63),Rq 67 (.fldA 1 66),Sq 1 67 64,Rq 5 (.mv 65)]))))
 (.seq (.reg [Rq 20 (.mv 0),Rq 21 (.mv 6),Rq 22 (.call (.func 84) [20, 21]),Rq 23 (.call (.func 83) [22]),Rq 8 (.mv 23)])
 (.seq (.reg [Rq 24 (.mv 0),Rq 25 (.mv 8),Rq 26 (.call (.func 35) [25]),Rq 27 (.call (.func 70) [24, 26])])
 (.reg [Rq 28 (.mv 3),Rq 29 (.mv 8),Rq 30 (.mks 9 1 1 [(.string ⟨#[]⟩)] [(0, 29)]),Rq 31 (.app 9 1 16 (.string ⟨#[]⟩) 28 30),Rq 3 (.mv 31)])))))))))))))))
theorem ck_dns_reader_name : chkFun Tryd.prog 71 1 = some (rc_dns_reader_name, [2]) := by kernel_rfl
def rc_dns_reader_record : RCode :=
 .seq (.reg [Rq 2 (.zbox 64 zq1)])
 (.seq (.reg [Rq 6 (.mv 0),Rq 7 (.call (.func 71) [6]),Rq 8 (.mv 0),Rq 9 (.call (.func 68) [8]),Rq 10 (.build zq1 [(0, 1, 7), (1, 1, 9)]),Rq 3 (.zbox 64 zq1),Sq 7 3 10])
 (.seq (.reg [Rq 11 (.mv 0),Rq 12 (.mv 0),Rq 13 (.call (.func 68) [12]),Rq 14 (.bin .eql 13 (Kq 1)),Rq 15 (.call (.func 70) [11, 14])])
 (.seq (.reg [Rq 16 (.mv 0),Rq 17 (.call (.func 85) [16]),Rq 18 (.fldA 2 3),Sq 1 18 17])
 (.seq (.reg [Rq 19 (.mv 0),Rq 20 (.call (.func 68) [19]),Rq 4 (.mv 20)])
 (.seq (.reg [Rq 21 (.mv 0),Rq 22 (.fldA 0 21),Rq 23 (.fldA 1 22),Rq 24 (.load false 1 23),Rq 25 (.mv 4),Rq 26 (.bin .add 24 25),Rq 5 (.mv 26)])
 (.seq (.reg [Rq 27 (.mv 0),Rq 28 (.mv 5),Rq 29 (.mv 0),Rq 30 (.fldA 0 29),Rq 31 (.fldA 0 30),Rq 32 (.load false 1 31),Rq 33 (.len true 32),Rq 34 (.bin .leq 28 33),Rq 35 (.call (.func 70) [27, 34])])
 (.seq (.seq (.reg [Rq 36 (.fldA 1 3),Rq 37 (.load false 1 36)])
 (.block 0
 (.seq (.reg [Rq 41 (.bin .eql 37 (Kq 1)),Rq 40 (.mv 41)])
 (.cond 40
 (.reg [Rq 42 (.mv 0),Rq 43 (.call (.func 85) [42]),Rq 44 (.fldA 3 3),Sq 1 44 43])
 (.seq (.reg [Rq 46 (.bin .eql 37 (Kq 16)),Rq 45 (.mv 46)])
 (.cond 45
 (.reg [Rq 47 (.mv 0),Rq 48 (.mv 0),Rq 49 (.call (.func 69) [48]),Rq 50 (.call (.func 84) [47, 49]),Rq 51 (.fldA 4 3),Sq 1 51 50])
 (.seq (.reg [Rq 53 (.bin .eql 37 (Kq 33)),Rq 52 (.mv 53)])
 (.cond 52
 (.seq (.reg [Rq 54 (.mv 0),Rq 55 (.mv 0),Rq 56 (.call (.func 68) [55]),Rq 57 (.bin .eql 56 (Kq 0)),Rq 58 (.mv 57),Gq 59 58 true (.mv 0),Gq 60 58 true (.call (.func 68) [59]),Gq 61 58 true (.bin .eql 60 (Kq 0)),Rq 62 (.pick 58 61 (.const (.bool false))),Rq 63 (.call (.func 70) [54, 62])])
 (.seq (.reg [Rq 64 (.mv 0),Rq 65 (.call (.func 68) [64]),Rq 66 (.fldA 5 3),Sq 1 66 65])
 (.reg [Rq 67 (.mv 0),Rq 68 (.call (.func 71) [67]),Rq 69 (.fldA 6 3),Sq 1 69 68])))
 (.reg [Rq 38 (.mv 0),Rq 39 (.call (.func 70) [38, (.const (.bool false))])])))))))))
 (.seq (.reg [Rq 70 (.mv 0),Rq 71 (.mv 0),Rq 72 (.fldA 0 71),Rq 73 (.fldA 1 72),Rq 74 (.load false 1 73),Rq 75 (.mv 5),Rq 76 (.bin .eql 74 75),Rq 77 (.call (.func 70) [70, 76])])
 (.seq (.reg [Rq 78 (.load true 7 3),Sq 7 2 78])
 (.ret))))))))))
theorem ck_dns_reader_record : chkFunC Tryd.prog 72 1 = some (rc_dns_reader_record, [(2, some (true, 7))]) := by kernel_rfl
def rc_slices_Contains_int_int : RCode :=
 .seq (.reg [Rq 4 (.mv (.const (.bool false)))])
 (.seq (.reg [Rq 5 (.mv 0),Rq 6 (.mv 1),Rq 7 (.call (.func 92) [5, 6]),Rq 8 (.bin .geq 7 (Kq 0)),Rq 4 (.mv 8)])
 (.ret))
theorem ck_slices_Contains_int_int : chkFun Tryd.prog 79 2 = some (rc_slices_Contains_int_int, [4]) := by kernel_rfl
def rc_dns_unused : RCode :=
 .seq (.reg [Rq 1 (.box 64 7 0),Rq 2 (.mv (.const (.bool false)))])
 (.seq (.reg [Rq 3 (.fldA 1 1),Rq 4 (.load false 1 3),Rq 5 (.bin .eql 4 (Kq 1)),Rq 6 (.mv 5),Gq 7 6 false (.fldA 3 1),Gq 8 6 false (.load false 1 7),Gq 9 6 false (.bin .eql 8 (Kq 0)),Rq 10 (.pick 6 (.const (.bool true)) 9),Rq 11 (.mv 10),Gq 12 11 true (.fldA 1 1),Gq 13 11 true (.load false 1 12),Gq 14 11 true (.bin .eql 13 (Kq 16)),Gq 15 11 true (.mv 14),Gq 16 15 false (.fldA 4 1),Gq 17 15 false (.load false 1 16),Gq 18 15 false (.bin .eql 17 (.const (.string ⟨#[]⟩))),Gq 19 11 true (.pick 15 (.const (.bool true)) 18),Rq 20 (.pick 11 19 (.const (.bool false))),Rq 21 (.mv 20),Gq 22 21 true (.fldA 1 1),Gq 23 21 true (.load false 1 22),Gq 24 21 true (.bin .eql 23 (Kq 33)),Gq 25 21 true (.mv 24),Gq 26 25 false (.fldA 5 1),Gq 27 25 false (.load false 1 26),Gq 28 25 false (.bin .eql 27 (Kq 0)),Gq 29 25 false (.mv 28),Gq 30 29 true (.fldA 6 1),Gq 31 29 true (.load false 1 30),Gq 32 29 true (.bin .eql 31 (.const (.string ⟨#[]⟩))),Gq 33 25 false (.pick 29 32 (.const (.bool false))),Gq 34 21 true (.pick 25 (.const (.bool true)) 33),Rq 35 (.pick 21 34 (.const (.bool false))),Rq 2 (.mv 35)])
 (.ret))
theorem ck_dns_unused : chkFun Tryd.prog 80 1 = some (rc_dns_unused, [2]) := by kernel_rfl
def rc_dns_reader_bytes : RCode :=
 .seq (.reg [Rq 4 (.mv (.const (.string ⟨#[]⟩)))])
 (.seq (.dreg [[Rq 5 (.mv 0),Rq 6 (.mv 1),Rq 7 (.mv 0),Rq 8 (.fldA 0 7),Rq 9 (.fldA 0 8),Rq 10 (.load false 1 9),Rq 11 (.len true 10),Rq 12 (.mv 0),Rq 13 (.fldA 0 12),Rq 14 (.fldA 1 13),Rq 15 (.load false 1 14),Rq 16 (.bin .sub 11 15),Rq 17 (.bin .leq 6 16)],[Rq 18 (.call (.func 70) [5, 17])]])
 (.seq (.reg [Rq 19 (.mv 0),Rq 20 (.fldA 0 19),Rq 21 (.fldA 1 20),Rq 22 (.load false 1 21),Rq 23 (.mv 1),Rq 24 (.bin .add 22 23),Rq 25 (.fldA 0 19),Rq 26 (.fldA 1 25),Sq 1 26 24])
 (.seq (.dreg [[Rq 27 (.mv 0),Rq 28 (.fldA 0 27),Rq 29 (.fldA 0 28),Rq 30 (.load false 1 29),Rq 31 (.mv 0),Rq 32 (.fldA 0 31),Rq 33 (.fldA 1 32),Rq 34 (.load false 1 33),Rq 35 (.mv 1),Rq 36 (.bin .sub 34 35),Rq 37 (.mv 0),Rq 38 (.fldA 0 37),Rq 39 (.fldA 1 38),Rq 40 (.load false 1 39)],[Rq 41 (.slcS 30 (some 36) (some 40))],[Rq 4 (.mv 41)]])
 (.ret))))
theorem ck_dns_reader_bytes : chkFun Tryd.prog 84 2 = some (rc_dns_reader_bytes, [4]) := by kernel_rfl
def rc_dns_reader_four : RCode :=
 .seq (.reg [Rq 2 (.mv (Kq 0))])
 (.seq (.reg [Rq 3 (.mv 0),Rq 4 (.call (.func 68) [3]),Rq 5 (.bin .shl 4 (.const (.int .u64 16))),Rq 6 (.mv 0),Rq 7 (.call (.func 68) [6]),Rq 8 (.bin .or 5 7),Rq 2 (.mv 8)])
 (.ret))
theorem ck_dns_reader_four : chkFun Tryd.prog 85 1 = some (rc_dns_reader_four, [2]) := by kernel_rfl
def rc_slices_Index_int_int : RCode :=
 .seq (.reg [Rq 4 (.mv (Kq 0))])
 (.seq (.seq (.reg [Rq 6 (.mv 0),Rq 7 (.len false 6),Rq 8 (.mv (Kq 0))])
 (.block 0
 (.loop
 (.seq (.reg [Rq 9 (.bin .lss 8 7)])
 (.seq (.cond 9
 (.skip)
 (.exit 0))
 (.seq (.block 1
 (.seq (.reg [Rq 10 (.mv 8),Rq 5 (.mv 10)])
 (.seq (.reg [Rq 11 (.mv 1),Rq 12 (.mv 0),Rq 13 (.mv 5),Rq 14 (.idxA 1 12 13),Rq 15 (.load false 1 14),Rq 16 (.bin .eql 11 15)])
 (.cond 16
 (.seq (.reg [Rq 17 (.mv 5),Rq 4 (.mv 17)])
 (.ret))
 (.skip)))))
 (.reg [Rq 18 (.bin .add 8 (Kq 1)),Rq 8 (.mv 18)])))))))
 (.seq (.reg [Rq 4 (.mv (.const (.int .i64 (-1))))])
 (.ret)))
theorem ck_slices_Index_int_int : chkFun Tryd.prog 92 2 = some (rc_slices_Index_int_int, [4]) := by kernel_rfl
end Go.Proofs.YtjhdlcmecbngkaaDoor
namespace Go.Proofs.YtjhdlcmecbngkaaDoor
open Go.RowKit Pl
set_option linter.unusedVariables false
def sRow (s : ByteArray) : List V := [.v (.string s)]
instance : FlatRow sRow := ⟨fun x u hu => by simp [sRow] at hu; subst hu; exact ⟨_, rfl⟩⟩
theorem count_fun (s : ByteArray) (c : UInt8) : Fun Tryd.prog 77 [.c (.v (.string s)), .c (.v (.string ⟨#[c]⟩))] [.c (.v (.int .i64 (cnb s c)))] :=
 fun_flat (xs := [.string s, .string ⟨#[c]⟩]) (callable Tryd.func77 (by kernel_rfl) (by kernel_rfl)) fun w => (count_one s c w).mono fun e w' ⟨h1, h2⟩ => ⟨h1, h2 ▸ Below.refl _ _⟩
theorem index_fun (s : ByteArray) (c : UInt8) : Fun Tryd.prog 78 [.c (.v (.string s)), .c (.v (.string ⟨#[c]⟩))] [.c (.v (.int .i64 (ixb s c)))] :=
 fun_flat (xs := [.string s, .string ⟨#[c]⟩]) (callable Tryd.func78 (by kernel_rfl) (by kernel_rfl)) fun w => (index_one s c w).mono fun e w' ⟨h1, h2⟩ => ⟨h1, h2 ▸ Below.refl _ _⟩
def splRows (c : UInt8) (s : ByteArray) (k : Nat) : List ByteArray := (List.range k).map (piece c s) ++ List.replicate (cnb s c + 1 - k) ⟨#[]⟩
theorem splRows_len (c : UInt8) (s : ByteArray) {k : Nat} (h : k ≤ cnb s c + 1) : (splRows c s k).length = cnb s c + 1 := by simp [splRows]; omega
theorem splRows_set (c : UInt8) (s : ByteArray) {k : Nat} (h : k < cnb s c + 1) (x : ByteArray) : (splRows c s k).set k x = (List.range k).map (piece c s) ++ [x] ++ List.replicate (cnb s c - k) ⟨#[]⟩ := by
 unfold splRows
 rw [show cnb s c + 1 - k = (cnb s c - k) + 1 by omega, List.replicate_succ]
 rw [List.set_append_right _ _ (by simp)]
 simp
theorem splRows_next (c : UInt8) (s : ByteArray) {k : Nat} (h : k < cnb s c) : (splRows c s k).set k (piece c s k) = splRows c s (k + 1) := by
 rw [splRows_set c s (by omega)]
 unfold splRows
 rw [List.range_succ, List.map_append]
 simp
theorem splRows_end (c : UInt8) (s : ByteArray) : ((splRows c s (cnb s c)).set (cnb s c) (rest c s (cnb s c))).take (cnb s c + 1) = pieces c s := by
 rw [splRows_set c s (by omega)]
 unfold pieces
 rw [Nat.sub_self, List.replicate_zero, List.append_nil]
 exact List.take_of_length_le (by simp)
theorem sep_ne (c : UInt8) : ((⟨#[c]⟩ : ByteArray).toList == (⟨#[]⟩ : ByteArray).toList) = false := by simp [Lib.toList_data]
theorem splRows_zero (c : UInt8) (s : ByteArray) : (splRows c s 0).map sRow = List.replicate (cnb s c + 1) (([.string ⟨#[]⟩] : List Value).map .v) := by
 simp [splRows, sRow]
theorem genSplit_fun (s : ByteArray) (c : UInt8) (hs : s.size ≤ 1000000000000) : Fun Tryd.prog 60 [.c (.v (.string s)), .c (.v (.string ⟨#[c]⟩)), .c (.v (.int .i64 0)), .c (.v (.int .i64 (-1)))] [.o 9 1 ((pieces c s).map sRow)] := by
 have hc := cnb_le s c
 have hR := rest_count c s
 have hz := rest_size c s
 refine fun_x ck_strings_genSplit rfl ?_
 (refine goI ?_; repeat (intro gg; refine goI ?_))
 rw [sep_ne]
 (refine goI ?_; repeat (intro gg; refine goI ?_))
 (refine .inl ⟨_, _, false, [], aI, count_fun s c, nobor, nI, ?_⟩)
 (refine goI ?_; repeat (intro gg; refine goI ?_))
 rw [show min ((cnb s c : Int) + 1) ((s.size : Int) + 1) = (cnb s c : Int) + 1 by omega]
 (refine goI ?_; repeat (intro gg; refine goI ?_))
 refine ⟨cnb s c + 1, by simp, by simp, by simp only [maxLen]; omega, by omega, ?_⟩
 (refine goI ?_; repeat (intro gg; refine goI ?_))
 rw [← splRows_zero]
 (refine goI ?_; repeat (intro gg; refine goI ?_))
 (refine ⟨[], none, {k : Nat // k ≤ cnb s c}, [1, 2, 3, 9], fun ⟨k, hk⟩ => [(0, .v (.string (rest c s k))), (10, .v (.int .i64 k))], [], fun ⟨k, hk⟩ => [(496, ⟨gg, 9, 1, (splRows c s k).map sRow⟩)], fun ⟨k, hk⟩ => cnb s c - k, trivial, fun _ => ⟨trivial, fun _ => ⟨⟨0, by omega⟩, tI, keptE_refl _ _, tI, keptH_refl _ _⟩⟩, fun ⟨k, hk⟩ => ?_⟩)
 (refine goI ?_; repeat (intro gg; refine goI ?_))
 (refine bIf_of (fun h1 => ?_) (fun h1 => ?_) <;> rw [h1])
 ·have hlt : k < cnb s c := (by have := of_decide_eq_true h1; omega)
  obtain ⟨m, e1, e2, e3, e4⟩ := rest_at c s hlt
  have e5 := hz k
  have e6 := splRows_next c s hlt
  have e7 := splRows_len c s (k := k) (by omega)
  have e8 : k < (splRows c s k).length := by omega
  (refine goI ?_; repeat (intro gg; refine goI ?_))
  (refine .inl ⟨_, _, false, [], aI, index_fun (rest c s k) c, nobor, nI, ?_⟩)
  rw [e1]
  (refine goI ?_; repeat (intro gg; refine goI ?_))
  refine ⟨0, m, rfl, ⟨_, rfl⟩, by omega, by omega, ?_⟩
  (refine goI ?_; repeat (intro gg; refine goI ?_))
  refine ⟨k, _, rfl, row_map e8, ?_⟩
  (refine goI ?_; repeat (intro gg; refine goI ?_))
  refine ⟨(m : Int) + 1, wrap_ok (n := (m : Int) + 1) (by omega) (by omega), ?_⟩
  (refine goI ?_; repeat (intro gg; refine goI ?_))
  refine ⟨m + 1, (rest c s k).size, ⟨_, rfl⟩, rfl, by omega, Nat.le_refl _, ?_⟩
  rw [← e4]
  (refine goI ?_; repeat (intro gg; refine goI ?_))
  have hn : (splRows c s (k + 1)).map sRow = ((splRows c s k).map sRow).set k [V.v (Value.string ((rest c s k).extract 0 m))] := by rw [← e6, List.map_set, e3]; rfl
  (exact ⟨none, trivial, fun gr => ⟨⟨k + 1, by omega⟩, by show cnb s c - (k + 1) < cnb s c - k; omega, hxI hn, hxI hn, hxI hn, hxI hn⟩⟩)
 ·have hge : ¬ k < cnb s c := (by have := of_decide_eq_false h1; omega)
  have hk' : k ≤ cnb s c := hk
  obtain rfl : k = cnb s c := by omega
  have e7 := splRows_len c s (k := cnb s c) (by omega)
  have e8 : cnb s c < (splRows c s (cnb s c)).length := by omega
  (refine goI ?_; repeat (intro gg; refine goI ?_))
  refine ⟨cnb s c, _, rfl, row_map e8, ?_⟩
  (refine goI ?_; repeat (intro gg; refine goI ?_))
  refine ⟨0, 0, cnb s c + 1, rfl, rfl, ⟨_, rfl⟩, Nat.zero_le _, by simp [e7], rfl, rfl, fun g => ?_⟩
  (refine goI ?_; repeat (intro gg; refine goI ?_))
  have hE : (((splRows c s (cnb s c)).map sRow).set (cnb s c) [V.v (Value.string (rest c s (cnb s c)))]).take (cnb s c + 1) = (pieces c s).map sRow := by rw [← splRows_end, List.map_take, List.map_set]; rfl
  rw [hE]
  (exact ⟨[496], aI⟩)
end Go.Proofs.YtjhdlcmecbngkaaDoor
namespace Go.Proofs.YtjhdlcmecbngkaaDoor.Pl
set_option linter.unusedVariables false
def okB (n : Int) : Bool := decide ((97 ≤ n ∧ n ≤ 122) ∨ (48 ≤ n ∧ n ≤ 57) ∨ n = 45 ∨ n = 95)
def lab (s : List UInt8) : Bool := s.all (fun c => okB c.toNat) && decide (1 ≤ s.length ∧ s.length ≤ 30)
theorem lab_yes {s : List UInt8} (h : ∀ i, (hi : i < s.length) → okB (s[i]).toNat = true) (h1 : 1 ≤ s.length) (h2 : s.length ≤ 30) : lab s = true := by
 unfold lab
 rw [Bool.and_eq_true_iff]
 refine ⟨List.all_eq_true.2 fun c hc => ?_, by simp; omega⟩
 obtain ⟨i, hi, rfl⟩ := List.getElem_of_mem hc
 exact h i hi
theorem lab_bad {s : List UInt8} {i : Nat} (hi : i < s.length) (h : okB (s[i]).toNat = false) : lab s = false := by
 unfold lab
 rw [Bool.and_eq_false_iff]
 left
 rw [List.all_eq_false]
 exact ⟨s[i], List.getElem_mem hi, by simp [h]⟩
theorem lab_long {s : List UInt8} (h : ¬ (1 ≤ s.length ∧ s.length ≤ 30)) : lab s = false := by
 unfold lab
 simp only [h, decide_false, Bool.and_false]
theorem okB_no {n : Int} (h : ¬ ((97 ≤ n ∧ n ≤ 122) ∨ (48 ≤ n ∧ n ≤ 57) ∨ n = 45 ∨ n = 95)) : okB n = false := by
 unfold okB; simpa using h
theorem okB_yes {n : Int} (h : (97 ≤ n ∧ n ≤ 122) ∨ (48 ≤ n ∧ n ≤ 57) ∨ n = 45 ∨ n = 95) : okB n = true := by
 unfold okB; simpa using h
end Go.Proofs.YtjhdlcmecbngkaaDoor.Pl
namespace Go.Proofs.YtjhdlcmecbngkaaDoor
open Go.RowKit Pl
set_option linter.unusedVariables false
theorem lab_step {s : ByteArray} {k : Nat} (h : ∀ j, (hj : j < s.data.toList.length) → j < k → okB (s.data.toList[j]).toNat = true) (hlt : k < s.size) (hk : okB (s[k]).toNat = true) :
  ∀ j, (hj : j < s.data.toList.length) → j < k + 1 → okB (s.data.toList[j]).toNat = true := by
 intro j hj hjk
 rcases (by omega : j < k ∨ j = k) with g | rfl
 ·exact h j hj g
 ·exact hk
theorem isEmpty_size (s : ByteArray) : s.toList.isEmpty = decide (s.size = 0) := by
 rw [ByteArray.toList_eq, Bool.eq_iff_iff, List.isEmpty_iff_length_eq_zero, decide_eq_true_eq, Array.length_toList]
 rfl
theorem lab_endA {s : ByteArray} (h1 : 1 ≤ s.size ∧ s.size ≤ 30 → lab s.data.toList = true) (h2 : ¬ (1 ≤ s.size ∧ s.size ≤ 30) → lab s.data.toList = false) (e : s.toList.isEmpty = false) : decide ((s.size : Int) ≤ 30) = lab s.data.toList := by
 have e0 : s.size ≠ 0 := by simpa [isEmpty_size] using e
 by_cases g : s.size ≤ 30
 ·rw [h1 ⟨by omega, g⟩]; simp; omega
 ·rw [h2 (by omega)]; simp; omega
theorem lab_endB {s : ByteArray} (h2 : ¬ (1 ≤ s.size ∧ s.size ≤ 30) → lab s.data.toList = false) (e : s.toList.isEmpty = true) : false = lab s.data.toList := by
 have e0 : s.size = 0 := by simpa [isEmpty_size] using e
 rw [h2 (by omega)]
theorem cell_new (w : World) (C : Array Value) (t : TypeId) (fr : Nat × Nat) (k : Nat) : (w.alloc (.cells C t fr)).drew.cell? ⟨w.heap.size, k, none⟩ = C[k]? := by
 have h : (w.alloc (.cells C t fr)).drew.heap[w.heap.size]? = some (.cells C t fr) := heap_alloc_new w _
 unfold World.cell?
 rw [h]
 rfl
theorem lab_out {s : ByteArray} {k : Nat} (hlt : k < s.size) (hk : okB (s[k]).toNat = false) : false = lab s.data.toList :=
 (lab_bad (i := k) (s := s.data.toList) (by simpa using hlt) hk).symm
theorem refIsLabel_any (s : ByteArray) (w : World) (hs : s.size ≤ 9223372036854775807) :
    Calls Tryd.prog 38 #[.string s] w fun e w' => e = .returned (.bool (lab s.data.toList)) ∧ w = w' := by
  go_enter Tryd.func38, Tryd.ntmps38
  go_wp2
  go_loop [3] (fun i => ∃ k : Nat, k ≤ s.size ∧ i = .int .i64 k ∧ ∀ j, (hj : j < s.data.toList.length) → j < k → okB (s.data.toList[j]).toNat = true) (fun i => s.size - (intOf i).toNat)
  case atStart => exact ⟨0, Nat.zero_le _, rfl, fun j _ h => absurd h (by omega)⟩
  case round =>
    obtain ⟨k, hk, rfl, hall⟩ := hrel
    have HA := hid hall
    clear hall
    by_cases hlt : k < s.size
    · go_wp2
      all_goals first
        | (go_round
           case rel => exact ⟨k + 1, by omega, by go_num, lab_step HA.out hlt (okB_yes (by go_light; clear HA; first | omega | (simp_all; done) | (simp_all; omega)))⟩
           case measure => simp [intOf]; omega)
        | (go_ret
           exact ⟨ret_bool (lab_out hlt (okB_no (by go_light; clear HA; first | omega | (simp_all; done) | (simp_all; omega)))), rfl⟩)
    · have HL := fun (g : 1 ≤ s.size ∧ s.size ≤ 30) => lab_yes (s := s.data.toList) (fun i hi => HA.out i hi (by simp at hi; omega)) (by simpa using g.1) (by simpa using g.2)
      have HN := fun (g : ¬ (1 ≤ s.size ∧ s.size ≤ 30)) => lab_long (s := s.data.toList) (by simpa using g)
      have HL := hid HL
      have HN := hid HN
      clear HA
      go_wp2
      all_goals go_ret
      all_goals exact ⟨ret_bool (by
        go_light
        by_cases g : 1 ≤ s.size ∧ s.size ≤ 30
        · rw [HL.out g] <;> first | rfl | (simp <;> omega)
        · rw [HN.out g] <;> first | rfl | (simp <;> omega)), rfl⟩
theorem bytes_run (s : ByteArray) (w : World) : ∃ (cap : Nat) (C : Array Value) (fr : Nat × Nat),
  (convert 9 82 (.string s)).run Tryd.prog w = .ok (.slice (some ⟨w.heap.size, 0, none⟩) s.size cap) (w.drew.alloc (.cells C 5 fr)) ∧
  ∀ j, (h : j < s.size) → C[j]? = some (.int .u8 ((s[j]).toNat : Int)) := by
 refine ⟨_, _, _, run_bytes_of_string w 9 82 5 s Tryd.underlying9 Tryd.underlying82 Tryd.underlying5, ?_⟩
 intro j h
 exact bytesRow_at s _ j h
set_option maxRecDepth 100000 in
theorem IsLabel_any (s : ByteArray) (w : World) (hs : s.size ≤ 9223372036854775807) :
    Calls Tryd.prog 35 #[.string s] w fun e w' => e = .returned (.bool (lab s.data.toList)) ∧ Below w.heap.size w w' ∧ w.drawn ≤ w'.drawn := by
  obtain ⟨cap, C, fr, hrun, hC⟩ := bytes_run s w
  have HC := hid hC
  clear hC
  have hB : Below w.heap.size w (w.alloc (.cells C 5 fr)).drew ∧ w.drawn ≤ (w.alloc (.cells C 5 fr)).drew.drawn := ⟨(by repeat (first | exact Below.refl _ _ | assumption | refine Below.drew ?_ | refine below_drewN ?_ _ | refine Below.alloc ?_ (by simp; try omega) _ | refine Below.setCell ?_ (by simp; try omega) _)), Nat.le_succ _⟩
  have HB := hid hB
  clear hB
  go_enter Tryd.func35, Tryd.ntmps35
  go_wp2
  go_loop [8] (fun i => ∃ k : Nat, k ≤ s.size ∧ i = .int .i64 k ∧ ∀ j, (hj : j < s.data.toList.length) → j < k → okB (s.data.toList[j]).toNat = true) (fun i => s.size - (intOf i).toNat)
  case atStart => exact ⟨0, Nat.zero_le _, rfl, fun j _ h => absurd h (by omega)⟩
  case round =>
    obtain ⟨k, hk, rfl, hall⟩ := hrel
    have HA := hid hall
    clear hall
    by_cases hlt : k < s.size
    · have hcell : (w.alloc (.cells C 5 fr)).drew.cell? ⟨w.heap.size, k, none⟩ = some (.int .u8 ((s[k]).toNat : Int)) := (cell_new w C 5 fr k).trans (HC.out k hlt)
      have hby : ((s[k]).toNat : Int) ≤ 255 := by have := (s[k]).toNat_lt; omega
      clear hrun
      go_wp2
      all_goals first
        | (go_round
           case rel => exact ⟨k + 1, by omega, by go_num, lab_step HA.out hlt (okB_yes (by go_light; clear HA; first | omega | (simp_all; done) | (simp_all; omega)))⟩
           case measure => simp [intOf]; omega)
        | (go_ret
           exact ⟨ret_bool (lab_out hlt (okB_no (by go_light; clear HA; first | omega | (simp_all; done) | (simp_all; omega)))), HB.out⟩)
    · have HL := fun (g : 1 ≤ s.size ∧ s.size ≤ 30) => lab_yes (s := s.data.toList) (fun i hi => HA.out i hi (by simp at hi; omega)) (by simpa using g.1) (by simpa using g.2)
      have HN := fun (g : ¬ (1 ≤ s.size ∧ s.size ≤ 30)) => lab_long (s := s.data.toList) (by simpa using g)
      have HL := hid HL
      have HN := hid HN
      clear HA
      go_wp2
      all_goals go_ret
      all_goals first
        | exact ⟨ret_bool (lab_endA HL.out HN.out ‹s.toList.isEmpty = false›), HB.out⟩
        | exact ⟨ret_bool (lab_endB HN.out ‹s.toList.isEmpty = true›), HB.out⟩
end Go.Proofs.YtjhdlcmecbngkaaDoor
namespace Go.Proofs.YtjhdlcmecbngkaaDoor
open Go.RowKit Pl
set_option linter.unusedVariables false
theorem label_fun (s : ByteArray) (hs : s.size ≤ 9223372036854775807) : Fun Tryd.prog 35 [.c (.v (.string s))] [.c (.v (.bool (lab s.data.toList)))] :=
 fun_flat (xs := [.string s]) (callable Tryd.func35 (by kernel_rfl) (by kernel_rfl)) fun w => (IsLabel_any s w hs).mono fun e w' h => ⟨h.1, h.2.1⟩
theorem rlabel_fun (s : ByteArray) (hs : s.size ≤ 9223372036854775807) : Fun Tryd.prog 38 [.c (.v (.string s))] [.c (.v (.bool (lab s.data.toList)))] :=
 fun_flat (xs := [.string s]) (callable Tryd.func38 (by kernel_rfl) (by kernel_rfl)) fun w => (refIsLabel_any s w hs).mono fun e w' ⟨h1, h2⟩ => ⟨h1, h2 ▸ Below.refl _ _⟩
end Go.Proofs.YtjhdlcmecbngkaaDoor
namespace Go.Proofs.YtjhdlcmecbngkaaDoor.Pl
set_option linter.unusedVariables false
theorem any_at {α : Type} (p : α → Bool) (l : List α) : decide (0 ≤ at_ p l) = l.any p := by
 rcases at_inv (p := p) (l := l) with ⟨h1, h2⟩ | ⟨k, hk, h1, h2, _⟩
 ·rw [h1]
  cases hq : l.any p with
  | false => rfl
  | true =>
   obtain ⟨x, hx, hp⟩ := List.any_eq_true.1 hq
   obtain ⟨i, hi, rfl⟩ := List.getElem_of_mem hx
   rw [h2 i hi] at hp; cases hp
 ·rw [h1]
  have : l.any p = true := List.any_eq_true.2 ⟨_, List.getElem_mem hk, h2⟩
  rw [this]; simp
def keep {α : Type} (p : α → Bool) (l : List α) : List α := l.filter fun x => !p x
theorem keep_all {α : Type} {p : α → Bool} {l : List α} (h : ∀ i, (h : i < l.length) → p l[i] = false) : keep p l = l := by
 unfold keep; rw [List.filter_eq_self]; intro x hx
 obtain ⟨i, hi, rfl⟩ := List.getElem_of_mem hx
 simp [h i hi]
theorem keep_take {α : Type} {p : α → Bool} {l : List α} {k : Nat} (h : k < l.length) : keep p (l.take (k + 1)) = if p l[k] = true then keep p (l.take k) else keep p (l.take k) ++ [l[k]] := by
 unfold keep
 rw [List.take_add_one, List.getElem?_eq_getElem h, List.filter_append]
 cases q : p l[k] <;> simp [q]
structure Moved {α : Type} (p : α → Bool) (l l' : List α) (i j : Nat) : Prop where
 ij : i < j
 jl : j ≤ l.length
 len : l'.length = l.length
 ahead : l'.take i = keep p (l.take j)
 behind : ∀ k, (h : k < l.length) → j ≤ k → l'[k]'(by rw [len]; exact h) = l[k]
theorem Moved.start {α : Type} {p : α → Bool} {l : List α} {k : Nat} (hk : k < l.length) (h1 : p l[k] = true) (h0 : ∀ i, (h : i < l.length) → i < k → p l[i] = false) : Moved p l l k (k + 1) := by
 refine ⟨by omega, by omega, rfl, ?_, fun _ _ _ => rfl⟩
 rw [keep_take hk, if_pos h1, keep_all]
 intro i hi
 simp at hi
 simp only [List.getElem_take]
 exact h0 i (by omega) (by omega)
theorem Moved.gone {α : Type} {p : α → Bool} {l l' : List α} {i j : Nat} (h : Moved p l l' i j) (hj : j < l.length) (hp : p l[j] = true) : Moved p l l' i (j + 1) := by
 refine ⟨by have := h.ij; omega, by omega, h.len, ?_, fun k hk hkj => h.behind k hk (by omega)⟩
 rw [keep_take hj, if_pos hp]; exact h.ahead
theorem Moved.fin {α : Type} {p : α → Bool} {l l' : List α} {i j : Nat} (h : Moved p l l' i j) (hj : ¬ j < l.length) : l'.take i = keep p l := by
 rw [h.ahead, List.take_of_length_le (by omega)]
end Go.Proofs.YtjhdlcmecbngkaaDoor.Pl
namespace Go.Proofs.YtjhdlcmecbngkaaDoor
open Go.RowKit Pl
set_option linter.unusedVariables false
def labelsP (s : ByteArray) : List ByteArray := if (s.toList == (⟨#[]⟩ : ByteArray).toList) = true then [] else pieces 46 s
def nameErr (s : ByteArray) : Int := if (labelsP s).any (fun x => !lab x.data.toList) = true then 1 else if 8 < (labelsP s).length then 2 else if 120 < s.size then 2 else 0
theorem split_fun (s : ByteArray) (c : UInt8) (hs : s.size ≤ 1000000000000) : Fun Tryd.prog 39 [.c (.v (.string s)), .c (.v (.string ⟨#[c]⟩))] [.o 9 1 ((pieces c s).map sRow)] := by
 refine fun_x ck_strings_Split rfl ?_
 (refine goI ?_; repeat (intro gg; refine goI ?_))
 (refine .inl ⟨_, _, false, [], aI, genSplit_fun s c hs, nobor, nI, ?_⟩)
 (refine goI ?_; repeat (intro gg; refine goI ?_))
 (exact ⟨[112], aI⟩)
theorem labels_fun (s : ByteArray) (hs : s.size ≤ 1000000000000) : Fun Tryd.prog 41 [.c (.v (.string s))] [.c (.sl false ((labelsP s).map sRow))] := by
 refine fun_x ck_dns_labels rfl ?_
 (refine goI ?_; repeat (intro gg; refine goI ?_))
 (refine bIf_of (fun h => ?_) (fun h => ?_) <;> rw [h])
 ·(refine goI ?_; repeat (intro gg; refine goI ?_))
  rw [show labelsP s = [] from if_pos h]
  (exact ⟨[], aI⟩)
 ·(refine goI ?_; repeat (intro gg; refine goI ?_))
  (refine .inl ⟨_, _, false, [], aI, split_fun s 46 hs, nobor, nI, ?_⟩)
  (refine goI ?_; repeat (intro gg; refine goI ?_))
  rw [show labelsP s = pieces 46 s from if_neg (by rw [h]; decide)]
  (exact ⟨[], aI⟩)
theorem chk1_fun (s : ByteArray) (hs : s.size ≤ 9223372036854775807) : Fun Tryd.prog 42 [.c (.v (.string s))] [.c (.v (.bool (!lab s.data.toList)))] := by
 refine fun_x ck_dns_Check_1 rfl ?_
 (refine goI ?_; repeat (intro gg; refine goI ?_))
 (refine .inl ⟨_, _, false, [], aI, label_fun s hs, nobor, nI, ?_⟩)
 (refine goI ?_; repeat (intro gg; refine goI ?_))
 (exact ⟨[], aI⟩)
theorem indexF_fun (cl : Bool) (l : List ByteArray) (f : FuncId) (p : ByteArray → Bool) (hl : l.length ≤ 9223372036854775807) (hf : ∀ s ∈ l, Fun Tryd.prog f [.c (.v (.string s))] [.c (.v (.bool (p s)))]) :
  Fun Tryd.prog 58 [.c (.sl cl (l.map sRow)), .c (.v (.func (.func f) #[] #[]))] [.c (.v (.int .i64 (at_ p l)))] := by
 refine fun_x ck_slices_IndexFunc_string_string rfl ?_
 (refine goI ?_; repeat (intro gg; refine goI ?_))
 rw [List.length_map]
 (refine ⟨[], none, {k : Nat // k ≤ l.length ∧ ∀ j, (h : j < l.length) → j < k → p l[j] = false}, [0, 1, 7], fun ⟨k, hk, h0⟩ => [(8, .v (.int .i64 k))], [], fun ⟨k, hk, h0⟩ => [], fun ⟨k, hk, h0⟩ => l.length - k, trivial, fun _ => ⟨trivial, fun _ => ⟨⟨0, by omega, fun j _ h => by omega⟩, tI, keptE_refl _ _, tI, keptH_refl _ _⟩⟩, fun ⟨k, hk, h0⟩ => ?_⟩)
 (refine goI ?_; repeat (intro gg; refine goI ?_))
 (refine bIf_of (fun h => ?_) (fun h => ?_) <;> rw [h])
 ·have hlt : k < l.length := (by have := of_decide_eq_true h; omega)
  (refine goI ?_; repeat (intro gg; refine goI ?_))
  refine ⟨k, _, rfl, row_map hlt, ?_⟩
  (refine goI ?_; repeat (intro gg; refine goI ?_))
  (refine .inl ⟨_, _, false, [], aI, hf _ (List.getElem_mem hlt), nobor, nI, ?_⟩)
  (refine goI ?_; repeat (intro gg; refine goI ?_))
  (refine bIf_of (fun h2 => ?_) (fun h2 => ?_) <;> rw [h2])
  ·(refine goI ?_; repeat (intro gg; refine goI ?_))
   rw [at_yes hlt h0 h2]
   (exact ⟨[], aI⟩)
  ·(refine goI ?_; repeat (intro gg; refine goI ?_))
   (exact ⟨none, trivial, fun _ => ⟨⟨k + 1, by omega, up1 (p := fun j h => p l[j] = false) h0 (fun _ => h2)⟩, by show l.length - (k + 1) < l.length - k; omega, tI, tI, tI, tI⟩⟩)
 ·have hge : ¬ k < l.length := (by have := of_decide_eq_false h; omega)
  (refine goI ?_; repeat (intro gg; refine goI ?_))
  rw [at_no (p := p) (l := l) (fun i hi => h0 i hi (by omega))]
  (exact ⟨[], aI⟩)
theorem containsF_fun (cl : Bool) (l : List ByteArray) (f : FuncId) (p : ByteArray → Bool) (hl : l.length ≤ 9223372036854775807) (hf : ∀ s ∈ l, Fun Tryd.prog f [.c (.v (.string s))] [.c (.v (.bool (p s)))]) :
  Fun Tryd.prog 33 [.c (.sl cl (l.map sRow)), .c (.v (.func (.func f) #[] #[]))] [.c (.v (.bool (l.any p)))] := by
 have hI := indexF_fun cl l f p hl hf
 refine fun_x ck_slices_ContainsFunc_string_string rfl ?_
 (refine goI ?_; repeat (intro gg; refine goI ?_))
 (refine .inl ⟨_, _, false, [], aI, hI, nobor, nI, ?_⟩)
 (refine goI ?_; repeat (intro gg; refine goI ?_))
 rw [any_at]
 (exact ⟨[], aI⟩)
theorem extract_le (s : ByteArray) (a b : Nat) : (s.extract a b).size ≤ s.size := by rw [ByteArray.size_extract]; omega
theorem labelsP_size {s x : ByteArray} (h : x ∈ labelsP s) : x.size ≤ s.size := by
 unfold labelsP at h
 split at h
 ·cases h
 ·unfold pieces at h
  rcases List.mem_append.1 h with h | h
  ·obtain ⟨k, _, rfl⟩ := List.mem_map.1 h
   exact Nat.le_trans (extract_le _ _ _) (rest_size 46 s k)
  ·simp only [List.mem_cons, List.not_mem_nil, or_false] at h; subst h
   exact rest_size 46 s _
theorem labelsP_len (s : ByteArray) : (labelsP s).length ≤ s.size + 1 := by
 unfold labelsP
 split
 ·simp
 ·rw [pieces_len]; have := cnb_le s 46; omega
theorem Check_fun (s : ByteArray) (hs : s.size ≤ 1000000000000) : Fun Tryd.prog 21 [.c (.v (.string s))] [.c (.v (.int .i64 (nameErr s)))] := by
 have hL := labelsP_len s
 have hC := containsF_fun false (labelsP s) 42 (fun x => !lab x.data.toList) (by omega) (fun x hx => chk1_fun x (by have := labelsP_size hx; omega))
 refine fun_x ck_dns_Check rfl ?_
 (refine goI ?_; repeat (intro gg; refine goI ?_))
 (refine .inl ⟨_, _, false, [], aI, labels_fun s hs, nobor, nI, ?_⟩)
 (refine goI ?_; repeat (intro gg; refine goI ?_))
 (refine .inl ⟨_, _, false, [], aI, hC, nobor, nI, ?_⟩)
 (refine goI ?_; repeat (intro gg; refine goI ?_))
 (refine bIf_of (fun h => ?_) (fun h => ?_) <;> rw [h])
 ·(refine goI ?_; repeat (intro gg; refine goI ?_))
  rw [show nameErr s = 1 from if_pos h]
  (exact ⟨[], aI⟩)
 ·have e : nameErr s = if 8 < (labelsP s).length then 2 else if 120 < s.size then 2 else 0 := if_neg (by rw [h]; decide)
  (refine goI ?_; repeat (intro gg; refine goI ?_))
  rw [List.length_map]
  (refine bIf_of (fun h2 => ?_) (fun h2 => ?_) <;> rw [h2])
  ·(refine goI ?_; repeat (intro gg; refine goI ?_))
   rw [e, if_pos (by have := of_decide_eq_true h2; omega)]
   (exact ⟨[], aI⟩)
  ·rw [if_neg (by have := of_decide_eq_false h2; omega)] at e
   (refine goI ?_; repeat (intro gg; refine goI ?_))
   (refine bIf_of (fun h3 => ?_) (fun h3 => ?_) <;> rw [h3])
   ·(refine goI ?_; repeat (intro gg; refine goI ?_))
    rw [e, if_pos (by have := of_decide_eq_true h3; omega)]
    (exact ⟨[], aI⟩)
   ·(refine goI ?_; repeat (intro gg; refine goI ?_))
    rw [e, if_neg (by have := of_decide_eq_false h3; omega)]
    (exact ⟨[], aI⟩)
end Go.Proofs.YtjhdlcmecbngkaaDoor
namespace Go.Proofs.YtjhdlcmecbngkaaDoor
open Go Go.RowKit
set_option linter.unusedVariables false
def BldV (T : TypeId) (b : Nat) (v : Value) (bs : List Value) (w : World) : Prop :=
 (∃ p, (p = .pointer none ∨ p = .pointer (some ⟨b, 0, none⟩)) ∧ w.heap[b]? = some (.cells #[p, v] T (0, 0))) ∧ w.ownsRow 0 5 1 v bs.length bs ∧ v.ownBlock ≠ some b
theorem heap_set {b : Nat} {w : World} {cs : Array Value} {T : TypeId} {fr : Nat × Nat} (hb : w.heap[b]? = some (.cells cs T fr)) (i : Nat) (x : Value) : (w.setCell ⟨b, i, none⟩ x).heap[b]? = some (.cells (cs.setIfInBounds i x) T fr) := by
 have hlt : b < w.heap.size := (Array.getElem?_eq_some_iff.1 hb).1
 simp [World.setCell, Array.getElem?_modify, hb]
theorem heap_else_ {b k : Nat} {w : World} (hk : k ≠ b) (i : Nat) (x : Value) : (w.setCell ⟨b, i, none⟩ x).heap[k]? = w.heap[k]? := by
 have : b ≠ k := fun e => hk e.symm
 simp [World.setCell, Array.getElem?_modify, this]
theorem gb_set (b i : Nat) (x : Value) (w : World) : w.grownBy (w.setCell ⟨b, i, none⟩ x) (some b) := ⟨rfl, rfl, rfl, by simp, fun k hk hn => heap_else_ (fun e => hn (by rw [e])) i x⟩
theorem fr_set {b : Nat} {w : World} {L : Nat → Prop} (hL : L b) (i : Nat) (x : Value) : Fr L w (w.setCell ⟨b, i, none⟩ x) :=
 ⟨rfl, rfl, rfl, by simp, fun k hk hn => heap_else_ (fun e => hn (by rw [e]; exact hL)) i x⟩
set_option maxHeartbeats 1000000 in
set_option maxRecDepth 100000 in
theorem copyCheck_any (T : TypeId) (hT : liesAt Tryd.prog Tryd.prog.depth T (2 / Tryd.prog.cellsOf T) 0 88 1 = true) (b : Nat) (v : Value) (bs : List Value) (w : World) (h : BldV T b v bs w) :
  Calls Tryd.prog 86 #[.pointer (some ⟨b, 0, none⟩)] w fun e w' => e = .returned (.tuple #[]) ∧ w'.heap[b]? = some (.cells #[.pointer (some ⟨b, 0, none⟩), v] T (0, 0)) ∧ w'.ownsRow 0 5 1 v bs.length bs ∧ Fr (fun k => k = b) w w' := by
 obtain ⟨⟨p, hp, hbk⟩, hown, hne⟩ := h
 obtain ⟨j, hj, hjs⟩ := Option.map_eq_some_iff.1 (show (Tryd.prog.info? 88).map (·.size) = some 2 by kernel_rfl)
 have h0 : w.cell? ⟨b, 0, none⟩ = some p := by rw [Lib.cell_of_heap hbk]; rfl
 have hsh : w.shape? b = some (T, 2) := by simp [World.shape?, hbk]
 have hfz : w.frozen? ⟨b, 0, none⟩ = false := Lib.frozen_of_heap hbk 0
 rcases hp with rfl | rfl
 ·go_enter Tryd.func86, Tryd.ntmps86
  go_wp2
  rw [Lib.run_to_unsafe w ⟨b, 0, none⟩ Tryd.underlying86 Tryd.underlying117 hj (by rw [hjs]; decide) hsh (Nat.zero_lt_succ 1)]
  simp only [Result.andThen]
  rw [Oper.upon_value]
  go_wp2
  rw [run_callFunc_extern Tryd.func93 (by kernel_rfl) (by kernel_rfl) (by kernel_rfl) (e := Extern.AbiNoEscape.same) (by kernel_rfl)]
  rw [Lib.run_noEscape]
  simp only [Result.andThen]
  rw [Oper.upon_value]
  go_wp2
  rw [Lib.run_from_unsafe w ⟨b, 0, none⟩ Tryd.underlying117 Tryd.underlying86 hj hsh hT]
  simp only [Result.andThen]
  rw [Oper.upon_value]
  go_wp2
  go_end0
  refine ⟨rfl, ?_, ?_, fr_set (L := fun k => k = b) rfl _ _⟩
  ·rw [heap_set hbk]; rfl
  ·exact hown.kept (gb_set _ _ _ _) (.inr hne)
 ·go_enter Tryd.func86, Tryd.ntmps86
  go_wp2
  rw [Lib.run_neq_ptr_same w _ Tryd.underlying86 hj]
  go_wp2
  go_end0
  exact ⟨rfl, hbk, hown, Fr.refl _ _⟩
theorem info_u8 : (Tryd.prog.info? 5).map (fun i => (i.zero, i.size, i.bytes)) = some (some (.int .u8 0), 1, 1) := by kernel_rfl
theorem fr_mono {L L' : Nat → Prop} {w w' : World} (h : Fr L w w') (hL : ∀ k, L k → L' k) : Fr L' w w' :=
 ⟨h.os, h.tape, h.output, h.size, fun k hk hn => h.block k hk fun q => hn (hL k q)⟩
theorem fr_alloc (L : Nat → Prop) (w : World) (o : Obj) : Fr L w (w.alloc o) := ⟨rfl, rfl, rfl, by simp, fun k hk _ => Lib.alloc_old w o k hk⟩
theorem fr_grown {L : Nat → Prop} {w w' : World} {row : Option Nat} (hg : w.grownBy w' row) (hr : ∀ k, row = some k → L k) : Fr L w w' :=
 ⟨hg.os, hg.tape, hg.output, hg.size, fun k hk hn => hg.block k hk fun e => hn (hr k e.symm)⟩
def BldPost (T : TypeId) (b : Nat) (v : Value) (bs : List Value) (w w' : World) : Prop :=
 ∃ v', BldV T b v' bs w' ∧ Fr (fun k => k = b ∨ v.ownBlock = some k) w w' ∧ ∀ k, v'.ownBlock = some k → v.ownBlock = some k ∨ w.heap.size ≤ k
theorem wpList_app {P : Program} {w : World} {ops : Array Oper} {rest : List Oper} {o : Oper} {a : Act} {Q : Exit → Act → World → Prop} (hgd : o.guard = none) (s x : Operand) (t : TypeId)
  (ho : o.op = .call { callee := .builtin .append, args := #[s, x], argTypes := #[t, t] })
  (e : TypeId) (i : TypeInfo) (z : Value) (ht : P.underlying t = some (.slice e)) (hi : P.info? e = some i) (hz : i.zero = some z) (hzs : z.cells.size = i.size) (hsz : 0 < i.size)
  (v : Value) (n : Nat) (xs : List Value) (hs : a.eval s = v) (hown : w.ownsRow 0 e i.size v n xs)
  (ad : Addr) (m c : Nat) (news : List Value) (hx : a.eval x = .slice (some ad) m c) (hl : news.length = m * i.size) (hnews : ∀ j u, news[j]? = some u → w.cell? (ad.add j) = some u) (h1 : ∀ u ∈ news, u.oneCell' = true)
  (h63 : n + m ≤ maxLen) (hbytes : (n + m) * i.bytes ≤ 140737488355328)
  (h : ∀ v' w', w'.ownsRow 0 e i.size v' (n + m) (xs ++ news) → w.grownBy w' v.ownBlock → (v'.ownBlock = v.ownBlock ∨ v'.ownBlock = some w.heap.size) → wpList P ops Q rest (a.put o.dst v') w') : wpList P ops Q (o :: rest) a w := by
 refine wpList_plain hgd fun K hK => ?_
 obtain ⟨v', w', hr, h2, h3, _, h5⟩ := run_append_own_at (P := P) w 0 t o.type e i z i.size i.bytes ht hi hz rfl rfl hzs hsz v n xs hown ad m c news hl hnews h1 h63 hbytes (Nat.zero_le _)
 unfold Oper.wp execOp
 simp only [ho, resolve, invoke, builtin, Sem.run_bind, Sem.run_pure, Result.andThen_ok, List.map_toArray, List.map_cons, List.map_nil, hs, hx, hr]
 exact hK _ _ (h v' w' h2 h3 h5)
theorem app_str_blk {P : Program} {w : World} {t u ty e : TypeId} {i : TypeInfo} (ht : P.underlying t = some (.slice e)) (hu : P.underlying u = some .string) (hi : P.info? e = some i) (hz : i.zero = some (.int .u8 0)) (hsize : i.size = 1) (hby : i.bytes = 1)
  {v : Value} {n : Nat} {xs : List Value} (hown : w.ownsRow 0 e 1 v n xs) (s : ByteArray) (h63 : n + s.size ≤ maxLen) (hbytes : n + s.size ≤ 140737488355328) {v' : Value} {w' : World}
  (hr : (Builtin.append_ #[t, u] ty #[v, .string s]).run P w = .ok v' w') : (v'.ownBlock = v.ownBlock ∨ v'.ownBlock = some w.heap.size) := by
 have hsmall : n + s.size ≤ 9223372036854775807 := by simp only [maxLen] at h63; omega
 have hxl : xs.length = n := by simpa using hown.1
 rcases hown.2 with ⟨rfl, rfl⟩ | ⟨g, cap, cur, rfl, hbg, hg, hnc, hcm, hcs, htake⟩
 ·by_cases hm : s.size = 0
  ·have h : (Builtin.append_ #[t, u] ty #[.slice none 0 0, .string s]).run P w = .ok (.slice none 0 0) w := by
    have hf := Lib.run_firstCells_string (P := P) w 1 s
    rw [hm] at hf
    simp [Builtin.append_, run_underlying ht, run_underlying hu, sizeOf, typeInfo, hi, hsize, Builtin.lenOf, hm, hf]
   rw [h] at hr
   injection hr with h1 h2
   subst h1 h2
   exact .inl rfl
  ·have h := run_append_nil_string (P := P) w t u ty e i (.int .u8 0) ht hu hi hz s (by omega) (by omega) (by rw [hby]; omega)
   rw [h] at hr
   injection hr with h1 h2
   subst h1 h2
   exact .inr rfl
 ·by_cases hroom : n + s.size ≤ cap
  ·have hcs' : cur.size = cap := by simpa using hcs
   have h := Lib.run_append_room_string (P := P) w t u ty e i ht hu hi hsize g n cap cur hg s hroom (by omega)
   rw [h] at hr
   injection hr with h1 h2
   subst h1 h2
   exact .inl rfl
  ·have holds : ∀ j u, xs[j]? = some u → w.cell? ((⟨g, 0, none⟩ : Addr).add j) = some u := hown.cells (g := g) rfl
   have h := Lib.run_append_grow_string (P := P) w t u ty e i (.int .u8 0) ht hu hi hz ⟨g, 0, none⟩ n cap xs (by rw [hsize]; simpa using hxl) holds s (by omega) (by omega) (by rw [hby]; exact growslice_fits (by omega) (by omega))
   rw [h] at hr
   injection hr with h1 h2
   subst h1 h2
   exact .inr rfl
theorem wpList_app_str {P : Program} {w : World} {ops : Array Oper} {rest : List Oper} {o : Oper} {a : Act} {Q : Exit → Act → World → Prop} (hgd : o.guard = none) (sl x : Operand) (t u : TypeId)
  (ho : o.op = .call { callee := .builtin .append, args := #[sl, x], argTypes := #[t, u] })
  (e : TypeId) (i : TypeInfo) (ht : P.underlying t = some (.slice e)) (hu : P.underlying u = some .string) (hi : P.info? e = some i) (hz : i.zero = some (.int .u8 0)) (hsize : i.size = 1) (hby : i.bytes = 1)
  (v : Value) (n : Nat) (xs : List Value) (hs : a.eval sl = v) (hown : w.ownsRow 0 e 1 v n xs) (s : ByteArray) (hx : a.eval x = .string s) (h63 : n + s.size ≤ maxLen) (hbytes : n + s.size ≤ 140737488355328)
  (h : ∀ v' w', w'.ownsRow 0 e 1 v' (n + s.size) (xs ++ Lib.strCells s) → w.grownBy w' v.ownBlock → (v'.ownBlock = v.ownBlock ∨ v'.ownBlock = some w.heap.size) → wpList P ops Q rest (a.put o.dst v') w') : wpList P ops Q (o :: rest) a w := by
 refine wpList_plain hgd fun K hK => ?_
 obtain ⟨v', w', hr, h2, h3, _⟩ := Lib.run_append_own_string (P := P) w 0 t u o.type e i ht hu hi hz hsize hby v n xs hown s h63 hbytes (Nat.zero_le _)
 have hb := app_str_blk ht hu hi hz hsize hby hown s h63 hbytes hr
 unfold Oper.wp execOp
 simp only [ho, resolve, invoke, builtin, Sem.run_bind, Sem.run_pure, Result.andThen_ok, List.map_toArray, List.map_cons, List.map_nil, hs, hx, hr]
 exact hK _ _ (h v' w' h2 h3 hb)
theorem own_ne {w : World} {e T : TypeId} {v : Value} {n : Nat} {xs : List Value} {b : Nat} {cs : Array Value} {fr : Nat × Nat} (hown : w.ownsRow 0 e 1 v n xs) (hb : w.heap[b]? = some (.cells cs T fr)) (hTe : T ≠ e) : v.ownBlock ≠ some b := fun q => by
 rcases hown.2 with ⟨rfl, _⟩ | ⟨g, cap, cur, rfl, _, hg, _⟩
 ·cases q
 ·have : g = b := by simpa [Value.ownBlock] using q
  subst this
  rw [hb] at hg
  injection hg with hg
  injection hg with _ hg _
  exact hTe hg
theorem bld_end {T : TypeId} (hTe : T ≠ 5) {b : Nat} {v v' : Value} {bs bs' : List Value} {w w1 w2 : World} (hbk : w1.heap[b]? = some (.cells #[.pointer (some ⟨b, 0, none⟩), v] T (0, 0))) (hown' : w2.ownsRow 0 5 1 v' bs'.length bs')
  (hb2 : w2.heap[b]? = some (.cells #[.pointer (some ⟨b, 0, none⟩), v] T (0, 0))) (hfr : Fr (fun k => k = b) w w1) (hfr2 : Fr (fun k => k = b ∨ v.ownBlock = some k) w1 w2) (hbl : ∀ k, v'.ownBlock = some k → v.ownBlock = some k ∨ w.heap.size ≤ k) :
  BldPost T b v bs' w (w2.setCell ⟨b, 1, none⟩ v') := by
 have hne := own_ne hown' hb2 hTe
 refine ⟨v', ⟨⟨_, .inr rfl, by rw [heap_set hb2]; rfl⟩, hown'.kept (gb_set _ _ _ _) (.inr hne), hne⟩, ?_, hbl⟩
 exact (fr_mono hfr fun k q => .inl q).trans (hfr2.trans (fr_set (.inl rfl) _ _))
set_option maxHeartbeats 2000000 in
set_option maxRecDepth 100000 in
theorem writeByte_any (T : TypeId) (hT : liesAt Tryd.prog Tryd.prog.depth T (2 / Tryd.prog.cellsOf T) 0 88 1 = true) (hTe : T ≠ 5) (b : Nat) (v : Value) (bs : List Value) (c : Int) (w : World) (h : BldV T b v bs w) (hlen : bs.length + 1 ≤ 140737488355328) :
  Calls Tryd.prog 81 #[.pointer (some ⟨b, 0, none⟩), .int .u8 c] w fun e w' => e = .returned .nilIface ∧ BldPost T b v (bs ++ [.int .u8 c]) w w' := by
 obtain ⟨i0, hi, hz0, hz1, hz2⟩ := info_parts info_u8
 have hne := h.2.2
 go_enter Tryd.func81, Tryd.ntmps81
 go_wp2_with (go_at_call 86; refine (copyCheck_any T hT b v bs _ h).mono ?_)
 rintro e w1 ⟨rfl, hbk, hown, hfr⟩
 have c0 : w1.cell? ⟨b, 0, none⟩ = some (.pointer (some ⟨b, 0, none⟩)) := by rw [Lib.cell_of_heap hbk]; rfl
 have c1 : w1.cell? ⟨b, 1, none⟩ = some v := by rw [Lib.cell_of_heap hbk]; rfl
 have hownA : (w1.alloc (.cells #[.int .u8 c] 5)).ownsRow 0 5 i0.size v bs.length bs := by rw [hz1]; exact hown.alloc _
 go_wp2_with (at_builtin; refine wpList_app rfl _ _ 82 rfl 5 i0 (.int .u8 0) Tryd.underlying82 hi hz0 (by rw [hz1]; rfl) (by omega) _ _ _ rfl hownA ⟨w1.heap.size, 0, none⟩ 1 1 [.int .u8 c] rfl (by rw [hz1]; rfl) ?c1 ?c2 ?c3 ?c4 ?_)
 case c1 =>
  intro j u hj
  match j, hj with
  | 0, hj => simp at hj; subst hj; simp [Addr.add]
 case c2 => intro u hu; simp at hu; subst hu; rfl
 case c3 => unfold maxLen; omega
 case c4 => rw [hz2]; omega
 intro v' w2 hown' hgrow hblk
 have hlt : b < w1.heap.size := (Array.getElem?_eq_some_iff.1 hbk).1
 have hb2 : w2.heap[b]? = some (.cells #[.pointer (some ⟨b, 0, none⟩), v] T (0, 0)) := by
  rw [hgrow.block b (by simp; omega) (fun e => hne e.symm), Lib.alloc_old w1 _ b hlt]
  exact hbk
 have d0 : w2.cell? ⟨b, 0, none⟩ = some (.pointer (some ⟨b, 0, none⟩)) := by rw [Lib.cell_of_heap hb2]; rfl
 have d1 : w2.cell? ⟨b, 1, none⟩ = some v := by rw [Lib.cell_of_heap hb2]; rfl
 have f1 : w2.frozen? ⟨b, 1, none⟩ = false := Lib.frozen_of_heap hb2 1
 obtain ⟨ao, n', cap, hv'⟩ : ∃ ao n' cap, v' = .slice ao n' cap := by
  rcases hown'.2 with ⟨q, _⟩ | ⟨g, cap, cur, q, _⟩
  ·exact ⟨_, _, _, q⟩
  ·exact ⟨_, _, _, q⟩
 have fin := bld_end (bs := bs) (bs' := bs ++ [.int .u8 c]) hTe hbk (by simpa using hown') hb2 hfr ((fr_alloc _ _ _).trans (fr_grown hgrow fun k q => .inr q)) (fun k hk => by
  rcases hblk with q | q
  ·exact .inl (by rw [← q]; exact hk)
  ·rw [q] at hk; injection hk with hk; right; have := hfr.size; (try simp at hk); omega)
 subst hv'
 go_wp2
 go_ret
 exact ⟨rfl, fin⟩
set_option maxHeartbeats 2000000 in
set_option maxRecDepth 100000 in
theorem writeString_any (T : TypeId) (hT : liesAt Tryd.prog Tryd.prog.depth T (2 / Tryd.prog.cellsOf T) 0 88 1 = true) (hTe : T ≠ 5) (b : Nat) (v : Value) (bs : List Value) (s : ByteArray) (w : World) (h : BldV T b v bs w) (hlen : bs.length + s.size ≤ 140737488355328) :
  Calls Tryd.prog 75 #[.pointer (some ⟨b, 0, none⟩), .string s] w fun e w' => e = .returned (.tuple #[.int .i64 s.size, .nilIface]) ∧ BldPost T b v (bs ++ Lib.strCells s) w w' := by
 obtain ⟨i0, hi, hz0, hz1, hz2⟩ := info_parts info_u8
 have hne := h.2.2
 go_enter Tryd.func75, Tryd.ntmps75
 go_wp2_with (go_at_call 86; refine (copyCheck_any T hT b v bs _ h).mono ?_)
 rintro e w1 ⟨rfl, hbk, hown, hfr⟩
 have c0 : w1.cell? ⟨b, 0, none⟩ = some (.pointer (some ⟨b, 0, none⟩)) := by rw [Lib.cell_of_heap hbk]; rfl
 have c1 : w1.cell? ⟨b, 1, none⟩ = some v := by rw [Lib.cell_of_heap hbk]; rfl
 go_wp2_with (at_builtin; refine wpList_app_str rfl _ _ 82 9 rfl 5 i0 Tryd.underlying82 Tryd.underlying9 hi hz0 hz1 hz2 _ _ _ rfl hown s rfl ?c3 ?c4 ?_)
 case c3 => unfold maxLen; omega
 case c4 => omega
 intro v' w2 hown' hgrow hblk
 have hlt : b < w1.heap.size := (Array.getElem?_eq_some_iff.1 hbk).1
 have hb2 : w2.heap[b]? = some (.cells #[.pointer (some ⟨b, 0, none⟩), v] T (0, 0)) := by
  rw [hgrow.block b hlt (fun e => hne e.symm)]
  exact hbk
 have d0 : w2.cell? ⟨b, 0, none⟩ = some (.pointer (some ⟨b, 0, none⟩)) := by rw [Lib.cell_of_heap hb2]; rfl
 have d1 : w2.cell? ⟨b, 1, none⟩ = some v := by rw [Lib.cell_of_heap hb2]; rfl
 have f1 : w2.frozen? ⟨b, 1, none⟩ = false := Lib.frozen_of_heap hb2 1
 obtain ⟨ao, n', cap, hv'⟩ : ∃ ao n' cap, v' = .slice ao n' cap := by
  rcases hown'.2 with ⟨q, _⟩ | ⟨g, cap, cur, q, _⟩
  ·exact ⟨_, _, _, q⟩
  ·exact ⟨_, _, _, q⟩
 have fin := bld_end (bs := bs) (bs' := bs ++ Lib.strCells s) hTe hbk (by simpa [Lib.strCells_length] using hown') hb2 hfr (fr_grown hgrow fun k q => .inr q) (fun k hk => by
  rcases hblk with q | q
  ·exact .inl (by rw [← q]; exact hk)
  ·rw [q] at hk; injection hk with hk; right; have := hfr.size; omega)
 subst hv'
 go_wp2
 go_ret2
 exact ⟨rfl, fin⟩
set_option maxHeartbeats 1000000 in
theorem len_any (T : TypeId) (b : Nat) (v : Value) (bs : List Value) (w : World) (h : BldV T b v bs w) :
  Calls Tryd.prog 82 #[.pointer (some ⟨b, 0, none⟩)] w fun e w' => e = .returned (.int .i64 bs.length) ∧ w' = w := by
 obtain ⟨⟨p, _, hbk⟩, hown, hne⟩ := h
 obtain ⟨ao, cap, rfl⟩ : ∃ ao cap, v = .slice ao bs.length cap := by
  rcases hown.2 with ⟨q, h0⟩ | ⟨g, cap, cur, q, _⟩
  ·exact ⟨none, 0, by rw [q, h0]⟩
  ·exact ⟨_, _, q⟩
 have c1 : w.cell? ⟨b, 1, none⟩ = some (.slice ao bs.length cap) := by rw [Lib.cell_of_heap hbk]; rfl
 go_enter Tryd.func82, Tryd.ntmps82
 go_wp2
 go_ret
 exact ⟨rfl, rfl⟩
set_option maxHeartbeats 1000000 in
set_option maxRecDepth 100000 in
theorem string_any (T : TypeId) (b : Nat) (v : Value) (l : List UInt8) (w : World) (h : BldV T b v (Lib.byteCells l) w) (h0 : l ≠ []) :
  Calls Tryd.prog 66 #[.pointer (some ⟨b, 0, none⟩)] w fun e w' => e = .returned (.string ⟨l.toArray⟩) ∧ Fr (fun k => k = b ∨ v.ownBlock = some k) w w' := by
 obtain ⟨⟨p, _, hbk⟩, hown, hne⟩ := h
 have hl0 : l.length ≠ 0 := by simpa using h0
 rw [Lib.byteCells_length] at hown
 obtain ⟨g, cap, cur, rfl, _, hg, hnc, hcm, hcs, htake⟩ := hown.2.resolve_left (fun q => hl0 q.2)
 have c1 : w.drew.cell? ⟨b, 1, none⟩ = some (.slice (some ⟨g, 0, none⟩) l.length cap) := by
  have : w.drew.heap[b]? = some (.cells #[p, .slice (some ⟨g, 0, none⟩) l.length cap] T (0, 0)) := hbk
  rw [Lib.cell_of_heap this]; rfl
 have hSD : (Builtin.unsafeSliceData_ #[82] 110 #[.slice (some ⟨g, 0, none⟩) l.length cap]).run Tryd.prog w.drew = .ok (.pointer (some ⟨g, 0, none⟩)) w.drew :=
  Lib.run_unsafeSliceData_row _ _ _ _ _ _ (by omega)
 have hUS : (Builtin.unsafeString_ #[110, 3] 9 #[.pointer (some ⟨g, 0, none⟩), .int .i64 l.length]).run Tryd.prog w.drew = .ok (.string ⟨l.toArray⟩) (w.drew.freeze ⟨g, 0, none⟩ l.length) := by
  refine Lib.run_unsafeString_row w.drew 110 3 9 5 Tryd.underlying110 (by kernel_rfl) g cur.size (by have hg' : w.drew.heap[g]? = some (.cells cur 5 (0, 0)) := hg; simp [World.shape?, hg']) l h0 (by omega) (by unfold maxLen at hcm; omega) ?_
  intro j x hx
  exact hown.cells (g := g) rfl j (.int .u8 x.toNat) (by simp [Lib.byteCells, hx])
 have hfr : Fr (fun k => k = b ∨ (Value.slice (some ⟨g, 0, none⟩) l.length cap).ownBlock = some k) w (w.drew.freeze ⟨g, 0, none⟩ l.length) := by
  unfold World.freeze
  rw [if_neg hl0]
  refine ⟨rfl, rfl, rfl, by simp, fun k hk hn => ?_⟩
  have : g ≠ k := fun e => hn (.inr (by rw [e]; rfl))
  simp [Array.getElem?_modify, this]
  rfl
 have mixed : Tryd.prog.follows .mixedOrders = true := by kernel_rfl
 go_enter Tryd.func66, Tryd.ntmps66
 go_wp2
 go_region_o
 all_goals (go_wp2; go_ret; exact ⟨rfl, hfr⟩)
end Go.Proofs.YtjhdlcmecbngkaaDoor
namespace Go.Proofs.YtjhdlcmecbngkaaDoor
open Go Go.RowKit
set_option linter.unusedVariables false
def bldI (T : TypeId) (l : List UInt8) : Opq where
 inv := fun w R x F => ∃ b v, x = .pointer (some ⟨b, 0, none⟩) ∧ BldV T b v (Lib.byteCells l) w ∧ ∀ k, F k ↔ (k = b ∨ v.ownBlock = some k)
 mono := fun {w w' R R' x F} h hR hF => by
  obtain ⟨b, v, h1, ⟨⟨p, hp, hb⟩, h3, h4⟩, h5⟩ := h
  refine ⟨b, v, h1, ⟨⟨p, hp, (hF b ((h5 b).2 (.inl rfl))).trans hb⟩, ?_, h4⟩, h5⟩
  refine ⟨h3.1, ?_⟩
  rcases h3.2 with q | ⟨g, cap, cur, q, q2, q3, q4⟩
  ·exact .inl q
  ·exact .inr ⟨g, cap, cur, q, q2, (hF g ((h5 g).2 (.inr (by rw [q]; rfl)))).trans q3, q4⟩
 lt := fun {w R x F b} h hb => by
  obtain ⟨b', v, h1, ⟨⟨p, hp, hbk⟩, h3, h4⟩, h5⟩ := h
  rcases (h5 b).1 hb with rfl | q
  ·exact (Array.getElem?_eq_some_iff.1 hbk).1
  ·exact (h3.lt b q).2
def deadI : Opq where
 inv := fun w R x F => ∀ k, F k → k < w.heap.size
 mono := fun {w w' R R' x F} h hR hF k hk => by
  have h1 := h k hk
  have h2 := hF k hk
  rw [Array.getElem?_eq_getElem h1] at h2
  exact (Array.getElem?_eq_some_iff.1 h2).1
 lt := fun {w R x F b} h hb => h b hb
section
variable {P : Program} {w w' : World} {R : Nat → Prop}
theorem parsM_vs_inv : ∀ {vs : List Value} {ys : List Value} {F : Nat → Prop}, ParsM w R (vs.map fun z => .p (.c (.v z))) ys F → ys = vs ∧ ∀ b, ¬ F b
 | [], [], F, h => ⟨rfl, h⟩
 | [], _ :: _, F, h => h.elim
 | v :: vs, [], F, h => h.elim
 | v :: vs, y :: ys, F, h => by
  obtain ⟨F1, F2, ⟨h1, h1'⟩, h2, h3, h4⟩ := h
  obtain ⟨rfl, k2⟩ := parsM_vs_inv h2
  have e : y = v := rv_v h1
  subst e
  refine ⟨rfl, fun b hb => ?_⟩
  rcases (h4 b).1 hb with q | q
  ·exact no_blk (fun p hp => by simp at hp; exact ⟨_, hp⟩) ((h1' b).1 q)
  ·exact k2 b q
theorem parsM_vs {I' : Opq} {x : Value} {F' : Nat → Prop} (hx : OpqOk w R I' x F') (hd : ∀ b, F' b → ¬ R b) : ∀ (zs : List Value), ParsM w R ((zs.map fun z => .p (.c (.v z))) ++ [.po I']) (zs ++ [x]) F'
 | [] => ⟨F', fun _ => False, hx, fun b h => h, fun b hb => ⟨fun q => q, hd b hb⟩, fun b => by simp⟩
 | z :: zs => by
  refine ⟨fun _ => False, F', ⟨.v z, fun b => ⟨fun q => q.elim, fun q => no_blk (fun p hp => by simp at hp; exact ⟨_, hp⟩) q⟩⟩, parsM_vs hx hd zs, fun b hb => hb.elim, fun b => by simp⟩
theorem exits_vs (zs : List Value) : exitsP (zs.map fun z => .p (.c (.v z))) = [] := by
 induction zs with
 | nil => rfl
 | cons z zs ih => exact ih
theorem exitsX_vs : ∀ (zs xs : List Value), exitsX (zs.map fun z => .p (.c (.v z))) xs = []
 | [], [] => rfl
 | [], _ :: _ => rfl
 | z :: zs, [] => rfl
 | z :: zs, x :: xs => exitsX_vs zs xs
theorem funM_mo {f : FuncId} {I I' : Opq} {vs zs : List Value} (hc : Callable P f) (h : ∀ (w : World) (R : Nat → Prop) (x : Value) (F : Nat → Prop), OpqOk w R I x F → Calls P f (x :: vs).toArray w fun e w' => e = .returned (packV zs) ∧ ∃ F', Fr F w w' ∧ OpqOk w' R I' x F' ∧ ∀ b, F' b → F b ∨ w.heap.size ≤ b) :
  FunM P f (.mo I I' :: vs.map fun z => .p (.c (.v z))) (zs.map fun z => .p (.c (.v z))) := by
 refine ⟨hc, fun w R xs F hlt hp => ?_⟩
 match xs, hp with
 | x :: ys, hp =>
  obtain ⟨F1, F2, h1, h2, h3, h4⟩ := hp
  obtain ⟨rfl, h5⟩ := parsM_vs_inv h2
  have hF : ∀ b, F b ↔ F1 b := fun b => by rw [h4 b]; exact ⟨fun q => q.resolve_right (h5 b), .inl⟩
  refine (h w R x F1 h1).mono ?_
  rintro e w' ⟨rfl, F', q1, q2, q3⟩
  refine ⟨zs, R, F', rfl, by simp, fr_mono q1 fun k hk => (hF k).2 hk, fun b hb => hb, fun b hb => .inl hb, ?_, fun b hb => (q3 b hb).imp (hF b).2 id⟩
  have hd : ∀ b, F' b → ¬ R b := fun b hb hr => by
   rcases q3 b hb with q | q
   ·exact (h3 b q).2 hr
   ·have := hlt b hr; omega
  have := parsM_vs q2 hd zs
  show ParsM w' R ((zs.map fun z => .p (.c (.v z))) ++ exitsP (.mo I I' :: ys.map fun z => .p (.c (.v z)))) (zs ++ exitsX (.mo I I' :: ys.map fun z => .p (.c (.v z))) (x :: ys)) F'
  simp only [exitsP, exitsX, exits_vs, exitsX_vs]
  exact this
end
theorem bytes_str (s : ByteArray) : Lib.strCells s = Lib.byteCells s.data.toList := by simp [Lib.strCells, Lib.byteCells]
theorem bytes_app (a b : List UInt8) : Lib.byteCells (a ++ b) = Lib.byteCells a ++ Lib.byteCells b := by simp [Lib.byteCells]
structure BldT (T : TypeId) : Prop where
 lies : liesAt Tryd.prog Tryd.prog.depth T (2 / Tryd.prog.cellsOf T) 0 88 1 = true
 ne : T ≠ 5
theorem wByte_fun {T : TypeId} (hT : BldT T) (l : List UInt8) (c : Int) (h0 : 0 ≤ c) (h1 : c ≤ 255) (hl : l.length < 140737488355328) : FunM Tryd.prog 81 [.mo (bldI T l) (bldI T (l ++ [UInt8.ofNat c.toNat])), .p (.c (.v (.int .u8 c)))] [.p (.c (.v .nilIface))] := by
 refine funM_mo (vs := [.int .u8 c]) (zs := [.nilIface]) (callable Tryd.func81 (by kernel_rfl) (by kernel_rfl)) ?_
 rintro w R x F ⟨hx, b, v, rfl, hB, hF⟩
 refine (writeByte_any T hT.lies hT.ne b v _ c w hB (by rw [Lib.byteCells_length]; omega)).mono ?_
 rintro e w' ⟨rfl, v', q1, q2, q3⟩
 have e1 : Lib.byteCells (l ++ [UInt8.ofNat c.toNat]) = Lib.byteCells l ++ [.int .u8 c] := by
  rw [bytes_app]
  have : ((UInt8.ofNat c.toNat).toNat : Int) = c := by
   rw [UInt8.toNat_ofNat']; omega
  show Lib.byteCells l ++ [Value.int .u8 ((UInt8.ofNat c.toNat).toNat : Int)] = _
  rw [this]
 rw [← e1] at q1
 refine ⟨rfl, fun k => k = b ∨ v'.ownBlock = some k, fr_mono q2 fun k hk => (hF k).2 hk, ⟨⟨b, rfl⟩, b, v', rfl, q1, fun k => Iff.rfl⟩, fun k hk => ?_⟩
 rcases hk with rfl | hk
 ·exact .inl ((hF _).2 (.inl rfl))
 ·exact (q3 k hk).imp (fun q => (hF k).2 (.inr q)) id
theorem wStr_fun {T : TypeId} (hT : BldT T) (l : List UInt8) (s : ByteArray) (hl : l.length + s.size ≤ 140737488355328) : FunM Tryd.prog 75 [.mo (bldI T l) (bldI T (l ++ s.data.toList)), .p (.c (.v (.string s)))] [.p (.c (.v (.int .i64 s.size))), .p (.c (.v .nilIface))] := by
 refine funM_mo (vs := [.string s]) (zs := [.int .i64 s.size, .nilIface]) (callable Tryd.func75 (by kernel_rfl) (by kernel_rfl)) ?_
 rintro w R x F ⟨hx, b, v, rfl, hB, hF⟩
 refine (writeString_any T hT.lies hT.ne b v _ s w hB (by rw [Lib.byteCells_length]; omega)).mono ?_
 rintro e w' ⟨rfl, v', q1, q2, q3⟩
 rw [bytes_str, ← bytes_app] at q1
 refine ⟨rfl, fun k => k = b ∨ v'.ownBlock = some k, fr_mono q2 fun k hk => (hF k).2 hk, ⟨⟨b, rfl⟩, b, v', rfl, q1, fun k => Iff.rfl⟩, fun k hk => ?_⟩
 rcases hk with rfl | hk
 ·exact .inl ((hF _).2 (.inl rfl))
 ·exact (q3 k hk).imp (fun q => (hF k).2 (.inr q)) id
theorem bLen_fun {T : TypeId} (l : List UInt8) : FunM Tryd.prog 82 [.mo (bldI T l) (bldI T l)] [.p (.c (.v (.int .i64 l.length)))] := by
 refine funM_mo (vs := []) (zs := [.int .i64 l.length]) (callable Tryd.func82 (by kernel_rfl) (by kernel_rfl)) ?_
 rintro w R x F ⟨hx, b, v, rfl, hB, hF⟩
 refine (len_any T b v _ w hB).mono ?_
 rintro e w' ⟨rfl, rfl⟩
 rw [Lib.byteCells_length]
 exact ⟨rfl, F, Fr.refl _ _, ⟨hx, b, v, rfl, hB, hF⟩, fun k hk => .inl hk⟩
theorem bString_fun {T : TypeId} (l : List UInt8) (h0 : l ≠ []) : FunM Tryd.prog 66 [.mo (bldI T l) deadI] [.p (.c (.v (.string ⟨l.toArray⟩)))] := by
 refine funM_mo (vs := []) (zs := [.string ⟨l.toArray⟩]) (callable Tryd.func66 (by kernel_rfl) (by kernel_rfl)) ?_
 rintro w R x F ⟨hx, b, v, rfl, hB, hF⟩
 have hlt : ∀ k, F k → k < w.heap.size := fun k hk => (bldI T l).lt (R := R) ⟨b, v, rfl, hB, hF⟩ hk
 refine (string_any T b v l w hB h0).mono ?_
 rintro e w' ⟨rfl, q⟩
 exact ⟨rfl, F, fr_mono q fun k hk => (hF k).2 hk, ⟨hx, fun k hk => Nat.lt_of_lt_of_le (hlt k hk) q.size⟩, fun k hk => .inl hk⟩
end Go.Proofs.YtjhdlcmecbngkaaDoor
namespace Go.Proofs.YtjhdlcmecbngkaaDoor
open Go Go.RowKit Pl
set_option linter.unusedVariables false
namespace Pl
def twoB (n : Int) : List UInt8 := [UInt8.ofNat (n / 256).toNat, UInt8.ofNat (n % 256).toNat]
def twosB (ns : List Int) : List UInt8 := ns.flatMap twoB
theorem twosB_len (ns : List Int) : (twosB ns).length = 2 * ns.length := by
 induction ns with
 | nil => rfl
 | cons n ns ih =>
  show (twoB n ++ twosB ns).length = _
  rw [List.length_append, ih, List.length_cons]
  show 2 + _ = _
  omega
theorem twosB_next {ns : List Int} {k : Nat} (hk : k < ns.length) : twosB (ns.take (k + 1)) = twosB (ns.take k) ++ [UInt8.ofNat (ns[k] / 256).toNat] ++ [UInt8.ofNat (ns[k] % 256).toNat] := by
 unfold twosB
 rw [List.take_add_one, List.getElem?_eq_getElem hk, List.flatMap_append]
 simp [twoB]
def labB (s : ByteArray) : List UInt8 := UInt8.ofNat s.size :: s.data.toList
def labsB (l : List ByteArray) : List UInt8 := l.flatMap labB
def nameB (s : ByteArray) : List UInt8 := labsB (labelsP s) ++ [0]
theorem labsB_next {l : List ByteArray} {k : Nat} (hk : k < l.length) : labsB (l.take (k + 1)) = labsB (l.take k) ++ [UInt8.ofNat l[k].size] ++ l[k].data.toList := by
 unfold labsB
 rw [List.take_add_one, List.getElem?_eq_getElem hk, List.flatMap_append]
 simp [labB]
theorem labsB_len {l : List ByteArray} {m : Nat} (h : ∀ s ∈ l, s.size ≤ m) : (labsB l).length ≤ (m + 1) * l.length := by
 induction l with
 | nil => simp [labsB]
 | cons s l ih =>
  have h1 := ih fun x hx => h x (List.mem_cons_of_mem _ hx)
  have h2 := h s (List.mem_cons_self ..)
  show (labB s ++ labsB l).length ≤ _
  rw [List.length_append, List.length_cons, Nat.mul_add]
  show (s.data.toList.length + 1) + _ ≤ _
  have : s.data.toList.length = s.size := by simp
  omega
end Pl
def nRow (n : Int) : List V := [.v (.int .i64 n)]
instance : FlatRow nRow := ⟨fun x u hu => by simp [nRow] at hu; exact ⟨_, hu⟩⟩
abbrev wT : TypeId := 90
theorem wBT : BldT wT := ⟨by kernel_rfl, by decide⟩
theorem u8_wrap (n : Int) : IntKind.u8.wrap n = n % 256 := rfl
theorem u8_hi {n : Int} (h0 : 0 ≤ n) (h1 : n ≤ 65535) : IntKind.u8.wrap (n / 256) = n / 256 := by
 rw [u8_wrap]; omega
theorem u8_lo {n : Int} (h0 : 0 ≤ n) : IntKind.u8.wrap n = n % 256 := u8_wrap n
theorem fdiv256 (n : Int) : n.fdiv (2 ^ min (Int.toNat 8) IntKind.i64.bits) = n / 256 := by
 show n.fdiv 256 = _
 exact Int.fdiv_eq_ediv_of_nonneg _ (by decide)
theorem two_fun (l : List UInt8) (c : Bool) (ns : List Int) (h : ∀ n ∈ ns, 0 ≤ n ∧ n ≤ 65535) (hn : ns.length ≤ 100) (hl : l.length ≤ 1000000) : FunM Tryd.prog 63 [.mo (bldI wT l) (bldI wT (l ++ twosB ns)), .p (.c (.sl c (ns.map nRow)))] [] := by
 refine funM_x ck_dns_writer_two rfl rfl (nd_b rfl) ?_
 (refine goI ?_; repeat (intro gg; refine goI ?_))
 rw [List.length_map]
 (refine ⟨[], none, {k : Nat // k ≤ ns.length}, [0, 6, 7], fun ⟨k, hk⟩ => [(8, .v (.int .i64 k))], [], fun ⟨k, hk⟩ => [(0, ⟨0, .q (bldI wT (l ++ twosB (ns.take k))), 0, []⟩)], fun ⟨k, hk⟩ => ns.length - k, trivial, fun _ => ⟨trivial, fun _ => ⟨⟨0, by omega⟩, tI, keptE_refl _ _, ?_, keptH_refl _ _⟩⟩, fun ⟨k, hk⟩ => ?_⟩; focus (exact ⟨congrArg (fun r => some (Ent.mk 0 (.q (bldI wT r)) 0 [])) (show l = l ++ twosB (ns.take 0) by simp [twosB]), trivial⟩))
 (refine goI ?_; repeat (intro gg; refine goI ?_))
 (refine bIf_of (fun h1 => ?_) (fun h1 => ?_) <;> rw [h1])
 ·have hlt : k < ns.length := (by have := of_decide_eq_true h1; omega)
  obtain ⟨b0, b1⟩ := h _ (List.getElem_mem hlt)
  have hlen : (twosB (ns.take k)).length ≤ 200 := by rw [twosB_len, List.length_take]; omega
  have e : l ++ twosB (ns.take k) ++ [UInt8.ofNat (ns[k] / 256).toNat] ++ [UInt8.ofNat (ns[k] % 256).toNat] = l ++ twosB (ns.take (k + 1)) := by rw [twosB_next hlt, List.append_assoc, List.append_assoc, List.append_assoc]
  (refine goI ?_; repeat (intro gg; refine goI ?_))
  refine ⟨k, _, rfl, row_map hlt, ?_⟩
  (refine goI ?_; repeat (intro gg; refine goI ?_))
  refine ⟨by decide, _, fdiv256 _, ?_⟩
  (refine goI ?_; repeat (intro gg; refine goI ?_))
  refine ⟨_, u8_hi b0 b1, ?_⟩
  (refine goI ?_; repeat (intro gg; refine goI ?_))
  (refine .inr (.inl ⟨_, _, false, [0], aM, wByte_fun wBT (l ++ twosB (ns.take k)) (ns[k] / 256) (by omega) (by omega) (by rw [List.length_append]; omega), nobor, oI, dI, ?_⟩))
  (refine goI ?_; repeat (intro gg; refine goI ?_))
  refine ⟨_, u8_lo b0, ?_⟩
  (refine goI ?_; repeat (intro gg; refine goI ?_))
  (refine .inr (.inl ⟨_, _, false, [0], aM, wByte_fun wBT (l ++ twosB (ns.take k) ++ [UInt8.ofNat (ns[k] / 256).toNat]) (ns[k] % 256) (by omega) (by omega) (by rw [List.length_append, List.length_append]; simp only [List.length_cons, List.length_nil]; omega), nobor, oI, dI, ?_⟩))
  (refine goI ?_; repeat (intro gg; refine goI ?_))
  (exact ⟨none, trivial, fun gr => ⟨⟨k + 1, by omega⟩, by show ns.length - (k + 1) < ns.length - k; omega, tI, tI, ⟨congrArg (fun r => some (Ent.mk 0 (.q (bldI wT r)) 0 [])) e, trivial⟩, tI⟩⟩)
 ·have hge : ¬ k < ns.length := (by have := of_decide_eq_false h1; omega)
  obtain rfl : k = ns.length := by omega
  rw [show twosB ns = twosB (ns.take ns.length) by rw [List.take_length]]
  (refine goI ?_; repeat (intro gg; refine goI ?_))
  (exact ⟨[0], aM⟩)
theorem name_fun (l : List UInt8) (s : ByteArray) (hs : nameErr s = 0) (hsz : s.size ≤ 120) (hl : l.length ≤ 1000000) : FunM Tryd.prog 64 [.mo (bldI wT l) (bldI wT (l ++ nameB s)), .p (.c (.v (.string s)))] [] := by
 have hlab := labelsP_len s
 have hsm : ∀ x ∈ labelsP s, x.size ≤ 120 := fun x hx => Nat.le_trans (labelsP_size hx) hsz
 have hL := labels_fun s (by omega)
 refine funM_x ck_dns_writer_name rfl rfl (nd_b rfl) ?_
 (refine goI ?_; repeat (intro gg; refine goI ?_))
 (refine .inl ⟨_, _, false, [], aI, hL, nobor, nI, ?_⟩)
 unfold nameB
 generalize labelsP s = ls at *
 (refine goI ?_; repeat (intro gg; refine goI ?_))
 rw [List.length_map]
 (refine ⟨[], none, {k : Nat // k ≤ ls.length}, [0, 7, 8], fun ⟨k, hk⟩ => [(9, .v (.int .i64 k))], [], fun ⟨k, hk⟩ => [(0, ⟨0, .q (bldI wT (l ++ labsB (ls.take k))), 0, []⟩)], fun ⟨k, hk⟩ => ls.length - k, trivial, fun _ => ⟨trivial, fun _ => ⟨⟨0, by omega⟩, tI, keptE_refl _ _, ?_, keptH_refl _ _⟩⟩, fun ⟨k, hk⟩ => ?_⟩; focus (exact ⟨congrArg (fun r => some (Ent.mk 0 (.q (bldI wT r)) 0 [])) (show l = l ++ labsB (ls.take 0) by simp [labsB]), trivial⟩))
 have hlen : (labsB (ls.take k)).length ≤ 121 * 121 := by
  have h1 := labsB_len (l := ls.take k) (m := 120) (fun x hx => hsm x (List.mem_of_mem_take hx))
  rw [List.length_take] at h1
  have : min k ls.length ≤ 121 := by omega
  have := Nat.mul_le_mul_left 121 this
  omega
 (refine goI ?_; repeat (intro gg; refine goI ?_))
 (refine bIf_of (fun h1 => ?_) (fun h1 => ?_) <;> rw [h1])
 ·have hlt : k < ls.length := (by have := of_decide_eq_true h1; omega)
  have hz := hsm _ (List.getElem_mem hlt)
  have e : l ++ labsB (ls.take k) ++ [UInt8.ofNat ((ls[k].size : Nat) : Int).toNat] ++ ls[k].data.toList = l ++ labsB (ls.take (k + 1)) := by rw [labsB_next hlt, Int.toNat_natCast, List.append_assoc, List.append_assoc, List.append_assoc]
  (refine goI ?_; repeat (intro gg; refine goI ?_))
  refine ⟨k, _, rfl, row_map hlt, ?_⟩
  (refine goI ?_; repeat (intro gg; refine goI ?_))
  refine ⟨((ls[k].size : Nat) : Int), by rw [u8_wrap]; omega, ?_⟩
  (refine goI ?_; repeat (intro gg; refine goI ?_))
  (refine .inr (.inl ⟨_, _, false, [0], aM, wByte_fun wBT (l ++ labsB (ls.take k)) ((ls[k].size : Nat) : Int) (by omega) (by omega) (by rw [List.length_append]; omega), nobor, oI, dI, ?_⟩))
  (refine goI ?_; repeat (intro gg; refine goI ?_))
  (refine .inr (.inl ⟨_, _, false, [0], aM, wStr_fun wBT (l ++ labsB (ls.take k) ++ [UInt8.ofNat ((ls[k].size : Nat) : Int).toNat]) ls[k] (by rw [List.length_append, List.length_append]; simp only [List.length_cons, List.length_nil]; omega), nobor, oI, dI, ?_⟩))
  (refine goI ?_; repeat (intro gg; refine goI ?_))
  (exact ⟨none, trivial, fun gr => ⟨⟨k + 1, by omega⟩, by show ls.length - (k + 1) < ls.length - k; omega, tI, tI, ⟨congrArg (fun r => some (Ent.mk 0 (.q (bldI wT r)) 0 [])) e, trivial⟩, tI⟩⟩)
 ·have hge : ¬ k < ls.length := (by have := of_decide_eq_false h1; omega)
  obtain rfl : k = ls.length := by omega
  have e : l ++ labsB (ls.take ls.length) ++ [UInt8.ofNat (0 : Int).toNat] = l ++ (labsB ls ++ [0]) := by rw [List.take_length, List.append_assoc]; rfl
  rw [← e]
  (refine goI ?_; repeat (intro gg; refine goI ?_))
  (refine .inr (.inl ⟨_, _, false, [0], aM, wByte_fun wBT (l ++ labsB (ls.take ls.length)) 0 (by omega) (by omega) (by rw [List.length_append]; omega), nobor, oI, dI, ?_⟩))
  (refine goI ?_; repeat (intro gg; refine goI ?_))
  (exact ⟨[0], aM⟩)
end Go.Proofs.YtjhdlcmecbngkaaDoor
namespace Go.Proofs.YtjhdlcmecbngkaaDoor
open Go Go.RowKit Pl
set_option linter.unusedVariables false
namespace Pl
structure Rr where
 nm : ByteArray
 ty : Int
 ls : Int
 ad : Int
 tx : ByteArray
 pt : Int
 tg : ByteArray
structure Ms where
 id : Int
 an : Bool
 ct : Bool
 co : Int
 qn : ByteArray
 qt : Int
 rs : List Rr
def inB (r : Rr) : List UInt8 := if r.ty = 1 then twosB [r.ad / 65536, r.ad % 65536] else if r.ty = 16 then UInt8.ofNat r.tx.size :: r.tx.data.toList else twosB [0, 0, r.pt] ++ nameB r.tg
def recB (r : Rr) : List UInt8 := nameB r.nm ++ twosB [r.ty, 1, r.ls / 65536, r.ls % 65536] ++ twosB [((inB r).length : Int)] ++ inB r
def flagsM (m : Ms) : Int := m.co + (if m.an then 32768 else 0) + (if m.ct then 512 else 0)
def recsB (l : List Rr) : List UInt8 := l.flatMap recB
def msgB (m : Ms) : List UInt8 := twosB [m.id, flagsM m, 1, (m.rs.length : Int), 0, 0] ++ nameB m.qn ++ twosB [m.qt, 1] ++ recsB m.rs
structure Rr.Good (r : Rr) : Prop where
 nm : nameErr r.nm = 0
 nmz : r.nm.size ≤ 120
 ty : r.ty = 1 ∨ r.ty = 16 ∨ r.ty = 33
 ls : 0 ≤ r.ls ∧ r.ls ≤ 2147483647
 ad : 0 ≤ r.ad ∧ r.ad ≤ 4294967295
 pt : 0 ≤ r.pt ∧ r.pt ≤ 65535
 tx : r.tx.size ≤ 200
 tg : nameErr r.tg = 0
 tgz : r.tg.size ≤ 120
structure Ms.Good (m : Ms) : Prop where
 id : 0 ≤ m.id ∧ m.id ≤ 65535
 co : 0 ≤ m.co ∧ m.co ≤ 15
 qn : nameErr m.qn = 0
 qnz : m.qn.size ≤ 120
 qt : m.qt = 1 ∨ m.qt = 16 ∨ m.qt = 33
 len : m.rs.length ≤ 20
 rs : ∀ r ∈ m.rs, r.Good
theorem nameB_len {s : ByteArray} (h : s.size ≤ 120) : (nameB s).length ≤ 15000 := by
 have h1 := labsB_len (l := labelsP s) (m := 120) (fun x hx => Nat.le_trans (labelsP_size hx) h)
 have h2 := labelsP_len s
 have := Nat.mul_le_mul_left 121 (show (labelsP s).length ≤ 121 by omega)
 unfold nameB
 rw [List.length_append]
 simp only [List.length_cons, List.length_nil]
 omega
theorem inB_len {r : Rr} (h : r.Good) : 0 < (inB r).length ∧ (inB r).length ≤ 15100 := by
 have h1 := nameB_len h.tgz
 have h2 := h.tx
 have h3 : r.tx.data.toList.length = r.tx.size := by simp
 unfold inB
 split
 ·rw [twosB_len]; simp
 ·split
  ·rw [List.length_cons]; omega
  ·rw [List.length_append, twosB_len]; simp only [List.length_cons, List.length_nil]; omega
theorem recB_len {r : Rr} (h : r.Good) : (recB r).length ≤ 31000 := by
 have h1 := nameB_len h.nmz
 have h2 := (inB_len h).2
 unfold recB
 rw [List.length_append, List.length_append, List.length_append, twosB_len, twosB_len]
 simp only [List.length_cons, List.length_nil]
 omega
theorem recsB_next {l : List Rr} {k : Nat} (hk : k < l.length) : recsB (l.take (k + 1)) = recsB (l.take k) ++ recB l[k] := by
 unfold recsB
 rw [List.take_add_one, List.getElem?_eq_getElem hk, List.flatMap_append]
 simp
theorem recsB_len {l : List Rr} (h : ∀ r ∈ l, r.Good) : (recsB l).length ≤ 31000 * l.length := by
 induction l with
 | nil => simp [recsB]
 | cons r l ih =>
  have h1 := ih fun x hx => h x (List.mem_cons_of_mem _ hx)
  have h2 := recB_len (h r (List.mem_cons_self ..))
  show (recB r ++ recsB l).length ≤ _
  rw [List.length_append, List.length_cons]
  omega
def Rr.row (r : Rr) : List V := [.v (.string r.nm), .v (.int .i64 r.ty), .v (.int .i64 r.ls), .v (.int .i64 r.ad), .v (.string r.tx), .v (.int .i64 r.pt), .v (.string r.tg)]
instance : FlatRow Rr.row := ⟨fun x u hu => by simp [Rr.row] at hu; rcases hu with rfl | rfl | rfl | rfl | rfl | rfl | rfl <;> exact ⟨_, rfl⟩⟩
instance : OneRow Rr.row 7 := ⟨fun _ => rfl, fun x u hu => by simp [Rr.row] at hu; rcases hu with rfl | rfl | rfl | rfl | rfl | rfl | rfl <;> exact ⟨_, rfl, rfl⟩⟩
def Ms.row (m : Ms) : List V := [.v (.int .i64 m.id), .v (.bool m.an), .v (.bool m.ct), .v (.int .i64 m.co), .v (.string m.qn), .v (.int .i64 m.qt), .sl false (m.rs.map Rr.row)]
end Pl
theorem flat_w {I : Opq} {T : TypeId} {l : List UInt8} {u : V} : ∀ p ∈ ([] : List ParM) ++ exitsP [.mo I (bldI T l), .p (.c u)], flatM p := by
 intro p hp
 simp only [exitsP, List.nil_append, List.mem_cons, List.not_mem_nil, or_false] at hp
 subst hp
 exact fun _ _ _ _ _ h => h
theorem bld_fold : Folds wT [.v (.pointer none), .v (.slice none 0 0)] (bldI wT []) := by
 intro w R b xs hown hrv
 rcases hown.2 with ⟨q, _⟩ | ⟨g, cap, cur, q, _, hg, hnc, hcm, hcs, htake⟩
 ·cases q
 ·injection q with q1 q2 q3
  injection q1 with q1
  injection q1 with q1
  subst q1 q3
  have hl : cur.toList.length = 2 := by simpa using hcs
  have hx : cur.toList = xs := by rw [← htake, List.take_of_length_le (by rw [hl]; exact Nat.le_refl _)]
  match xs, hx with
  | [x0, x1], hx =>
   have e0 : x0 = .pointer none := rv_v (hrv 0 _ x0 rfl rfl)
   have e1 : x1 = .slice none 0 0 := rv_v (hrv 1 _ x1 rfl rfl)
   subst e0 e1
   have hc : cur = #[.pointer none, .slice none 0 0] := by apply Array.ext'; rw [hx]
   subst hc
   exact ⟨b, .slice none 0 0, rfl, ⟨⟨_, .inl rfl, hg⟩, World.ownsRow_nil _ _ _ _, by simp [Value.ownBlock]⟩, fun k => by simp [Value.ownBlock]⟩
  | [], hx => rw [hx] at hl; simp at hl
  | [_], hx => rw [hx] at hl; simp at hl
  | _ :: _ :: _ :: _, hx => rw [hx] at hl; simp at hl
theorem fdiv65536 (n : Int) : n.fdiv (2 ^ min (Int.toNat 16) IntKind.i64.bits) = n / 65536 := by
 show n.fdiv 65536 = _
 exact Int.fdiv_eq_ediv_of_nonneg _ (by decide)
theorem and_65535 {n : Int} (h0 : 0 ≤ n) (h1 : n ≤ 9223372036854775807) : IntKind.i64.wrap ((BitVec.ofInt IntKind.i64.bits n &&& BitVec.ofInt IntKind.i64.bits 65535).toNat) = n % 65536 := by
 obtain ⟨k, rfl⟩ := Int.eq_ofNat_of_zero_le h0
 have e1 : (BitVec.ofInt IntKind.i64.bits (k : Int) &&& BitVec.ofInt IntKind.i64.bits 65535).toNat = k % 65536 := by
  show (BitVec.ofInt 64 (k : Int) &&& BitVec.ofInt 64 65535).toNat = _
  rw [BitVec.toNat_and]
  have a1 : (BitVec.ofInt 64 (k : Int)).toNat = k := by
   rw [BitVec.ofInt_natCast, BitVec.toNat_ofNat]; exact Nat.mod_eq_of_lt (by omega)
  have a2 : (BitVec.ofInt 64 65535).toNat = 2 ^ 16 - 1 := by decide
  rw [a1, a2, Nat.and_two_pow_sub_one_eq_mod]
 rw [e1]
 have : k % 65536 < 65536 := Nat.mod_lt _ (by decide)
 rw [wrap_ok (by omega) (by omega)]
 rfl
set_option maxHeartbeats 2000000 in
theorem record1_fun (l : List UInt8) (r : Rr) (hr : r.Good) (hty : r.ty = 1) (hl : l.length ≤ 900000) : FunM Tryd.prog 65 [.mo (bldI wT l) (bldI wT (l ++ recB r)), .p (.c (.agg r.row))] [] := by
 have hin := inB_len hr
 have hnl := nameB_len hr.nmz
 obtain ⟨nm, ty, ls, ad, tx, pt, tg⟩ := r
 obtain ⟨h1, h2, _, h4, h5, h6, h7, h8, h9⟩ := hr
 simp only at h1 h2 h4 h5 h6 h7 h8 h9 hty hnl
 subst hty
 have eI : inB ⟨nm, 1, ls, ad, tx, pt, tg⟩ = twosB [ad / 65536, ad % 65536] := rfl
 rw [eI] at hin
 have e : l ++ nameB nm ++ twosB [1, 1, ls / 65536, ls % 65536] ++ twosB [((twosB [ad / 65536, ad % 65536]).length : Int)] ++ (⟨(twosB [ad / 65536, ad % 65536]).toArray⟩ : ByteArray).data.toList = l ++ recB ⟨nm, 1, ls, ad, tx, pt, tg⟩ := by
  unfold recB
  rw [eI]
  simp only [List.append_assoc]
 rw [← e]
 have hne : twosB [ad / 65536, ad % 65536] ≠ [] := fun q => by rw [q] at hin; simp at hin
 refine funM_x ck_dns_writer_record rfl rfl (nd_b rfl) ?_
 (refine goI ?_; repeat (intro gg; refine goI ?_))
 (refine .inr (.inl ⟨_, _, false, [0], aM, name_fun l nm h1 h2 (by omega), nobor, oI, dI, ?_⟩))
 (refine goI ?_; repeat (intro gg; refine goI ?_))
 refine ⟨by decide, _, fdiv65536 _, ?_⟩
 (refine goI ?_; repeat (intro gg; refine goI ?_))
 refine ⟨_, and_65535 h4.1 (Int.le_trans h4.2 (by decide)), ?_⟩
 (refine goI ?_; repeat (intro gg; refine goI ?_))
 (refine .inr (.inl ⟨_, _, true, [0], aM, two_fun (l ++ nameB nm) false [1, 1, ls / 65536, ls % 65536] (by simp only [List.mem_cons, List.not_mem_nil, or_false, forall_eq_or_imp, forall_eq]; omega) (by simp) (by rw [List.length_append]; omega), (fun _ => flat_w), oI, dI, ?_⟩))
 (refine goI ?_; repeat (intro gg; refine goI ?_))
 refine ⟨by decide, _, fdiv65536 _, ?_⟩
 (refine goI ?_; repeat (intro gg; refine goI ?_))
 refine ⟨_, and_65535 h5.1 (Int.le_trans h5.2 (by decide)), ?_⟩
 (refine goI ?_; repeat (intro gg; refine goI ?_))
 (refine .inr (.inl ⟨_, _, true, [336], aM_fo rfl (cl_row rfl) bld_fold (by decide) (by decide) aM, two_fun [] false [ad / 65536, ad % 65536] (by simp only [List.mem_cons, List.not_mem_nil, or_false, forall_eq_or_imp, forall_eq]; omega) (by simp) (by simp), (fun _ => flat_w), oI, dI, ?_⟩))
 (refine goI ?_; repeat (intro gg; refine goI ?_))
 (refine .inr (.inl ⟨_, _, false, [336], aM, bLen_fun (T := wT) (twosB [ad / 65536, ad % 65536]), nobor, oI, dI, ?_⟩))
 (refine goI ?_; repeat (intro gg; refine goI ?_))
 (refine .inr (.inl ⟨_, _, true, [0], aM, two_fun (l ++ nameB nm ++ twosB [1, 1, ls / 65536, ls % 65536]) false [((twosB [ad / 65536, ad % 65536]).length : Int)] (by simp only [List.mem_cons, List.not_mem_nil, or_false, forall_eq]; omega) (by simp) (by simp only [List.length_append, twosB_len, List.length_cons, List.length_nil]; omega), (fun _ => flat_w), oI, dI, ?_⟩))
 (refine goI ?_; repeat (intro gg; refine goI ?_))
 (refine .inr (.inl ⟨_, _, false, [336], aM, bString_fun (T := wT) (twosB [ad / 65536, ad % 65536]) hne, nobor, oI, dI, ?_⟩))
 (refine goI ?_; repeat (intro gg; refine goI ?_))
 refine ⟨⟨trivial, rfl, rfl, trivial, trivial, trivial, trivial⟩, ?_⟩
 (refine goI ?_; repeat (intro gg; refine goI ?_))
 (refine .inr (.inl ⟨_, _, false, [0], aM, wStr_fun wBT (l ++ nameB nm ++ twosB [1, 1, ls / 65536, ls % 65536] ++ twosB [((twosB [ad / 65536, ad % 65536]).length : Int)]) ⟨(twosB [ad / 65536, ad % 65536]).toArray⟩ (by simp only [List.length_append, twosB_len, List.length_cons, List.length_nil]; show _ + (twosB [ad / 65536, ad % 65536]).toArray.size ≤ _; rw [List.size_toArray]; omega), nobor, oI, dI, ?_⟩))
 (refine goI ?_; repeat (intro gg; refine goI ?_))
 (exact ⟨[0], aM⟩)
set_option maxHeartbeats 2000000 in
theorem record2_fun (l : List UInt8) (r : Rr) (hr : r.Good) (hty : r.ty = 16) (hl : l.length ≤ 900000) : FunM Tryd.prog 65 [.mo (bldI wT l) (bldI wT (l ++ recB r)), .p (.c (.agg r.row))] [] := by
 have hin := inB_len hr
 have hnl := nameB_len hr.nmz
 obtain ⟨nm, ty, ls, ad, tx, pt, tg⟩ := r
 obtain ⟨h1, h2, _, h4, h5, h6, h7, h8, h9⟩ := hr
 simp only at h1 h2 h4 h5 h6 h7 h8 h9 hty hnl
 subst hty
 have eI : inB ⟨nm, 16, ls, ad, tx, pt, tg⟩ = (UInt8.ofNat tx.size :: tx.data.toList) := rfl
 rw [eI] at hin
 have e : l ++ nameB nm ++ twosB [16, 1, ls / 65536, ls % 65536] ++ twosB [(((UInt8.ofNat tx.size :: tx.data.toList)).length : Int)] ++ (⟨((UInt8.ofNat tx.size :: tx.data.toList)).toArray⟩ : ByteArray).data.toList = l ++ recB ⟨nm, 16, ls, ad, tx, pt, tg⟩ := by
  unfold recB
  rw [eI]
  simp only [List.append_assoc]
 rw [← e]
 have hne : (UInt8.ofNat tx.size :: tx.data.toList) ≠ [] := fun q => by rw [q] at hin; simp at hin
 refine funM_x ck_dns_writer_record rfl rfl (nd_b rfl) ?_
 (refine goI ?_; repeat (intro gg; refine goI ?_))
 (refine .inr (.inl ⟨_, _, false, [0], aM, name_fun l nm h1 h2 (by omega), nobor, oI, dI, ?_⟩))
 (refine goI ?_; repeat (intro gg; refine goI ?_))
 refine ⟨by decide, _, fdiv65536 _, ?_⟩
 (refine goI ?_; repeat (intro gg; refine goI ?_))
 refine ⟨_, and_65535 h4.1 (Int.le_trans h4.2 (by decide)), ?_⟩
 (refine goI ?_; repeat (intro gg; refine goI ?_))
 (refine .inr (.inl ⟨_, _, true, [0], aM, two_fun (l ++ nameB nm) false [16, 1, ls / 65536, ls % 65536] (by simp only [List.mem_cons, List.not_mem_nil, or_false, forall_eq_or_imp, forall_eq]; omega) (by simp) (by rw [List.length_append]; omega), (fun _ => flat_w), oI, dI, ?_⟩))
 (refine goI ?_; repeat (intro gg; refine goI ?_))
 refine ⟨((tx.size : Nat) : Int), by show ((tx.size : Nat) : Int) % 256 = _; omega, ?_⟩
 (refine goI ?_; repeat (intro gg; refine goI ?_))
 (refine .inr (.inl ⟨_, _, false, [336], aM_fo rfl (cl_row rfl) bld_fold (by decide) (by decide) aM, wByte_fun wBT [] ((tx.size : Nat) : Int) (by omega) (by omega) (by simp), nobor, oI, dI, ?_⟩))
 (refine goI ?_; repeat (intro gg; refine goI ?_))
 (refine .inr (.inl ⟨_, _, false, [336], aM, wStr_fun wBT ([] ++ [UInt8.ofNat ((tx.size : Nat) : Int).toNat]) tx (by simp only [List.length_append, List.length_cons, List.length_nil]; omega), nobor, oI, dI, ?_⟩))
 (refine goI ?_; repeat (intro gg; refine goI ?_))
 (refine .inr (.inl ⟨_, _, false, [336], aM, bLen_fun (T := wT) ((UInt8.ofNat tx.size :: tx.data.toList)), nobor, oI, dI, ?_⟩))
 (refine goI ?_; repeat (intro gg; refine goI ?_))
 (refine .inr (.inl ⟨_, _, true, [0], aM, two_fun (l ++ nameB nm ++ twosB [16, 1, ls / 65536, ls % 65536]) false [(((UInt8.ofNat tx.size :: tx.data.toList)).length : Int)] (by simp only [List.mem_cons, List.not_mem_nil, or_false, forall_eq]; omega) (by simp) (by simp only [List.length_append, twosB_len, List.length_cons, List.length_nil]; omega), (fun _ => flat_w), oI, dI, ?_⟩))
 (refine goI ?_; repeat (intro gg; refine goI ?_))
 (refine .inr (.inl ⟨_, _, false, [336], aM, bString_fun (T := wT) ((UInt8.ofNat tx.size :: tx.data.toList)) hne, nobor, oI, dI, ?_⟩))
 (refine goI ?_; repeat (intro gg; refine goI ?_))
 refine ⟨⟨trivial, rfl, rfl, trivial, trivial, trivial, trivial⟩, ?_⟩
 (refine goI ?_; repeat (intro gg; refine goI ?_))
 (refine .inr (.inl ⟨_, _, false, [0], aM, wStr_fun wBT (l ++ nameB nm ++ twosB [16, 1, ls / 65536, ls % 65536] ++ twosB [(((UInt8.ofNat tx.size :: tx.data.toList)).length : Int)]) ⟨((UInt8.ofNat tx.size :: tx.data.toList)).toArray⟩ (by simp only [List.length_append, twosB_len, List.length_cons, List.length_nil]; show _ + ((UInt8.ofNat tx.size :: tx.data.toList)).toArray.size ≤ _; rw [List.size_toArray]; omega), nobor, oI, dI, ?_⟩))
 (refine goI ?_; repeat (intro gg; refine goI ?_))
 (exact ⟨[0], aM⟩)
set_option maxHeartbeats 2000000 in
theorem record3_fun (l : List UInt8) (r : Rr) (hr : r.Good) (hty : r.ty = 33) (hl : l.length ≤ 900000) : FunM Tryd.prog 65 [.mo (bldI wT l) (bldI wT (l ++ recB r)), .p (.c (.agg r.row))] [] := by
 have hin := inB_len hr
 have hnl := nameB_len hr.nmz
 obtain ⟨nm, ty, ls, ad, tx, pt, tg⟩ := r
 obtain ⟨h1, h2, _, h4, h5, h6, h7, h8, h9⟩ := hr
 simp only at h1 h2 h4 h5 h6 h7 h8 h9 hty hnl
 subst hty
 have eI : inB ⟨nm, 33, ls, ad, tx, pt, tg⟩ = (twosB [0, 0, pt] ++ nameB tg) := rfl
 rw [eI] at hin
 have e : l ++ nameB nm ++ twosB [33, 1, ls / 65536, ls % 65536] ++ twosB [(((twosB [0, 0, pt] ++ nameB tg)).length : Int)] ++ (⟨((twosB [0, 0, pt] ++ nameB tg)).toArray⟩ : ByteArray).data.toList = l ++ recB ⟨nm, 33, ls, ad, tx, pt, tg⟩ := by
  unfold recB
  rw [eI]
  simp only [List.append_assoc]
 rw [← e]
 have hne : (twosB [0, 0, pt] ++ nameB tg) ≠ [] := fun q => by rw [q] at hin; simp at hin
 refine funM_x ck_dns_writer_record rfl rfl (nd_b rfl) ?_
 (refine goI ?_; repeat (intro gg; refine goI ?_))
 (refine .inr (.inl ⟨_, _, false, [0], aM, name_fun l nm h1 h2 (by omega), nobor, oI, dI, ?_⟩))
 (refine goI ?_; repeat (intro gg; refine goI ?_))
 refine ⟨by decide, _, fdiv65536 _, ?_⟩
 (refine goI ?_; repeat (intro gg; refine goI ?_))
 refine ⟨_, and_65535 h4.1 (Int.le_trans h4.2 (by decide)), ?_⟩
 (refine goI ?_; repeat (intro gg; refine goI ?_))
 (refine .inr (.inl ⟨_, _, true, [0], aM, two_fun (l ++ nameB nm) false [33, 1, ls / 65536, ls % 65536] (by simp only [List.mem_cons, List.not_mem_nil, or_false, forall_eq_or_imp, forall_eq]; omega) (by simp) (by rw [List.length_append]; omega), (fun _ => flat_w), oI, dI, ?_⟩))
 (refine goI ?_; repeat (intro gg; refine goI ?_))
 (refine .inr (.inl ⟨_, _, true, [336], aM_fo rfl (cl_row rfl) bld_fold (by decide) (by decide) aM, two_fun [] false [0, 0, pt] (by simp only [List.mem_cons, List.not_mem_nil, or_false, forall_eq_or_imp, forall_eq]; omega) (by simp) (by simp), (fun _ => flat_w), oI, dI, ?_⟩))
 (refine goI ?_; repeat (intro gg; refine goI ?_))
 (refine .inr (.inl ⟨_, _, false, [336], aM, name_fun ([] ++ twosB [0, 0, pt]) tg h8 h9 (by simp only [List.length_append, twosB_len, List.length_cons, List.length_nil]; omega), nobor, oI, dI, ?_⟩))
 (refine goI ?_; repeat (intro gg; refine goI ?_))
 (refine .inr (.inl ⟨_, _, false, [336], aM, bLen_fun (T := wT) ((twosB [0, 0, pt] ++ nameB tg)), nobor, oI, dI, ?_⟩))
 (refine goI ?_; repeat (intro gg; refine goI ?_))
 (refine .inr (.inl ⟨_, _, true, [0], aM, two_fun (l ++ nameB nm ++ twosB [33, 1, ls / 65536, ls % 65536]) false [(((twosB [0, 0, pt] ++ nameB tg)).length : Int)] (by simp only [List.mem_cons, List.not_mem_nil, or_false, forall_eq]; omega) (by simp) (by simp only [List.length_append, twosB_len, List.length_cons, List.length_nil]; omega), (fun _ => flat_w), oI, dI, ?_⟩))
 (refine goI ?_; repeat (intro gg; refine goI ?_))
 (refine .inr (.inl ⟨_, _, false, [336], aM, bString_fun (T := wT) ((twosB [0, 0, pt] ++ nameB tg)) hne, nobor, oI, dI, ?_⟩))
 (refine goI ?_; repeat (intro gg; refine goI ?_))
 refine ⟨⟨trivial, rfl, rfl, trivial, trivial, trivial, trivial⟩, ?_⟩
 (refine goI ?_; repeat (intro gg; refine goI ?_))
 (refine .inr (.inl ⟨_, _, false, [0], aM, wStr_fun wBT (l ++ nameB nm ++ twosB [33, 1, ls / 65536, ls % 65536] ++ twosB [(((twosB [0, 0, pt] ++ nameB tg)).length : Int)]) ⟨((twosB [0, 0, pt] ++ nameB tg)).toArray⟩ (by simp only [List.length_append, twosB_len, List.length_cons, List.length_nil]; show _ + ((twosB [0, 0, pt] ++ nameB tg)).toArray.size ≤ _; rw [List.size_toArray]; omega), nobor, oI, dI, ?_⟩))
 (refine goI ?_; repeat (intro gg; refine goI ?_))
 (exact ⟨[0], aM⟩)
theorem record_fun (l : List UInt8) (r : Rr) (hr : r.Good) (hl : l.length ≤ 900000) : FunM Tryd.prog 65 [.mo (bldI wT l) (bldI wT (l ++ recB r)), .p (.c (.agg r.row))] [] := by
 rcases hr.ty with h | h | h
 ·exact record1_fun l r hr h hl
 ·exact record2_fun l r hr h hl
 ·exact record3_fun l r hr h hl
end Go.Proofs.YtjhdlcmecbngkaaDoor
