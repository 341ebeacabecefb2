/- Texts of this claim, joined. -/
import Derived.WalkKit
import Derived.Below
import Derived.WalkSmall
import Derived.Test.YtjhdlcmecbngkaaDoorRows
import Derived.Lib.Strings
import Derived.Lib.Slices
import Derived.Lib.Walk
import Derived.Lib.Bytealg
import Derived.ProofKit
import Derived.OpenShut
import Derived.ChangeSame
import Derived.Test.YtjhdlcmecbngkaaDoorAbsG
import Derived.Deep.Slices
import Derived.Deep.Fields
import Derived.Lib.SmallJoins
import Derived.Test.YtjhdlcmecbngkaaDoorAbsQ
import Derived.Test.YtjhdlcmecbngkaaDoorProg
import Derived.KernelRfl
import Derived.BigGuardPart
import Derived.Deep.Light
import Derived.Laws.IdiomStrings
/- Small words of mine for the walks. -/
namespace Go.Proofs.YtjhdlcmecbngkaaDoor
open Go.RowKit
set_option linter.unusedVariables false
theorem hid {p : Prop} (h : p) : Hid p := h
theorem ret_int {k : IntKind} {a b : Int} (h : a = b) : Ending.returned (.int k a) = .returned (.int k b) := by rw [h]
theorem ret_bool {a b : Bool} (h : a = b) : Ending.returned (.bool a) = .returned (.bool b) := by rw [h]
theorem bcell {W w1 : World} (hb : Below W.heap.size W w1) : (∀ b o, b < W.heap.size → w1.cell? ⟨b, o, none⟩ = W.cell? ⟨b, o, none⟩) ∧ (∀ b o, b < W.heap.size → w1.frozen? ⟨b, o, none⟩ = W.frozen? ⟨b, o, none⟩) :=
  ⟨fun b o h => hb.cell (p := ⟨b, o, none⟩) h, fun b o h => hb.frozen (p := ⟨b, o, none⟩) h⟩
theorem new_at {w : World} {o : Obj} {k : Nat} (h : k = w.heap.size) : (w.alloc o).heap[k]? = some o := by
  subst h; exact heap_alloc_new w o
theorem keep_all {W w1 : World} {g : Nat} {f : Nat → Option Value} (hb : Below W.heap.size W w1) (hlt : g < W.heap.size) (h : ∀ i, W.cell? ⟨g, i, none⟩ = f i) : ∀ i, w1.cell? ⟨g, i, none⟩ = f i :=
  fun i => (hb.cell (p := ⟨g, i, none⟩) hlt).trans (h i)
theorem keep_one {W w1 : World} {g i : Nat} {f : Option Value} (hb : Below W.heap.size W w1) (hlt : g < W.heap.size) (h : W.cell? ⟨g, i, none⟩ = f) : w1.cell? ⟨g, i, none⟩ = f :=
  (hb.cell (p := ⟨g, i, none⟩) hlt).trans h
theorem block_lt {w : World} {b : Nat} {o : Obj} (h : w.heap[b]? = some o) : b < w.heap.size := (Array.getElem?_eq_some_iff.1 h).1
theorem flat_len {α : Type} {enc : α → List Value} {sz : Nat} (hs : ∀ x, (enc x).length = sz) : ∀ l : List α, (l.flatMap enc).length = l.length * sz
  | [] => by simp
  | x :: r => by rw [List.flatMap_cons, List.length_append, hs, flat_len hs r, List.length_cons, Nat.add_mul]; omega
theorem flat_get {α : Type} {enc : α → List Value} {sz : Nat} (hs : ∀ x, (enc x).length = sz) : ∀ {l : List α} (i j : Nat) (hi : i < l.length) (hj : j < sz), (l.flatMap enc)[i * sz + j]? = (enc l[i])[j]?
  | x :: r, 0, j, _, hj => by
    rw [List.flatMap_cons, Nat.zero_mul, Nat.zero_add, List.getElem?_append_left (by rw [hs]; exact hj)]; rfl
  | x :: r, i + 1, j, hi, hj => by
    rw [List.flatMap_cons, List.getElem?_append_right (by rw [hs, Nat.add_mul]; omega), hs, show (i + 1) * sz + j - sz = i * sz + j by rw [Nat.add_mul]; omega]
    exact flat_get hs i j (by simpa using hi) hj
/-- a block that is known whole (after the guide's word) -/
def Blk (w : World) (g : Nat) (t : TypeId) (cs : Array Value) : Prop := w.heap[g]? = some (.cells cs t (0, 0))
section
variable {w w' : World} {g : Nat} {t : TypeId} {cs : Array Value}
theorem Blk.lt (h : Blk w g t cs) : g < w.heap.size := by
  rcases Nat.lt_or_ge g w.heap.size with hlt | hge
  · exact hlt
  · unfold Blk at h; rw [Array.getElem?_eq_none hge] at h; cases h
theorem Blk.cell (h : Blk w g t cs) (i : Nat) : w.cell? ⟨g, i, none⟩ = cs[i]? := by
  unfold Blk at h
  simp [World.cell?, h]
theorem Blk.frozen (h : Blk w g t cs) (i : Nat) : w.frozen? ⟨g, i, none⟩ = false := by
  unfold Blk at h
  simp [World.frozen?, h]
theorem Blk.new (w : World) (t : TypeId) (cs : Array Value) : Blk (w.alloc (.cells cs t)) w.heap.size t cs := heap_alloc_new w _
theorem Blk.new_ (w : World) (t : TypeId) (cs : Array Value) {g : Nat} (h : g = w.heap.size) : Blk (w.alloc (.cells cs t)) g t cs := h ▸ heap_alloc_new w _
theorem Blk.drew (h : Blk w g t cs) : Blk w.drew g t cs := h
theorem Blk.drewN (h : Blk w g t cs) (n : Nat) : Blk (w.drewN n) g t cs := h
theorem Blk.alloc (h : Blk w g t cs) (o : Obj) : Blk (w.alloc o) g t cs := (Below.heap_alloc w o g h.lt).trans h
theorem Blk.set_ (h : Blk w g t cs) (i : Nat) (u : Value) : Blk (w.setCell ⟨g, i, none⟩ u) g t (cs.setIfInBounds i u) := by
  unfold Blk at h ⊢
  simp [World.setCell, Array.getElem?_modify, h]
theorem Blk.far (h : Blk w g t cs) {p : Addr} (hp : g ≠ p.block) (u : Value) : Blk (w.setCell p u) g t cs := (Below.heap_setCell w p u g hp).trans h
theorem Blk.below {B : Nat} (h : Blk w g t cs) (hb : Below B w w') (hg : g < B) : Blk w' g t cs := (hb.block g hg).trans h
theorem Blk.below' (h : Blk w g t cs) (hb : Below w.heap.size w w') : Blk w' g t cs := (hb.block g h.lt).trans h
theorem Blk.grown {row : Option Nat} (h : Blk w g t cs) (hb : w.grownBy w' row) (hg : some g ≠ row) : Blk w' g t cs := (hb.block g h.lt hg).trans h
end
theorem news_at {w W : World} {T : TypeId} {cs : List Value} (hW : W.heap = (w.alloc (.cells cs.toArray T)).heap) : ∀ j u, cs[j]? = some u → W.cell? ((⟨w.heap.size, 0, none⟩ : Addr).add j) = some u := fun j u hu => by
  have e : (⟨w.heap.size, 0, none⟩ : Addr).add j = ⟨w.heap.size, j, none⟩ := by unfold Addr.add; split <;> simp_all
  have h : W.heap[w.heap.size]? = some (.cells cs.toArray T) := by rw [hW]; exact heap_alloc_new w _
  rw [e]
  unfold World.cell?
  simp only [h]
  simpa using hu
theorem own_heap {w W : World} {base : Nat} {e : TypeId} {size : Nat} {v : Value} {n : Nat} {xs : List Value} (h : w.ownsRow base e size v n xs) (hW : W.heap = w.heap) : W.ownsRow base e size v n xs := by
  unfold World.ownsRow at *
  rw [hW]
  exact h
theorem own_at {w W : World} {base : Nat} {e : TypeId} {size : Nat} {v : Value} {n : Nat} {xs : List Value} {o : Obj} (h : w.ownsRow base e size v n xs) (hW : W.heap = (w.alloc o).heap) : W.ownsRow base e size v n xs :=
  own_heap (h.alloc o) hW
theorem below_heap {B : Nat} {a w W : World} (h : Below B a w) (hW : W.heap = w.heap) (h1 : W.os = w.os) (h2 : W.tape = w.tape) (h3 : W.output = w.output) : Below B a W :=
  ⟨h1.trans h.os, h2.trans h.tape, h3.trans h.output, by rw [hW]; exact h.size, fun k hk => by rw [hW]; exact h.block k hk⟩
end Go.Proofs.YtjhdlcmecbngkaaDoor
/- The walks of strings.Count and strings.Index at a text of one byte (the walks' lines: the shelf's, laid for this seat). -/
namespace Go.Proofs.YtjhdlcmecbngkaaDoor
open Go Go.RowKit
set_option linter.unusedVariables false
set_option maxHeartbeats 1000000 in
set_option maxRecDepth 100000 in
theorem count_one (s : ByteArray) (c : UInt8) (w : World) :
    Calls Tryd.prog 77 #[.string s, .string ⟨#[c]⟩] w fun e w' => e = .returned (.int .i64 (Lib.countByte s.data.toList c)) ∧ w' = w := by
  go_enter Tryd.func77, Tryd.ntmps77
  go_wp2
  rw [run_callFunc_extern Tryd.func90 (by kernel_rfl) (by kernel_rfl) (by kernel_rfl) (e := Extern.BytealgCount.count) (by kernel_rfl), Lib.run_countString]
  simp only [Result.andThen]
  rw [Oper.upon_value]
  go_wp2
  go_ret
  exact ⟨rfl, rfl⟩
set_option maxHeartbeats 1000000 in
set_option maxRecDepth 100000 in
theorem indexByte_any (s : ByteArray) (c : Int) (w : World) :
    Calls Tryd.prog 96 #[.string s, .int .u8 c] w fun e w' => e = .returned (.int .i64 (Lib.indexByte s.data.toList c.toNat.toUInt8)) ∧ w' = w := by
  go_enter Tryd.func96, Tryd.ntmps96
  go_wp2
  rw [run_callFunc_extern Tryd.func100 (by kernel_rfl) (by kernel_rfl) (by kernel_rfl) (e := Extern.BytealgIndexByte.indexByte) (by kernel_rfl), Lib.run_indexByteString]
  simp only [Result.andThen]
  rw [Oper.upon_value]
  go_wp2
  go_ret
  exact ⟨rfl, rfl⟩
set_option maxHeartbeats 2000000 in
set_option maxRecDepth 100000 in
theorem liteIndex_one (s : ByteArray) (c : UInt8) (w : World) :
    Calls Tryd.prog 91 #[.string s, .string ⟨#[c]⟩] w fun e w' => e = .returned (.int .i64 (Lib.indexByte s.data.toList c)) ∧ w' = w := by
  go_enter Tryd.func91, Tryd.ntmps91
  go_wp2_with (go_at_call 96; refine (indexByte_any _ _ _).mono ?_; rintro e w' ⟨rfl, rfl⟩)
  · have h : ([c] == s.toList) = true := by assumption
    go_ret
    refine ⟨?_, rfl⟩
    have e : s.data.toList = [c] := by rw [← Lib.toList_data]; exact (beq_iff_eq.1 h).symm
    rw [e]
    simp [Lib.indexByte]
  · go_ret
    exact ⟨rfl, rfl⟩
set_option maxHeartbeats 1000000 in
theorem index_one (s : ByteArray) (c : UInt8) (w : World) :
    Calls Tryd.prog 78 #[.string s, .string ⟨#[c]⟩] w fun e w' => e = .returned (.int .i64 (Lib.indexByte s.data.toList c)) ∧ w' = w := by
  go_enter Tryd.func78, Tryd.ntmps78
  go_wp2_with (go_at_call 91; refine (liteIndex_one _ _ _).mono ?_; rintro e w' ⟨rfl, rfl⟩)
  go_ret
  exact ⟨rfl, rfl⟩
end Go.Proofs.YtjhdlcmecbngkaaDoor
/- Plain: the order of texts, byte by byte. -/
namespace Go.Proofs.YtjhdlcmecbngkaaDoor.Pl
set_option linter.unusedVariables false

theorem bl_irrefl : ∀ x : List UInt8, Op.bytesLess x x = false
  | [] => rfl
  | a :: x => by simp [Op.bytesLess, bl_irrefl x, UInt8.lt_irrefl]
theorem bl_trans : ∀ {x y z : List UInt8}, Op.bytesLess x y = true → Op.bytesLess y z = true → Op.bytesLess x z = true
  | [], _ :: _, [], _, h => by simp [Op.bytesLess] at h
  | _, [], _, h, _ => by cases ‹List UInt8› <;> simp [Op.bytesLess] at h
  | [], b :: y, c :: z, _, _ => rfl
  | a :: x, b :: y, [], _, h => by simp [Op.bytesLess] at h
  | a :: x, b :: y, c :: z, h1, h2 => by
    simp only [Op.bytesLess, Bool.or_eq_true, decide_eq_true_eq, Bool.and_eq_true, beq_iff_eq] at h1 h2 ⊢
    rcases h1 with h1 | ⟨rfl, h1⟩
    · rcases h2 with h2 | ⟨rfl, h2⟩
      · exact .inl (UInt8.lt_trans h1 h2)
      · exact .inl h1
    · rcases h2 with h2 | ⟨rfl, h2⟩
      · exact .inl h2
      · exact .inr ⟨rfl, bl_trans h1 h2⟩
theorem bl_tri : ∀ {x y : List UInt8}, Op.bytesLess x y = false → Op.bytesLess y x = false → x = y
  | [], [], _, _ => rfl
  | [], b :: y, h, _ => by simp [Op.bytesLess] at h
  | a :: x, [], _, h => by simp [Op.bytesLess] at h
  | a :: x, b :: y, h1, h2 => by
    simp only [Op.bytesLess, Bool.or_eq_false_iff, decide_eq_false_iff_not, Bool.and_eq_false_iff] at h1 h2
    have hab : a = b := by
      have g1 : ¬ a.toNat < b.toNat := h1.1
      have g2 : ¬ b.toNat < a.toNat := h2.1
      exact UInt8.toNat_inj.1 (by omega)
    subst hab
    have e1 : Op.bytesLess x y = false := by rcases h1.2 with h | h <;> simp_all
    have e2 : Op.bytesLess y x = false := by rcases h2.2 with h | h <;> simp_all
    rw [bl_tri e1 e2]
/-- does one text stand ahead of another? -/
def slt (a b : ByteArray) : Bool := Op.bytesLess a.toList b.toList
theorem toList_inj {a b : ByteArray} (h : a.toList = b.toList) : a = b := by
  rw [ByteArray.toList_eq, ByteArray.toList_eq] at h
  cases a; cases b
  congr
  exact Array.toList_inj.1 h
theorem slt_irrefl (a : ByteArray) : slt a a = false := bl_irrefl _
theorem slt_trans {a b c : ByteArray} (h1 : slt a b = true) (h2 : slt b c = true) : slt a c = true := bl_trans h1 h2
theorem slt_tri {a b : ByteArray} (h1 : slt a b = false) (h2 : slt b a = false) : a = b := toList_inj (bl_tri h1 h2)
theorem slt_asymm {a b : ByteArray} (h1 : slt a b = true) : slt b a = false := by
  rcases Bool.eq_false_or_eq_true (slt b a) with h | h
  · have := slt_trans h1 h; rw [slt_irrefl] at this; cases this
  · exact h
theorem slt_ne {a b : ByteArray} (h1 : slt a b = true) : a ≠ b := by
  rintro rfl
  rw [slt_irrefl] at h1; cases h1
theorem seq_iff {a b : ByteArray} : (a.toList == b.toList) = true ↔ a = b := by
  rw [beq_iff_eq]; exact ⟨toList_inj, fun h => by rw [h]⟩
theorem seq_no {a b : ByteArray} (h : a ≠ b) : (a.toList == b.toList) = false := by
  rcases Bool.eq_false_or_eq_true (a.toList == b.toList) with g | g
  · exact absurd (seq_iff.1 g) h
  · exact g
/-- what '<=' says -/
theorem sle_eq (a b : ByteArray) : (Op.bytesLess a.toList b.toList || a.toList == b.toList) = !(slt b a) := by
  rcases Bool.eq_false_or_eq_true (slt b a) with h | h
  · rw [h]
    have h1 := slt_asymm h
    unfold slt at h1
    rw [h1, seq_no (fun e => by subst e; rw [slt_irrefl] at h; cases h)]
    rfl
  · rw [h]
    rcases Bool.eq_false_or_eq_true (slt a b) with g | g
    · unfold slt at g; rw [g]; rfl
    · have := slt_tri g h
      subst this
      simp
end Go.Proofs.YtjhdlcmecbngkaaDoor.Pl
/- Plain: a text in pieces. No program in sight. -/
namespace Go.Proofs.YtjhdlcmecbngkaaDoor.Pl
open Go
set_option linter.unusedVariables false
def ixb (r : ByteArray) (c : UInt8) : Int := Lib.indexByte r.data.toList c
def cnb (r : ByteArray) (c : UInt8) : Nat := Lib.countByte r.data.toList c
theorem ix_neg {l : List UInt8} {c : UInt8} : Lib.indexByte l c = -1 ↔ l.count c = 0 := by
  induction l with
  | nil => simp [Lib.indexByte]
  | cons b l ih =>
    unfold Lib.indexByte
    have hg := Lib.indexByte_ge l c
    by_cases hb : (b == c) = true
    · rw [if_pos hb]
      have : b = c := by simpa using hb
      subst this
      simp
    · rw [if_neg hb]
      have hne : b ≠ c := fun e => hb (by simpa using e)
      rw [List.count_cons_of_ne hne]
      split
      · rename_i h
        have h' : Lib.indexByte l c = -1 := by simpa using h
        simp [ih.1 h']
      · rename_i h
        have h' : ¬ Lib.indexByte l c = -1 := by simpa using h
        constructor
        · intro e; omega
        · intro e; exact absurd (ih.2 e) h'
theorem ix_pos {l : List UInt8} {c : UInt8} (h : 0 < l.count c) : ∃ m : Nat, Lib.indexByte l c = (m : Int) ∧ m < l.length ∧ (l.drop (m + 1)).count c + 1 = l.count c := by
  induction l with
  | nil => simp at h
  | cons b l ih =>
    unfold Lib.indexByte
    by_cases hb : (b == c) = true
    · rw [if_pos hb]
      have : b = c := by simpa using hb
      subst this
      exact ⟨0, rfl, by simp, by simp⟩
    · rw [if_neg hb]
      have hne : b ≠ c := fun e => hb (by simpa using e)
      rw [List.count_cons_of_ne hne] at h ⊢
      obtain ⟨m, h1, h2, h3⟩ := ih h
      have hn : ¬ ((Lib.indexByte l c == -1) = true) := by rw [h1]; simp
      rw [if_neg hn, h1]
      exact ⟨m + 1, by simp, by simp; omega, by simpa using h3⟩
/-- what is left behind k pieces -/
def rest (c : UInt8) (s : ByteArray) : Nat → ByteArray
  | 0 => s
  | k + 1 => (rest c s k).extract ((ixb (rest c s k) c).toNat + 1) (rest c s k).size
def piece (c : UInt8) (s : ByteArray) (k : Nat) : ByteArray := (rest c s k).extract 0 (ixb (rest c s k) c).toNat
def pieces (c : UInt8) (s : ByteArray) : List ByteArray := (List.range (cnb s c)).map (piece c s) ++ [rest c s (cnb s c)]
theorem pieces_len (c : UInt8) (s : ByteArray) : (pieces c s).length = cnb s c + 1 := by simp [pieces]
theorem cnb_le (s : ByteArray) (c : UInt8) : cnb s c ≤ s.size := by
  have := List.count_le_length (a := c) (l := s.data.toList)
  simpa [cnb, Lib.countByte] using this
theorem extract_list (s : ByteArray) (a b : Nat) : (s.extract a b).data.toList = (s.data.toList.take b).drop a := by
  simp [ByteArray.data_extract, List.drop_take]
theorem rest_count (c : UInt8) (s : ByteArray) : ∀ k, k ≤ cnb s c → cnb (rest c s k) c + k = cnb s c
  | 0, _ => rfl
  | k + 1, h => by
    have ih := rest_count c s k (by omega)
    have hp : 0 < (rest c s k).data.toList.count c := by have : cnb (rest c s k) c = (rest c s k).data.toList.count c := rfl; omega
    obtain ⟨m, h1, h2, h3⟩ := ix_pos hp
    have hx : ixb (rest c s k) c = (m : Int) := h1
    have e : (rest c s (k + 1)).data.toList = (rest c s k).data.toList.drop (m + 1) := by
      show ((rest c s k).extract ((ixb (rest c s k) c).toNat + 1) (rest c s k).size).data.toList = _
      rw [extract_list, hx]
      congr 1
      exact List.take_of_length_le (by simp)
    have : cnb (rest c s (k + 1)) c + 1 = cnb (rest c s k) c := by
      unfold cnb Lib.countByte
      rw [e]; exact h3
    omega
theorem rest_at (c : UInt8) (s : ByteArray) {k : Nat} (h : k < cnb s c) : ∃ m : Nat, ixb (rest c s k) c = (m : Int) ∧ m + 1 ≤ (rest c s k).size ∧ piece c s k = (rest c s k).extract 0 m ∧ rest c s (k + 1) = (rest c s k).extract (m + 1) (rest c s k).size := by
  have ih := rest_count c s k (by omega)
  have hp : 0 < (rest c s k).data.toList.count c := by have : cnb (rest c s k) c = (rest c s k).data.toList.count c := rfl; omega
  obtain ⟨m, h1, h2, _⟩ := ix_pos hp
  have hx : ixb (rest c s k) c = (m : Int) := h1
  refine ⟨m, hx, by have h4 : m < (rest c s k).size := by simpa using h2
                    omega, ?_, ?_⟩
  · show (rest c s k).extract 0 (ixb (rest c s k) c).toNat = _
    rw [hx]; rfl
  · show (rest c s k).extract ((ixb (rest c s k) c).toNat + 1) (rest c s k).size = _
    rw [hx]; rfl
theorem rest_size (c : UInt8) (s : ByteArray) : ∀ k, (rest c s k).size ≤ s.size
  | 0 => Nat.le_refl _
  | k + 1 => by
    have := rest_size c s k
    show ((rest c s k).extract _ _).size ≤ _
    rw [ByteArray.size_extract]; omega
end Go.Proofs.YtjhdlcmecbngkaaDoor.Pl
/- The frame that every law of mine shares: the call returned true and below the heap's old size nothing has turned; so the row's post holds, whatever the arguments are. -/
namespace Go.Proofs.YtjhdlcmecbngkaaDoor
open Go.ChangeShapes Go.WideShapes Go.ChangeAt Go.RowKit
set_option linter.unusedVariables false
section
variable {H : Type} {enc : TypeId × Value → H} {P : Program}

theorem trodAll_stays (hl : laidOutB P = true) {W W' : World} {B : Nat} (hb : Below B W W') (sp : Nat → Bool) :
    ∀ {ts : List TypeId} {vs : List Value} {ds : List (DataW H)} {p : List MemPlace}, (∀ t ∈ ts, P.readableRec t = true ∧ t < P.types.size) →
      DataW.TrodAll enc P W 0 (fun _ => true) true ts vs ds p → (∀ x ∈ p, sp x.block = true) → (∀ x ∈ p, x.block < B) → B = W.heap.size → DataW.TrodAll enc P W' 0 sp true ts vs ds p
  | [], _, _, _, _, h, _, _, _ => by
    obtain ⟨rfl, rfl, rfl⟩ := trodAll_nil h
    exact trodAll_mk0
  | t :: ts, _, _, _, ht, h, hs, hlt, hB => by
    obtain ⟨v, vs1, d, ds1, a, b, rfl, rfl, rfl, h1, h2⟩ := trodAll_cons h
    obtain ⟨hr, hrow⟩ := ht t (by simp)
    subst hB
    refine ⟨a, b, WideElems.Trod_stays hl hr hrow h1 (fun x hx => hb.same (hlt x (by simp [hx]))) (fun x hx => hs x (by simp [hx])), ?_, rfl⟩
    exact trodAll_stays hl hb sp (fun t h => ht t (by simp [h])) h2 (fun x hx => hs x (by simp [hx])) (fun x hx => hlt x (by simp [hx])) rfl

theorem law_post {f : Func} {s : ChangeSpec} {apart fresh handsOn again : Bool} {W W' : World} {args : Array Value} {ds gs : List (DataW H)} {before : List MemPlace} {tb : TypeId}
    (hW : DataW.Whole enc P f.params.toList s.vars apart W args.toList ds gs before) (hl : laidOutB P = true) (hr : ∀ t ∈ f.params.toList, P.readableRec t = true ∧ t < P.types.size)
    (hv : s.vars = []) (hf : s.fn H (ds ++ gs) = { results := [.lit (.bool true)], args := ds }) (hres : f.resultTypes = #[tb]) (hbool : P.underlying tb = some .bool)
    (hb : Below W.heap.size W W') : s.post enc P f apart fresh handsOn again W args (.bool true) W' := by
  have hW0 := hW
  have hlt : ∀ p ∈ before, p.block < W.heap.size := fun p hp => hW.lt p hp
  obtain ⟨p, q, hA, hV, rfl, hz, hn⟩ := hW
  rw [hv] at hV
  obtain ⟨rfl, rfl⟩ := trodVars_none hV
  simp only [List.append_nil] at *
  have hst : ∀ sp : Nat → Bool, (∀ x ∈ p, sp x.block = true) → DataW.TrodAll enc P W' 0 sp true f.params.toList args.toList ds p := fun sp hs => trodAll_stays hl hb sp hr hA hs hlt rfl
  have hold : ∀ x ∈ p, (fun b => decide (b < W.heap.size)) x.block = true := fun x hx => by simpa using hlt x hx
  have hR : ∀ (b : Nat) (sp : Nat → Bool) (hd : Bool), DataW.TrodAll enc P W' b sp hd f.resultTypes.toList ((Value.bool true).resultList f.resultTypes.size) [.lit (.bool true)] [] := fun b sp hd => by
    rw [hres]
    exact trodAll_cons_mk (shut_bool hbool _) trodAll_mk0
  refine ⟨ds, [], p, [], p, [], hW0, ?_, ?_, ?_, ?_, fun _ => ?_⟩
  · rw [List.append_nil, hf]; exact hR _ _ _
  · rw [List.append_nil, hf]; exact hst _ hold
  · rw [List.append_nil, hv, hf]; rfl
  · exact World.keptBut_mono (fun x hx => ⟨hx, by simp [hx]⟩) (hb.frame (· ∈ p))
  · obtain ⟨_, _, _, _, _, hz', hn'⟩ := hW0
    refine ⟨ok_one hres rfl (okWide_bool_mk hbool _), _, [], ([] ++ p) ++ [], ⟨[] ++ p, [], trodAll_append (hst _ (fun _ _ => rfl)) (hR _ _ _), ?_, rfl, ?_, ?_⟩, ?_⟩
    · rw [hv]; rfl
    · intro b off hp
      rw [hb.frozen (hlt _ (by simpa using hp))]
      exact hz b off (by simpa using hp)
    · intro ha
      simpa using hn ha
    · intro x hx _
      simpa using hx
end
end Go.Proofs.YtjhdlcmecbngkaaDoor
/- Arguments of any type made of numbers, texts, yes or no, structs and slices: what is known of them. -/
namespace Go.Proofs.YtjhdlcmecbngkaaDoor
open Go.Joins Go.ChangeShapes Go.WideShapes Go.RowKit Go.Deep
set_option linter.unusedVariables false
inductive Ty where
  | i
  | s
  | b
  | l (row : List Ty)
inductive FitV : Ty → V → Prop where
  | i (n : Int) (h1 : -9223372036854775808 ≤ n) (h2 : n ≤ 9223372036854775807) : FitV .i (.v (.int .i64 n))
  | s (x : ByteArray) (h : x.size ≤ 9223372036854775807) : FitV .s (.v (.string x))
  | b (x : Bool) : FitV .b (.v (.bool x))
  | l (tys : List Ty) (rows : List (List V)) (hl : rows.length ≤ 9223372036854775807) (hr : ∀ row ∈ rows, tys.length = row.length) (h : ∀ row ∈ rows, ∀ (j : Nat) (t : Ty) (u : V), tys[j]? = some t → row[j]? = some u → FitV t u) : FitV (.l tys) (.sl false rows)
def Fits (tys : List Ty) (us : List V) : Prop := tys.length = us.length ∧ ∀ (j : Nat) (t : Ty) (u : V), tys[j]? = some t → us[j]? = some u → FitV t u
def tyFs (P : Program) (rc : TypeId → Option (List Ty)) : List Field → Nat → Option (List Ty)
  | [], _ => some []
  | f :: fs, off => match rc f.type with
    | some ts => if f.offset == off && P.cellsOf f.type == ts.length then (match tyFs P rc fs (off + ts.length) with
      | some r => some (ts ++ r)
      | none => none) else none
    | none => none
def tyOf (P : Program) : Nat → TypeId → Option (List Ty)
  | 0, _ => none
  | d + 1, t => match P.underlying t with
    | some (.int .i64) => some [.i]
    | some .string => some [.s]
    | some .bool => some [.b]
    | some (.struct fs) => match tyFs P (tyOf P d) fs.toList 0 with
      | some ts => if P.cellsOf t == ts.length then some ts else none
      | none => none
    | some (.slice e) => match tyOf P d e with
      | some ts => if P.cellsOf e == ts.length && 0 < ts.length then some [.l ts] else none
      | none => none
    | _ => none
section
variable {H : Type} {enc : TypeId × Value → H} {P : Program} {w : World} {base : Nat} {spare : Nat → Bool} {held : Bool}
/-- cells that read as what is known -/
def Reads (w : World) (tys : List Ty) (cs : List Value) (us : List V) : Prop :=
  Fits tys us ∧ cs.length = us.length ∧ ∀ (j : Nat) (u : V) (x : Value), us[j]? = some u → cs[j]? = some x → RV w (fun b => b < w.heap.size) noG u x
theorem Reads.app {t1 t2 : List Ty} {c1 c2 : List Value} {u1 u2 : List V} (h1 : Reads w t1 c1 u1) (h2 : Reads w t2 c2 u2) : Reads w (t1 ++ t2) (c1 ++ c2) (u1 ++ u2) := by
  obtain ⟨⟨a1, a2⟩, a3, a4⟩ := h1
  obtain ⟨⟨b1, b2⟩, b3, b4⟩ := h2
  refine ⟨⟨by simp [a1, b1], fun j t u g1 g2 => ?_⟩, by simp [a3, b3], fun j u x g1 g2 => ?_⟩
  · by_cases hj : j < t1.length
    · rw [List.getElem?_append_left hj] at g1
      rw [List.getElem?_append_left (by omega)] at g2
      exact a2 j t u g1 g2
    · rw [List.getElem?_append_right (by omega)] at g1 g2
      rw [← a1] at g2
      exact b2 _ t u g1 g2
  · by_cases hj : j < u1.length
    · rw [List.getElem?_append_left hj] at g1
      rw [List.getElem?_append_left (by omega)] at g2
      exact a4 j u x g1 g2
    · rw [List.getElem?_append_right (by omega)] at g1 g2
      rw [a3] at g2
      exact b4 _ u x g1 g2
theorem reads_one {t : Ty} {x : Value} {u : V} (h : FitV t u) (hr : RV w (fun b => b < w.heap.size) noG u x) : Reads w [t] [x] [u] := by
  refine ⟨⟨rfl, fun j t' u' g1 g2 => ?_⟩, rfl, fun j u' x' g1 g2 => ?_⟩
  · cases j with
    | zero => simp at g1 g2; subst g1 g2; exact h
    | succ j => simp at g1
  · cases j with
    | zero => simp at g1 g2; subst g1 g2; exact hr
    | succ j => simp at g1
theorem add_full (a : Addr) (n : Nat) (h : a.spot = none) : a.add n = ⟨a.block, a.off + n, none⟩ := by
  obtain ⟨b, o, sp⟩ := a
  simp only at h; subst h
  unfold Addr.add
  split <;> simp_all
theorem reads_fields {d fuel : Nat} {cs : List Value} (rc : ∀ (t : TypeId) (tys : List Ty) (cs : List Value) (x : DataW H × List MemPlace), tyOf P d t = some tys → DataW.trod enc P w base spare held fuel t cs = some x → ∃ us, Reads w tys cs us) :
    ∀ (fs : List Field) (off : Nat) (tys : List Ty) (xs : List (DataW H × List MemPlace)), tyFs P (tyOf P d) fs off = some tys → (∀ (i : Nat) (f : Field), fs[i]? = some f → ∃ x, DataW.trod enc P w base spare held fuel f.type ((cs.drop f.offset).take (P.cellsOf f.type)) = some x) →
      ∃ us, Reads w tys ((cs.drop off).take tys.length) us := by
  intro fs
  induction fs with
  | nil =>
    intro off tys xs h _
    simp only [tyFs, Option.some.injEq] at h; subst h
    exact ⟨[], ⟨rfl, by simp⟩, by simp, by simp⟩
  | cons f fs ih =>
    intro off tys xs h hf
    simp only [tyFs] at h
    split at h
    · rename_i ts hts
      split at h
      · rename_i hc
        simp only [Bool.and_eq_true, beq_iff_eq] at hc
        split at h
        · rename_i r hr
          injection h with h; subst h
          obtain ⟨x0, hx0⟩ := hf 0 f rfl
          obtain ⟨us1, h1⟩ := rc _ _ _ _ hts hx0
          obtain ⟨us2, h2⟩ := ih _ _ xs hr (fun i g hg => hf (i + 1) g (by simpa using hg))
          rw [hc.1, hc.2] at h1
          have hlen : ((cs.drop off).take ts.length).length = ts.length := by rw [h1.2.1, ← h1.1.1]
          refine ⟨us1 ++ us2, ?_⟩
          have e : (cs.drop off).take (ts ++ r).length = (cs.drop off).take ts.length ++ (cs.drop (off + ts.length)).take r.length := by
            rw [List.length_append, List.take_add, List.drop_drop]
          rw [e]
          exact h1.app h2
        · cases h
      · cases h
    · cases h
theorem reads_of : ∀ (d fuel : Nat) (t : TypeId) (tys : List Ty) (cs : List Value) (x : DataW H × List MemPlace), tyOf P d t = some tys → DataW.trod enc P w base spare held fuel t cs = some x → ∃ us, Reads w tys cs us := by
  intro d
  induction d with
  | zero => intro fuel t tys cs x h; cases h
  | succ d ih =>
    intro fuel t tys cs x h hd
    simp only [tyOf] at h
    split at h
    · rename_i hu
      injection h with h; subst h
      obtain ⟨n, rfl, _, hw⟩ := DataW.trod_int hu hd
      have hb : -9223372036854775808 ≤ n ∧ n ≤ 9223372036854775807 := by simpa [Lit.wf, IntKind.min, IntKind.max, IntKind.signed, IntKind.bits] using hw
      exact ⟨_, reads_one (.i n hb.1 hb.2) (.v _)⟩
    · rename_i hu
      injection h with h; subst h
      obtain ⟨s, rfl, _, hs⟩ := DataW.trod_string hu hd
      exact ⟨_, reads_one (.s s (by simpa [maxLen] using hs)) (.v _)⟩
    · rename_i hu
      injection h with h; subst h
      obtain ⟨s, rfl, _⟩ := DataW.trod_bool hu hd
      exact ⟨_, reads_one (.b s) (.v _)⟩
    · rename_i fs hu
      split at h
      · rename_i ts hts
        split at h
        · rename_i hc
          simp only [beq_iff_eq] at hc
          injection h with h; subst h
          obtain ⟨xs, n, rfl, _, hcl, hxl, hf⟩ := DataW.trod_struct hu hd
          obtain ⟨us, hus⟩ := reads_fields (cs := cs) (fun t tys cs x h1 h2 => ih n t tys cs x h1 h2) fs.toList 0 ts xs hts (fun i f hi => by
            have hi' : fs[i]? = some f := by simpa using hi
            have hlt : i < xs.length := by rw [hxl]; exact (Array.getElem?_eq_some_iff.1 hi').1
            exact ⟨_, (hf i f hi').trans (List.getElem?_eq_getElem hlt)⟩)
          refine ⟨us, ?_⟩
          rwa [List.drop_zero, ← hc, ← hcl, List.take_length] at hus
        · cases h
      · cases h
    · rename_i e hu
      split at h
      · rename_i ts hts
        split at h
        · rename_i hc
          simp only [Bool.and_eq_true, beq_iff_eq, decide_eq_true_eq] at hc
          injection h with h; subst h
          rcases open_slice hu hd with ⟨rfl, _⟩ | ⟨a, len, cap, m, n, D, Pl, rfl, hb, hl, hm, hmm, _, hi⟩
          · exact ⟨[.sl false []], reads_one (.l _ [] (by simp) (by simp) (by simp)) (.nil _ _ _ (by simp))⟩
          · have hlm : len ≤ m := by rw [hmm]; split <;> omega
            have hall : ∀ i : Nat, ∃ p : List Value × List V, i < len → Reads w ts p.1 p.2 ∧ ∀ j, j < ts.length → w.cell? (a.add (i * ts.length + j)) = p.1[j]? := fun i => by
              by_cases hil : i < len
              · obtain ⟨cs', h1, h2⟩ := hi i (by omega)
                obtain ⟨us, hus⟩ := ih n e ts cs' _ hts h2
                obtain ⟨_, h3, h4⟩ := World.cells?_some h1
                rw [hc.1] at h3 h4
                exact ⟨(cs', us), fun _ => ⟨hus, fun j hj => by rw [← Go.Deep.add_add]; exact h4 j hj⟩⟩
              · exact ⟨([], []), fun h => absurd h hil⟩
            obtain ⟨f, hf⟩ := Classical.axiomOfChoice hall
            have hsp : 0 < len → a.spot = none ∧ a.block < w.heap.size := fun h0 => by
              obtain ⟨h1, h2⟩ := hf 0 h0
              have hx := h2 0 hc.2
              have hlt : 0 < (f 0).1.length := by rw [h1.2.1, ← h1.1.1]; exact hc.2
              rw [List.getElem?_eq_getElem hlt] at hx
              have e : a.add (0 * ts.length + 0) = a := by simp [Addr.add]
              rw [e] at hx
              refine ⟨?_, World.block_lt_of_cell? w _ hx⟩
              unfold World.cell? at hx
              split at hx
              · cases hq : a.spot with
                | none => rfl
                | some k => simp [hq] at hx
              · cases hx
            refine ⟨[.sl false ((List.range len).map fun i => (f i).2)], reads_one (.l _ _ (by simp only [List.length_map, List.length_range]; simp only [maxLen] at hm; omega) ?_ ?_) ?_⟩
            · intro row hrow
              simp only [List.mem_map, List.mem_range] at hrow
              obtain ⟨i, hil, rfl⟩ := hrow
              exact (hf i hil).1.1.1
            · intro row hrow j t u g1 g2
              simp only [List.mem_map, List.mem_range] at hrow
              obtain ⟨i, hil, rfl⟩ := hrow
              exact (hf i hil).1.1.2 j t u g1 g2
            · rcases Nat.eq_zero_or_pos len with h0 | h0
              · subst h0; exact .nil _ _ _ (by simp)
              · obtain ⟨h1, h2⟩ := hsp h0
                obtain ⟨b, off, sp⟩ := a
                simp only at h1 h2
                subst h1
                have hrows : ∀ (i : Nat) (row : List V), ((List.range len).map fun i => (f i).2)[i]? = some row → i < len ∧ row = (f i).2 := fun i row h => by
                  have hlt := (List.getElem?_eq_some_iff.1 h).1
                  simp only [List.length_map, List.length_range] at hlt
                  simp [hlt] at h
                  exact ⟨hlt, h.symm⟩
                have e := RV.sl (w := w) (R := fun b => b < w.heap.size) (G := noG) false ((List.range len).map fun i => (f i).2) b off cap ts.length (fun i j => ((f i).1[j]?).getD undef) h2 (by simpa using hl) (by simp) (by
                    intro row hrow
                    simp only [List.mem_map, List.mem_range] at hrow
                    obtain ⟨i, hil, rfl⟩ := hrow
                    exact (hf i hil).1.1.1.symm) (by
                    intro i j row u g1 g2
                    obtain ⟨hil, rfl⟩ := hrows i row g1
                    have hj : j < ts.length := by have := (List.getElem?_eq_some_iff.1 g2).1; rw [(hf i hil).1.1.1]; exact this
                    have hjl : j < (f i).1.length := by rw [(hf i hil).1.2.1, ← (hf i hil).1.1.1]; exact hj
                    have hx := (hf i hil).2 j hj
                    rw [add_full _ _ rfl, List.getElem?_eq_getElem hjl] at hx
                    rw [List.getElem?_eq_getElem hjl]
                    simp only [Option.getD_some]
                    rw [Nat.add_assoc]; exact hx) (by
                    intro i j row u g1 g2
                    obtain ⟨hil, rfl⟩ := hrows i row g1
                    have hj : j < ts.length := by have := (List.getElem?_eq_some_iff.1 g2).1; rw [(hf i hil).1.1.1]; exact this
                    have hjl : j < (f i).1.length := by rw [(hf i hil).1.2.1, ← (hf i hil).1.1.1]; exact hj
                    rw [List.getElem?_eq_getElem hjl]
                    exact (hf i hil).1.2.2 j u _ g2 (List.getElem?_eq_getElem hjl))
                have e2 : ((List.range len).map fun i => (f i).2).length = len := by simp
                rw [e2] at e
                exact e
        · cases h
      · cases h
    · cases h
/-- an argument -/
theorem open_one {t : TypeId} {ty : Ty} {v : Value} {d : DataW H} {p : List MemPlace} {dp : Nat} (ht : tyOf P dp t = some [ty]) (hv : v.cells.toList = [v]) (h : DataW.Trod enc P w base spare held t v d p) :
    ∃ u, FitV ty u ∧ RV w (fun b => b < w.heap.size) noG u v := by
  obtain ⟨fuel, hf⟩ := h
  rw [hv] at hf
  obtain ⟨us, ⟨h1, h2⟩, h3, h4⟩ := reads_of dp fuel t _ _ _ ht hf
  match us, h3 with
  | [u], _ => exact ⟨u, h2 0 _ _ rfl rfl, h4 0 _ _ rfl rfl⟩
theorem open_struct {t : TypeId} {tys : List Ty} {r : Reach} {b0 : Nat} {v : Value} {fs : Array Field} {d : DataW H} {p : List MemPlace} {dp : Nat} (hs : P.underlying t = some (.struct fs)) (ht : tyOf P dp t = some tys) (hv : Value.okWide P w r b0 t v) (h : DataW.Trod enc P w base spare held t v d p) :
    ∃ us, Fits tys us ∧ RV w (fun b => b < w.heap.size) noG (.agg us) v := by
  obtain ⟨cs, rfl, hsz⟩ := okWide_struct hs hv
  obtain ⟨fuel, hf⟩ := h
  obtain ⟨us, h1, h3, h4⟩ := reads_of dp fuel t _ _ _ ht hf
  obtain ⟨cs⟩ := cs
  exact ⟨us, h1, .agg us cs h3.symm h4⟩
theorem open_list {t e : TypeId} {ty : Ty} {r : Reach} {b0 : Nat} {v : Value} {d : DataW H} {p : List MemPlace} {dp : Nat} (hs : P.underlying t = some (.slice e)) (ht : tyOf P dp t = some [ty]) (hv : Value.okWide P w r b0 t v) (h : DataW.Trod enc P w base spare held t v d p) :
    ∃ u, FitV ty u ∧ RV w (fun b => b < w.heap.size) noG u v := by
  obtain ⟨a, len, cap, rfl⟩ := okWide_slice hs hv
  exact open_one ht rfl h
end
/-! what fits, as data -/
theorem fits_cons {t : Ty} {ts : List Ty} {us : List V} (h : Fits (t :: ts) us) : ∃ u us', us = u :: us' ∧ FitV t u ∧ Fits ts us' := by
  obtain ⟨h1, h2⟩ := h
  match us, h1 with
  | u :: us', h1 => exact ⟨u, us', rfl, h2 0 _ _ rfl rfl, by simpa using h1, fun j t' u' g1 g2 => h2 (j + 1) t' u' (by simpa using g1) (by simpa using g2)⟩
theorem fits_nil {us : List V} (h : Fits [] us) : us = [] := List.eq_nil_of_length_eq_zero h.1.symm
theorem fit_i {u : V} (h : FitV .i u) : ∃ n : Int, u = .v (.int .i64 n) ∧ -9223372036854775808 ≤ n ∧ n ≤ 9223372036854775807 := by cases h with | i n h1 h2 => exact ⟨n, rfl, h1, h2⟩
theorem fit_s {u : V} (h : FitV .s u) : ∃ x : ByteArray, u = .v (.string x) ∧ x.size ≤ 9223372036854775807 := by cases h with | s x h => exact ⟨x, rfl, h⟩
theorem fit_b {u : V} (h : FitV .b u) : ∃ x : Bool, u = .v (.bool x) := by cases h with | b x => exact ⟨x, rfl⟩
theorem fit_l {tys : List Ty} {u : V} (h : FitV (.l tys) u) : ∃ rows, u = .sl false rows ∧ rows.length ≤ 9223372036854775807 ∧ ∀ row ∈ rows, Fits tys row := by
  cases h with | l tys rows hl hr h => exact ⟨rows, rfl, hl, fun row hm => ⟨hr row hm, h row hm⟩⟩
theorem rows_dec {α : Type} {enc : α → List V} {p : α → Prop} {tys : List Ty} (hd : ∀ row, Fits tys row → ∃ x : α, row = enc x ∧ p x) : ∀ (rows : List (List V)), (∀ row ∈ rows, Fits tys row) → ∃ l : List α, rows = l.map enc ∧ ∀ x ∈ l, p x
  | [], _ => ⟨[], rfl, by simp⟩
  | row :: rows, h => by
    obtain ⟨x, hx, px⟩ := hd row (h row (by simp))
    obtain ⟨l, hl, pl⟩ := rows_dec hd rows fun r hr => h r (by simp [hr])
    exact ⟨x :: l, by simp [hx, hl], by simpa using ⟨px, pl⟩⟩
theorem fit_list {α : Type} {enc : α → List V} {p : α → Prop} {tys : List Ty} {u : V} (hd : ∀ row, Fits tys row → ∃ x : α, row = enc x ∧ p x) (h : FitV (.l tys) u) : ∃ l : List α, u = .sl false (l.map enc) ∧ l.length ≤ 9223372036854775807 ∧ ∀ x ∈ l, p x := by
  obtain ⟨rows, rfl, hl, hr⟩ := fit_l h
  obtain ⟨l, rfl, hp⟩ := rows_dec hd rows hr
  exact ⟨l, rfl, by simpa using hl, hp⟩
/-! functions whose contracts are at hand in another form -/
theorem pars_v {w : World} {R : Nat → Prop} : ∀ {xs ys : List Value}, Pars w R (xs.map fun x => .c (.v x)) ys → ys = xs
  | xs, ys, h => by
    apply List.ext_getElem?
    intro i
    have hl := h.len
    rw [List.length_map] at hl
    by_cases hi : i < xs.length
    · have h1 : xs[i]? = some xs[i] := List.getElem?_eq_getElem hi
      have h2 : ys[i]? = some (ys[i]'(by omega)) := List.getElem?_eq_getElem (by omega)
      have h3 : ParOk w R (.c (.v xs[i])) (ys[i]'(by omega)) := h.ok i _ _ (by rw [List.getElem?_map, h1]; rfl) h2
      have h4 : RV w R noG (.v xs[i]) (ys[i]'(by omega)) := h3
      rw [h1, h2, rv_v h4]
    · rw [List.getElem?_eq_none (by omega), List.getElem?_eq_none (by omega)]
theorem no_blk {ps : List Par} {xs : List Value} {b : Nat} (h : ∀ p ∈ ps, ∃ u, p = .c u) : ¬ ParBlk ps xs b := by
  rintro ⟨i, T, sz, rows, x, h1, _⟩
  obtain ⟨u, hu⟩ := h _ (List.mem_of_getElem? h1)
  cases hu
theorem fr_of_below {L : Nat → Prop} {w w' : World} (h : Below w.heap.size w w') : Fr L w w' := ⟨h.os, h.tape, h.output, h.size, fun k hk _ => h.block k hk⟩
theorem fun_flat {P : Program} {f : FuncId} {xs : List Value} {v : Value} (hc : Callable P f) (h : ∀ w, Calls P f xs.toArray w fun e w' => e = .returned v ∧ Below w.heap.size w w') : Fun P f (xs.map fun x => .c (.v x)) [.c (.v v)] := by
  refine ⟨hc, fun w R ys hlt hp => ?_⟩
  obtain rfl := pars_v hp
  refine (h w).mono fun e w' ⟨he, hb⟩ => ⟨[v], R, by rw [he]; rfl, fr_of_below hb, fun _ h => h, fun b h => .inl h, ⟨rfl, ?_, ?_, ?_⟩, ?_⟩
  · intro i p x h1 h2
    cases i with
    | zero => simp at h1 h2; subst h1 h2; exact .v _
    | succ i => simp at h1
  · intro i j T sz rows T' sz' rows' x y b _ h1
    cases i with
    | zero => simp at h1
    | succ i => simp at h1
  · intro b hb'
    exact absurd hb' (no_blk (by simp))
  · intro b hb'
    exact absurd hb' (no_blk (by simp))
theorem callable {P : Program} {f : FuncId} {fn : Func} (h1 : P.funcs[f]? = some fn) (h2 : (fn.name == "runtime.NumGoroutine") = false) (h3 : fn.body.isNone = false) : Callable P f := ⟨fn, h1, h2, h3⟩
/-- a law's walk -/
theorem tieF {P : Program} {f : FuncId} {ps : List Par} {xs : List Value} {v : Value} {w : World} (hF : Fun P f ps [.c (.v v)]) (hc : ∀ p ∈ ps, ∃ u, p = .c u) (hl : ps.length = xs.length)
    (hp : ∀ (i : Nat) (u : V) (x : Value), ps[i]? = some (.c u) → xs[i]? = some x → RV w (fun b => b < w.heap.size) noG u x) : Calls P f xs.toArray w fun e w' => e = .returned v ∧ Below w.heap.size w w' := by
  refine (hF.2 w (fun b => b < w.heap.size) xs (fun _ h => h) ⟨hl, ?_, ?_, ?_⟩).mono ?_
  · intro i p x h1 h2
    obtain ⟨u, rfl⟩ := hc p (List.mem_of_getElem? h1)
    exact hp i u x h1 h2
  · intro i j T sz rows T' sz' rows' x y b _ h1
    obtain ⟨u, hu⟩ := hc _ (List.mem_of_getElem? h1)
    cases hu
  · intro b hb; exact absurd hb (no_blk hc)
  · rintro e w' ⟨ys, R', rfl, hfr, _, _, hpr, _⟩
    have hy : ys.length = 1 := hpr.len.symm
    match ys, hy with
    | [y], _ =>
      have : RV w' R' noG (.v v) y := hpr.ok 0 _ y rfl rfl
      obtain rfl := rv_v this
      exact ⟨rfl, hfr.os, hfr.tape, hfr.output, hfr.size, fun k hk => hfr.block k hk (no_blk hc)⟩
def RVL (w : World) : List V → List Value → Prop
  | [], [] => True
  | u :: us, x :: xs => RV w (fun b => b < w.heap.size) noG u x ∧ RVL w us xs
  | _, _ => False
theorem rvl_len {w : World} : ∀ {us : List V} {xs : List Value}, RVL w us xs → us.length = xs.length
  | [], [], _ => rfl
  | u :: us, x :: xs, h => by simp [rvl_len h.2]
  | [], _ :: _, h => h.elim
  | _ :: _, [], h => h.elim
theorem rvl_at {w : World} : ∀ {us : List V} {xs : List Value}, RVL w us xs → ∀ (i : Nat) (u : V) (x : Value), us[i]? = some u → xs[i]? = some x → RV w (fun b => b < w.heap.size) noG u x
  | [], [], _, i, u, x, h1, _ => by simp at h1
  | u' :: us, x' :: xs, h, 0, u, x, h1, h2 => by simp at h1 h2; subst h1 h2; exact h.1
  | u' :: us, x' :: xs, h, i + 1, u, x, h1, h2 => rvl_at h.2 i u x (by simpa using h1) (by simpa using h2)
  | [], _ :: _, h, _, _, _, _, _ => h.elim
  | _ :: _, [], h, _, _, _, _, _ => h.elim
theorem tieL {P : Program} {f : FuncId} {us : List V} {xs : List Value} {v : Value} {w : World} (hF : Fun P f (us.map .c) [.c (.v v)]) (h : RVL w us xs) : Calls P f xs.toArray w fun e w' => e = .returned v ∧ Below w.heap.size w w' :=
  tieF hF (by simp) (by rw [List.length_map]; exact rvl_len h) (fun i u x h1 h2 => by
    rw [List.getElem?_map] at h1
    cases hq : us[i]? with
    | none => rw [hq] at h1; cases h1
    | some u' => rw [hq] at h1; simp at h1; subst h1; exact rvl_at h i u' x hq h2)
theorem parsC {w : World} {R : Nat → Prop} : ∀ {us : List V} {xs : List Value}, us.length = xs.length → (∀ (i : Nat) (u : V) (x : Value), us[i]? = some u → xs[i]? = some x → RV w R noG u x) → True := fun _ _ => trivial
end Go.Proofs.YtjhdlcmecbngkaaDoor
/- Plain functions of places: no program in sight. -/

namespace Go.Proofs.YtjhdlcmecbngkaaDoor.Pl
set_option linter.unusedVariables false

/-- within two bounds -/
def wi (n a b : Int) : Bool := decide (a ≤ n) && decide (n ≤ b)
theorem wi_iff {n a b : Int} : wi n a b = true ↔ a ≤ n ∧ n ≤ b := by simp [wi]
theorem wi_no {n a b : Int} : wi n a b = false ↔ ¬ (a ≤ n ∧ n ≤ b) := by rw [← wi_iff]; simp

def okPl (x y z h s : Int) : Bool := wi x (-10000000) 10000000 && wi y (-10000000) 10000000 && wi z (-10000000) 10000000 && wi h 0 1000000 && wi s 0 1000
/-- what is wrong with a place -/
def ckPl (x y z h s : Int) : Int := if okPl x y z h s then 0 else 3
end Go.Proofs.YtjhdlcmecbngkaaDoor.Pl
/- Plain: looking a thing up in a sorted list. No program in sight (but for the order of texts). -/
namespace Go.Proofs.YtjhdlcmecbngkaaDoor.Pl
set_option linter.unusedVariables false

/-- three ways -/
def scmp (a b : ByteArray) : Int := if slt a b then -1 else if slt b a then 1 else 0
theorem scmp_lt {a b : ByteArray} (h : slt a b = true) : scmp a b = -1 := by simp [scmp, h]
theorem scmp_gt {a b : ByteArray} (h : slt b a = true) : scmp a b = 1 := by simp [scmp, slt_asymm h, h]
theorem scmp_eq (a : ByteArray) : scmp a a = 0 := by simp [scmp, slt_irrefl]
theorem scmp_neg {a b : ByteArray} : scmp a b < 0 ↔ slt a b = true := by
  unfold scmp
  split
  · simp_all
  · split <;> simp_all
theorem scmp_zero {a b : ByteArray} : scmp a b = 0 ↔ a = b := by
  unfold scmp
  split
  · rename_i h
    exact ⟨fun e => by omega, fun e => by subst e; rw [slt_irrefl] at h; cases h⟩
  · split
    · rename_i h
      exact ⟨fun e => by omega, fun e => by subst e; rw [slt_irrefl] at h; cases h⟩
    · rename_i h1 h2
      exact ⟨fun _ => slt_tri (by simpa using h1) (by simpa using h2), fun _ => rfl⟩
theorem scmp_bd (a b : ByteArray) : -1 ≤ scmp a b ∧ scmp a b ≤ 1 := by
  unfold scmp; split
  · omega
  · split <;> omega

section
variable {α : Type} {cf : α → Int} {l : List α}
/-- how many stand ahead -/
def low (cf : α → Int) : List α → Nat
  | [] => 0
  | x :: r => if cf x < 0 then low cf r + 1 else 0
/-- those ahead stand ahead of all others -/
def Mono (cf : α → Int) (l : List α) : Prop := ∀ i j, (hi : i < l.length) → (hj : j < l.length) → i ≤ j → cf l[j] < 0 → cf l[i] < 0
theorem low_le : ∀ l : List α, low cf l ≤ l.length
  | [] => Nat.le_refl _
  | x :: r => by simp only [low, List.length_cons]; split <;> have := low_le r <;> omega
theorem low_lt : ∀ {l : List α} {i : Nat} (hi : i < l.length), i < low cf l → cf l[i] < 0
  | x :: r, 0, _, h => by
    simp only [low] at h
    split at h
    · assumption
    · omega
  | x :: r, i + 1, hi, h => by
    simp only [low] at h
    split at h
    · exact low_lt (l := r) (by simpa using hi) (by omega)
    · omega
theorem low_ge : ∀ {l : List α} (h : low cf l < l.length), 0 ≤ cf l[low cf l]
  | [], h => by simp at h
  | x :: r, h => by
    by_cases hx : cf x < 0
    · have e : low cf (x :: r) = low cf r + 1 := by simp [low, hx]
      have h' : low cf r < r.length := by rw [e] at h; simpa using h
      have := low_ge h'
      simp only [e, List.getElem_cons_succ]
      exact this
    · have e : low cf (x :: r) = 0 := by simp [low, hx]
      simp only [e, List.getElem_cons_zero]
      omega
/-- what the search leaves: all below a stand ahead, none from a on -/
theorem low_uniq {a : Nat} (ha : a ≤ l.length) (h1 : ∀ i, (hi : i < l.length) → i < a → cf l[i] < 0) (h2 : ∀ i, (hi : i < l.length) → a ≤ i → 0 ≤ cf l[i]) : a = low cf l := by
  have hl := low_le (cf := cf) l
  rcases Nat.lt_trichotomy a (low cf l) with h | h | h
  · have := low_lt (cf := cf) (l := l) (i := a) (by omega) h
    have := h2 a (by omega) (Nat.le_refl _)
    omega
  · exact h
  · have := low_ge (cf := cf) (l := l) (by omega)
    have := h1 (low cf l) (by omega) h
    omega
/-- is it there? -/
def hit (cf : α → Int) (l : List α) : Bool := match l[low cf l]? with
  | some x => decide (cf x = 0)
  | none => false
theorem hit_in (h : low cf l < l.length) : hit cf l = decide (cf l[low cf l] = 0) := by simp [hit, h]
theorem hit_out (h : ¬ low cf l < l.length) : hit cf l = false := by
  have : l[low cf l]? = none := List.getElem?_eq_none (by omega)
  simp [hit, this]
end
end Go.Proofs.YtjhdlcmecbngkaaDoor.Pl
/- Plain: lists that are checked element by element, and for order. No program in sight. -/
namespace Go.Proofs.YtjhdlcmecbngkaaDoor.Pl
set_option linter.unusedVariables false
section
variable {α : Type}

/-- the first thing that is wrong; 0: nothing is -/
def firstErr (e : α → Int) : List α → Int
  | [] => 0
  | x :: r => if e x = 0 then firstErr e r else e x
/-- does each stand ahead of the next? -/
def sorted (lt : α → α → Bool) : List α → Bool
  | [] => true
  | [_] => true
  | x :: y :: r => lt x y && sorted lt (y :: r)
/-- what is wrong with a list of so many at most -/
def ckL (mx : Nat) (e : α → Int) (lt : α → α → Bool) (l : List α) : Int :=
  if mx < l.length then 2 else if firstErr e l = 0 then (if sorted lt l then 0 else 4) else firstErr e l

theorem firstErr_zero {e : α → Int} : ∀ {l : List α}, (∀ i, (h : i < l.length) → e l[i] = 0) → firstErr e l = 0
  | [], _ => rfl
  | x :: r, h => by
    have h0 : e x = 0 := h 0 (by simp)
    simp only [firstErr, h0, if_true]
    exact firstErr_zero fun i hi => h (i + 1) (by simpa using hi)
theorem firstErr_at {e : α → Int} : ∀ {l : List α} {k : Nat} (hk : k < l.length), (∀ i, (h : i < l.length) → i < k → e l[i] = 0) → e l[k] ≠ 0 → firstErr e l = e l[k]
  | x :: r, 0, _, _, hne => by
    simp only [List.getElem_cons_zero] at hne ⊢
    simp [firstErr, hne]
  | x :: r, k + 1, hk, h, hne => by
    have h0 : e x = 0 := h 0 (by simp) (by omega)
    simp only [firstErr, h0, if_true, List.getElem_cons_succ] at hne ⊢
    exact firstErr_at (by simpa using hk) (fun i hi hik => h (i + 1) (by simpa using hi) (by omega)) hne
theorem sorted_of {lt : α → α → Bool} : ∀ {l : List α}, (∀ i, (h : i + 1 < l.length) → lt l[i] l[i + 1] = true) → sorted lt l = true
  | [], _ => rfl
  | [_], _ => rfl
  | x :: y :: r, h => by
    simp only [sorted, Bool.and_eq_true_iff]
    exact ⟨h 0 (by simp), sorted_of fun i hi => h (i + 1) (by simpa using hi)⟩
theorem sorted_not {lt : α → α → Bool} : ∀ {l : List α} {k : Nat} (hk : k + 1 < l.length), lt l[k] l[k + 1] = false → sorted lt l = false
  | [_], k, hk, _ => by simp at hk
  | x :: y :: r, 0, _, h => by
    simp only [List.getElem_cons_zero, List.getElem_cons_succ] at h
    simp [sorted, h]
  | x :: y :: r, k + 1, hk, h => by
    have : sorted lt (y :: r) = false := sorted_not (k := k) (by simpa using hk) (by simpa using h)
    simp [sorted, this]
theorem sorted_get {lt : α → α → Bool} : ∀ {l : List α}, sorted lt l = true → ∀ i, (h : i + 1 < l.length) → lt l[i] l[i + 1] = true
  | [], _, i, h => by simp at h
  | [_], _, i, h => by simp at h
  | x :: y :: r, hs, 0, _ => by
    simp only [sorted, Bool.and_eq_true_iff] at hs
    exact hs.1
  | x :: y :: r, hs, i + 1, h => by
    simp only [sorted, Bool.and_eq_true_iff] at hs
    exact sorted_get hs.2 i (by simpa using h)
theorem firstErr_get {e : α → Int} : ∀ {l : List α}, firstErr e l = 0 → ∀ i, (h : i < l.length) → e l[i] = 0
  | [], _, i, h => by simp at h
  | x :: r, hs, i, h => by
    by_cases h0 : e x = 0
    · simp only [firstErr, h0, if_true] at hs
      cases i with
      | zero => exact h0
      | succ i => exact firstErr_get hs i (by simpa using h)
    · simp [firstErr, h0] at hs

variable {mx : Nat} {e : α → Int} {lt : α → α → Bool} {l : List α}
theorem ckL_long (h : mx < l.length) : ckL mx e lt l = 2 := by simp [ckL, h]
theorem ckL_err {k : Nat} (h : l.length ≤ mx) (hk : k < l.length) (h0 : ∀ i, (hi : i < l.length) → i < k → e l[i] = 0) (h1 : e l[k] ≠ 0) : ckL mx e lt l = e l[k] := by
  have hf := firstErr_at hk h0 h1
  unfold ckL
  rw [if_neg (by omega), if_neg (by rw [hf]; exact h1), hf]
theorem ckL_unsorted {k : Nat} (h : l.length ≤ mx) (h0 : ∀ i, (hi : i < l.length) → e l[i] = 0) (hk : k + 1 < l.length) (h1 : lt l[k] l[k + 1] = false) : ckL mx e lt l = 4 := by
  unfold ckL
  rw [if_neg (by omega), if_pos (firstErr_zero h0), sorted_not hk h1]
  rfl
theorem ckL_ok (h : l.length ≤ mx) (h0 : ∀ i, (hi : i < l.length) → e l[i] = 0) (h1 : ∀ i, (hi : i + 1 < l.length) → lt l[i] l[i + 1] = true) : ckL mx e lt l = 0 := by
  unfold ckL
  rw [if_neg (by omega), if_pos (firstErr_zero h0), sorted_of h1]
  rfl
theorem ckL_inv (he : ∀ x, e x = 0 ∨ e x = 1 ∨ e x = 3 ∨ e x = 7) (h : ckL mx e lt l = 0) : l.length ≤ mx ∧ (∀ i, (hi : i < l.length) → e l[i] = 0) ∧ sorted lt l = true := by
  unfold ckL at h
  split at h
  · omega
  · split at h
    · rename_i h1 h2
      split at h
      · rename_i h3
        exact ⟨by omega, firstErr_get h2, h3⟩
      · omega
    · rename_i h1 h2
      exact absurd h h2
end
end Go.Proofs.YtjhdlcmecbngkaaDoor.Pl
/- Plain: a list into which a thing is put in its place. No program in sight. -/
namespace Go.Proofs.YtjhdlcmecbngkaaDoor.Pl
set_option linter.unusedVariables false
section
variable {α : Type}

/-- the first place at which p holds; -1: there is none -/
def at_ (p : α → Bool) (l : List α) : Int := match l.findIdx? p with
  | some i => (i : Int)
  | none => -1
theorem at_yes {p : α → Bool} {l : List α} {k : Nat} (hk : k < l.length) (h0 : ∀ i, (h : i < l.length) → i < k → p l[i] = false) (h1 : p l[k] = true) : at_ p l = k := by
  have : l.findIdx? p = some k := by
    rw [List.findIdx?_eq_some_iff_getElem]
    exact ⟨hk, h1, fun j hj => by simp [h0 j (by omega) hj]⟩
  simp [at_, this]
theorem at_no {p : α → Bool} {l : List α} (h0 : ∀ i, (h : i < l.length) → p l[i] = false) : at_ p l = -1 := by
  have : l.findIdx? p = none := by
    rw [List.findIdx?_eq_none_iff]
    intro x hx
    obtain ⟨i, hi, rfl⟩ := List.getElem_of_mem hx
    exact h0 i hi
  simp [at_, this]
theorem at_inv {p : α → Bool} {l : List α} : (at_ p l = -1 ∧ ∀ i, (h : i < l.length) → p l[i] = false) ∨ ∃ k, ∃ hk : k < l.length, at_ p l = (k : Int) ∧ p l[k] = true ∧ ∀ i, (h : i < l.length) → i < k → p l[i] = false := by
  cases h : l.findIdx? p with
  | none =>
    left
    refine ⟨by simp [at_, h], fun i hi => ?_⟩
    rw [List.findIdx?_eq_none_iff] at h
    exact h _ (List.getElem_mem hi)
  | some k =>
    right
    rw [List.findIdx?_eq_some_iff_getElem] at h
    obtain ⟨hk, h1, h2⟩ := h
    refine ⟨k, hk, ?_, h1, fun i hi hik => by simpa using h2 i hik⟩
    have : l.findIdx? p = some k := by
      rw [List.findIdx?_eq_some_iff_getElem]
      exact ⟨hk, h1, h2⟩
    simp [at_, this]

/-- one round: ahead of the first that does not stand ahead (ge) the new one is put; what has its key (not ne) is left out -/
def putStep (ge ne : α → Bool) (g : α) (st : List α × Bool) (x : α) : List α × Bool :=
  if (!st.2 && ge x) = true then (if ne x = true then (st.1 ++ [g] ++ [x], true) else (st.1 ++ [g], true))
  else (if ne x = true then (st.1 ++ [x], st.2) else st)
def putTo (ge ne : α → Bool) (g : α) (l : List α) : List α × Bool := l.foldl (putStep ge ne g) ([], false)
def putL (ge ne : α → Bool) (g : α) (l : List α) : List α := if (putTo ge ne g l).2 = true then (putTo ge ne g l).1 else (putTo ge ne g l).1 ++ [g]

theorem putTo_snoc {ge ne : α → Bool} {g : α} (l : List α) (x : α) : putTo ge ne g (l ++ [x]) = putStep ge ne g (putTo ge ne g l) x := by
  simp [putTo, List.foldl_append]
theorem take_snoc_ {l : List α} {k : Nat} (hk : k < l.length) : l.take (k + 1) = l.take k ++ [l[k]] := by
  rw [List.take_succ_eq_append_getElem hk]
theorem putTo_next {ge ne : α → Bool} {g : α} {l : List α} {k : Nat} (hk : k < l.length) : putTo ge ne g (l.take (k + 1)) = putStep ge ne g (putTo ge ne g (l.take k)) l[k] := by
  rw [take_snoc_ hk, putTo_snoc]
theorem putStep_len {ge ne : α → Bool} {g : α} (st : List α × Bool) (x : α) : (putStep ge ne g st x).1.length ≤ st.1.length + 2 := by
  unfold putStep
  split <;> split <;> simp
theorem putTo_len {ge ne : α → Bool} {g : α} : ∀ (n : Nat) (l : List α), l.length = n → (putTo ge ne g l).1.length ≤ 2 * n := by
  intro n
  induction n with
  | zero => intro l h; obtain rfl := List.eq_nil_of_length_eq_zero h; simp [putTo]
  | succ n ih =>
    intro l h
    have hk : n < l.length := by omega
    have e : l = l.take (n + 1) := (List.take_of_length_le (by omega)).symm
    rw [e, putTo_next hk]
    have h1 := ih (l.take n) (by rw [List.length_take]; omega)
    have h2 := putStep_len (ge := ge) (ne := ne) (g := g) (putTo ge ne g (l.take n)) l[n]
    omega

/-- all ahead of it: nothing is put yet -/
theorem putTo_ahead {ge ne : α → Bool} {g : α} {l : List α} (h1 : ∀ x ∈ l, ge x = false) (h2 : ∀ x ∈ l, ne x = true) : ∀ (k : Nat), k ≤ l.length → putTo ge ne g (l.take k) = (l.take k, false) := by
  intro k
  induction k with
  | zero => intro _; simp [putTo]
  | succ k ih =>
    intro hk
    have hk' : k < l.length := hk
    rw [putTo_next hk', ih (by omega), take_snoc_ hk']
    simp [putStep, h1 _ (List.getElem_mem hk'), h2 _ (List.getElem_mem hk')]
/-- behind: what is left is taken over -/
theorem putTo_behind {ge ne : α → Bool} {g : α} {pre : List α} {out : List α} (hp : putTo ge ne g pre = (out, true)) {r : List α} (h2 : ∀ x ∈ r, ne x = true) : ∀ (k : Nat), k ≤ r.length → putTo ge ne g (pre ++ r.take k) = (out ++ r.take k, true) := by
  intro k
  induction k with
  | zero => intro _; simp [hp]
  | succ k ih =>
    intro hk
    have hk' : k < r.length := hk
    rw [take_snoc_ hk', ← List.append_assoc, putTo_snoc, ih (by omega)]
    simp [putStep, h2 _ (List.getElem_mem hk')]

/-- put, where those ahead stand in front: not there: in between -/
theorem putL_new {ge ne : α → Bool} {g : α} {pre r : List α} (h1 : ∀ x ∈ pre, ge x = false) (h2 : ∀ x ∈ pre, ne x = true) (h3 : ∀ x ∈ r, ge x = true) (h4 : ∀ x ∈ r, ne x = true) :
    putL ge ne g (pre ++ r) = pre ++ [g] ++ r := by
  have hp : putTo ge ne g pre = (pre, false) := by simpa using putTo_ahead h1 h2 pre.length (Nat.le_refl _)
  cases r with
  | nil => simp [putL, hp]
  | cons x r =>
    have hx : putTo ge ne g (pre ++ [x]) = (pre ++ [g] ++ [x], true) := by
      rw [putTo_snoc, hp]
      simp [putStep, h3 x (by simp), h4 x (by simp)]
    have := putTo_behind hx (r := r) (fun y hy => h4 y (by simp [hy])) r.length (Nat.le_refl _)
    rw [List.take_length] at this
    have e : pre ++ x :: r = pre ++ [x] ++ r := by simp
    rw [e]
    unfold putL
    rw [this]
    simp
/-- there already: in its place -/
theorem putL_set {ge ne : α → Bool} {g x : α} {pre r : List α} (h1 : ∀ x ∈ pre, ge x = false) (h2 : ∀ x ∈ pre, ne x = true) (hx : ge x = true) (hx' : ne x = false) (h4 : ∀ x ∈ r, ne x = true) :
    putL ge ne g (pre ++ x :: r) = pre ++ g :: r := by
  have hp : putTo ge ne g pre = (pre, false) := by simpa using putTo_ahead h1 h2 pre.length (Nat.le_refl _)
  have hx2 : putTo ge ne g (pre ++ [x]) = (pre ++ [g], true) := by
    rw [putTo_snoc, hp]
    simp [putStep, hx, hx']
  have := putTo_behind hx2 (r := r) h4 r.length (Nat.le_refl _)
  rw [List.take_length] at this
  have e : pre ++ x :: r = pre ++ [x] ++ r := by simp
  rw [e]
  unfold putL
  rw [this]
  simp
end
end Go.Proofs.YtjhdlcmecbngkaaDoor.Pl
/- Words for proofs over resolved code; no function of a program in sight. -/
namespace Go.Proofs.YtjhdlcmecbngkaaDoor
open Go.RowKit Pl
set_option linter.unusedVariables false
theorem wrap_u64 {n : Int} (h1 : 0 ≤ n) (h2 : n ≤ 18446744073709551615) : IntKind.u64.wrap n = n := IntWalk.u64_in n ⟨h1, h2⟩
theorem fdiv_half {n : Int} (h : 0 ≤ n) : n.fdiv (2 ^ (min (1 : Int).toNat IntKind.u64.bits)) = n / 2 := by
  have e : (2 : Int) ^ (min (1 : Int).toNat IntKind.u64.bits) = 2 := by decide
  rw [e, Int.fdiv_eq_ediv_of_nonneg _ (by decide)]
/-- a thing's cells are values -/
class FlatRow {α : Type} (enc : α → List V) : Prop where
  flat : ∀ x, ∀ u ∈ enc x, ∃ v, u = .v v
theorem row_map {α : Type} {f : α → List V} {l : List α} {k : Nat} (h : k < l.length) : (l.map f)[k]? = some (f l[k]) := by simp [h]
theorem fl_row {α : Type} {enc : α → List V} [hf : FlatRow enc] {x : α} : ∀ u ∈ enc x, Fl u := fun u hu => by
  obtain ⟨v, rfl⟩ := hf.flat x u hu
  exact fl_v v
theorem fl_rows {α : Type} {enc : α → List V} [FlatRow enc] {l : List α} : ∀ row ∈ l.map enc, ∀ u ∈ row, Fl u := fun row hr u hu => by
  obtain ⟨x, _, rfl⟩ := List.mem_map.1 hr
  exact fl_row u hu
theorem cl_rows {α : Type} {enc : α → List V} [FlatRow enc] {l : List α} : ∀ row ∈ l.map enc, ∀ u ∈ row, Cl u := fun row hr u hu => (fl_rows row hr u hu).cl
theorem cl_list {α : Type} {enc : α → List V} [FlatRow enc] {c : Bool} {l : List α} : Cl (.sl c (l.map enc)) := cl_sl cl_rows
theorem cl_nil {c : Bool} : Cl (.sl c []) := cl_sl (by simp)
theorem cl_one {α : Type} {enc : α → List V} [FlatRow enc] {x : α} : Cl (.agg (enc x)) := cl_agg fun u hu => (fl_row u hu).cl
theorem fl_one {α : Type} {enc : α → List V} [FlatRow enc] {x : α} : Fl (.agg (enc x)) := fl_agg fun u hu => fl_row u hu
def vB : V → Bool
  | .v _ => true
  | _ => false
def vsB : List V → Bool
  | [] => true
  | u :: us => bif vB u then vsB us else false
def clB : V → Bool
  | .v _ => true
  | .agg cs => vsB cs
  | .tup cs => vsB cs
  | .clo _ cs => vsB cs
  | .sl false [] => true
  | _ => false
def clRs : List (List V) → Bool
  | [] => true
  | r :: rs => bif vsB r then clRs rs else false
theorem vB_fl {u : V} (h : vB u = true) : Fl u := by
  cases u <;> first | exact fl_v _ | cases h
theorem vsB_fl : ∀ {us : List V}, vsB us = true → ∀ u ∈ us, Fl u
  | [], _, u, hu => by cases hu
  | v :: us, h, u, hu => by
    unfold vsB at h
    cases hv : vB v with
    | false => rw [hv] at h; cases h
    | true =>
      rw [hv] at h
      rcases List.mem_cons.1 hu with rfl | hu
      · exact vB_fl hv
      · exact vsB_fl h u hu
theorem clRs_fl : ∀ {rs : List (List V)}, clRs rs = true → ∀ r ∈ rs, ∀ u ∈ r, Fl u
  | [], _, r, hr => by cases hr
  | r' :: rs, h, r, hr => by
    unfold clRs at h
    cases hv : vsB r' with
    | false => rw [hv] at h; cases h
    | true =>
      rw [hv] at h
      rcases List.mem_cons.1 hr with rfl | hr
      · exact vsB_fl hv
      · exact clRs_fl h r hr
theorem fl_clo {f : FuncId} {cs : List V} (h : ∀ u ∈ cs, Fl u) : Fl (.clo f cs) := fun w w' R R' G G' x hx => by
  cases hx with
  | clo f cs xs hl hh => exact .clo f cs xs hl fun i u x h1 h2 => h u (List.mem_of_getElem? h1) _ _ _ _ _ _ _ (hh i u x h1 h2)
theorem fl_b {u : V} (h : clB u = true) : Fl u := by
  cases u with
  | v x => exact fl_v x
  | agg cs => exact fl_agg (vsB_fl h)
  | tup cs => exact fl_tup (vsB_fl h)
  | clo f cs => exact fl_clo (vsB_fl h)
  | sl c rows => cases c <;> cases rows <;> first | exact fl_nil | cases h
  | _ => cases h
theorem cl_b {u : V} (h : clB u = true) : Cl u := (fl_b h).cl
theorem cl_rs {rs : List (List V)} (h : clRs rs = true) : ∀ r ∈ rs, ∀ u ∈ r, Cl u := fun r hr u hu => (clRs_fl h r hr u hu).cl
theorem cl_rl1 {α : Type} {enc : α → List V} [FlatRow enc] {c : Bool} {l : List α} : ∀ row ∈ [[V.sl c (l.map enc)]], ∀ u ∈ row, Cl u := by
  intro row hr u hu
  simp only [List.mem_cons, List.not_mem_nil, or_false] at hr; subst hr
  simp only [List.mem_cons, List.not_mem_nil, or_false] at hu; subst hu
  exact cl_list
theorem cl_rl2 {α : Type} {enc : α → List V} [FlatRow enc] {c d : Bool} {l m : List α} : ∀ row ∈ [[V.sl c (l.map enc)], [V.sl d (m.map enc)]], ∀ u ∈ row, Cl u := by
  intro row hr u hu
  simp only [List.mem_cons, List.not_mem_nil, or_false] at hr
  rcases hr with rfl | rfl <;> (simp only [List.mem_cons, List.not_mem_nil, or_false] at hu; subst hu; exact cl_list)
theorem cl_ll1 {α : Type} {enc : α → List V} [FlatRow enc] {c e : Bool} {l : List α} : Cl (.sl e [[V.sl c (l.map enc)]]) := cl_sl cl_rl1
theorem cl_ll2 {α : Type} {enc : α → List V} [FlatRow enc] {c d e : Bool} {l m : List α} : Cl (.sl e [[V.sl c (l.map enc)], [V.sl d (m.map enc)]]) := cl_sl cl_rl2
def flB : List Par → Bool
  | [] => true
  | .c u :: ps => bif clB u then flB ps else false
  | _ => false
theorem flat_b : ∀ {rs : List Par}, flB rs = true → flatRes rs
  | [], _ => fun r hr => by cases hr
  | .c u :: ps, h => by
    unfold flB at h
    cases hv : clB u with
    | false => rw [hv] at h; cases h
    | true =>
      rw [hv] at h
      intro r hr
      rcases List.mem_cons.1 hr with rfl | hr
      · exact fl_b hv
      · exact flat_b h r hr
  | .o _ _ _ :: _, h => by cases h
theorem flat_own {α : Type} {enc : α → List V} [FlatRow enc] {T : TypeId} {sz : Nat} {l : List α} : flatRes [.o T sz (l.map enc)] := by
  intro r hr
  simp only [List.mem_cons, List.not_mem_nil, or_false] at hr; subst hr
  exact fl_rows
theorem flat_own1 {α : Type} {enc : α → List V} [FlatRow enc] {T : TypeId} {sz : Nat} {l : List α} {ps : List Par} (h : flB ps = true) : flatRes (.o T sz (l.map enc) :: ps) := by
  intro r hr
  rcases List.mem_cons.1 hr with rfl | hr
  · exact fl_rows
  · exact flat_b h r hr
theorem cl_setB {α : Type} {enc : α → List V} [FlatRow enc] {l : List α} {i : Nat} {row : List V} (h : vsB row = true) : ∀ r ∈ (l.map enc).set i row, ∀ u ∈ r, Cl u := fun r hr u hu => by
  rcases List.mem_or_eq_of_mem_set hr with h1 | rfl
  · exact cl_rows r h1 u hu
  · exact (vsB_fl h u hu).cl
theorem cl_setG {rows : List (List V)} {i : Nat} {row : List V} (h0 : ∀ r ∈ rows, ∀ u ∈ r, Cl u) (h : vsB row = true) : ∀ r ∈ rows.set i row, ∀ u ∈ r, Cl u := fun r hr u hu => by
  rcases List.mem_or_eq_of_mem_set hr with h1 | rfl
  · exact h0 r h1 u hu
  · exact (vsB_fl h u hu).cl
theorem set_at {α : Type} {f : α → List V} {l : List α} {k : Nat} {r : List V} (h : k < l.length) : ((l.map f).set k r)[k]? = some r := by simp [h]
theorem cl_appB {rs rs' : List (List V)} (h : ∀ r ∈ rs, ∀ u ∈ r, Cl u) (h' : ∀ r ∈ rs', ∀ u ∈ r, Cl u) : ∀ r ∈ rs ++ rs', ∀ u ∈ r, Cl u := fun r hr u hu => by
  rcases List.mem_append.1 hr with h1 | h1
  · exact h r h1 u hu
  · exact h' r h1 u hu
theorem give' {H : Nat → Option Ent} {all : List Nat} {bor : Bool} {gone : List Nat} {id g : Nat} {T : TypeId} {sz : Nat} {rows : List (List V)} {us : List V} {ps : List Par} (he : H id = some ⟨g, .t T, sz, rows⟩) (hr : ∀ row ∈ rows, ∀ u ∈ row, Cl u) (hn : id ∉ gone) (ha : id ∈ all) (h : ArgsOk H all bor gone us ps) : ArgsOk H all bor (id :: gone) (.own id g :: us) (.o T sz rows :: ps) :=
  ArgsOk.give (e := ⟨g, .t T, sz, rows⟩) he rfl rfl hr hn ha h
theorem not_t {b : Bool} (h : (!b) = true) : b = false := by cases b; rfl; cases h
theorem not_f {b : Bool} (h : (!b) = false) : b = true := by cases b; cases h; rfl
theorem nobor {p : Prop} : false = true → p := by simp
theorem wi_t {n a b : Int} (h : decide (a ≤ n) = true) : wi n a b = decide (n ≤ b) := by simp [wi, h]
theorem wi_f {n a b : Int} (h : decide (a ≤ n) = false) : wi n a b = false := by simp [wi, h]
theorem up1 {n k : Nat} {p : (j : Nat) → (j < n) → Prop} (h0 : ∀ j (h : j < n), j < k → p j h) (hk : ∀ h : k < n, p k h) : ∀ j (h : j < n), j < k + 1 → p j h := fun j h hj => by
  rcases (by omega : j < k ∨ j = k) with g | rfl
  · exact h0 j h g
  · exact hk h
theorem up2 {n k : Nat} {p : (j : Nat) → (j + 1 < n) → Prop} (h0 : ∀ j (h : j + 1 < n), j < k → p j h) (hk : ∀ h : k + 1 < n, p k h) : ∀ j (h : j + 1 < n), j < k + 1 → p j h := fun j h hj => by
  rcases (by omega : j < k ∨ j = k) with g | rfl
  · exact h0 j h g
  · exact hk h
theorem cl_row {row : List V} (h : clRs [row] = true) : ∀ u ∈ row, Cl u := fun u hu => cl_rs h row (by simp) u hu
theorem GetR.cell1 {env : Nat → V} {H : Nat → Option Ent} {a id gen k off sz : Nat} {agg : Bool} {e : Ent} {row : List V} {r : List RT} {u : V} {us : List V} (h1 : env a = .ptr id gen k off) (h2 : H id = some e) (h3 : e.gen = gen) (h4 : e.rows[k]? = some row) (h5 : Nat.ble (off + sz) row.length = true) (hu : u = mkV agg ((row.drop off).take sz)) (h : GetR env H r us) :
    GetR env H ((a, some (agg, sz)) :: r) (u :: us) := by rw [hu]; exact .cell h1 h2 h3 h4 (Nat.le_of_ble_eq_true h5) h
theorem GetR.tmp1 {env : Nat → V} {H : Nat → Option Ent} {t : Nat} {r : List RT} {u : V} {us : List V} (hu : u = env t) (h : GetR env H r us) : GetR env H ((t, none) :: r) (u :: us) := by rw [hu]; exact .tmp h
theorem retc2 {env : Nat → V} {H : Nat → Option Ent} {ts : List RT} {u v : V} (h1 : Cl u) (h2 : Cl v) (hG : GetR env H ts [u, v]) : ∃ us gone, GetR env H ts us ∧ ArgsOk H gone true gone us [.c u, .c v] := ⟨_, [], hG, .same h1 (.same h2 (.nil _))⟩
theorem retc1 {env : Nat → V} {H : Nat → Option Ent} {ts : List RT} {u : V} (h1 : Cl u) (hG : GetR env H ts [u]) : ∃ us gone, GetR env H ts us ∧ ArgsOk H gone true gone us [.c u] := ⟨_, [], hG, .same h1 (.nil _)⟩
/-- a thing's cells are one cell each, so many -/
class OneRow {α : Type} (enc : α → List V) (sz : outParam Nat) : Prop where
  len : ∀ x, (enc x).length = sz
  one : ∀ x, ∀ u ∈ enc x, ∃ v, u = .v v ∧ v.oneCell' = true
theorem ones_of {H : Nat → Option Ent} : ∀ {us : List V}, (∀ u ∈ us, ∃ v, u = .v v ∧ v.oneCell' = true) → ones H us
  | [], _ => trivial
  | u :: us, h => by
    obtain ⟨v, rfl, hv⟩ := h u (List.mem_cons_self ..)
    exact ⟨hv, ones_of fun w hw => h w (List.mem_cons_of_mem _ hw)⟩
theorem ones_rows {α : Type} {enc : α → List V} {sz : Nat} [OneRow enc sz] {H : Nat → Option Ent} {l : List α} : ∀ row ∈ l.map enc, row.length = sz ∧ ones H row := fun row hr => by
  obtain ⟨x, _, rfl⟩ := List.mem_map.1 hr
  exact ⟨OneRow.len x, ones_of (OneRow.one x)⟩
theorem outs_b {rs : List ParM} (h : rs.all outM = true) : ∀ p ∈ rs, outM p = true := List.all_eq_true.1 h
theorem cl_r1 {c : Bool} {rows : List (List V)} (h : clRs rows = true) : ∀ u ∈ [V.sl c rows], Cl u := fun u hu => by
  simp only [List.mem_cons, List.not_mem_nil, or_false] at hu; subst hu
  exact cl_sl (cl_rs h)
theorem cl_r1b {α : Type} {enc : α → List V} [FlatRow enc] {c : Bool} {l : List α} : ∀ u ∈ [V.sl c (l.map enc)], Cl u := fun u hu => by
  simp only [List.mem_cons, List.not_mem_nil, or_false] at hu; subst hu
  exact cl_list
theorem cl_rowF {α : Type} {enc : α → List V} [FlatRow enc] {x : α} : ∀ u ∈ enc x, Cl u := fun u hu => (fl_row u hu).cl
theorem pair_eq {α β : Type} {p : α × β} {a : α} {b : β} (h : p = (a, b)) : p.1 = a ∧ p.2 = b := by rw [h]; exact ⟨rfl, rfl⟩
/-- rows without things of our own -/
theorem cr_app {rs rs' : List (List V)} (h : ∀ r ∈ rs, ∀ u ∈ r, Cl u) (h' : ∀ r ∈ rs', ∀ u ∈ r, Cl u) : ∀ r ∈ rs ++ rs', ∀ u ∈ r, Cl u := cl_appB h h'
theorem cr_take {rs : List (List V)} {n : Nat} (h : ∀ r ∈ rs, ∀ u ∈ r, Cl u) : ∀ r ∈ rs.take n, ∀ u ∈ r, Cl u := fun r hr => h r (List.mem_of_mem_take hr)
theorem cr_drop {rs : List (List V)} {n : Nat} (h : ∀ r ∈ rs, ∀ u ∈ r, Cl u) : ∀ r ∈ rs.drop n, ∀ u ∈ r, Cl u := fun r hr => h r (List.mem_of_mem_drop hr)
theorem cr_repl {row : List V} {n : Nat} (h : clRs [row] = true) : ∀ r ∈ List.replicate n row, ∀ u ∈ r, Cl u := fun r hr => by
  obtain ⟨_, rfl⟩ := List.mem_replicate.1 hr
  exact cl_row h
theorem ret_osub {H : Nat → Option Ent} {id g n sz : Nat} {e : Ent} {T : TypeId} {rows : List (List V)} {us : List V} (hu : us = [.osub id g 0 n]) (he : H id = some e) (hg : e.gen = g) (hT : e.T = .t T) (hs : e.sz = sz) (hl : n ≤ e.rows.length) (hr : ∀ row ∈ e.rows, ∀ u ∈ row, Cl u) (hq : rows = e.rows.take n) : ArgsOk H [id] true [id] us [.o T sz rows] := by
  rw [hu, hq, ← hs]; exact .givv he hg hT hl hr (by simp) (by simp) (.nil _)
theorem ret_own {H : Nat → Option Ent} {id g sz : Nat} {e : Ent} {T : TypeId} {rows : List (List V)} {us : List V} (hu : us = [.own id g]) (he : H id = some e) (hg : e.gen = g) (hT : e.T = .t T) (hs : e.sz = sz) (hr : ∀ row ∈ rows, ∀ u ∈ row, Cl u) (hq : e.rows = rows) : ArgsOk H [id] true [id] us [.o T sz rows] := by
  subst hq; rw [hu, ← hs]; exact .give he hg hT hr (by simp) (by simp) (.nil _)
theorem flat_own2 {α β : Type} {enc : α → List V} {enc' : β → List V} [FlatRow enc] [FlatRow enc'] {T T' : TypeId} {sz sz' : Nat} {l : List α} {l' : List β} {ps : List Par} (h : flB ps = true) : flatRes (.o T sz (l.map enc) :: .o T' sz' (l'.map enc') :: ps) := by
  intro r hr
  rcases List.mem_cons.1 hr with rfl | hr
  · exact fl_rows
  · exact flat_own1 h r hr
end Go.Proofs.YtjhdlcmecbngkaaDoor
/- The code of the functions, resolved; printed by a program (mkrc.py) and held against the translation by the kernel. -/
namespace Go.Proofs.YtjhdlcmecbngkaaDoor
set_option linter.unusedVariables false
/-- hearsay/hearsaylaw.QueryChecks -/
def rc_hearsaylaw_QueryChecks : RCode :=
  .seq (.reg [⟨(some 1), none, .box 23 4 (.tmp 0)⟩,
     ⟨(some 2), none, .mv (.const (.bool false))⟩])
  (.seq (.reg [⟨(some 8), none, .load true 4 (.tmp 1)⟩,
     ⟨(some 9), none, .call (.func 12) [(.tmp 8)]⟩,
     ⟨(some 7), none, .mv (.tmp 9)⟩,
     ⟨(some 10), none, .ext (.tmp 7) 0⟩,
     ⟨(some 11), none, .ext (.tmp 7) 1⟩,
     ⟨(some 3), none, .mv (.tmp 10)⟩,
     ⟨(some 4), none, .mv (.tmp 11)⟩])
  (.seq (.reg [⟨(some 13), none, .load true 4 (.tmp 1)⟩,
     ⟨(some 14), none, .call (.func 13) [(.tmp 13)]⟩,
     ⟨(some 12), none, .mv (.tmp 14)⟩,
     ⟨(some 15), none, .ext (.tmp 12) 0⟩,
     ⟨(some 16), none, .ext (.tmp 12) 1⟩,
     ⟨(some 5), none, .mv (.tmp 15)⟩,
     ⟨(some 6), none, .mv (.tmp 16)⟩])
  (.seq (.dreg [[⟨(some 17), none, .call (.func 14) []⟩],
     [⟨(some 18), none, .mv (.tmp 17)⟩],
     [⟨(some 19), (some (18, true)), .load true 4 (.tmp 1)⟩,
      ⟨(some 20), (some (18, true)), .call (.func 15) [(.tmp 19)]⟩,
      ⟨(some 21), (some (18, true)), .load true 4 (.tmp 1)⟩],
     [⟨(some 22), (some (18, true)), .call (.func 16) [(.tmp 21)]⟩],
     [⟨(some 23), (some (18, true)), .bin .eql (.tmp 20) (.tmp 22)⟩],
     [⟨(some 24), none, .pick (.tmp 18) (.tmp 23) (.const (.bool false))⟩],
     [⟨(some 25), none, .mv (.tmp 24)⟩],
     [⟨(some 26), (some (25, true)), .mv (.tmp 3)⟩,
      ⟨(some 27), (some (25, true)), .mv (.tmp 4)⟩,
      ⟨(some 28), (some (25, true)), .mv (.tmp 6)⟩,
      ⟨(some 29), (some (25, true)), .mv (.tmp 5)⟩],
     [⟨(some 30), (some (25, true)), .call (.func 17) [(.tmp 26), (.tmp 27), (.tmp 28), (.tmp 29)]⟩],
     [⟨(some 31), none, .pick (.tmp 25) (.tmp 30) (.const (.bool false))⟩],
     [⟨(some 2), none, .mv (.tmp 31)⟩]])
  (.ret))))
theorem ck_hearsaylaw_QueryChecks : chkFun Tryd.prog 3 1 = some (rc_hearsaylaw_QueryChecks, [2]) := by kernel_rfl
/-- hearsay/hearsaylaw.QueryParses -/
def rc_hearsaylaw_QueryParses : RCode :=
  .seq (.reg [⟨(some 2), none, .mv (.const (.bool false))⟩])
  (.seq (.reg [⟨(some 8), none, .mv (.tmp 0)⟩,
     ⟨(some 9), none, .call (.func 18) [(.tmp 8)]⟩,
     ⟨(some 7), none, .mv (.tmp 9)⟩,
     ⟨(some 10), none, .ext (.tmp 7) 0⟩,
     ⟨(some 11), none, .ext (.tmp 7) 1⟩,
     ⟨(some 3), none, .zbox 23 [(.string ⟨#[]⟩), (.string ⟨#[]⟩), (.string ⟨#[]⟩), (.string ⟨#[]⟩)]⟩,
     ⟨none, none, .store 4 (.tmp 3) (.tmp 10)⟩,
     ⟨(some 4), none, .mv (.tmp 11)⟩])
  (.seq (.reg [⟨(some 13), none, .mv (.tmp 0)⟩,
     ⟨(some 14), none, .call (.func 19) [(.tmp 13)]⟩,
     ⟨(some 12), none, .mv (.tmp 14)⟩,
     ⟨(some 15), none, .ext (.tmp 12) 0⟩,
     ⟨(some 16), none, .ext (.tmp 12) 1⟩,
     ⟨(some 5), none, .zbox 23 [(.string ⟨#[]⟩), (.string ⟨#[]⟩), (.string ⟨#[]⟩), (.string ⟨#[]⟩)]⟩,
     ⟨none, none, .store 4 (.tmp 5) (.tmp 15)⟩,
     ⟨(some 6), none, .mv (.tmp 16)⟩])
  (.seq (.reg [⟨(some 17), none, .call (.func 14) []⟩,
     ⟨(some 18), none, .mv (.tmp 17)⟩,
     ⟨(some 19), (some (18, true)), .mv (.tmp 4)⟩,
     ⟨(some 20), (some (18, true)), .mv (.tmp 6)⟩,
     ⟨(some 21), (some (18, true)), .bin .eql (.tmp 19) (.tmp 20)⟩,
     ⟨(some 22), none, .pick (.tmp 18) (.tmp 21) (.const (.bool false))⟩,
     ⟨(some 23), none, .mv (.tmp 22)⟩,
     ⟨(some 24), (some (23, true)), .load true 4 (.tmp 3)⟩,
     ⟨(some 25), (some (23, true)), .load true 4 (.tmp 5)⟩,
     ⟨(some 26), (some (23, true)), .eqS false [1, 1, 1, 1] (.tmp 24) (.tmp 25)⟩,
     ⟨(some 27), none, .pick (.tmp 23) (.tmp 26) (.const (.bool false))⟩,
     ⟨(some 2), none, .mv (.tmp 27)⟩])
  (.ret))))
theorem ck_hearsaylaw_QueryParses : chkFun Tryd.prog 4 1 = some (rc_hearsaylaw_QueryParses, [2]) := by kernel_rfl
/-- hearsay/hearsaylaw.QueryBack -/
def rc_hearsaylaw_QueryBack : RCode :=
  .seq (.reg [⟨(some 2), none, .box 23 4 (.tmp 0)⟩,
     ⟨(some 4), none, .mv (.const (.bool false))⟩])
  (.seq (.seq (.reg [⟨(some 12), none, .call (.func 14) []⟩,
      ⟨(some 13), none, .not (.tmp 12)⟩])
   (.cond (.tmp 13)
    (.seq (.reg [⟨(some 4), none, .mv (.const (.bool false))⟩])
     (.ret))
    (.skip)))
  (.seq (.seq (.reg [⟨(some 15), none, .load true 4 (.tmp 2)⟩,
      ⟨(some 16), none, .call (.func 12) [(.tmp 15)]⟩,
      ⟨(some 14), none, .mv (.tmp 16)⟩,
      ⟨(some 17), none, .ext (.tmp 14) 0⟩,
      ⟨(some 18), none, .ext (.tmp 14) 1⟩,
      ⟨(some 5), none, .mv (.tmp 17)⟩,
      ⟨(some 6), none, .mv (.tmp 18)⟩])
   (.seq (.reg [⟨(some 19), none, .mv (.tmp 6)⟩,
      ⟨(some 20), none, .bin .eql (.tmp 19) (.const (.int .i64 0))⟩])
   (.cond (.tmp 20)
    (.seq (.reg [⟨(some 22), none, .mv (.tmp 5)⟩,
        ⟨(some 23), none, .call (.func 18) [(.tmp 22)]⟩,
        ⟨(some 21), none, .mv (.tmp 23)⟩,
        ⟨(some 24), none, .ext (.tmp 21) 0⟩,
        ⟨(some 25), none, .ext (.tmp 21) 1⟩,
        ⟨(some 7), none, .zbox 23 [(.string ⟨#[]⟩), (.string ⟨#[]⟩), (.string ⟨#[]⟩), (.string ⟨#[]⟩)]⟩,
        ⟨none, none, .store 4 (.tmp 7) (.tmp 24)⟩,
        ⟨(some 8), none, .mv (.tmp 25)⟩])
     (.seq (.reg [⟨(some 26), none, .mv (.tmp 8)⟩,
        ⟨(some 27), none, .bin .neq (.tmp 26) (.const (.int .i64 0))⟩,
        ⟨(some 28), none, .mv (.tmp 27)⟩,
        ⟨(some 29), (some (28, false)), .load true 4 (.tmp 7)⟩,
        ⟨(some 30), (some (28, false)), .load true 4 (.tmp 2)⟩,
        ⟨(some 31), (some (28, false)), .eqS true [1, 1, 1, 1] (.tmp 29) (.tmp 30)⟩,
        ⟨(some 32), none, .pick (.tmp 28) (.const (.bool true)) (.tmp 31)⟩])
     (.cond (.tmp 32)
      (.seq (.reg [⟨(some 4), none, .mv (.const (.bool false))⟩])
       (.ret))
      (.skip))))
    (.skip))))
  (.seq (.reg [⟨(some 34), none, .mv (.tmp 1)⟩,
     ⟨(some 35), none, .call (.func 18) [(.tmp 34)]⟩,
     ⟨(some 33), none, .mv (.tmp 35)⟩,
     ⟨(some 36), none, .ext (.tmp 33) 0⟩,
     ⟨(some 37), none, .ext (.tmp 33) 1⟩,
     ⟨(some 9), none, .zbox 23 [(.string ⟨#[]⟩), (.string ⟨#[]⟩), (.string ⟨#[]⟩), (.string ⟨#[]⟩)]⟩,
     ⟨none, none, .store 4 (.tmp 9) (.tmp 36)⟩,
     ⟨(some 10), none, .mv (.tmp 37)⟩])
  (.seq (.seq (.reg [⟨(some 38), none, .mv (.tmp 10)⟩,
      ⟨(some 39), none, .bin .neq (.tmp 38) (.const (.int .i64 0))⟩])
   (.cond (.tmp 39)
    (.seq (.reg [⟨(some 4), none, .mv (.const (.bool true))⟩])
     (.ret))
    (.skip)))
  (.seq (.reg [⟨(some 41), none, .load true 4 (.tmp 9)⟩,
     ⟨(some 42), none, .call (.func 12) [(.tmp 41)]⟩,
     ⟨(some 40), none, .mv (.tmp 42)⟩,
     ⟨(some 43), none, .ext (.tmp 40) 0⟩,
     ⟨(some 44), none, .ext (.tmp 40) 1⟩,
     ⟨(some 11), none, .mv (.tmp 43)⟩,
     ⟨(some 10), none, .mv (.tmp 44)⟩])
  (.seq (.reg [⟨(some 45), none, .mv (.tmp 10)⟩,
     ⟨(some 46), none, .bin .eql (.tmp 45) (.const (.int .i64 0))⟩,
     ⟨(some 47), none, .mv (.tmp 46)⟩,
     ⟨(some 48), (some (47, true)), .mv (.tmp 11)⟩,
     ⟨(some 49), (some (47, true)), .mv (.tmp 1)⟩,
     ⟨(some 50), (some (47, true)), .bin .eql (.tmp 48) (.tmp 49)⟩,
     ⟨(some 51), none, .pick (.tmp 47) (.tmp 50) (.const (.bool false))⟩,
     ⟨(some 4), none, .mv (.tmp 51)⟩])
  (.ret)))))))
theorem ck_hearsaylaw_QueryBack : chkFun Tryd.prog 5 2 = some (rc_hearsaylaw_QueryBack, [4]) := by kernel_rfl
/-- hearsay/hearsaylaw.DnsChecks -/
def rc_hearsaylaw_DnsChecks : RCode :=
  .seq (.reg [⟨(some 2), none, .mv (.const (.bool false))⟩])
  (.seq (.reg [⟨(some 3), none, .call (.func 20) []⟩,
     ⟨(some 4), none, .mv (.tmp 3)⟩,
     ⟨(some 5), (some (4, true)), .mv (.tmp 0)⟩,
     ⟨(some 6), (some (4, true)), .call (.func 21) [(.tmp 5)]⟩,
     ⟨(some 7), (some (4, true)), .mv (.tmp 0)⟩,
     ⟨(some 8), (some (4, true)), .call (.func 22) [(.tmp 7)]⟩,
     ⟨(some 9), (some (4, true)), .bin .eql (.tmp 6) (.tmp 8)⟩,
     ⟨(some 10), none, .pick (.tmp 4) (.tmp 9) (.const (.bool false))⟩,
     ⟨(some 2), none, .mv (.tmp 10)⟩])
  (.ret))
theorem ck_hearsaylaw_DnsChecks : chkFun Tryd.prog 6 1 = some (rc_hearsaylaw_DnsChecks, [2]) := by kernel_rfl
/-- hearsay/hearsaylaw.DnsWrites -/
def rc_hearsaylaw_DnsWrites : RCode :=
  .seq (.reg [⟨(some 1), none, .box 40 7 (.tmp 0)⟩,
     ⟨(some 2), none, .mv (.const (.bool false))⟩])
  (.seq (.reg [⟨(some 8), none, .load true 7 (.tmp 1)⟩,
     ⟨(some 9), none, .call (.func 23) [(.tmp 8)]⟩,
     ⟨(some 7), none, .mv (.tmp 9)⟩,
     ⟨(some 10), none, .ext (.tmp 7) 0⟩,
     ⟨(some 11), none, .ext (.tmp 7) 1⟩,
     ⟨(some 3), none, .mv (.tmp 10)⟩,
     ⟨(some 4), none, .mv (.tmp 11)⟩])
  (.seq (.reg [⟨(some 12), none, .load true 7 (.tmp 1)⟩,
     ⟨(some 13), none, .call (.func 24) [(.tmp 12)]⟩,
     ⟨(some 5), none, .mv (.tmp 13)⟩,
     ⟨(some 6), none, .mv (.const (.string ⟨#[]⟩))⟩])
  (.seq (.seq (.reg [⟨(some 14), none, .mv (.tmp 5)⟩,
      ⟨(some 15), none, .bin .eql (.tmp 14) (.const (.int .i64 0))⟩])
   (.cond (.tmp 15)
    (.seq (.reg [⟨(some 16), none, .load true 7 (.tmp 1)⟩,
        ⟨(some 17), none, .call (.func 25) [(.tmp 16)]⟩,
        ⟨(some 6), none, .mv (.tmp 17)⟩])
     (.seq (.reg [⟨(some 18), none, .mv (.tmp 6)⟩,
        ⟨(some 19), none, .len true (.tmp 18)⟩,
        ⟨(some 20), none, .bin .gtr (.tmp 19) (.const (.int .i64 512))⟩])
     (.cond (.tmp 20)
      (.reg [⟨(some 5), none, .mv (.const (.int .i64 2))⟩])
      (.skip))))
    (.skip)))
  (.seq (.reg [⟨(some 21), none, .call (.func 20) []⟩,
     ⟨(some 22), none, .mv (.tmp 21)⟩,
     ⟨(some 23), (some (22, true)), .mv (.tmp 3)⟩,
     ⟨(some 24), (some (22, true)), .mv (.tmp 4)⟩,
     ⟨(some 25), (some (22, true)), .mv (.tmp 5)⟩,
     ⟨(some 26), (some (22, true)), .mv (.tmp 6)⟩,
     ⟨(some 27), (some (22, true)), .call (.func 17) [(.tmp 23), (.tmp 24), (.tmp 25), (.tmp 26)]⟩,
     ⟨(some 28), none, .pick (.tmp 22) (.tmp 27) (.const (.bool false))⟩,
     ⟨(some 2), none, .mv (.tmp 28)⟩])
  (.ret)))))
theorem ck_hearsaylaw_DnsWrites : chkFun Tryd.prog 7 1 = some (rc_hearsaylaw_DnsWrites, [2]) := by kernel_rfl
/-- hearsay/hearsaylaw.DnsReads -/
def rc_hearsaylaw_DnsReads : RCode :=
  .seq (.reg [⟨(some 2), none, .mv (.const (.bool false))⟩])
  (.seq (.reg [⟨(some 8), none, .mv (.tmp 0)⟩,
     ⟨(some 9), none, .call (.func 26) [(.tmp 8)]⟩,
     ⟨(some 7), none, .mv (.tmp 9)⟩,
     ⟨(some 10), none, .ext (.tmp 7) 0⟩,
     ⟨(some 11), none, .ext (.tmp 7) 1⟩,
     ⟨(some 3), none, .zbox 40 [(.int .i64 0), (.bool false), (.bool false), (.int .i64 0), (.string ⟨#[]⟩), (.int .i64 0), (.slice none 0 0)]⟩,
     ⟨none, none, .store 7 (.tmp 3) (.tmp 10)⟩,
     ⟨(some 4), none, .mv (.tmp 11)⟩])
  (.seq (.reg [⟨(some 13), none, .mv (.tmp 0)⟩,
     ⟨(some 14), none, .call (.func 27) [(.tmp 13)]⟩,
     ⟨(some 12), none, .mv (.tmp 14)⟩,
     ⟨(some 15), none, .ext (.tmp 12) 0⟩,
     ⟨(some 16), none, .ext (.tmp 12) 1⟩,
     ⟨(some 5), none, .zbox 40 [(.int .i64 0), (.bool false), (.bool false), (.int .i64 0), (.string ⟨#[]⟩), (.int .i64 0), (.slice none 0 0)]⟩,
     ⟨none, none, .store 7 (.tmp 5) (.tmp 15)⟩,
     ⟨(some 6), none, .mv (.tmp 16)⟩])
  (.seq (.reg [⟨(some 17), none, .call (.func 20) []⟩,
     ⟨(some 18), none, .mv (.tmp 17)⟩,
     ⟨(some 19), (some (18, true)), .mv (.tmp 4)⟩,
     ⟨(some 20), (some (18, true)), .mv (.tmp 6)⟩,
     ⟨(some 21), (some (18, true)), .bin .eql (.tmp 19) (.tmp 20)⟩,
     ⟨(some 22), none, .pick (.tmp 18) (.tmp 21) (.const (.bool false))⟩,
     ⟨(some 23), none, .mv (.tmp 22)⟩,
     ⟨(some 24), (some (23, true)), .load true 7 (.tmp 3)⟩,
     ⟨(some 25), (some (23, true)), .load true 7 (.tmp 5)⟩,
     ⟨(some 26), (some (23, true)), .call (.func 28) [(.tmp 24), (.tmp 25)]⟩,
     ⟨(some 27), none, .pick (.tmp 23) (.tmp 26) (.const (.bool false))⟩,
     ⟨(some 2), none, .mv (.tmp 27)⟩])
  (.ret))))
theorem ck_hearsaylaw_DnsReads : chkFun Tryd.prog 8 1 = some (rc_hearsaylaw_DnsReads, [2]) := by kernel_rfl
/-- hearsay/hearsaylaw.DnsBack -/
def rc_hearsaylaw_DnsBack : RCode :=
  .seq (.reg [⟨(some 2), none, .box 40 7 (.tmp 0)⟩,
     ⟨(some 4), none, .mv (.const (.bool false))⟩])
  (.seq (.seq (.reg [⟨(some 13), none, .call (.func 20) []⟩,
      ⟨(some 14), none, .not (.tmp 13)⟩])
   (.cond (.tmp 14)
    (.seq (.reg [⟨(some 4), none, .mv (.const (.bool false))⟩])
     (.ret))
    (.skip)))
  (.seq (.seq (.reg [⟨(some 16), none, .load true 7 (.tmp 2)⟩,
      ⟨(some 17), none, .call (.func 23) [(.tmp 16)]⟩,
      ⟨(some 15), none, .mv (.tmp 17)⟩,
      ⟨(some 18), none, .ext (.tmp 15) 0⟩,
      ⟨(some 19), none, .ext (.tmp 15) 1⟩,
      ⟨(some 5), none, .mv (.tmp 18)⟩,
      ⟨(some 6), none, .mv (.tmp 19)⟩])
   (.seq (.reg [⟨(some 20), none, .mv (.tmp 6)⟩,
      ⟨(some 21), none, .bin .eql (.tmp 20) (.const (.int .i64 0))⟩])
   (.cond (.tmp 21)
    (.seq (.reg [⟨(some 23), none, .mv (.tmp 5)⟩,
        ⟨(some 24), none, .call (.func 26) [(.tmp 23)]⟩,
        ⟨(some 22), none, .mv (.tmp 24)⟩,
        ⟨(some 25), none, .ext (.tmp 22) 0⟩,
        ⟨(some 26), none, .ext (.tmp 22) 1⟩,
        ⟨(some 7), none, .zbox 40 [(.int .i64 0), (.bool false), (.bool false), (.int .i64 0), (.string ⟨#[]⟩), (.int .i64 0), (.slice none 0 0)]⟩,
        ⟨none, none, .store 7 (.tmp 7) (.tmp 25)⟩,
        ⟨(some 8), none, .mv (.tmp 26)⟩])
     (.seq (.reg [⟨(some 27), none, .mv (.tmp 8)⟩,
        ⟨(some 28), none, .bin .neq (.tmp 27) (.const (.int .i64 0))⟩,
        ⟨(some 29), none, .mv (.tmp 28)⟩,
        ⟨(some 30), (some (29, false)), .load true 7 (.tmp 7)⟩,
        ⟨(some 31), (some (29, false)), .load true 7 (.tmp 2)⟩,
        ⟨(some 32), (some (29, false)), .call (.func 28) [(.tmp 30), (.tmp 31)]⟩,
        ⟨(some 33), (some (29, false)), .not (.tmp 32)⟩,
        ⟨(some 34), none, .pick (.tmp 29) (.const (.bool true)) (.tmp 33)⟩])
     (.cond (.tmp 34)
      (.seq (.reg [⟨(some 4), none, .mv (.const (.bool false))⟩])
       (.ret))
      (.skip))))
    (.skip))))
  (.seq (.reg [⟨(some 36), none, .mv (.tmp 1)⟩,
     ⟨(some 37), none, .call (.func 26) [(.tmp 36)]⟩,
     ⟨(some 35), none, .mv (.tmp 37)⟩,
     ⟨(some 38), none, .ext (.tmp 35) 0⟩,
     ⟨(some 39), none, .ext (.tmp 35) 1⟩,
     ⟨(some 9), none, .zbox 40 [(.int .i64 0), (.bool false), (.bool false), (.int .i64 0), (.string ⟨#[]⟩), (.int .i64 0), (.slice none 0 0)]⟩,
     ⟨none, none, .store 7 (.tmp 9) (.tmp 38)⟩,
     ⟨(some 10), none, .mv (.tmp 39)⟩])
  (.seq (.seq (.reg [⟨(some 40), none, .mv (.tmp 10)⟩,
      ⟨(some 41), none, .bin .neq (.tmp 40) (.const (.int .i64 0))⟩])
   (.cond (.tmp 41)
    (.seq (.reg [⟨(some 4), none, .mv (.const (.bool true))⟩])
     (.ret))
    (.skip)))
  (.seq (.reg [⟨(some 43), none, .load true 7 (.tmp 9)⟩,
     ⟨(some 44), none, .call (.func 23) [(.tmp 43)]⟩,
     ⟨(some 42), none, .mv (.tmp 44)⟩,
     ⟨(some 45), none, .ext (.tmp 42) 0⟩,
     ⟨(some 46), none, .ext (.tmp 42) 1⟩,
     ⟨(some 11), none, .mv (.tmp 45)⟩,
     ⟨(some 10), none, .mv (.tmp 46)⟩])
  (.seq (.seq (.reg [⟨(some 47), none, .mv (.tmp 10)⟩,
      ⟨(some 48), none, .bin .neq (.tmp 47) (.const (.int .i64 0))⟩])
   (.cond (.tmp 48)
    (.seq (.reg [⟨(some 49), none, .mv (.tmp 10)⟩,
        ⟨(some 50), none, .bin .eql (.tmp 49) (.const (.int .i64 2))⟩,
        ⟨(some 4), none, .mv (.tmp 50)⟩])
     (.ret))
    (.skip)))
  (.seq (.reg [⟨(some 52), none, .mv (.tmp 11)⟩,
     ⟨(some 53), none, .call (.func 26) [(.tmp 52)]⟩,
     ⟨(some 51), none, .mv (.tmp 53)⟩,
     ⟨(some 54), none, .ext (.tmp 51) 0⟩,
     ⟨(some 55), none, .ext (.tmp 51) 1⟩,
     ⟨(some 12), none, .zbox 40 [(.int .i64 0), (.bool false), (.bool false), (.int .i64 0), (.string ⟨#[]⟩), (.int .i64 0), (.slice none 0 0)]⟩,
     ⟨none, none, .store 7 (.tmp 12) (.tmp 54)⟩,
     ⟨(some 10), none, .mv (.tmp 55)⟩])
  (.seq (.reg [⟨(some 56), none, .mv (.tmp 10)⟩,
     ⟨(some 57), none, .bin .eql (.tmp 56) (.const (.int .i64 0))⟩,
     ⟨(some 58), none, .mv (.tmp 57)⟩,
     ⟨(some 59), (some (58, true)), .load true 7 (.tmp 9)⟩,
     ⟨(some 60), (some (58, true)), .load true 7 (.tmp 12)⟩,
     ⟨(some 61), (some (58, true)), .call (.func 28) [(.tmp 59), (.tmp 60)]⟩,
     ⟨(some 62), none, .pick (.tmp 58) (.tmp 61) (.const (.bool false))⟩,
     ⟨(some 4), none, .mv (.tmp 62)⟩])
  (.ret)))))))))
theorem ck_hearsaylaw_DnsBack : chkFun Tryd.prog 9 2 = some (rc_hearsaylaw_DnsBack, [4]) := by kernel_rfl
/-- hearsay/hearsaylaw.DnsFits -/
def rc_hearsaylaw_DnsFits : RCode :=
  .seq (.reg [⟨(some 2), none, .box 40 7 (.tmp 0)⟩,
     ⟨(some 4), none, .mv (.const (.bool false))⟩])
  (.seq (.reg [⟨(some 10), none, .load true 7 (.tmp 2)⟩,
     ⟨(some 11), none, .mv (.tmp 1)⟩,
     ⟨(some 12), none, .call (.func 29) [(.tmp 10), (.tmp 11)]⟩,
     ⟨(some 9), none, .mv (.tmp 12)⟩,
     ⟨(some 13), none, .ext (.tmp 9) 0⟩,
     ⟨(some 14), none, .ext (.tmp 9) 1⟩,
     ⟨(some 5), none, .mv (.tmp 13)⟩,
     ⟨(some 6), none, .mv (.tmp 14)⟩])
  (.seq (.reg [⟨(some 16), none, .load true 7 (.tmp 2)⟩,
     ⟨(some 17), none, .mv (.tmp 1)⟩,
     ⟨(some 18), none, .call (.func 30) [(.tmp 16), (.tmp 17)]⟩,
     ⟨(some 15), none, .mv (.tmp 18)⟩,
     ⟨(some 19), none, .ext (.tmp 15) 0⟩,
     ⟨(some 20), none, .ext (.tmp 15) 1⟩,
     ⟨(some 7), none, .mv (.tmp 19)⟩,
     ⟨(some 8), none, .mv (.tmp 20)⟩])
  (.seq (.reg [⟨(some 21), none, .call (.func 20) []⟩,
     ⟨(some 22), none, .mv (.tmp 21)⟩,
     ⟨(some 23), (some (22, true)), .mv (.tmp 5)⟩,
     ⟨(some 24), (some (22, true)), .mv (.tmp 6)⟩,
     ⟨(some 25), (some (22, true)), .mv (.tmp 8)⟩,
     ⟨(some 26), (some (22, true)), .mv (.tmp 7)⟩,
     ⟨(some 27), (some (22, true)), .call (.func 17) [(.tmp 23), (.tmp 24), (.tmp 25), (.tmp 26)]⟩,
     ⟨(some 28), none, .pick (.tmp 22) (.tmp 27) (.const (.bool false))⟩,
     ⟨(some 4), none, .mv (.tmp 28)⟩])
  (.ret))))
theorem ck_hearsaylaw_DnsFits : chkFun Tryd.prog 10 2 = some (rc_hearsaylaw_DnsFits, [4]) := by kernel_rfl
/-- hearsay/hearsaylaw.DnsCuts -/
def rc_hearsaylaw_DnsCuts : RCode :=
  .seq (.reg [⟨(some 2), none, .box 40 7 (.tmp 0)⟩,
     ⟨(some 4), none, .mv (.const (.bool false))⟩])
  (.seq (.seq (.reg [⟨(some 9), none, .call (.func 20) []⟩,
      ⟨(some 10), none, .not (.tmp 9)⟩])
   (.cond (.tmp 10)
    (.seq (.reg [⟨(some 4), none, .mv (.const (.bool false))⟩])
     (.ret))
    (.skip)))
  (.seq (.reg [⟨(some 12), none, .load true 7 (.tmp 2)⟩,
     ⟨(some 13), none, .mv (.tmp 1)⟩,
     ⟨(some 14), none, .call (.func 29) [(.tmp 12), (.tmp 13)]⟩,
     ⟨(some 11), none, .mv (.tmp 14)⟩,
     ⟨(some 15), none, .ext (.tmp 11) 0⟩,
     ⟨(some 16), none, .ext (.tmp 11) 1⟩,
     ⟨(some 5), none, .mv (.tmp 15)⟩,
     ⟨(some 6), none, .mv (.tmp 16)⟩])
  (.seq (.seq (.reg [⟨(some 17), none, .mv (.tmp 6)⟩,
      ⟨(some 18), none, .bin .neq (.tmp 17) (.const (.int .i64 0))⟩])
   (.cond (.tmp 18)
    (.seq (.reg [⟨(some 19), none, .mv (.tmp 5)⟩,
        ⟨(some 20), none, .bin .eql (.tmp 19) (.const (.string ⟨#[]⟩))⟩,
        ⟨(some 4), none, .mv (.tmp 20)⟩])
     (.ret))
    (.skip)))
  (.seq (.reg [⟨(some 22), none, .mv (.tmp 5)⟩,
     ⟨(some 23), none, .call (.func 26) [(.tmp 22)]⟩,
     ⟨(some 21), none, .mv (.tmp 23)⟩,
     ⟨(some 24), none, .ext (.tmp 21) 0⟩,
     ⟨(some 25), none, .ext (.tmp 21) 1⟩,
     ⟨(some 7), none, .zbox 40 [(.int .i64 0), (.bool false), (.bool false), (.int .i64 0), (.string ⟨#[]⟩), (.int .i64 0), (.slice none 0 0)]⟩,
     ⟨none, none, .store 7 (.tmp 7) (.tmp 24)⟩,
     ⟨(some 6), none, .mv (.tmp 25)⟩])
  (.seq (.reg [⟨(some 26), none, .fldA 6 (.tmp 7)⟩,
     ⟨(some 27), none, .load false 1 (.tmp 26)⟩,
     ⟨(some 28), none, .len false (.tmp 27)⟩,
     ⟨(some 8), none, .mv (.tmp 28)⟩])
  (.seq (.dreg [[⟨(some 29), none, .mv (.tmp 6)⟩],
     [⟨(some 30), none, .bin .eql (.tmp 29) (.const (.int .i64 0))⟩],
     [⟨(some 31), none, .mv (.tmp 30)⟩],
     [⟨(some 32), (some (31, true)), .mv (.tmp 5)⟩,
      ⟨(some 33), (some (31, true)), .len true (.tmp 32)⟩,
      ⟨(some 34), (some (31, true)), .mv (.tmp 1)⟩],
     [⟨(some 35), (some (31, true)), .bin .leq (.tmp 33) (.tmp 34)⟩],
     [⟨(some 36), none, .pick (.tmp 31) (.tmp 35) (.const (.bool false))⟩],
     [⟨(some 37), none, .mv (.tmp 36)⟩],
     [⟨(some 38), (some (37, true)), .mv (.tmp 8)⟩,
      ⟨(some 39), (some (37, true)), .fldA 6 (.tmp 2)⟩,
      ⟨(some 40), (some (37, true)), .load false 1 (.tmp 39)⟩,
      ⟨(some 41), (some (37, true)), .len false (.tmp 40)⟩],
     [⟨(some 42), (some (37, true)), .bin .leq (.tmp 38) (.tmp 41)⟩],
     [⟨(some 43), none, .pick (.tmp 37) (.tmp 42) (.const (.bool false))⟩],
     [⟨(some 44), none, .mv (.tmp 43)⟩],
     [⟨(some 45), (some (44, true)), .fldA 6 (.tmp 7)⟩,
      ⟨(some 46), (some (44, true)), .load false 1 (.tmp 45)⟩,
      ⟨(some 47), (some (44, true)), .fldA 6 (.tmp 2)⟩,
      ⟨(some 48), (some (44, true)), .load false 1 (.tmp 47)⟩,
      ⟨(some 49), (some (44, true)), .mv (.tmp 8)⟩,
      ⟨(some 50), (some (44, true)), .slcL 7 (.tmp 48) none (some (.tmp 49)) none⟩],
     [⟨(some 51), (some (44, true)), .call (.func 31) [(.tmp 46), (.tmp 50)]⟩],
     [⟨(some 52), none, .pick (.tmp 44) (.tmp 51) (.const (.bool false))⟩],
     [⟨(some 53), none, .mv (.tmp 52)⟩],
     [⟨(some 54), (some (53, true)), .fldA 2 (.tmp 7)⟩,
      ⟨(some 55), (some (53, true)), .load false 1 (.tmp 54)⟩,
      ⟨(some 56), (some (53, true)), .fldA 2 (.tmp 2)⟩,
      ⟨(some 57), (some (53, true)), .load false 1 (.tmp 56)⟩,
      ⟨(some 58), (some (53, true)), .mv (.tmp 57)⟩,
      ⟨(some 59), (some (58, false)), .mv (.tmp 8)⟩,
      ⟨(some 60), (some (58, false)), .fldA 6 (.tmp 2)⟩,
      ⟨(some 61), (some (58, false)), .load false 1 (.tmp 60)⟩,
      ⟨(some 62), (some (58, false)), .len false (.tmp 61)⟩,
      ⟨(some 63), (some (58, false)), .bin .lss (.tmp 59) (.tmp 62)⟩,
      ⟨(some 64), (some (53, true)), .pick (.tmp 58) (.const (.bool true)) (.tmp 63)⟩],
     [⟨(some 65), (some (53, true)), .eqb false (.tmp 55) (.tmp 64)⟩],
     [⟨(some 66), none, .pick (.tmp 53) (.tmp 65) (.const (.bool false))⟩],
     [⟨(some 67), none, .mv (.tmp 66)⟩],
     [⟨(some 68), (some (67, true)), .fldA 0 (.tmp 7)⟩,
      ⟨(some 69), (some (67, true)), .load false 1 (.tmp 68)⟩,
      ⟨(some 70), (some (67, true)), .fldA 0 (.tmp 2)⟩,
      ⟨(some 71), (some (67, true)), .load false 1 (.tmp 70)⟩],
     [⟨(some 72), (some (67, true)), .bin .eql (.tmp 69) (.tmp 71)⟩],
     [⟨(some 73), none, .pick (.tmp 67) (.tmp 72) (.const (.bool false))⟩],
     [⟨(some 74), none, .mv (.tmp 73)⟩],
     [⟨(some 75), (some (74, true)), .fldA 4 (.tmp 7)⟩,
      ⟨(some 76), (some (74, true)), .load true 2 (.tmp 75)⟩,
      ⟨(some 77), (some (74, true)), .fldA 4 (.tmp 2)⟩,
      ⟨(some 78), (some (74, true)), .load true 2 (.tmp 77)⟩],
     [⟨(some 79), (some (74, true)), .eqS false [1, 0] (.tmp 76) (.tmp 78)⟩],
     [⟨(some 80), none, .pick (.tmp 74) (.tmp 79) (.const (.bool false))⟩],
     [⟨(some 4), none, .mv (.tmp 80)⟩]])
  (.ret)))))))
theorem ck_hearsaylaw_DnsCuts : chkFun Tryd.prog 11 2 = some (rc_hearsaylaw_DnsCuts, [4]) := by kernel_rfl
/-- hearsay/query.Print -/
def rc_query_Print : RCode :=
  .seq (.reg [⟨(some 1), none, .box 23 4 (.tmp 0)⟩,
     ⟨(some 2), none, .mv (.const (.string ⟨#[]⟩))⟩,
     ⟨(some 3), none, .mv (.const (.int .i64 0))⟩])
  (.seq (.seq (.reg [⟨(some 7), none, .load true 4 (.tmp 1)⟩,
      ⟨(some 8), none, .call (.func 15) [(.tmp 7)]⟩,
      ⟨(some 4), none, .mv (.tmp 8)⟩])
   (.seq (.reg [⟨(some 9), none, .mv (.tmp 4)⟩,
      ⟨(some 10), none, .bin .neq (.tmp 9) (.const (.int .i64 0))⟩])
   (.cond (.tmp 10)
    (.seq (.reg [⟨(some 11), none, .mv (.tmp 4)⟩,
        ⟨(some 2), none, .mv (.const (.string ⟨#[]⟩))⟩,
        ⟨(some 3), none, .mv (.tmp 11)⟩])
     (.ret))
    (.skip))))
  (.seq (.reg [⟨(some 12), none, .load true 4 (.tmp 1)⟩,
     ⟨(some 13), none, .call (.func 32) [(.tmp 12)]⟩,
     ⟨(some 5), none, .mv (.tmp 13)⟩])
  (.seq (.seq (.reg [⟨(some 14), none, .mv (.tmp 5)⟩,
      ⟨(some 15), none, .call (.func 21) [(.tmp 14)]⟩,
      ⟨(some 6), none, .mv (.tmp 15)⟩])
   (.seq (.reg [⟨(some 16), none, .mv (.tmp 6)⟩,
      ⟨(some 17), none, .bin .neq (.tmp 16) (.const (.int .i64 0))⟩])
   (.cond (.tmp 17)
    (.seq (.reg [⟨(some 18), none, .mv (.tmp 6)⟩,
        ⟨(some 2), none, .mv (.const (.string ⟨#[]⟩))⟩,
        ⟨(some 3), none, .mv (.tmp 18)⟩])
     (.ret))
    (.skip))))
  (.seq (.reg [⟨(some 19), none, .mv (.tmp 5)⟩,
     ⟨(some 2), none, .mv (.tmp 19)⟩,
     ⟨(some 3), none, .mv (.const (.int .i64 0))⟩])
  (.ret)))))
theorem ck_query_Print : chkFun Tryd.prog 12 1 = some (rc_query_Print, [2, 3]) := by kernel_rfl
/-- hearsay/hearsayref.PrintOf -/
def rc_hearsayref_PrintOf : RCode :=
  .seq (.reg [⟨(some 1), none, .box 23 4 (.tmp 0)⟩,
     ⟨(some 2), none, .mv (.const (.string ⟨#[]⟩))⟩,
     ⟨(some 3), none, .mv (.const (.int .i64 0))⟩])
  (.seq (.reg [⟨(some 6), none, .load true 4 (.tmp 1)⟩,
     ⟨(some 7), none, .call (.func 16) [(.tmp 6)]⟩,
     ⟨(some 4), none, .mv (.tmp 7)⟩])
  (.seq (.seq (.reg [⟨(some 8), none, .mv (.tmp 4)⟩,
      ⟨(some 9), none, .bin .neq (.tmp 8) (.const (.int .i64 0))⟩])
   (.cond (.tmp 9)
    (.seq (.reg [⟨(some 10), none, .mv (.tmp 4)⟩,
        ⟨(some 2), none, .mv (.const (.string ⟨#[]⟩))⟩,
        ⟨(some 3), none, .mv (.tmp 10)⟩])
     (.ret))
    (.skip)))
  (.seq (.reg [⟨(some 11), none, .fldA 2 (.tmp 1)⟩,
     ⟨(some 12), none, .load false 1 (.tmp 11)⟩,
     ⟨(some 13), none, .bin .add (.tmp 12) (.const (.string ⟨#[46, 110, 111, 100, 101, 46]⟩))⟩,
     ⟨(some 5), none, .mv (.tmp 13)⟩])
  (.seq (.seq (.reg [⟨(some 14), none, .fldA 2 (.tmp 1)⟩,
      ⟨(some 15), none, .load false 1 (.tmp 14)⟩,
      ⟨(some 16), none, .bin .eql (.tmp 15) (.const (.string ⟨#[]⟩))⟩])
   (.cond (.tmp 16)
    (.seq (.reg [⟨(some 17), none, .fldA 0 (.tmp 1)⟩,
        ⟨(some 18), none, .load false 1 (.tmp 17)⟩,
        ⟨(some 19), none, .bin .add (.tmp 18) (.const (.string ⟨#[46, 115, 101, 114, 118, 105, 99, 101, 46]⟩))⟩,
        ⟨(some 5), none, .mv (.tmp 19)⟩])
     (.seq (.reg [⟨(some 20), none, .fldA 1 (.tmp 1)⟩,
        ⟨(some 21), none, .load false 1 (.tmp 20)⟩,
        ⟨(some 22), none, .bin .neq (.tmp 21) (.const (.string ⟨#[]⟩))⟩])
     (.cond (.tmp 22)
      (.reg [⟨(some 23), none, .fldA 1 (.tmp 1)⟩,
         ⟨(some 24), none, .load false 1 (.tmp 23)⟩,
         ⟨(some 25), none, .bin .add (.tmp 24) (.const (.string ⟨#[46]⟩))⟩,
         ⟨(some 26), none, .mv (.tmp 5)⟩,
         ⟨(some 27), none, .bin .add (.tmp 25) (.tmp 26)⟩,
         ⟨(some 5), none, .mv (.tmp 27)⟩])
      (.skip))))
    (.skip)))
  (.seq (.seq (.reg [⟨(some 28), none, .fldA 3 (.tmp 1)⟩,
      ⟨(some 29), none, .load false 1 (.tmp 28)⟩,
      ⟨(some 30), none, .bin .neq (.tmp 29) (.const (.string ⟨#[]⟩))⟩])
   (.cond (.tmp 30)
    (.reg [⟨(some 31), none, .mv (.tmp 5)⟩,
       ⟨(some 32), none, .fldA 3 (.tmp 1)⟩,
       ⟨(some 33), none, .load false 1 (.tmp 32)⟩,
       ⟨(some 34), none, .bin .add (.tmp 33) (.const (.string ⟨#[46]⟩))⟩,
       ⟨(some 35), none, .bin .add (.tmp 31) (.tmp 34)⟩,
       ⟨(some 5), none, .mv (.tmp 35)⟩])
    (.skip)))
  (.seq (.reg [⟨(some 36), none, .mv (.tmp 5)⟩,
     ⟨(some 37), none, .bin .add (.tmp 36) (.const (.string ⟨#[109, 101, 115, 104]⟩))⟩,
     ⟨(some 5), none, .mv (.tmp 37)⟩])
  (.seq (.reg [⟨(some 38), none, .mv (.tmp 5)⟩,
     ⟨(some 39), none, .call (.func 22) [(.tmp 38)]⟩,
     ⟨(some 4), none, .mv (.tmp 39)⟩])
  (.seq (.seq (.reg [⟨(some 40), none, .mv (.tmp 4)⟩,
      ⟨(some 41), none, .bin .neq (.tmp 40) (.const (.int .i64 0))⟩])
   (.cond (.tmp 41)
    (.seq (.reg [⟨(some 42), none, .mv (.tmp 4)⟩,
        ⟨(some 2), none, .mv (.const (.string ⟨#[]⟩))⟩,
        ⟨(some 3), none, .mv (.tmp 42)⟩])
     (.ret))
    (.skip)))
  (.seq (.reg [⟨(some 43), none, .mv (.tmp 5)⟩,
     ⟨(some 2), none, .mv (.tmp 43)⟩,
     ⟨(some 3), none, .mv (.const (.int .i64 0))⟩])
  (.ret))))))))))
theorem ck_hearsayref_PrintOf : chkFun Tryd.prog 13 1 = some (rc_hearsayref_PrintOf, [2, 3]) := by kernel_rfl
/-- hearsay/hearsaylaw.queryBegun -/
def rc_hearsaylaw_queryBegun : RCode :=
  .seq (.reg [⟨(some 0), none, .mv (.const (.bool false))⟩])
  (.seq (.reg [⟨(some 4), none, .call (.func 18) [(.const (.string ⟨#[116, 46, 115, 46, 115, 101, 114, 118, 105, 99, 101, 46, 99, 46, 109, 101, 115, 104]⟩))]⟩,
     ⟨(some 3), none, .mv (.tmp 4)⟩,
     ⟨(some 5), none, .ext (.tmp 3) 0⟩,
     ⟨(some 6), none, .ext (.tmp 3) 1⟩,
     ⟨(some 1), none, .zbox 23 [(.string ⟨#[]⟩), (.string ⟨#[]⟩), (.string ⟨#[]⟩), (.string ⟨#[]⟩)]⟩,
     ⟨none, none, .store 4 (.tmp 1) (.tmp 5)⟩,
     ⟨(some 2), none, .mv (.tmp 6)⟩])
  (.seq (.reg [⟨(some 7), none, .mv (.tmp 2)⟩,
     ⟨(some 8), none, .bin .eql (.tmp 7) (.const (.int .i64 0))⟩,
     ⟨(some 9), none, .mv (.tmp 8)⟩,
     ⟨(some 10), (some (9, true)), .load true 4 (.tmp 1)⟩,
     ⟨(some 11), (some (9, true)), .build [(.string ⟨#[]⟩), (.string ⟨#[]⟩), (.string ⟨#[]⟩), (.string ⟨#[]⟩)] [(0, 1, (.const (.string ⟨#[115]⟩))), (1, 1, (.const (.string ⟨#[116]⟩))), (3, 1, (.const (.string ⟨#[99]⟩)))]⟩,
     ⟨(some 12), (some (9, true)), .eqS false [1, 1, 1, 1] (.tmp 10) (.tmp 11)⟩,
     ⟨(some 13), none, .pick (.tmp 9) (.tmp 12) (.const (.bool false))⟩,
     ⟨(some 0), none, .mv (.tmp 13)⟩])
  (.ret)))
theorem ck_hearsaylaw_queryBegun : chkFun Tryd.prog 14 0 = some (rc_hearsaylaw_queryBegun, [0]) := by kernel_rfl
/-- hearsay/query.Check -/
def rc_query_Check : RCode :=
  .seq (.reg [⟨(some 1), none, .box 23 4 (.tmp 0)⟩,
     ⟨(some 2), none, .mv (.const (.int .i64 0))⟩])
  (.seq (.seq (.reg [⟨(some 5), none, .fldA 0 (.tmp 1)⟩,
      ⟨(some 6), none, .load false 1 (.tmp 5)⟩,
      ⟨(some 7), none, .bin .eql (.tmp 6) (.const (.string ⟨#[]⟩))⟩,
      ⟨(some 8), none, .fldA 2 (.tmp 1)⟩,
      ⟨(some 9), none, .load false 1 (.tmp 8)⟩,
      ⟨(some 10), none, .bin .eql (.tmp 9) (.const (.string ⟨#[]⟩))⟩,
      ⟨(some 11), none, .eqb false (.tmp 7) (.tmp 10)⟩,
      ⟨(some 12), none, .mv (.tmp 11)⟩,
      ⟨(some 13), (some (12, false)), .fldA 0 (.tmp 1)⟩,
      ⟨(some 14), (some (12, false)), .load false 1 (.tmp 13)⟩,
      ⟨(some 15), (some (12, false)), .bin .eql (.tmp 14) (.const (.string ⟨#[]⟩))⟩,
      ⟨(some 16), (some (12, false)), .mv (.tmp 15)⟩,
      ⟨(some 17), (some (16, true)), .fldA 1 (.tmp 1)⟩,
      ⟨(some 18), (some (16, true)), .load false 1 (.tmp 17)⟩,
      ⟨(some 19), (some (16, true)), .bin .neq (.tmp 18) (.const (.string ⟨#[]⟩))⟩,
      ⟨(some 20), (some (12, false)), .pick (.tmp 16) (.tmp 19) (.const (.bool false))⟩,
      ⟨(some 21), none, .pick (.tmp 12) (.const (.bool true)) (.tmp 20)⟩])
   (.cond (.tmp 21)
    (.seq (.reg [⟨(some 2), none, .mv (.const (.int .i64 1))⟩])
     (.ret))
    (.skip)))
  (.seq (.reg [⟨(some 22), none, .fldA 0 (.tmp 1)⟩,
     ⟨(some 23), none, .load false 1 (.tmp 22)⟩,
     ⟨(some 24), none, .fldA 1 (.tmp 1)⟩,
     ⟨(some 25), none, .load false 1 (.tmp 24)⟩,
     ⟨(some 26), none, .fldA 2 (.tmp 1)⟩,
     ⟨(some 27), none, .load false 1 (.tmp 26)⟩,
     ⟨(some 28), none, .fldA 3 (.tmp 1)⟩,
     ⟨(some 29), none, .load false 1 (.tmp 28)⟩,
     ⟨(some 30), none, .mks 9 1 4 [(.string ⟨#[]⟩)] [(0, (.tmp 23)), (1, (.tmp 25)), (2, (.tmp 27)), (3, (.tmp 29))]⟩,
     ⟨(some 3), none, .mv (.tmp 30)⟩])
  (.seq (.seq (.reg [⟨(some 31), none, .mv (.tmp 3)⟩,
      ⟨(some 32), none, .call (.func 33) [(.tmp 31), (.func 34)]⟩])
   (.cond (.tmp 32)
    (.seq (.reg [⟨(some 2), none, .mv (.const (.int .i64 1))⟩])
     (.ret))
    (.skip)))
  (.seq (.reg [⟨(some 4), none, .mv (.func 36)⟩])
  (.seq (.seq (.reg [⟨(some 33), none, .mv (.tmp 4)⟩,
      ⟨(some 34), none, .fldA 3 (.tmp 1)⟩,
      ⟨(some 35), none, .load false 1 (.tmp 34)⟩,
      ⟨(some 36), none, .mks 9 1 3 [(.string ⟨#[]⟩)] [(0, (.const (.string ⟨#[115, 101, 114, 118, 105, 99, 101]⟩))), (1, (.const (.string ⟨#[110, 111, 100, 101]⟩))), (2, (.const (.string ⟨#[109, 101, 115, 104]⟩)))]⟩,
      ⟨(some 37), none, .call (.tmp 33) [(.tmp 35), (.tmp 36)]⟩,
      ⟨(some 38), none, .mv (.tmp 37)⟩,
      ⟨(some 39), (some (38, false)), .mv (.tmp 4)⟩,
      ⟨(some 40), (some (38, false)), .fldA 0 (.tmp 1)⟩,
      ⟨(some 41), (some (38, false)), .load false 1 (.tmp 40)⟩,
      ⟨(some 42), (some (38, false)), .mks 9 1 3 [(.string ⟨#[]⟩)] [(0, (.const (.string ⟨#[115, 101, 114, 118, 105, 99, 101]⟩))), (1, (.const (.string ⟨#[110, 111, 100, 101]⟩))), (2, (.const (.string ⟨#[109, 101, 115, 104]⟩)))]⟩,
      ⟨(some 43), (some (38, false)), .call (.tmp 39) [(.tmp 41), (.tmp 42)]⟩,
      ⟨(some 44), none, .pick (.tmp 38) (.const (.bool true)) (.tmp 43)⟩,
      ⟨(some 45), none, .mv (.tmp 44)⟩,
      ⟨(some 46), (some (45, false)), .mv (.tmp 4)⟩,
      ⟨(some 47), (some (45, false)), .fldA 1 (.tmp 1)⟩,
      ⟨(some 48), (some (45, false)), .load false 1 (.tmp 47)⟩,
      ⟨(some 49), (some (45, false)), .mks 9 1 3 [(.string ⟨#[]⟩)] [(0, (.const (.string ⟨#[115, 101, 114, 118, 105, 99, 101]⟩))), (1, (.const (.string ⟨#[110, 111, 100, 101]⟩))), (2, (.const (.string ⟨#[109, 101, 115, 104]⟩)))]⟩,
      ⟨(some 50), (some (45, false)), .call (.tmp 46) [(.tmp 48), (.tmp 49)]⟩,
      ⟨(some 51), none, .pick (.tmp 45) (.const (.bool true)) (.tmp 50)⟩,
      ⟨(some 52), none, .mv (.tmp 51)⟩,
      ⟨(some 53), (some (52, false)), .mv (.tmp 4)⟩,
      ⟨(some 54), (some (52, false)), .fldA 2 (.tmp 1)⟩,
      ⟨(some 55), (some (52, false)), .load false 1 (.tmp 54)⟩,
      ⟨(some 56), (some (52, false)), .mks 9 1 2 [(.string ⟨#[]⟩)] [(0, (.const (.string ⟨#[115, 101, 114, 118, 105, 99, 101]⟩))), (1, (.const (.string ⟨#[110, 111, 100, 101]⟩)))]⟩,
      ⟨(some 57), (some (52, false)), .call (.tmp 53) [(.tmp 55), (.tmp 56)]⟩,
      ⟨(some 58), none, .pick (.tmp 52) (.const (.bool true)) (.tmp 57)⟩])
   (.cond (.tmp 58)
    (.seq (.reg [⟨(some 2), none, .mv (.const (.int .i64 7))⟩])
     (.ret))
    (.skip)))
  (.seq (.reg [⟨(some 2), none, .mv (.const (.int .i64 0))⟩])
  (.ret)))))))
theorem ck_query_Check : chkFun Tryd.prog 15 1 = some (rc_query_Check, [2]) := by kernel_rfl
/-- hearsay/hearsayref.CheckQuery -/
def rc_hearsayref_CheckQuery : RCode :=
  .seq (.reg [⟨(some 1), none, .box 23 4 (.tmp 0)⟩,
     ⟨(some 2), none, .mv (.const (.int .i64 0))⟩])
  (.seq (.seq (.reg [⟨(some 6), none, .fldA 0 (.tmp 1)⟩,
      ⟨(some 7), none, .load false 1 (.tmp 6)⟩,
      ⟨(some 8), none, .bin .eql (.tmp 7) (.const (.string ⟨#[]⟩))⟩,
      ⟨(some 9), none, .mv (.tmp 8)⟩,
      ⟨(some 10), (some (9, true)), .fldA 2 (.tmp 1)⟩,
      ⟨(some 11), (some (9, true)), .load false 1 (.tmp 10)⟩,
      ⟨(some 12), (some (9, true)), .bin .eql (.tmp 11) (.const (.string ⟨#[]⟩))⟩,
      ⟨(some 13), none, .pick (.tmp 9) (.tmp 12) (.const (.bool false))⟩,
      ⟨(some 14), none, .mv (.tmp 13)⟩,
      ⟨(some 15), (some (14, false)), .fldA 0 (.tmp 1)⟩,
      ⟨(some 16), (some (14, false)), .load false 1 (.tmp 15)⟩,
      ⟨(some 17), (some (14, false)), .bin .neq (.tmp 16) (.const (.string ⟨#[]⟩))⟩,
      ⟨(some 18), (some (14, false)), .mv (.tmp 17)⟩,
      ⟨(some 19), (some (18, true)), .fldA 2 (.tmp 1)⟩,
      ⟨(some 20), (some (18, true)), .load false 1 (.tmp 19)⟩,
      ⟨(some 21), (some (18, true)), .bin .neq (.tmp 20) (.const (.string ⟨#[]⟩))⟩,
      ⟨(some 22), (some (14, false)), .pick (.tmp 18) (.tmp 21) (.const (.bool false))⟩,
      ⟨(some 23), none, .pick (.tmp 14) (.const (.bool true)) (.tmp 22)⟩,
      ⟨(some 24), none, .mv (.tmp 23)⟩,
      ⟨(some 25), (some (24, false)), .fldA 1 (.tmp 1)⟩,
      ⟨(some 26), (some (24, false)), .load false 1 (.tmp 25)⟩,
      ⟨(some 27), (some (24, false)), .bin .neq (.tmp 26) (.const (.string ⟨#[]⟩))⟩,
      ⟨(some 28), (some (24, false)), .mv (.tmp 27)⟩,
      ⟨(some 29), (some (28, true)), .fldA 0 (.tmp 1)⟩,
      ⟨(some 30), (some (28, true)), .load false 1 (.tmp 29)⟩,
      ⟨(some 31), (some (28, true)), .bin .eql (.tmp 30) (.const (.string ⟨#[]⟩))⟩,
      ⟨(some 32), (some (24, false)), .pick (.tmp 28) (.tmp 31) (.const (.bool false))⟩,
      ⟨(some 33), none, .pick (.tmp 24) (.const (.bool true)) (.tmp 32)⟩])
   (.cond (.tmp 33)
    (.seq (.reg [⟨(some 2), none, .mv (.const (.int .i64 1))⟩])
     (.ret))
    (.skip)))
  (.seq (.reg [⟨(some 34), none, .fldA 0 (.tmp 1)⟩,
     ⟨(some 35), none, .load false 1 (.tmp 34)⟩,
     ⟨(some 36), none, .fldA 1 (.tmp 1)⟩,
     ⟨(some 37), none, .load false 1 (.tmp 36)⟩,
     ⟨(some 38), none, .fldA 2 (.tmp 1)⟩,
     ⟨(some 39), none, .load false 1 (.tmp 38)⟩,
     ⟨(some 40), none, .fldA 3 (.tmp 1)⟩,
     ⟨(some 41), none, .load false 1 (.tmp 40)⟩,
     ⟨(some 42), none, .mks 9 1 4 [(.string ⟨#[]⟩)] [(0, (.tmp 35)), (1, (.tmp 37)), (2, (.tmp 39)), (3, (.tmp 41))]⟩,
     ⟨(some 3), none, .mv (.tmp 42)⟩])
  (.seq (.seq (.reg [⟨(some 4), none, .mv (.const (.int .i64 0))⟩])
   (.block 0
    (.loop
     (.seq (.seq (.reg [⟨(some 43), none, .mv (.tmp 4)⟩,
         ⟨(some 44), none, .bin .lss (.tmp 43) (.const (.int .i64 4))⟩])
      (.cond (.tmp 44)
       (.skip)
       (.exit 0)))
     (.seq (.block 1
       (.seq (.reg [⟨(some 47), none, .mv (.tmp 3)⟩,
          ⟨(some 48), none, .mv (.tmp 4)⟩,
          ⟨(some 49), none, .idxA 1 (.tmp 47) (.tmp 48)⟩,
          ⟨(some 50), none, .load false 1 (.tmp 49)⟩,
          ⟨(some 51), none, .bin .neq (.tmp 50) (.const (.string ⟨#[]⟩))⟩,
          ⟨(some 52), none, .mv (.tmp 51)⟩,
          ⟨(some 53), (some (52, true)), .mv (.tmp 3)⟩,
          ⟨(some 54), (some (52, true)), .mv (.tmp 4)⟩,
          ⟨(some 55), (some (52, true)), .idxA 1 (.tmp 53) (.tmp 54)⟩,
          ⟨(some 56), (some (52, true)), .load false 1 (.tmp 55)⟩,
          ⟨(some 57), (some (52, true)), .call (.func 38) [(.tmp 56)]⟩,
          ⟨(some 58), (some (52, true)), .not (.tmp 57)⟩,
          ⟨(some 59), none, .pick (.tmp 52) (.tmp 58) (.const (.bool false))⟩])
       (.cond (.tmp 59)
        (.seq (.reg [⟨(some 2), none, .mv (.const (.int .i64 1))⟩])
         (.ret))
        (.skip))))
     (.reg [⟨(some 45), none, .mv (.tmp 4)⟩,
       ⟨(some 46), none, .bin .add (.tmp 45) (.const (.int .i64 1))⟩,
       ⟨(some 4), none, .mv (.tmp 46)⟩]))))))
  (.seq (.seq (.reg [⟨(some 5), none, .mv (.const (.int .i64 0))⟩])
   (.block 2
    (.loop
     (.seq (.seq (.reg [⟨(some 60), none, .mv (.tmp 5)⟩,
         ⟨(some 61), none, .bin .lss (.tmp 60) (.const (.int .i64 4))⟩])
      (.cond (.tmp 61)
       (.skip)
       (.exit 2)))
     (.seq (.block 3
       (.seq (.reg [⟨(some 64), none, .mv (.tmp 3)⟩,
          ⟨(some 65), none, .mv (.tmp 5)⟩,
          ⟨(some 66), none, .idxA 1 (.tmp 64) (.tmp 65)⟩,
          ⟨(some 67), none, .load false 1 (.tmp 66)⟩,
          ⟨(some 68), none, .bin .eql (.tmp 67) (.const (.string ⟨#[115, 101, 114, 118, 105, 99, 101]⟩))⟩,
          ⟨(some 69), none, .mv (.tmp 68)⟩,
          ⟨(some 70), (some (69, false)), .mv (.tmp 3)⟩,
          ⟨(some 71), (some (69, false)), .mv (.tmp 5)⟩,
          ⟨(some 72), (some (69, false)), .idxA 1 (.tmp 70) (.tmp 71)⟩,
          ⟨(some 73), (some (69, false)), .load false 1 (.tmp 72)⟩,
          ⟨(some 74), (some (69, false)), .bin .eql (.tmp 73) (.const (.string ⟨#[110, 111, 100, 101]⟩))⟩,
          ⟨(some 75), none, .pick (.tmp 69) (.const (.bool true)) (.tmp 74)⟩,
          ⟨(some 76), none, .mv (.tmp 75)⟩,
          ⟨(some 77), (some (76, false)), .mv (.tmp 5)⟩,
          ⟨(some 78), (some (76, false)), .bin .neq (.tmp 77) (.const (.int .i64 2))⟩,
          ⟨(some 79), (some (76, false)), .mv (.tmp 78)⟩,
          ⟨(some 80), (some (79, true)), .mv (.tmp 3)⟩,
          ⟨(some 81), (some (79, true)), .mv (.tmp 5)⟩,
          ⟨(some 82), (some (79, true)), .idxA 1 (.tmp 80) (.tmp 81)⟩,
          ⟨(some 83), (some (79, true)), .load false 1 (.tmp 82)⟩,
          ⟨(some 84), (some (79, true)), .bin .eql (.tmp 83) (.const (.string ⟨#[109, 101, 115, 104]⟩))⟩,
          ⟨(some 85), (some (76, false)), .pick (.tmp 79) (.tmp 84) (.const (.bool false))⟩,
          ⟨(some 86), none, .pick (.tmp 76) (.const (.bool true)) (.tmp 85)⟩])
       (.cond (.tmp 86)
        (.seq (.reg [⟨(some 2), none, .mv (.const (.int .i64 7))⟩])
         (.ret))
        (.skip))))
     (.reg [⟨(some 62), none, .mv (.tmp 5)⟩,
       ⟨(some 63), none, .bin .add (.tmp 62) (.const (.int .i64 1))⟩,
       ⟨(some 5), none, .mv (.tmp 63)⟩]))))))
  (.seq (.reg [⟨(some 2), none, .mv (.const (.int .i64 0))⟩])
  (.ret))))))
theorem ck_hearsayref_CheckQuery : chkFun Tryd.prog 16 1 = some (rc_hearsayref_CheckQuery, [2]) := by kernel_rfl
/-- hearsay/hearsaylaw.textIs -/
def rc_hearsaylaw_textIs : RCode :=
  .seq (.reg [⟨(some 8), none, .mv (.const (.bool false))⟩])
  (.seq (.seq (.reg [⟨(some 9), none, .mv (.tmp 2)⟩,
      ⟨(some 10), none, .bin .neq (.tmp 9) (.const (.int .i64 0))⟩])
   (.cond (.tmp 10)
    (.reg [⟨(some 3), none, .mv (.const (.string ⟨#[]⟩))⟩])
    (.skip)))
  (.seq (.reg [⟨(some 11), none, .mv (.tmp 1)⟩,
     ⟨(some 12), none, .mv (.tmp 2)⟩,
     ⟨(some 13), none, .bin .eql (.tmp 11) (.tmp 12)⟩,
     ⟨(some 14), none, .mv (.tmp 13)⟩,
     ⟨(some 15), (some (14, true)), .mv (.tmp 0)⟩,
     ⟨(some 16), (some (14, true)), .mv (.tmp 3)⟩,
     ⟨(some 17), (some (14, true)), .bin .eql (.tmp 15) (.tmp 16)⟩,
     ⟨(some 18), none, .pick (.tmp 14) (.tmp 17) (.const (.bool false))⟩,
     ⟨(some 8), none, .mv (.tmp 18)⟩])
  (.ret)))
theorem ck_hearsaylaw_textIs : chkFun Tryd.prog 17 4 = some (rc_hearsaylaw_textIs, [8]) := by kernel_rfl
/-- hearsay/query.Parse -/
def rc_query_Parse : RCode :=
  .seq (.reg [⟨(some 2), none, .zbox 23 [(.string ⟨#[]⟩), (.string ⟨#[]⟩), (.string ⟨#[]⟩), (.string ⟨#[]⟩)]⟩,
     ⟨(some 3), none, .mv (.const (.int .i64 0))⟩])
  (.seq (.seq (.reg [⟨(some 11), none, .mv (.tmp 0)⟩,
      ⟨(some 12), none, .call (.func 21) [(.tmp 11)]⟩,
      ⟨(some 4), none, .mv (.tmp 12)⟩])
   (.seq (.reg [⟨(some 13), none, .mv (.tmp 4)⟩,
      ⟨(some 14), none, .bin .neq (.tmp 13) (.const (.int .i64 0))⟩])
   (.cond (.tmp 14)
    (.seq (.reg [⟨(some 15), none, .build [(.string ⟨#[]⟩), (.string ⟨#[]⟩), (.string ⟨#[]⟩), (.string ⟨#[]⟩)] []⟩,
        ⟨(some 16), none, .mv (.tmp 4)⟩,
        ⟨none, none, .store 4 (.tmp 2) (.tmp 15)⟩,
        ⟨(some 3), none, .mv (.tmp 16)⟩])
     (.ret))
    (.skip))))
  (.seq (.reg [⟨(some 17), none, .mv (.tmp 0)⟩,
     ⟨(some 18), none, .call (.func 39) [(.tmp 17), (.const (.string ⟨#[46]⟩))]⟩,
     ⟨(some 5), none, .mv (.tmp 18)⟩])
  (.seq (.seq (.reg [⟨(some 19), none, .mv (.tmp 5)⟩,
      ⟨(some 20), none, .mv (.tmp 5)⟩,
      ⟨(some 21), none, .len false (.tmp 20)⟩,
      ⟨(some 22), none, .bin .sub (.tmp 21) (.const (.int .i64 1))⟩,
      ⟨(some 23), none, .idxA 1 (.tmp 19) (.tmp 22)⟩,
      ⟨(some 24), none, .load false 1 (.tmp 23)⟩,
      ⟨(some 25), none, .bin .neq (.tmp 24) (.const (.string ⟨#[109, 101, 115, 104]⟩))⟩])
   (.cond (.tmp 25)
    (.seq (.reg [⟨(some 26), none, .build [(.string ⟨#[]⟩), (.string ⟨#[]⟩), (.string ⟨#[]⟩), (.string ⟨#[]⟩)] []⟩,
        ⟨none, none, .store 4 (.tmp 2) (.tmp 26)⟩,
        ⟨(some 3), none, .mv (.const (.int .i64 8))⟩])
     (.ret))
    (.skip)))
  (.seq (.reg [⟨(some 27), none, .mv (.tmp 5)⟩,
     ⟨(some 28), none, .mv (.tmp 5)⟩,
     ⟨(some 29), none, .len false (.tmp 28)⟩,
     ⟨(some 30), none, .bin .sub (.tmp 29) (.const (.int .i64 1))⟩,
     ⟨(some 31), none, .slcL 1 (.tmp 27) none (some (.tmp 30)) none⟩,
     ⟨(some 5), none, .mv (.tmp 31)⟩])
  (.seq (.reg [⟨(some 6), none, .zbox 23 [(.string ⟨#[]⟩), (.string ⟨#[]⟩), (.string ⟨#[]⟩), (.string ⟨#[]⟩)]⟩])
  (.seq (.reg [⟨(some 7), none, .mv (.const (.int .i64 (-1)))⟩])
  (.seq (.seq (.reg [⟨(some 32), none, .mv (.tmp 5)⟩,
      ⟨(some 33), none, .len false (.tmp 32)⟩,
      ⟨(some 34), none, .bin .sub (.tmp 33) (.const (.int .i64 2))⟩,
      ⟨(some 35), none, .mm true (.const (.int .i64 0)) (.tmp 34)⟩,
      ⟨(some 8), none, .mv (.tmp 35)⟩])
   (.block 0
    (.loop
     (.seq (.seq (.reg [⟨(some 36), none, .mv (.tmp 8)⟩,
         ⟨(some 37), none, .mv (.tmp 5)⟩,
         ⟨(some 38), none, .len false (.tmp 37)⟩,
         ⟨(some 39), none, .bin .lss (.tmp 36) (.tmp 38)⟩])
      (.cond (.tmp 39)
       (.skip)
       (.exit 0)))
     (.seq (.block 1
       (.seq (.reg [⟨(some 42), none, .mv (.tmp 5)⟩,
          ⟨(some 43), none, .mv (.tmp 8)⟩,
          ⟨(some 44), none, .idxA 1 (.tmp 42) (.tmp 43)⟩,
          ⟨(some 45), none, .load false 1 (.tmp 44)⟩,
          ⟨(some 46), none, .bin .eql (.tmp 45) (.const (.string ⟨#[115, 101, 114, 118, 105, 99, 101]⟩))⟩,
          ⟨(some 47), none, .mv (.tmp 46)⟩,
          ⟨(some 48), (some (47, false)), .mv (.tmp 5)⟩,
          ⟨(some 49), (some (47, false)), .mv (.tmp 8)⟩,
          ⟨(some 50), (some (47, false)), .idxA 1 (.tmp 48) (.tmp 49)⟩,
          ⟨(some 51), (some (47, false)), .load false 1 (.tmp 50)⟩,
          ⟨(some 52), (some (47, false)), .bin .eql (.tmp 51) (.const (.string ⟨#[110, 111, 100, 101]⟩))⟩,
          ⟨(some 53), none, .pick (.tmp 47) (.const (.bool true)) (.tmp 52)⟩])
       (.cond (.tmp 53)
        (.reg [⟨(some 54), none, .mv (.tmp 8)⟩,
           ⟨(some 7), none, .mv (.tmp 54)⟩])
        (.skip))))
     (.reg [⟨(some 40), none, .mv (.tmp 8)⟩,
       ⟨(some 41), none, .bin .add (.tmp 40) (.const (.int .i64 1))⟩,
       ⟨(some 8), none, .mv (.tmp 41)⟩]))))))
  (.seq (.seq (.reg [⟨(some 55), none, .mv (.tmp 7)⟩,
      ⟨(some 56), none, .bin .lss (.tmp 55) (.const (.int .i64 1))⟩,
      ⟨(some 57), none, .mv (.tmp 56)⟩,
      ⟨(some 58), (some (57, false)), .mv (.tmp 7)⟩,
      ⟨(some 59), (some (57, false)), .bin .gtr (.tmp 58) (.const (.int .i64 2))⟩,
      ⟨(some 60), none, .pick (.tmp 57) (.const (.bool true)) (.tmp 59)⟩])
   (.cond (.tmp 60)
    (.seq (.reg [⟨(some 61), none, .build [(.string ⟨#[]⟩), (.string ⟨#[]⟩), (.string ⟨#[]⟩), (.string ⟨#[]⟩)] []⟩,
        ⟨none, none, .store 4 (.tmp 2) (.tmp 61)⟩,
        ⟨(some 3), none, .mv (.const (.int .i64 1))⟩])
     (.ret))
    (.skip)))
  (.seq (.seq (.reg [⟨(some 62), none, .mv (.tmp 7)⟩,
      ⟨(some 63), none, .mv (.tmp 5)⟩,
      ⟨(some 64), none, .len false (.tmp 63)⟩,
      ⟨(some 65), none, .bin .sub (.tmp 64) (.const (.int .i64 1))⟩,
      ⟨(some 66), none, .bin .lss (.tmp 62) (.tmp 65)⟩])
   (.cond (.tmp 66)
    (.reg [⟨(some 67), none, .mv (.tmp 5)⟩,
       ⟨(some 68), none, .mv (.tmp 7)⟩,
       ⟨(some 69), none, .bin .add (.tmp 68) (.const (.int .i64 1))⟩,
       ⟨(some 70), none, .idxA 1 (.tmp 67) (.tmp 69)⟩,
       ⟨(some 71), none, .load false 1 (.tmp 70)⟩,
       ⟨(some 72), none, .fldA 3 (.tmp 6)⟩,
       ⟨none, none, .store 1 (.tmp 72) (.tmp 71)⟩])
    (.skip)))
  (.seq (.block 2
    (.seq (.reg [⟨(some 74), none, .mv (.tmp 5)⟩,
       ⟨(some 75), none, .mv (.tmp 7)⟩,
       ⟨(some 76), none, .idxA 1 (.tmp 74) (.tmp 75)⟩,
       ⟨(some 77), none, .load false 1 (.tmp 76)⟩,
       ⟨(some 78), none, .bin .eql (.tmp 77) (.const (.string ⟨#[110, 111, 100, 101]⟩))⟩,
       ⟨(some 79), none, .mv (.tmp 78)⟩,
       ⟨(some 80), (some (79, true)), .mv (.tmp 7)⟩,
       ⟨(some 81), (some (79, true)), .bin .eql (.tmp 80) (.const (.int .i64 1))⟩,
       ⟨(some 82), none, .pick (.tmp 79) (.tmp 81) (.const (.bool false))⟩,
       ⟨(some 73), none, .mv (.tmp 82)⟩])
    (.cond (.tmp 73)
     (.reg [⟨(some 83), none, .mv (.tmp 5)⟩,
        ⟨(some 84), none, .idxA 1 (.tmp 83) (.const (.int .i64 0))⟩,
        ⟨(some 85), none, .load false 1 (.tmp 84)⟩,
        ⟨(some 86), none, .fldA 2 (.tmp 6)⟩,
        ⟨none, none, .store 1 (.tmp 86) (.tmp 85)⟩])
     (.seq (.reg [⟨(some 88), none, .mv (.tmp 5)⟩,
         ⟨(some 89), none, .mv (.tmp 7)⟩,
         ⟨(some 90), none, .idxA 1 (.tmp 88) (.tmp 89)⟩,
         ⟨(some 91), none, .load false 1 (.tmp 90)⟩,
         ⟨(some 92), none, .bin .eql (.tmp 91) (.const (.string ⟨#[115, 101, 114, 118, 105, 99, 101]⟩))⟩,
         ⟨(some 87), none, .mv (.tmp 92)⟩])
      (.cond (.tmp 87)
       (.seq (.reg [⟨(some 93), none, .mv (.tmp 5)⟩,
           ⟨(some 94), none, .mv (.tmp 7)⟩,
           ⟨(some 95), none, .bin .sub (.tmp 94) (.const (.int .i64 1))⟩,
           ⟨(some 96), none, .idxA 1 (.tmp 93) (.tmp 95)⟩,
           ⟨(some 97), none, .load false 1 (.tmp 96)⟩,
           ⟨(some 98), none, .fldA 0 (.tmp 6)⟩,
           ⟨none, none, .store 1 (.tmp 98) (.tmp 97)⟩])
        (.seq (.reg [⟨(some 99), none, .mv (.tmp 7)⟩,
           ⟨(some 100), none, .bin .eql (.tmp 99) (.const (.int .i64 2))⟩])
        (.cond (.tmp 100)
         (.reg [⟨(some 101), none, .mv (.tmp 5)⟩,
            ⟨(some 102), none, .idxA 1 (.tmp 101) (.const (.int .i64 0))⟩,
            ⟨(some 103), none, .load false 1 (.tmp 102)⟩,
            ⟨(some 104), none, .fldA 1 (.tmp 6)⟩,
            ⟨none, none, .store 1 (.tmp 104) (.tmp 103)⟩])
         (.skip))))
       (.skip))))))
  (.seq (.seq (.reg [⟨(some 106), none, .load true 4 (.tmp 6)⟩,
      ⟨(some 107), none, .call (.func 12) [(.tmp 106)]⟩,
      ⟨(some 105), none, .mv (.tmp 107)⟩,
      ⟨(some 108), none, .ext (.tmp 105) 0⟩,
      ⟨(some 109), none, .ext (.tmp 105) 1⟩,
      ⟨(some 9), none, .mv (.tmp 108)⟩,
      ⟨(some 10), none, .mv (.tmp 109)⟩])
   (.seq (.reg [⟨(some 110), none, .mv (.tmp 10)⟩,
      ⟨(some 111), none, .bin .neq (.tmp 110) (.const (.int .i64 0))⟩,
      ⟨(some 112), none, .mv (.tmp 111)⟩,
      ⟨(some 113), (some (112, false)), .mv (.tmp 9)⟩,
      ⟨(some 114), (some (112, false)), .mv (.tmp 0)⟩,
      ⟨(some 115), (some (112, false)), .bin .neq (.tmp 113) (.tmp 114)⟩,
      ⟨(some 116), none, .pick (.tmp 112) (.const (.bool true)) (.tmp 115)⟩])
   (.cond (.tmp 116)
    (.seq (.reg [⟨(some 117), none, .build [(.string ⟨#[]⟩), (.string ⟨#[]⟩), (.string ⟨#[]⟩), (.string ⟨#[]⟩)] []⟩,
        ⟨none, none, .store 4 (.tmp 2) (.tmp 117)⟩,
        ⟨(some 3), none, .mv (.const (.int .i64 1))⟩])
     (.ret))
    (.skip))))
  (.seq (.reg [⟨(some 118), none, .load true 4 (.tmp 6)⟩,
     ⟨none, none, .store 4 (.tmp 2) (.tmp 118)⟩,
     ⟨(some 3), none, .mv (.const (.int .i64 0))⟩])
  (.ret)))))))))))))
theorem ck_query_Parse : chkFunC Tryd.prog 18 1 = some (rc_query_Parse, [(2, some (true, 4)), (3, none)]) := by kernel_rfl
/-- hearsay/hearsayref.ParseOf -/
def rc_hearsayref_ParseOf : RCode :=
  .seq (.reg [⟨(some 2), none, .zbox 23 [(.string ⟨#[]⟩), (.string ⟨#[]⟩), (.string ⟨#[]⟩), (.string ⟨#[]⟩)]⟩,
     ⟨(some 3), none, .mv (.const (.int .i64 0))⟩])
  (.seq (.reg [⟨(some 10), none, .mv (.tmp 0)⟩,
     ⟨(some 11), none, .call (.func 22) [(.tmp 10)]⟩,
     ⟨(some 4), none, .mv (.tmp 11)⟩])
  (.seq (.seq (.reg [⟨(some 12), none, .mv (.tmp 4)⟩,
      ⟨(some 13), none, .bin .neq (.tmp 12) (.const (.int .i64 0))⟩])
   (.cond (.tmp 13)
    (.seq (.reg [⟨(some 14), none, .build [(.string ⟨#[]⟩), (.string ⟨#[]⟩), (.string ⟨#[]⟩), (.string ⟨#[]⟩)] []⟩,
        ⟨(some 15), none, .mv (.tmp 4)⟩,
        ⟨none, none, .store 4 (.tmp 2) (.tmp 14)⟩,
        ⟨(some 3), none, .mv (.tmp 15)⟩])
     (.ret))
    (.skip)))
  (.seq (.reg [⟨(some 16), none, .mv (.tmp 0)⟩,
     ⟨(some 17), none, .call (.func 40) [(.tmp 16)]⟩,
     ⟨(some 5), none, .mv (.tmp 17)⟩])
  (.seq (.seq (.reg [⟨(some 18), none, .mv (.tmp 5)⟩,
      ⟨(some 19), none, .len false (.tmp 18)⟩,
      ⟨(some 20), none, .bin .eql (.tmp 19) (.const (.int .i64 0))⟩,
      ⟨(some 21), none, .mv (.tmp 20)⟩,
      ⟨(some 22), (some (21, false)), .mv (.tmp 5)⟩,
      ⟨(some 23), (some (21, false)), .mv (.tmp 5)⟩,
      ⟨(some 24), (some (21, false)), .len false (.tmp 23)⟩,
      ⟨(some 25), (some (21, false)), .bin .sub (.tmp 24) (.const (.int .i64 1))⟩,
      ⟨(some 26), (some (21, false)), .idxA 1 (.tmp 22) (.tmp 25)⟩,
      ⟨(some 27), (some (21, false)), .load false 1 (.tmp 26)⟩,
      ⟨(some 28), (some (21, false)), .bin .neq (.tmp 27) (.const (.string ⟨#[109, 101, 115, 104]⟩))⟩,
      ⟨(some 29), none, .pick (.tmp 21) (.const (.bool true)) (.tmp 28)⟩])
   (.cond (.tmp 29)
    (.seq (.reg [⟨(some 30), none, .build [(.string ⟨#[]⟩), (.string ⟨#[]⟩), (.string ⟨#[]⟩), (.string ⟨#[]⟩)] []⟩,
        ⟨none, none, .store 4 (.tmp 2) (.tmp 30)⟩,
        ⟨(some 3), none, .mv (.const (.int .i64 8))⟩])
     (.ret))
    (.skip)))
  (.seq (.reg [⟨(some 6), none, .mv (.const (.slice none 0 0))⟩])
  (.seq (.seq (.reg [⟨(some 31), none, .mv (.tmp 5)⟩,
      ⟨(some 32), none, .len false (.tmp 31)⟩])
   (.block 0
    (.seq (.reg [⟨(some 34), none, .bin .eql (.tmp 32) (.const (.int .i64 3))⟩,
       ⟨(some 33), none, .mv (.tmp 34)⟩])
    (.cond (.tmp 33)
     (.dreg [[⟨(some 35), none, .mv (.tmp 5)⟩,
         ⟨(some 36), none, .idxA 1 (.tmp 35) (.const (.int .i64 0))⟩,
         ⟨(some 37), none, .load false 1 (.tmp 36)⟩,
         ⟨(some 38), none, .build [(.string ⟨#[]⟩), (.string ⟨#[]⟩), (.string ⟨#[]⟩), (.string ⟨#[]⟩)] [(0, 1, (.tmp 37))]⟩,
         ⟨(some 39), none, .mv (.tmp 5)⟩,
         ⟨(some 40), none, .idxA 1 (.tmp 39) (.const (.int .i64 0))⟩,
         ⟨(some 41), none, .load false 1 (.tmp 40)⟩,
         ⟨(some 42), none, .build [(.string ⟨#[]⟩), (.string ⟨#[]⟩), (.string ⟨#[]⟩), (.string ⟨#[]⟩)] [(2, 1, (.tmp 41))]⟩],
        [⟨(some 43), none, .mks 23 4 2 [(.string ⟨#[]⟩), (.string ⟨#[]⟩), (.string ⟨#[]⟩), (.string ⟨#[]⟩)] [(0, (.tmp 38)), (1, (.tmp 42))]⟩],
        [⟨(some 6), none, .mv (.tmp 43)⟩]])
     (.seq (.reg [⟨(some 45), none, .bin .eql (.tmp 32) (.const (.int .i64 4))⟩,
         ⟨(some 44), none, .mv (.tmp 45)⟩])
      (.cond (.tmp 44)
       (.dreg [[⟨(some 46), none, .mv (.tmp 5)⟩,
           ⟨(some 47), none, .idxA 1 (.tmp 46) (.const (.int .i64 0))⟩,
           ⟨(some 48), none, .load false 1 (.tmp 47)⟩,
           ⟨(some 49), none, .mv (.tmp 5)⟩,
           ⟨(some 50), none, .idxA 1 (.tmp 49) (.const (.int .i64 2))⟩,
           ⟨(some 51), none, .load false 1 (.tmp 50)⟩,
           ⟨(some 52), none, .build [(.string ⟨#[]⟩), (.string ⟨#[]⟩), (.string ⟨#[]⟩), (.string ⟨#[]⟩)] [(0, 1, (.tmp 48)), (3, 1, (.tmp 51))]⟩,
           ⟨(some 53), none, .mv (.tmp 5)⟩,
           ⟨(some 54), none, .idxA 1 (.tmp 53) (.const (.int .i64 0))⟩,
           ⟨(some 55), none, .load false 1 (.tmp 54)⟩,
           ⟨(some 56), none, .mv (.tmp 5)⟩,
           ⟨(some 57), none, .idxA 1 (.tmp 56) (.const (.int .i64 2))⟩,
           ⟨(some 58), none, .load false 1 (.tmp 57)⟩,
           ⟨(some 59), none, .build [(.string ⟨#[]⟩), (.string ⟨#[]⟩), (.string ⟨#[]⟩), (.string ⟨#[]⟩)] [(2, 1, (.tmp 55)), (3, 1, (.tmp 58))]⟩,
           ⟨(some 60), none, .mv (.tmp 5)⟩,
           ⟨(some 61), none, .idxA 1 (.tmp 60) (.const (.int .i64 0))⟩,
           ⟨(some 62), none, .load false 1 (.tmp 61)⟩,
           ⟨(some 63), none, .mv (.tmp 5)⟩,
           ⟨(some 64), none, .idxA 1 (.tmp 63) (.const (.int .i64 1))⟩,
           ⟨(some 65), none, .load false 1 (.tmp 64)⟩,
           ⟨(some 66), none, .build [(.string ⟨#[]⟩), (.string ⟨#[]⟩), (.string ⟨#[]⟩), (.string ⟨#[]⟩)] [(1, 1, (.tmp 62)), (0, 1, (.tmp 65))]⟩],
          [⟨(some 67), none, .mks 23 4 3 [(.string ⟨#[]⟩), (.string ⟨#[]⟩), (.string ⟨#[]⟩), (.string ⟨#[]⟩)] [(0, (.tmp 52)), (1, (.tmp 59)), (2, (.tmp 66))]⟩],
          [⟨(some 6), none, .mv (.tmp 67)⟩]])
       (.seq (.reg [⟨(some 69), none, .bin .eql (.tmp 32) (.const (.int .i64 5))⟩,
           ⟨(some 68), none, .mv (.tmp 69)⟩])
        (.cond (.tmp 68)
         (.dreg [[⟨(some 70), none, .mv (.tmp 5)⟩,
             ⟨(some 71), none, .idxA 1 (.tmp 70) (.const (.int .i64 0))⟩,
             ⟨(some 72), none, .load false 1 (.tmp 71)⟩,
             ⟨(some 73), none, .mv (.tmp 5)⟩,
             ⟨(some 74), none, .idxA 1 (.tmp 73) (.const (.int .i64 1))⟩,
             ⟨(some 75), none, .load false 1 (.tmp 74)⟩,
             ⟨(some 76), none, .mv (.tmp 5)⟩,
             ⟨(some 77), none, .idxA 1 (.tmp 76) (.const (.int .i64 3))⟩,
             ⟨(some 78), none, .load false 1 (.tmp 77)⟩],
            [⟨(some 79), none, .build [(.string ⟨#[]⟩), (.string ⟨#[]⟩), (.string ⟨#[]⟩), (.string ⟨#[]⟩)] [(1, 1, (.tmp 72)), (0, 1, (.tmp 75)), (3, 1, (.tmp 78))]⟩],
            [⟨(some 80), none, .mks 23 4 1 [(.string ⟨#[]⟩), (.string ⟨#[]⟩), (.string ⟨#[]⟩), (.string ⟨#[]⟩)] [(0, (.tmp 79))]⟩],
            [⟨(some 6), none, .mv (.tmp 80)⟩]])
         (.skip)))))))))
  (.seq (.seq (.reg [⟨(some 7), none, .mv (.const (.int .i64 0))⟩])
   (.block 1
    (.loop
     (.seq (.seq (.reg [⟨(some 81), none, .mv (.tmp 7)⟩,
         ⟨(some 82), none, .mv (.tmp 6)⟩,
         ⟨(some 83), none, .len false (.tmp 82)⟩,
         ⟨(some 84), none, .bin .lss (.tmp 81) (.tmp 83)⟩])
      (.cond (.tmp 84)
       (.skip)
       (.exit 1)))
     (.seq (.block 2
       (.seq (.reg [⟨(some 88), none, .mv (.tmp 6)⟩,
          ⟨(some 89), none, .mv (.tmp 7)⟩,
          ⟨(some 90), none, .idxA 4 (.tmp 88) (.tmp 89)⟩,
          ⟨(some 91), none, .load true 4 (.tmp 90)⟩,
          ⟨(some 92), none, .call (.func 13) [(.tmp 91)]⟩,
          ⟨(some 87), none, .mv (.tmp 92)⟩,
          ⟨(some 93), none, .ext (.tmp 87) 0⟩,
          ⟨(some 94), none, .ext (.tmp 87) 1⟩,
          ⟨(some 8), none, .mv (.tmp 93)⟩,
          ⟨(some 9), none, .mv (.tmp 94)⟩])
       (.seq (.reg [⟨(some 95), none, .mv (.tmp 9)⟩,
          ⟨(some 96), none, .bin .eql (.tmp 95) (.const (.int .i64 0))⟩,
          ⟨(some 97), none, .mv (.tmp 96)⟩,
          ⟨(some 98), (some (97, true)), .mv (.tmp 8)⟩,
          ⟨(some 99), (some (97, true)), .mv (.tmp 0)⟩,
          ⟨(some 100), (some (97, true)), .bin .eql (.tmp 98) (.tmp 99)⟩,
          ⟨(some 101), none, .pick (.tmp 97) (.tmp 100) (.const (.bool false))⟩])
       (.cond (.tmp 101)
        (.seq (.reg [⟨(some 102), none, .mv (.tmp 6)⟩,
            ⟨(some 103), none, .mv (.tmp 7)⟩,
            ⟨(some 104), none, .idxA 4 (.tmp 102) (.tmp 103)⟩,
            ⟨(some 105), none, .load true 4 (.tmp 104)⟩,
            ⟨none, none, .store 4 (.tmp 2) (.tmp 105)⟩,
            ⟨(some 3), none, .mv (.const (.int .i64 0))⟩])
         (.ret))
        (.skip)))))
     (.reg [⟨(some 85), none, .mv (.tmp 7)⟩,
       ⟨(some 86), none, .bin .add (.tmp 85) (.const (.int .i64 1))⟩,
       ⟨(some 7), none, .mv (.tmp 86)⟩]))))))
  (.seq (.reg [⟨(some 106), none, .build [(.string ⟨#[]⟩), (.string ⟨#[]⟩), (.string ⟨#[]⟩), (.string ⟨#[]⟩)] []⟩,
     ⟨none, none, .store 4 (.tmp 2) (.tmp 106)⟩,
     ⟨(some 3), none, .mv (.const (.int .i64 1))⟩])
  (.ret)))))))))
theorem ck_hearsayref_ParseOf : chkFunC Tryd.prog 19 1 = some (rc_hearsayref_ParseOf, [(2, some (true, 4)), (3, none)]) := by kernel_rfl
/-- hearsay/hearsaylaw.dnsBegun -/
def rc_hearsaylaw_dnsBegun : RCode :=
  .seq (.reg [⟨(some 0), none, .mv (.const (.bool false))⟩])
  (.seq (.reg [⟨(some 6), none, .build [(.string ⟨#[]⟩), (.int .i64 0)] [(0, 1, (.const (.string ⟨#[97, 46, 98]⟩))), (1, 1, (.const (.int .i64 1)))]⟩,
     ⟨(some 7), none, .build [(.int .i64 0), (.bool false), (.bool false), (.int .i64 0), (.string ⟨#[]⟩), (.int .i64 0), (.slice none 0 0)] [(0, 1, (.const (.int .i64 258))), (4, 2, (.tmp 6))]⟩,
     ⟨(some 8), none, .call (.func 23) [(.tmp 7)]⟩,
     ⟨(some 5), none, .mv (.tmp 8)⟩,
     ⟨(some 9), none, .ext (.tmp 5) 0⟩,
     ⟨(some 10), none, .ext (.tmp 5) 1⟩,
     ⟨(some 1), none, .mv (.tmp 9)⟩,
     ⟨(some 2), none, .mv (.tmp 10)⟩])
  (.seq (.reg [⟨(some 12), none, .mv (.tmp 1)⟩,
     ⟨(some 13), none, .call (.func 26) [(.tmp 12)]⟩,
     ⟨(some 11), none, .mv (.tmp 13)⟩,
     ⟨(some 14), none, .ext (.tmp 11) 0⟩,
     ⟨(some 15), none, .ext (.tmp 11) 1⟩,
     ⟨(some 3), none, .zbox 40 [(.int .i64 0), (.bool false), (.bool false), (.int .i64 0), (.string ⟨#[]⟩), (.int .i64 0), (.slice none 0 0)]⟩,
     ⟨none, none, .store 7 (.tmp 3) (.tmp 14)⟩,
     ⟨(some 4), none, .mv (.tmp 15)⟩])
  (.seq (.reg [⟨(some 16), none, .mv (.tmp 2)⟩,
     ⟨(some 17), none, .bin .eql (.tmp 16) (.const (.int .i64 0))⟩,
     ⟨(some 18), none, .mv (.tmp 17)⟩,
     ⟨(some 19), (some (18, true)), .mv (.tmp 4)⟩,
     ⟨(some 20), (some (18, true)), .bin .eql (.tmp 19) (.const (.int .i64 0))⟩,
     ⟨(some 21), none, .pick (.tmp 18) (.tmp 20) (.const (.bool false))⟩,
     ⟨(some 22), none, .mv (.tmp 21)⟩,
     ⟨(some 23), (some (22, true)), .mv (.tmp 1)⟩,
     ⟨(some 24), (some (22, true)), .len true (.tmp 23)⟩,
     ⟨(some 25), (some (22, true)), .bin .eql (.tmp 24) (.const (.int .i64 21))⟩,
     ⟨(some 26), none, .pick (.tmp 22) (.tmp 25) (.const (.bool false))⟩,
     ⟨(some 27), none, .mv (.tmp 26)⟩,
     ⟨(some 28), (some (27, true)), .fldA 0 (.tmp 3)⟩,
     ⟨(some 29), (some (27, true)), .load false 1 (.tmp 28)⟩,
     ⟨(some 30), (some (27, true)), .bin .eql (.tmp 29) (.const (.int .i64 258))⟩,
     ⟨(some 31), none, .pick (.tmp 27) (.tmp 30) (.const (.bool false))⟩,
     ⟨(some 32), none, .mv (.tmp 31)⟩,
     ⟨(some 33), (some (32, true)), .fldA 4 (.tmp 3)⟩,
     ⟨(some 34), (some (32, true)), .fldA 0 (.tmp 33)⟩,
     ⟨(some 35), (some (32, true)), .load false 1 (.tmp 34)⟩,
     ⟨(some 36), (some (32, true)), .bin .eql (.tmp 35) (.const (.string ⟨#[97, 46, 98]⟩))⟩,
     ⟨(some 37), none, .pick (.tmp 32) (.tmp 36) (.const (.bool false))⟩,
     ⟨(some 0), none, .mv (.tmp 37)⟩])
  (.ret))))
theorem ck_hearsaylaw_dnsBegun : chkFun Tryd.prog 20 0 = some (rc_hearsaylaw_dnsBegun, [0]) := by kernel_rfl
/-- hearsay/dns.Check -/
def rc_dns_Check : RCode :=
  .seq (.reg [⟨(some 2), none, .mv (.const (.int .i64 0))⟩])
  (.seq (.reg [⟨(some 4), none, .mv (.tmp 0)⟩,
     ⟨(some 5), none, .call (.func 41) [(.tmp 4)]⟩,
     ⟨(some 3), none, .mv (.tmp 5)⟩])
  (.seq (.block 0
    (.seq (.reg [⟨(some 7), none, .mv (.tmp 3)⟩,
       ⟨(some 8), none, .call (.func 33) [(.tmp 7), (.func 42)]⟩,
       ⟨(some 6), none, .mv (.tmp 8)⟩])
    (.cond (.tmp 6)
     (.seq (.reg [⟨(some 2), none, .mv (.const (.int .i64 1))⟩])
      (.ret))
     (.seq (.reg [⟨(some 10), none, .mv (.tmp 3)⟩,
         ⟨(some 11), none, .len false (.tmp 10)⟩,
         ⟨(some 12), none, .bin .gtr (.tmp 11) (.const (.int .i64 8))⟩,
         ⟨(some 13), none, .mv (.tmp 12)⟩,
         ⟨(some 14), (some (13, false)), .mv (.tmp 0)⟩,
         ⟨(some 15), (some (13, false)), .len true (.tmp 14)⟩,
         ⟨(some 16), (some (13, false)), .bin .gtr (.tmp 15) (.const (.int .i64 120))⟩,
         ⟨(some 17), none, .pick (.tmp 13) (.const (.bool true)) (.tmp 16)⟩,
         ⟨(some 9), none, .mv (.tmp 17)⟩])
      (.cond (.tmp 9)
       (.seq (.reg [⟨(some 2), none, .mv (.const (.int .i64 2))⟩])
        (.ret))
       (.skip))))))
  (.seq (.reg [⟨(some 2), none, .mv (.const (.int .i64 0))⟩])
  (.ret))))
theorem ck_dns_Check : chkFun Tryd.prog 21 1 = some (rc_dns_Check, [2]) := by kernel_rfl
/-- hearsay/hearsayref.CheckName -/
def rc_hearsayref_CheckName : RCode :=
  .seq (.reg [⟨(some 2), none, .mv (.const (.int .i64 0))⟩])
  (.seq (.reg [⟨(some 5), none, .mv (.tmp 0)⟩,
     ⟨(some 6), none, .call (.func 40) [(.tmp 5)]⟩,
     ⟨(some 3), none, .mv (.tmp 6)⟩])
  (.seq (.seq (.reg [⟨(some 4), none, .mv (.const (.int .i64 0))⟩])
   (.block 0
    (.loop
     (.seq (.seq (.reg [⟨(some 7), none, .mv (.tmp 4)⟩,
         ⟨(some 8), none, .mv (.tmp 3)⟩,
         ⟨(some 9), none, .len false (.tmp 8)⟩,
         ⟨(some 10), none, .bin .lss (.tmp 7) (.tmp 9)⟩])
      (.cond (.tmp 10)
       (.skip)
       (.exit 0)))
     (.seq (.block 1
       (.seq (.reg [⟨(some 13), none, .mv (.tmp 3)⟩,
          ⟨(some 14), none, .mv (.tmp 4)⟩,
          ⟨(some 15), none, .idxA 1 (.tmp 13) (.tmp 14)⟩,
          ⟨(some 16), none, .load false 1 (.tmp 15)⟩,
          ⟨(some 17), none, .call (.func 38) [(.tmp 16)]⟩,
          ⟨(some 18), none, .not (.tmp 17)⟩])
       (.cond (.tmp 18)
        (.seq (.reg [⟨(some 2), none, .mv (.const (.int .i64 1))⟩])
         (.ret))
        (.skip))))
     (.reg [⟨(some 11), none, .mv (.tmp 4)⟩,
       ⟨(some 12), none, .bin .add (.tmp 11) (.const (.int .i64 1))⟩,
       ⟨(some 4), none, .mv (.tmp 12)⟩]))))))
  (.seq (.seq (.reg [⟨(some 19), none, .mv (.tmp 3)⟩,
      ⟨(some 20), none, .len false (.tmp 19)⟩,
      ⟨(some 21), none, .bin .gtr (.tmp 20) (.const (.int .i64 8))⟩,
      ⟨(some 22), none, .mv (.tmp 21)⟩,
      ⟨(some 23), (some (22, false)), .mv (.tmp 0)⟩,
      ⟨(some 24), (some (22, false)), .len true (.tmp 23)⟩,
      ⟨(some 25), (some (22, false)), .bin .gtr (.tmp 24) (.const (.int .i64 120))⟩,
      ⟨(some 26), none, .pick (.tmp 22) (.const (.bool true)) (.tmp 25)⟩])
   (.cond (.tmp 26)
    (.seq (.reg [⟨(some 2), none, .mv (.const (.int .i64 2))⟩])
     (.ret))
    (.skip)))
  (.seq (.reg [⟨(some 2), none, .mv (.const (.int .i64 0))⟩])
  (.ret)))))
theorem ck_hearsayref_CheckName : chkFun Tryd.prog 22 1 = some (rc_hearsayref_CheckName, [2]) := by kernel_rfl
/-- hearsay/dns.Write -/
def rc_dns_Write : RCode :=
  .seq (.reg [⟨(some 1), none, .box 40 7 (.tmp 0)⟩,
     ⟨(some 2), none, .mv (.const (.string ⟨#[]⟩))⟩,
     ⟨(some 3), none, .mv (.const (.int .i64 0))⟩])
  (.seq (.seq (.reg [⟨(some 6), none, .load true 7 (.tmp 1)⟩,
      ⟨(some 7), none, .call (.func 43) [(.tmp 6)]⟩,
      ⟨(some 4), none, .mv (.tmp 7)⟩])
   (.seq (.reg [⟨(some 8), none, .mv (.tmp 4)⟩,
      ⟨(some 9), none, .bin .neq (.tmp 8) (.const (.int .i64 0))⟩])
   (.cond (.tmp 9)
    (.seq (.reg [⟨(some 10), none, .mv (.tmp 4)⟩,
        ⟨(some 2), none, .mv (.const (.string ⟨#[]⟩))⟩,
        ⟨(some 3), none, .mv (.tmp 10)⟩])
     (.ret))
    (.skip))))
  (.seq (.reg [⟨(some 11), none, .load true 7 (.tmp 1)⟩,
     ⟨(some 12), none, .call (.func 44) [(.tmp 11)]⟩,
     ⟨(some 5), none, .mv (.tmp 12)⟩])
  (.seq (.seq (.reg [⟨(some 13), none, .mv (.tmp 5)⟩,
      ⟨(some 14), none, .len true (.tmp 13)⟩,
      ⟨(some 15), none, .bin .gtr (.tmp 14) (.const (.int .i64 512))⟩])
   (.cond (.tmp 15)
    (.seq (.reg [⟨(some 2), none, .mv (.const (.string ⟨#[]⟩))⟩,
        ⟨(some 3), none, .mv (.const (.int .i64 2))⟩])
     (.ret))
    (.skip)))
  (.seq (.reg [⟨(some 16), none, .mv (.tmp 5)⟩,
     ⟨(some 2), none, .mv (.tmp 16)⟩,
     ⟨(some 3), none, .mv (.const (.int .i64 0))⟩])
  (.ret)))))
theorem ck_dns_Write : chkFun Tryd.prog 23 1 = some (rc_dns_Write, [2, 3]) := by kernel_rfl
/-- hearsay/hearsayref.CheckMessage -/
def rc_hearsayref_CheckMessage : RCode :=
  .seq (.reg [⟨(some 1), none, .box 40 7 (.tmp 0)⟩,
     ⟨(some 2), none, .mv (.const (.int .i64 0))⟩])
  (.seq (.seq (.reg [⟨(some 5), none, .fldA 0 (.tmp 1)⟩,
      ⟨(some 6), none, .load false 1 (.tmp 5)⟩,
      ⟨(some 7), none, .call (.func 45) [(.tmp 6), (.const (.int .i64 0)), (.const (.int .i64 65535))]⟩,
      ⟨(some 8), none, .not (.tmp 7)⟩,
      ⟨(some 9), none, .mv (.tmp 8)⟩,
      ⟨(some 10), (some (9, false)), .fldA 3 (.tmp 1)⟩,
      ⟨(some 11), (some (9, false)), .load false 1 (.tmp 10)⟩,
      ⟨(some 12), (some (9, false)), .call (.func 45) [(.tmp 11), (.const (.int .i64 0)), (.const (.int .i64 15))]⟩,
      ⟨(some 13), (some (9, false)), .not (.tmp 12)⟩,
      ⟨(some 14), none, .pick (.tmp 9) (.const (.bool true)) (.tmp 13)⟩])
   (.cond (.tmp 14)
    (.seq (.reg [⟨(some 2), none, .mv (.const (.int .i64 3))⟩])
     (.ret))
    (.skip)))
  (.seq (.seq (.reg [⟨(some 15), none, .fldA 6 (.tmp 1)⟩,
      ⟨(some 16), none, .load false 1 (.tmp 15)⟩,
      ⟨(some 17), none, .len false (.tmp 16)⟩,
      ⟨(some 18), none, .bin .gtr (.tmp 17) (.const (.int .i64 20))⟩])
   (.cond (.tmp 18)
    (.seq (.reg [⟨(some 2), none, .mv (.const (.int .i64 2))⟩])
     (.ret))
    (.skip)))
  (.seq (.reg [⟨(some 19), none, .fldA 4 (.tmp 1)⟩,
     ⟨(some 20), none, .fldA 0 (.tmp 19)⟩,
     ⟨(some 21), none, .load false 1 (.tmp 20)⟩,
     ⟨(some 22), none, .call (.func 22) [(.tmp 21)]⟩,
     ⟨(some 3), none, .mv (.tmp 22)⟩])
  (.seq (.seq (.reg [⟨(some 23), none, .mv (.tmp 3)⟩,
      ⟨(some 24), none, .bin .neq (.tmp 23) (.const (.int .i64 0))⟩])
   (.cond (.tmp 24)
    (.seq (.reg [⟨(some 25), none, .mv (.tmp 3)⟩,
        ⟨(some 2), none, .mv (.tmp 25)⟩])
     (.ret))
    (.skip)))
  (.seq (.seq (.reg [⟨(some 26), none, .fldA 4 (.tmp 1)⟩,
      ⟨(some 27), none, .fldA 1 (.tmp 26)⟩,
      ⟨(some 28), none, .load false 1 (.tmp 27)⟩,
      ⟨(some 29), none, .call (.func 46) [(.tmp 28)]⟩,
      ⟨(some 30), none, .not (.tmp 29)⟩])
   (.cond (.tmp 30)
    (.seq (.reg [⟨(some 2), none, .mv (.const (.int .i64 7))⟩])
     (.ret))
    (.skip)))
  (.seq (.seq (.reg [⟨(some 4), none, .mv (.const (.int .i64 0))⟩])
   (.block 0
    (.loop
     (.seq (.seq (.reg [⟨(some 31), none, .mv (.tmp 4)⟩,
         ⟨(some 32), none, .fldA 6 (.tmp 1)⟩,
         ⟨(some 33), none, .load false 1 (.tmp 32)⟩,
         ⟨(some 34), none, .len false (.tmp 33)⟩,
         ⟨(some 35), none, .bin .lss (.tmp 31) (.tmp 34)⟩])
      (.cond (.tmp 35)
       (.skip)
       (.exit 0)))
     (.seq (.block 1
       (.seq (.reg [⟨(some 38), none, .fldA 6 (.tmp 1)⟩,
          ⟨(some 39), none, .load false 1 (.tmp 38)⟩,
          ⟨(some 40), none, .mv (.tmp 4)⟩,
          ⟨(some 41), none, .idxA 7 (.tmp 39) (.tmp 40)⟩,
          ⟨(some 42), none, .load true 7 (.tmp 41)⟩,
          ⟨(some 43), none, .call (.func 47) [(.tmp 42)]⟩,
          ⟨(some 3), none, .mv (.tmp 43)⟩])
       (.seq (.reg [⟨(some 44), none, .mv (.tmp 3)⟩,
          ⟨(some 45), none, .bin .neq (.tmp 44) (.const (.int .i64 0))⟩])
       (.cond (.tmp 45)
        (.seq (.reg [⟨(some 46), none, .mv (.tmp 3)⟩,
            ⟨(some 2), none, .mv (.tmp 46)⟩])
         (.ret))
        (.skip)))))
     (.reg [⟨(some 36), none, .mv (.tmp 4)⟩,
       ⟨(some 37), none, .bin .add (.tmp 36) (.const (.int .i64 1))⟩,
       ⟨(some 4), none, .mv (.tmp 37)⟩]))))))
  (.seq (.reg [⟨(some 2), none, .mv (.const (.int .i64 0))⟩])
  (.ret))))))))
theorem ck_hearsayref_CheckMessage : chkFun Tryd.prog 24 1 = some (rc_hearsayref_CheckMessage, [2]) := by kernel_rfl
/-- hearsay/hearsayref.MessageBytes -/
def rc_hearsayref_MessageBytes : RCode :=
  .seq (.reg [⟨(some 1), none, .box 40 7 (.tmp 0)⟩,
     ⟨(some 2), none, .mv (.const (.string ⟨#[]⟩))⟩])
  (.seq (.reg [⟨(some 3), none, .mv (.const (.int .i64 0))⟩])
  (.seq (.seq (.reg [⟨(some 8), none, .fldA 1 (.tmp 1)⟩,
      ⟨(some 9), none, .load false 1 (.tmp 8)⟩])
   (.cond (.tmp 9)
    (.reg [⟨(some 10), none, .mv (.tmp 3)⟩,
       ⟨(some 11), none, .bin .add (.tmp 10) (.const (.int .i64 128))⟩,
       ⟨(some 3), none, .mv (.tmp 11)⟩])
    (.skip)))
  (.seq (.seq (.reg [⟨(some 12), none, .fldA 2 (.tmp 1)⟩,
      ⟨(some 13), none, .load false 1 (.tmp 12)⟩])
   (.cond (.tmp 13)
    (.reg [⟨(some 14), none, .mv (.tmp 3)⟩,
       ⟨(some 15), none, .bin .add (.tmp 14) (.const (.int .i64 2))⟩,
       ⟨(some 3), none, .mv (.tmp 15)⟩])
    (.skip)))
  (.seq (.dreg [[⟨(some 16), none, .fldA 0 (.tmp 1)⟩,
      ⟨(some 17), none, .load false 1 (.tmp 16)⟩,
      ⟨(some 18), none, .call (.func 48) [(.tmp 17), (.const (.int .i64 2))]⟩,
      ⟨(some 19), none, .mv (.tmp 3)⟩,
      ⟨(some 20), none, .call (.func 48) [(.tmp 19), (.const (.int .i64 1))]⟩,
      ⟨(some 21), none, .bin .add (.tmp 18) (.tmp 20)⟩,
      ⟨(some 22), none, .fldA 3 (.tmp 1)⟩,
      ⟨(some 23), none, .load false 1 (.tmp 22)⟩,
      ⟨(some 24), none, .call (.func 48) [(.tmp 23), (.const (.int .i64 1))]⟩,
      ⟨(some 25), none, .bin .add (.tmp 21) (.tmp 24)⟩,
      ⟨(some 26), none, .call (.func 48) [(.const (.int .i64 1)), (.const (.int .i64 2))]⟩,
      ⟨(some 27), none, .bin .add (.tmp 25) (.tmp 26)⟩,
      ⟨(some 28), none, .fldA 6 (.tmp 1)⟩,
      ⟨(some 29), none, .load false 1 (.tmp 28)⟩,
      ⟨(some 30), none, .len false (.tmp 29)⟩,
      ⟨(some 31), none, .call (.func 48) [(.tmp 30), (.const (.int .i64 2))]⟩,
      ⟨(some 32), none, .bin .add (.tmp 27) (.tmp 31)⟩,
      ⟨(some 33), none, .call (.func 48) [(.const (.int .i64 0)), (.const (.int .i64 4))]⟩,
      ⟨(some 34), none, .bin .add (.tmp 32) (.tmp 33)⟩,
      ⟨(some 35), none, .fldA 4 (.tmp 1)⟩,
      ⟨(some 36), none, .fldA 0 (.tmp 35)⟩,
      ⟨(some 37), none, .load false 1 (.tmp 36)⟩,
      ⟨(some 38), none, .call (.func 49) [(.tmp 37)]⟩,
      ⟨(some 39), none, .bin .add (.tmp 34) (.tmp 38)⟩,
      ⟨(some 40), none, .fldA 4 (.tmp 1)⟩,
      ⟨(some 41), none, .fldA 1 (.tmp 40)⟩,
      ⟨(some 42), none, .load false 1 (.tmp 41)⟩,
      ⟨(some 43), none, .call (.func 48) [(.tmp 42), (.const (.int .i64 2))]⟩,
      ⟨(some 44), none, .bin .add (.tmp 39) (.tmp 43)⟩,
      ⟨(some 45), none, .call (.func 48) [(.const (.int .i64 1)), (.const (.int .i64 2))]⟩],
     [⟨(some 46), none, .bin .add (.tmp 44) (.tmp 45)⟩],
     [⟨(some 4), none, .mv (.tmp 46)⟩]])
  (.seq (.seq (.reg [⟨(some 5), none, .mv (.const (.int .i64 0))⟩])
   (.block 0
    (.loop
     (.seq (.seq (.reg [⟨(some 47), none, .mv (.tmp 5)⟩,
         ⟨(some 48), none, .fldA 6 (.tmp 1)⟩,
         ⟨(some 49), none, .load false 1 (.tmp 48)⟩,
         ⟨(some 50), none, .len false (.tmp 49)⟩,
         ⟨(some 51), none, .bin .lss (.tmp 47) (.tmp 50)⟩])
      (.cond (.tmp 51)
       (.skip)
       (.exit 0)))
     (.seq (.block 1
       (.seq (.reg [⟨(some 54), none, .fldA 6 (.tmp 1)⟩,
          ⟨(some 55), none, .load false 1 (.tmp 54)⟩,
          ⟨(some 56), none, .mv (.tmp 5)⟩,
          ⟨(some 57), none, .idxA 7 (.tmp 55) (.tmp 56)⟩,
          ⟨(some 58), none, .load true 7 (.tmp 57)⟩,
          ⟨(some 6), none, .zbox 64 [(.string ⟨#[]⟩), (.int .i64 0), (.int .i64 0), (.int .i64 0), (.string ⟨#[]⟩), (.int .i64 0), (.string ⟨#[]⟩)]⟩,
          ⟨none, none, .store 7 (.tmp 6) (.tmp 58)⟩])
       (.seq (.reg [⟨(some 7), none, .mv (.const (.string ⟨#[]⟩))⟩])
       (.seq (.seq (.reg [⟨(some 59), none, .fldA 1 (.tmp 6)⟩,
           ⟨(some 60), none, .load false 1 (.tmp 59)⟩])
        (.block 2
         (.seq (.reg [⟨(some 62), none, .bin .eql (.tmp 60) (.const (.int .i64 1))⟩,
            ⟨(some 61), none, .mv (.tmp 62)⟩])
         (.cond (.tmp 61)
          (.reg [⟨(some 63), none, .fldA 3 (.tmp 6)⟩,
             ⟨(some 64), none, .load false 1 (.tmp 63)⟩,
             ⟨(some 65), none, .call (.func 48) [(.tmp 64), (.const (.int .i64 4))]⟩,
             ⟨(some 7), none, .mv (.tmp 65)⟩])
          (.seq (.reg [⟨(some 67), none, .bin .eql (.tmp 60) (.const (.int .i64 16))⟩,
              ⟨(some 66), none, .mv (.tmp 67)⟩])
           (.cond (.tmp 66)
            (.dreg [[⟨(some 68), none, .fldA 4 (.tmp 6)⟩,
                ⟨(some 69), none, .load false 1 (.tmp 68)⟩,
                ⟨(some 70), none, .len true (.tmp 69)⟩,
                ⟨(some 71), none, .call (.func 48) [(.tmp 70), (.const (.int .i64 1))]⟩,
                ⟨(some 72), none, .fldA 4 (.tmp 6)⟩,
                ⟨(some 73), none, .load false 1 (.tmp 72)⟩],
               [⟨(some 74), none, .bin .add (.tmp 71) (.tmp 73)⟩],
               [⟨(some 7), none, .mv (.tmp 74)⟩]])
            (.seq (.reg [⟨(some 76), none, .bin .eql (.tmp 60) (.const (.int .i64 33))⟩,
                ⟨(some 75), none, .mv (.tmp 76)⟩])
             (.cond (.tmp 75)
              (.dreg [[⟨(some 77), none, .call (.func 48) [(.const (.int .i64 0)), (.const (.int .i64 4))]⟩,
                  ⟨(some 78), none, .fldA 5 (.tmp 6)⟩,
                  ⟨(some 79), none, .load false 1 (.tmp 78)⟩,
                  ⟨(some 80), none, .call (.func 48) [(.tmp 79), (.const (.int .i64 2))]⟩,
                  ⟨(some 81), none, .bin .add (.tmp 77) (.tmp 80)⟩,
                  ⟨(some 82), none, .fldA 6 (.tmp 6)⟩,
                  ⟨(some 83), none, .load false 1 (.tmp 82)⟩,
                  ⟨(some 84), none, .call (.func 49) [(.tmp 83)]⟩],
                 [⟨(some 85), none, .bin .add (.tmp 81) (.tmp 84)⟩],
                 [⟨(some 7), none, .mv (.tmp 85)⟩]])
              (.skip)))))))))
       (.dreg [[⟨(some 86), none, .mv (.tmp 4)⟩,
          ⟨(some 87), none, .fldA 0 (.tmp 6)⟩,
          ⟨(some 88), none, .load false 1 (.tmp 87)⟩,
          ⟨(some 89), none, .call (.func 49) [(.tmp 88)]⟩,
          ⟨(some 90), none, .fldA 1 (.tmp 6)⟩,
          ⟨(some 91), none, .load false 1 (.tmp 90)⟩,
          ⟨(some 92), none, .call (.func 48) [(.tmp 91), (.const (.int .i64 2))]⟩,
          ⟨(some 93), none, .bin .add (.tmp 89) (.tmp 92)⟩,
          ⟨(some 94), none, .call (.func 48) [(.const (.int .i64 1)), (.const (.int .i64 2))]⟩,
          ⟨(some 95), none, .bin .add (.tmp 93) (.tmp 94)⟩,
          ⟨(some 96), none, .fldA 2 (.tmp 6)⟩,
          ⟨(some 97), none, .load false 1 (.tmp 96)⟩,
          ⟨(some 98), none, .call (.func 48) [(.tmp 97), (.const (.int .i64 4))]⟩,
          ⟨(some 99), none, .bin .add (.tmp 95) (.tmp 98)⟩,
          ⟨(some 100), none, .mv (.tmp 7)⟩,
          ⟨(some 101), none, .len true (.tmp 100)⟩,
          ⟨(some 102), none, .call (.func 48) [(.tmp 101), (.const (.int .i64 2))]⟩,
          ⟨(some 103), none, .bin .add (.tmp 99) (.tmp 102)⟩,
          ⟨(some 104), none, .mv (.tmp 7)⟩,
          ⟨(some 105), none, .bin .add (.tmp 103) (.tmp 104)⟩],
         [⟨(some 106), none, .bin .add (.tmp 86) (.tmp 105)⟩],
         [⟨(some 4), none, .mv (.tmp 106)⟩]])))))
     (.reg [⟨(some 52), none, .mv (.tmp 5)⟩,
       ⟨(some 53), none, .bin .add (.tmp 52) (.const (.int .i64 1))⟩,
       ⟨(some 5), none, .mv (.tmp 53)⟩]))))))
  (.seq (.reg [⟨(some 107), none, .mv (.tmp 4)⟩,
     ⟨(some 2), none, .mv (.tmp 107)⟩])
  (.ret)))))))
theorem ck_hearsayref_MessageBytes : chkFun Tryd.prog 25 1 = some (rc_hearsayref_MessageBytes, [2]) := by kernel_rfl
/-- hearsay/hearsayref.SameMessage -/
def rc_hearsayref_SameMessage : RCode :=
  .seq (.reg [⟨(some 2), none, .box 40 7 (.tmp 0)⟩,
     ⟨(some 3), none, .box 40 7 (.tmp 1)⟩,
     ⟨(some 4), none, .mv (.const (.bool false))⟩])
  (.seq (.reg [⟨(some 5), none, .fldA 0 (.tmp 2)⟩,
     ⟨(some 6), none, .load false 1 (.tmp 5)⟩,
     ⟨(some 7), none, .fldA 0 (.tmp 3)⟩,
     ⟨(some 8), none, .load false 1 (.tmp 7)⟩,
     ⟨(some 9), none, .bin .eql (.tmp 6) (.tmp 8)⟩,
     ⟨(some 10), none, .mv (.tmp 9)⟩,
     ⟨(some 11), (some (10, true)), .fldA 1 (.tmp 2)⟩,
     ⟨(some 12), (some (10, true)), .load false 1 (.tmp 11)⟩,
     ⟨(some 13), (some (10, true)), .fldA 1 (.tmp 3)⟩,
     ⟨(some 14), (some (10, true)), .load false 1 (.tmp 13)⟩,
     ⟨(some 15), (some (10, true)), .eqb false (.tmp 12) (.tmp 14)⟩,
     ⟨(some 16), none, .pick (.tmp 10) (.tmp 15) (.const (.bool false))⟩,
     ⟨(some 17), none, .mv (.tmp 16)⟩,
     ⟨(some 18), (some (17, true)), .fldA 2 (.tmp 2)⟩,
     ⟨(some 19), (some (17, true)), .load false 1 (.tmp 18)⟩,
     ⟨(some 20), (some (17, true)), .fldA 2 (.tmp 3)⟩,
     ⟨(some 21), (some (17, true)), .load false 1 (.tmp 20)⟩,
     ⟨(some 22), (some (17, true)), .eqb false (.tmp 19) (.tmp 21)⟩,
     ⟨(some 23), none, .pick (.tmp 17) (.tmp 22) (.const (.bool false))⟩,
     ⟨(some 24), none, .mv (.tmp 23)⟩,
     ⟨(some 25), (some (24, true)), .fldA 3 (.tmp 2)⟩,
     ⟨(some 26), (some (24, true)), .load false 1 (.tmp 25)⟩,
     ⟨(some 27), (some (24, true)), .fldA 3 (.tmp 3)⟩,
     ⟨(some 28), (some (24, true)), .load false 1 (.tmp 27)⟩,
     ⟨(some 29), (some (24, true)), .bin .eql (.tmp 26) (.tmp 28)⟩,
     ⟨(some 30), none, .pick (.tmp 24) (.tmp 29) (.const (.bool false))⟩,
     ⟨(some 31), none, .mv (.tmp 30)⟩,
     ⟨(some 32), (some (31, true)), .fldA 4 (.tmp 2)⟩,
     ⟨(some 33), (some (31, true)), .load true 2 (.tmp 32)⟩,
     ⟨(some 34), (some (31, true)), .fldA 4 (.tmp 3)⟩,
     ⟨(some 35), (some (31, true)), .load true 2 (.tmp 34)⟩,
     ⟨(some 36), (some (31, true)), .eqS false [1, 0] (.tmp 33) (.tmp 35)⟩,
     ⟨(some 37), none, .pick (.tmp 31) (.tmp 36) (.const (.bool false))⟩,
     ⟨(some 38), none, .mv (.tmp 37)⟩,
     ⟨(some 39), (some (38, true)), .fldA 6 (.tmp 2)⟩,
     ⟨(some 40), (some (38, true)), .load false 1 (.tmp 39)⟩,
     ⟨(some 41), (some (38, true)), .fldA 6 (.tmp 3)⟩,
     ⟨(some 42), (some (38, true)), .load false 1 (.tmp 41)⟩,
     ⟨(some 43), (some (38, true)), .call (.func 31) [(.tmp 40), (.tmp 42)]⟩,
     ⟨(some 44), none, .pick (.tmp 38) (.tmp 43) (.const (.bool false))⟩,
     ⟨(some 4), none, .mv (.tmp 44)⟩])
  (.ret))
theorem ck_hearsayref_SameMessage : chkFun Tryd.prog 28 2 = some (rc_hearsayref_SameMessage, [4]) := by kernel_rfl
/-- hearsay/dns.Fit -/
def rc_dns_Fit : RCode :=
  .seq (.reg [⟨(some 2), none, .box 40 7 (.tmp 0)⟩,
     ⟨(some 4), none, .mv (.const (.string ⟨#[]⟩))⟩,
     ⟨(some 5), none, .mv (.const (.int .i64 0))⟩])
  (.seq (.seq (.reg [⟨(some 8), none, .mv (.tmp 1)⟩,
      ⟨(some 9), none, .call (.func 54) [(.tmp 8), (.const (.int .i64 12)), (.const (.int .i64 512))]⟩,
      ⟨(some 10), none, .not (.tmp 9)⟩])
   (.cond (.tmp 10)
    (.seq (.reg [⟨(some 4), none, .mv (.const (.string ⟨#[]⟩))⟩,
        ⟨(some 5), none, .mv (.const (.int .i64 3))⟩])
     (.ret))
    (.skip)))
  (.seq (.seq (.reg [⟨(some 11), none, .load true 7 (.tmp 2)⟩,
      ⟨(some 12), none, .call (.func 43) [(.tmp 11)]⟩,
      ⟨(some 6), none, .mv (.tmp 12)⟩])
   (.seq (.reg [⟨(some 13), none, .mv (.tmp 6)⟩,
      ⟨(some 14), none, .bin .neq (.tmp 13) (.const (.int .i64 0))⟩])
   (.cond (.tmp 14)
    (.seq (.reg [⟨(some 15), none, .mv (.tmp 6)⟩,
        ⟨(some 4), none, .mv (.const (.string ⟨#[]⟩))⟩,
        ⟨(some 5), none, .mv (.tmp 15)⟩])
     (.ret))
    (.skip))))
  (.block 0
   (.loop
    (.block 1
     (.seq (.reg [⟨(some 16), none, .load true 7 (.tmp 2)⟩,
        ⟨(some 17), none, .call (.func 44) [(.tmp 16)]⟩,
        ⟨(some 7), none, .mv (.tmp 17)⟩])
     (.seq (.block 2
       (.seq (.reg [⟨(some 19), none, .mv (.tmp 7)⟩,
          ⟨(some 20), none, .len true (.tmp 19)⟩,
          ⟨(some 21), none, .mv (.tmp 1)⟩,
          ⟨(some 22), none, .bin .leq (.tmp 20) (.tmp 21)⟩,
          ⟨(some 18), none, .mv (.tmp 22)⟩])
       (.cond (.tmp 18)
        (.seq (.reg [⟨(some 23), none, .mv (.tmp 7)⟩,
            ⟨(some 4), none, .mv (.tmp 23)⟩,
            ⟨(some 5), none, .mv (.const (.int .i64 0))⟩])
         (.ret))
        (.seq (.reg [⟨(some 25), none, .fldA 6 (.tmp 2)⟩,
            ⟨(some 26), none, .load false 1 (.tmp 25)⟩,
            ⟨(some 27), none, .len false (.tmp 26)⟩,
            ⟨(some 28), none, .bin .eql (.tmp 27) (.const (.int .i64 0))⟩,
            ⟨(some 24), none, .mv (.tmp 28)⟩])
         (.cond (.tmp 24)
          (.seq (.reg [⟨(some 4), none, .mv (.const (.string ⟨#[]⟩))⟩,
              ⟨(some 5), none, .mv (.const (.int .i64 2))⟩])
           (.ret))
          (.skip))))))
     (.reg [⟨(some 29), none, .fldA 6 (.tmp 2)⟩,
       ⟨(some 30), none, .load false 1 (.tmp 29)⟩,
       ⟨(some 31), none, .fldA 6 (.tmp 2)⟩,
       ⟨(some 32), none, .load false 1 (.tmp 31)⟩,
       ⟨(some 33), none, .len false (.tmp 32)⟩,
       ⟨(some 34), none, .bin .sub (.tmp 33) (.const (.int .i64 1))⟩,
       ⟨(some 35), none, .slcL 7 (.tmp 30) none (some (.tmp 34)) none⟩,
       ⟨(some 36), none, .fldA 6 (.tmp 2)⟩,
       ⟨none, none, .store 1 (.tmp 36) (.tmp 35)⟩,
       ⟨(some 37), none, .fldA 2 (.tmp 2)⟩,
       ⟨none, none, .store 1 (.tmp 37) (.const (.bool true))⟩]))))))))
theorem ck_dns_Fit : chkFun Tryd.prog 29 2 = some (rc_dns_Fit, [4, 5]) := by kernel_rfl
/-- hearsay/hearsayref.FitOf -/
def rc_hearsayref_FitOf : RCode :=
  .seq (.reg [⟨(some 2), none, .box 40 7 (.tmp 0)⟩,
     ⟨(some 4), none, .mv (.const (.string ⟨#[]⟩))⟩,
     ⟨(some 5), none, .mv (.const (.int .i64 0))⟩])
  (.seq (.seq (.reg [⟨(some 10), none, .mv (.tmp 1)⟩,
      ⟨(some 11), none, .call (.func 45) [(.tmp 10), (.const (.int .i64 12)), (.const (.int .i64 512))]⟩,
      ⟨(some 12), none, .not (.tmp 11)⟩])
   (.cond (.tmp 12)
    (.seq (.reg [⟨(some 4), none, .mv (.const (.string ⟨#[]⟩))⟩,
        ⟨(some 5), none, .mv (.const (.int .i64 3))⟩])
     (.ret))
    (.skip)))
  (.seq (.reg [⟨(some 13), none, .load true 7 (.tmp 2)⟩,
     ⟨(some 14), none, .call (.func 24) [(.tmp 13)]⟩,
     ⟨(some 6), none, .mv (.tmp 14)⟩])
  (.seq (.seq (.reg [⟨(some 15), none, .mv (.tmp 6)⟩,
      ⟨(some 16), none, .bin .neq (.tmp 15) (.const (.int .i64 0))⟩])
   (.cond (.tmp 16)
    (.seq (.reg [⟨(some 17), none, .mv (.tmp 6)⟩,
        ⟨(some 4), none, .mv (.const (.string ⟨#[]⟩))⟩,
        ⟨(some 5), none, .mv (.tmp 17)⟩])
     (.ret))
    (.skip)))
  (.seq (.seq (.reg [⟨(some 18), none, .fldA 6 (.tmp 2)⟩,
      ⟨(some 19), none, .load false 1 (.tmp 18)⟩,
      ⟨(some 20), none, .len false (.tmp 19)⟩,
      ⟨(some 7), none, .mv (.tmp 20)⟩])
   (.block 0
    (.loop
     (.seq (.seq (.reg [⟨(some 21), none, .mv (.tmp 7)⟩,
         ⟨(some 22), none, .bin .geq (.tmp 21) (.const (.int .i64 0))⟩])
      (.cond (.tmp 22)
       (.skip)
       (.exit 0)))
     (.seq (.block 1
       (.seq (.reg [⟨(some 25), none, .load true 7 (.tmp 2)⟩,
          ⟨(some 8), none, .zbox 40 [(.int .i64 0), (.bool false), (.bool false), (.int .i64 0), (.string ⟨#[]⟩), (.int .i64 0), (.slice none 0 0)]⟩,
          ⟨none, none, .store 7 (.tmp 8) (.tmp 25)⟩])
       (.seq (.reg [⟨(some 26), none, .fldA 6 (.tmp 2)⟩,
          ⟨(some 27), none, .load false 1 (.tmp 26)⟩,
          ⟨(some 28), none, .mv (.tmp 7)⟩,
          ⟨(some 29), none, .slcL 7 (.tmp 27) none (some (.tmp 28)) none⟩,
          ⟨(some 30), none, .fldA 6 (.tmp 8)⟩,
          ⟨none, none, .store 1 (.tmp 30) (.tmp 29)⟩])
       (.seq (.reg [⟨(some 31), none, .fldA 2 (.tmp 2)⟩,
          ⟨(some 32), none, .load false 1 (.tmp 31)⟩,
          ⟨(some 33), none, .mv (.tmp 32)⟩,
          ⟨(some 34), (some (33, false)), .mv (.tmp 7)⟩,
          ⟨(some 35), (some (33, false)), .fldA 6 (.tmp 2)⟩,
          ⟨(some 36), (some (33, false)), .load false 1 (.tmp 35)⟩,
          ⟨(some 37), (some (33, false)), .len false (.tmp 36)⟩,
          ⟨(some 38), (some (33, false)), .bin .lss (.tmp 34) (.tmp 37)⟩,
          ⟨(some 39), none, .pick (.tmp 33) (.const (.bool true)) (.tmp 38)⟩,
          ⟨(some 40), none, .fldA 2 (.tmp 8)⟩,
          ⟨none, none, .store 1 (.tmp 40) (.tmp 39)⟩])
       (.seq (.reg [⟨(some 41), none, .load true 7 (.tmp 8)⟩,
          ⟨(some 42), none, .call (.func 25) [(.tmp 41)]⟩,
          ⟨(some 9), none, .mv (.tmp 42)⟩])
       (.seq (.reg [⟨(some 43), none, .mv (.tmp 9)⟩,
          ⟨(some 44), none, .len true (.tmp 43)⟩,
          ⟨(some 45), none, .mv (.tmp 1)⟩,
          ⟨(some 46), none, .bin .leq (.tmp 44) (.tmp 45)⟩])
       (.cond (.tmp 46)
        (.seq (.reg [⟨(some 47), none, .mv (.tmp 9)⟩,
            ⟨(some 4), none, .mv (.tmp 47)⟩,
            ⟨(some 5), none, .mv (.const (.int .i64 0))⟩])
         (.ret))
        (.skip))))))))
     (.reg [⟨(some 23), none, .mv (.tmp 7)⟩,
       ⟨(some 24), none, .bin .sub (.tmp 23) (.const (.int .i64 1))⟩,
       ⟨(some 7), none, .mv (.tmp 24)⟩]))))))
  (.seq (.reg [⟨(some 4), none, .mv (.const (.string ⟨#[]⟩))⟩,
     ⟨(some 5), none, .mv (.const (.int .i64 2))⟩])
  (.ret))))))
theorem ck_hearsayref_FitOf : chkFun Tryd.prog 30 2 = some (rc_hearsayref_FitOf, [4, 5]) := by kernel_rfl
/-- hearsay/hearsayref.SameRecords -/
def rc_hearsayref_SameRecords : RCode :=
  .seq (.reg [⟨(some 4), none, .mv (.const (.bool false))⟩])
  (.seq (.seq (.reg [⟨(some 6), none, .mv (.tmp 0)⟩,
      ⟨(some 7), none, .len false (.tmp 6)⟩,
      ⟨(some 8), none, .mv (.tmp 1)⟩,
      ⟨(some 9), none, .len false (.tmp 8)⟩,
      ⟨(some 10), none, .bin .neq (.tmp 7) (.tmp 9)⟩])
   (.cond (.tmp 10)
    (.seq (.reg [⟨(some 4), none, .mv (.const (.bool false))⟩])
     (.ret))
    (.skip)))
  (.seq (.seq (.reg [⟨(some 5), none, .mv (.const (.int .i64 0))⟩])
   (.block 0
    (.loop
     (.seq (.seq (.reg [⟨(some 11), none, .mv (.tmp 5)⟩,
         ⟨(some 12), none, .mv (.tmp 0)⟩,
         ⟨(some 13), none, .len false (.tmp 12)⟩,
         ⟨(some 14), none, .bin .lss (.tmp 11) (.tmp 13)⟩])
      (.cond (.tmp 14)
       (.skip)
       (.exit 0)))
     (.seq (.block 1
       (.seq (.dreg [[⟨(some 17), none, .mv (.tmp 0)⟩,
           ⟨(some 18), none, .mv (.tmp 5)⟩,
           ⟨(some 19), none, .idxA 7 (.tmp 17) (.tmp 18)⟩,
           ⟨(some 20), none, .load true 7 (.tmp 19)⟩,
           ⟨(some 21), none, .mv (.tmp 1)⟩,
           ⟨(some 22), none, .mv (.tmp 5)⟩,
           ⟨(some 23), none, .idxA 7 (.tmp 21) (.tmp 22)⟩,
           ⟨(some 24), none, .load true 7 (.tmp 23)⟩],
          [⟨(some 25), none, .eqS true [1, 0, 0, 0, 1, 0, 1] (.tmp 20) (.tmp 24)⟩]])
       (.cond (.tmp 25)
        (.seq (.reg [⟨(some 4), none, .mv (.const (.bool false))⟩])
         (.ret))
        (.skip))))
     (.reg [⟨(some 15), none, .mv (.tmp 5)⟩,
       ⟨(some 16), none, .bin .add (.tmp 15) (.const (.int .i64 1))⟩,
       ⟨(some 5), none, .mv (.tmp 16)⟩]))))))
  (.seq (.reg [⟨(some 4), none, .mv (.const (.bool true))⟩])
  (.ret))))
theorem ck_hearsayref_SameRecords : chkFun Tryd.prog 31 2 = some (rc_hearsayref_SameRecords, [4]) := by kernel_rfl
/-- hearsay/query.printed -/
def rc_query_printed : RCode :=
  .seq (.reg [⟨(some 1), none, .box 23 4 (.tmp 0)⟩,
     ⟨(some 2), none, .mv (.const (.string ⟨#[]⟩))⟩])
  (.seq (.reg [⟨(some 3), none, .mv (.const (.slice none 0 0))⟩])
  (.seq (.seq (.reg [⟨(some 4), none, .fldA 2 (.tmp 1)⟩,
      ⟨(some 5), none, .load false 1 (.tmp 4)⟩,
      ⟨(some 6), none, .bin .neq (.tmp 5) (.const (.string ⟨#[]⟩))⟩])
   (.cond (.tmp 6)
    (.reg [⟨(some 7), none, .fldA 2 (.tmp 1)⟩,
       ⟨(some 8), none, .load false 1 (.tmp 7)⟩,
       ⟨(some 9), none, .mks 9 1 2 [(.string ⟨#[]⟩)] [(0, (.tmp 8)), (1, (.const (.string ⟨#[110, 111, 100, 101]⟩)))]⟩,
       ⟨(some 3), none, .mv (.tmp 9)⟩])
    (.reg [⟨(some 10), none, .fldA 1 (.tmp 1)⟩,
       ⟨(some 11), none, .load false 1 (.tmp 10)⟩,
       ⟨(some 12), none, .fldA 0 (.tmp 1)⟩,
       ⟨(some 13), none, .load false 1 (.tmp 12)⟩,
       ⟨(some 14), none, .mks 9 1 3 [(.string ⟨#[]⟩)] [(0, (.tmp 11)), (1, (.tmp 13)), (2, (.const (.string ⟨#[115, 101, 114, 118, 105, 99, 101]⟩)))]⟩,
       ⟨(some 3), none, .mv (.tmp 14)⟩])))
  (.seq (.reg [⟨(some 15), none, .mv (.tmp 3)⟩,
     ⟨(some 16), none, .fldA 3 (.tmp 1)⟩,
     ⟨(some 17), none, .load false 1 (.tmp 16)⟩,
     ⟨(some 18), none, .mks 9 1 2 [(.string ⟨#[]⟩)] [(0, (.tmp 17)), (1, (.const (.string ⟨#[109, 101, 115, 104]⟩)))]⟩,
     ⟨(some 19), none, .app 9 1 16 (.string ⟨#[]⟩) (.tmp 15) (.tmp 18)⟩,
     ⟨(some 3), none, .mv (.tmp 19)⟩])
  (.seq (.reg [⟨(some 20), none, .mv (.tmp 3)⟩,
     ⟨(some 21), none, .call (.func 56) [(.tmp 20), (.func 57)]⟩,
     ⟨(some 22), none, .call (.func 55) [(.tmp 21), (.const (.string ⟨#[46]⟩))]⟩,
     ⟨(some 2), none, .mv (.tmp 22)⟩])
  (.ret)))))
theorem ck_query_printed : chkFun Tryd.prog 32 1 = some (rc_query_printed, [2]) := by kernel_rfl
/-- slices.ContainsFunc(()string,string) -/
def rc_slices_ContainsFunc_string_string : RCode :=
  .seq (.reg [⟨(some 4), none, .mv (.const (.bool false))⟩])
  (.seq (.reg [⟨(some 5), none, .mv (.tmp 0)⟩,
     ⟨(some 6), none, .mv (.tmp 1)⟩,
     ⟨(some 7), none, .call (.func 58) [(.tmp 5), (.tmp 6)]⟩,
     ⟨(some 8), none, .bin .geq (.tmp 7) (.const (.int .i64 0))⟩,
     ⟨(some 4), none, .mv (.tmp 8)⟩])
  (.ret))
theorem ck_slices_ContainsFunc_string_string : chkFun Tryd.prog 33 2 = some (rc_slices_ContainsFunc_string_string, [4]) := by kernel_rfl
/-- hearsay/query.Check$1 -/
def rc_query_Check_1 : RCode :=
  .seq (.reg [⟨(some 2), none, .mv (.const (.bool false))⟩])
  (.seq (.reg [⟨(some 3), none, .mv (.tmp 0)⟩,
     ⟨(some 4), none, .bin .neq (.tmp 3) (.const (.string ⟨#[]⟩))⟩,
     ⟨(some 5), none, .mv (.tmp 4)⟩,
     ⟨(some 6), (some (5, true)), .mv (.tmp 0)⟩,
     ⟨(some 7), (some (5, true)), .call (.func 35) [(.tmp 6)]⟩,
     ⟨(some 8), (some (5, true)), .not (.tmp 7)⟩,
     ⟨(some 9), none, .pick (.tmp 5) (.tmp 8) (.const (.bool false))⟩,
     ⟨(some 2), none, .mv (.tmp 9)⟩])
  (.ret))
theorem ck_query_Check_1 : chkFun Tryd.prog 34 1 = some (rc_query_Check_1, [2]) := by kernel_rfl
/-- hearsay/dns.IsLabel -/
def rc_dns_IsLabel : RCode :=
  .seq (.reg [⟨(some 2), none, .mv (.const (.bool false))⟩])
  (.seq (.seq (.reg [⟨(some 5), none, .mv (.tmp 0)⟩,
      ⟨(some 6), none, .toB (.tmp 5)⟩,
      ⟨(some 7), none, .len false (.tmp 6)⟩,
      ⟨(some 8), none, .mv (.const (.int .i64 0))⟩])
   (.block 0
    (.loop
     (.seq (.reg [⟨(some 9), none, .bin .lss (.tmp 8) (.tmp 7)⟩])
     (.seq (.cond (.tmp 9)
       (.skip)
       (.exit 0))
     (.seq (.block 1
       (.seq (.reg [⟨(some 10), none, .idxA 1 (.tmp 6) (.tmp 8)⟩,
          ⟨(some 11), none, .load false 1 (.tmp 10)⟩,
          ⟨(some 4), none, .mv (.tmp 11)⟩])
       (.seq (.reg [⟨(some 12), none, .mv (.tmp 4)⟩,
          ⟨(some 13), none, .bin .lss (.tmp 12) (.const (.int .u8 97))⟩,
          ⟨(some 14), none, .mv (.tmp 13)⟩,
          ⟨(some 15), (some (14, false)), .mv (.tmp 4)⟩,
          ⟨(some 16), (some (14, false)), .bin .gtr (.tmp 15) (.const (.int .u8 122))⟩,
          ⟨(some 17), none, .pick (.tmp 14) (.const (.bool true)) (.tmp 16)⟩,
          ⟨(some 18), none, .mv (.tmp 17)⟩,
          ⟨(some 19), (some (18, true)), .mv (.tmp 4)⟩,
          ⟨(some 20), (some (18, true)), .bin .lss (.tmp 19) (.const (.int .u8 48))⟩,
          ⟨(some 21), (some (18, true)), .mv (.tmp 20)⟩,
          ⟨(some 22), (some (21, false)), .mv (.tmp 4)⟩,
          ⟨(some 23), (some (21, false)), .bin .gtr (.tmp 22) (.const (.int .u8 57))⟩,
          ⟨(some 24), (some (18, true)), .pick (.tmp 21) (.const (.bool true)) (.tmp 23)⟩,
          ⟨(some 25), none, .pick (.tmp 18) (.tmp 24) (.const (.bool false))⟩,
          ⟨(some 26), none, .mv (.tmp 25)⟩,
          ⟨(some 27), (some (26, true)), .mv (.tmp 4)⟩,
          ⟨(some 28), (some (26, true)), .bin .neq (.tmp 27) (.const (.int .u8 45))⟩,
          ⟨(some 29), none, .pick (.tmp 26) (.tmp 28) (.const (.bool false))⟩,
          ⟨(some 30), none, .mv (.tmp 29)⟩,
          ⟨(some 31), (some (30, true)), .mv (.tmp 4)⟩,
          ⟨(some 32), (some (30, true)), .bin .neq (.tmp 31) (.const (.int .u8 95))⟩,
          ⟨(some 33), none, .pick (.tmp 30) (.tmp 32) (.const (.bool false))⟩])
       (.cond (.tmp 33)
        (.seq (.reg [⟨(some 2), none, .mv (.const (.bool false))⟩])
         (.ret))
        (.skip)))))
     (.reg [⟨(some 34), none, .bin .add (.tmp 8) (.const (.int .i64 1))⟩,
       ⟨(some 8), none, .mv (.tmp 34)⟩])))))))
  (.seq (.reg [⟨(some 35), none, .mv (.tmp 0)⟩,
     ⟨(some 36), none, .bin .neq (.tmp 35) (.const (.string ⟨#[]⟩))⟩,
     ⟨(some 37), none, .mv (.tmp 36)⟩,
     ⟨(some 38), (some (37, true)), .mv (.tmp 0)⟩,
     ⟨(some 39), (some (37, true)), .len true (.tmp 38)⟩,
     ⟨(some 40), (some (37, true)), .bin .leq (.tmp 39) (.const (.int .i64 30))⟩,
     ⟨(some 41), none, .pick (.tmp 37) (.tmp 40) (.const (.bool false))⟩,
     ⟨(some 2), none, .mv (.tmp 41)⟩])
  (.ret)))
theorem ck_dns_IsLabel : chkFun Tryd.prog 35 1 = some (rc_dns_IsLabel, [2]) := by kernel_rfl
/-- hearsay/query.Check$2 -/
def rc_query_Check_2 : RCode :=
  .seq (.reg [⟨(some 4), none, .mv (.const (.bool false))⟩])
  (.seq (.reg [⟨(some 5), none, .mv (.tmp 1)⟩,
     ⟨(some 6), none, .mv (.tmp 0)⟩,
     ⟨(some 7), none, .call (.func 37) [(.tmp 5), (.tmp 6)]⟩,
     ⟨(some 4), none, .mv (.tmp 7)⟩])
  (.ret))
theorem ck_query_Check_2 : chkFun Tryd.prog 36 2 = some (rc_query_Check_2, [4]) := by kernel_rfl
/-- slices.Contains(()string,string) -/
def rc_slices_Contains_string_string : RCode :=
  .seq (.reg [⟨(some 4), none, .mv (.const (.bool false))⟩])
  (.seq (.reg [⟨(some 5), none, .mv (.tmp 0)⟩,
     ⟨(some 6), none, .mv (.tmp 1)⟩,
     ⟨(some 7), none, .call (.func 59) [(.tmp 5), (.tmp 6)]⟩,
     ⟨(some 8), none, .bin .geq (.tmp 7) (.const (.int .i64 0))⟩,
     ⟨(some 4), none, .mv (.tmp 8)⟩])
  (.ret))
theorem ck_slices_Contains_string_string : chkFun Tryd.prog 37 2 = some (rc_slices_Contains_string_string, [4]) := by kernel_rfl
/-- hearsay/hearsayref.IsLabel -/
def rc_hearsayref_IsLabel : RCode :=
  .seq (.reg [⟨(some 2), none, .mv (.const (.bool false))⟩])
  (.seq (.seq (.reg [⟨(some 3), none, .mv (.const (.int .i64 0))⟩])
   (.block 0
    (.loop
     (.seq (.seq (.reg [⟨(some 5), none, .mv (.tmp 3)⟩,
         ⟨(some 6), none, .mv (.tmp 0)⟩,
         ⟨(some 7), none, .len true (.tmp 6)⟩,
         ⟨(some 8), none, .bin .lss (.tmp 5) (.tmp 7)⟩])
      (.cond (.tmp 8)
       (.skip)
       (.exit 0)))
     (.seq (.block 1
       (.seq (.reg [⟨(some 11), none, .mv (.tmp 0)⟩,
          ⟨(some 12), none, .mv (.tmp 3)⟩,
          ⟨(some 13), none, .idxS (.tmp 11) (.tmp 12)⟩,
          ⟨(some 4), none, .mv (.tmp 13)⟩])
       (.seq (.reg [⟨(some 14), none, .mv (.tmp 4)⟩,
          ⟨(some 15), none, .bin .geq (.tmp 14) (.const (.int .u8 97))⟩,
          ⟨(some 16), none, .mv (.tmp 15)⟩,
          ⟨(some 17), (some (16, true)), .mv (.tmp 4)⟩,
          ⟨(some 18), (some (16, true)), .bin .leq (.tmp 17) (.const (.int .u8 122))⟩,
          ⟨(some 19), none, .pick (.tmp 16) (.tmp 18) (.const (.bool false))⟩,
          ⟨(some 20), none, .mv (.tmp 19)⟩,
          ⟨(some 21), (some (20, false)), .mv (.tmp 4)⟩,
          ⟨(some 22), (some (20, false)), .bin .geq (.tmp 21) (.const (.int .u8 48))⟩,
          ⟨(some 23), (some (20, false)), .mv (.tmp 22)⟩,
          ⟨(some 24), (some (23, true)), .mv (.tmp 4)⟩,
          ⟨(some 25), (some (23, true)), .bin .leq (.tmp 24) (.const (.int .u8 57))⟩,
          ⟨(some 26), (some (20, false)), .pick (.tmp 23) (.tmp 25) (.const (.bool false))⟩,
          ⟨(some 27), none, .pick (.tmp 20) (.const (.bool true)) (.tmp 26)⟩,
          ⟨(some 28), none, .mv (.tmp 27)⟩,
          ⟨(some 29), (some (28, false)), .mv (.tmp 4)⟩,
          ⟨(some 30), (some (28, false)), .bin .eql (.tmp 29) (.const (.int .u8 45))⟩,
          ⟨(some 31), none, .pick (.tmp 28) (.const (.bool true)) (.tmp 30)⟩,
          ⟨(some 32), none, .mv (.tmp 31)⟩,
          ⟨(some 33), (some (32, false)), .mv (.tmp 4)⟩,
          ⟨(some 34), (some (32, false)), .bin .eql (.tmp 33) (.const (.int .u8 95))⟩,
          ⟨(some 35), none, .pick (.tmp 32) (.const (.bool true)) (.tmp 34)⟩,
          ⟨(some 36), none, .not (.tmp 35)⟩])
       (.cond (.tmp 36)
        (.seq (.reg [⟨(some 2), none, .mv (.const (.bool false))⟩])
         (.ret))
        (.skip)))))
     (.reg [⟨(some 9), none, .mv (.tmp 3)⟩,
       ⟨(some 10), none, .bin .add (.tmp 9) (.const (.int .i64 1))⟩,
       ⟨(some 3), none, .mv (.tmp 10)⟩]))))))
  (.seq (.reg [⟨(some 37), none, .mv (.tmp 0)⟩,
     ⟨(some 38), none, .len true (.tmp 37)⟩,
     ⟨(some 39), none, .bin .geq (.tmp 38) (.const (.int .i64 1))⟩,
     ⟨(some 40), none, .mv (.tmp 39)⟩,
     ⟨(some 41), (some (40, true)), .mv (.tmp 0)⟩,
     ⟨(some 42), (some (40, true)), .len true (.tmp 41)⟩,
     ⟨(some 43), (some (40, true)), .bin .leq (.tmp 42) (.const (.int .i64 30))⟩,
     ⟨(some 44), none, .pick (.tmp 40) (.tmp 43) (.const (.bool false))⟩,
     ⟨(some 2), none, .mv (.tmp 44)⟩])
  (.ret)))
theorem ck_hearsayref_IsLabel : chkFun Tryd.prog 38 1 = some (rc_hearsayref_IsLabel, [2]) := by kernel_rfl
/-- strings.Split -/
def rc_strings_Split : RCode :=
  .seq (.reg [⟨(some 4), none, .mv (.const (.slice none 0 0))⟩])
  (.seq (.reg [⟨(some 5), none, .mv (.tmp 0)⟩,
     ⟨(some 6), none, .mv (.tmp 1)⟩,
     ⟨(some 7), none, .call (.func 60) [(.tmp 5), (.tmp 6), (.const (.int .i64 0)), (.const (.int .i64 (-1)))]⟩,
     ⟨(some 4), none, .mv (.tmp 7)⟩])
  (.ret))
theorem ck_strings_Split : chkFun Tryd.prog 39 2 = some (rc_strings_Split, [4]) := by kernel_rfl
/-- hearsay/hearsayref.LabelsOf -/
def rc_hearsayref_LabelsOf : RCode :=
  .seq (.reg [⟨(some 2), none, .mv (.const (.slice none 0 0))⟩])
  (.seq (.seq (.reg [⟨(some 6), none, .mv (.tmp 0)⟩,
      ⟨(some 7), none, .bin .eql (.tmp 6) (.const (.string ⟨#[]⟩))⟩])
   (.cond (.tmp 7)
    (.seq (.reg [⟨(some 2), none, .mv (.const (.slice none 0 0))⟩])
     (.ret))
    (.skip)))
  (.seq (.reg [⟨(some 3), none, .mv (.const (.slice none 0 0))⟩])
  (.seq (.reg [⟨(some 4), none, .mv (.const (.int .i64 0))⟩])
  (.seq (.seq (.reg [⟨(some 5), none, .mv (.const (.int .i64 0))⟩])
   (.block 0
    (.loop
     (.seq (.seq (.reg [⟨(some 8), none, .mv (.tmp 5)⟩,
         ⟨(some 9), none, .mv (.tmp 0)⟩,
         ⟨(some 10), none, .len true (.tmp 9)⟩,
         ⟨(some 11), none, .bin .lss (.tmp 8) (.tmp 10)⟩])
      (.cond (.tmp 11)
       (.skip)
       (.exit 0)))
     (.seq (.block 1
       (.seq (.reg [⟨(some 14), none, .mv (.tmp 0)⟩,
          ⟨(some 15), none, .mv (.tmp 5)⟩,
          ⟨(some 16), none, .idxS (.tmp 14) (.tmp 15)⟩,
          ⟨(some 17), none, .bin .eql (.tmp 16) (.const (.int .u8 46))⟩])
       (.cond (.tmp 17)
        (.seq (.reg [⟨(some 18), none, .mv (.tmp 3)⟩,
            ⟨(some 19), none, .mv (.tmp 0)⟩,
            ⟨(some 20), none, .mv (.tmp 4)⟩,
            ⟨(some 21), none, .mv (.tmp 5)⟩,
            ⟨(some 22), none, .slcS (.tmp 19) (some (.tmp 20)) (some (.tmp 21))⟩,
            ⟨(some 23), none, .mks 9 1 1 [(.string ⟨#[]⟩)] [(0, (.tmp 22))]⟩,
            ⟨(some 24), none, .app 9 1 16 (.string ⟨#[]⟩) (.tmp 18) (.tmp 23)⟩,
            ⟨(some 3), none, .mv (.tmp 24)⟩])
         (.reg [⟨(some 25), none, .mv (.tmp 5)⟩,
           ⟨(some 26), none, .bin .add (.tmp 25) (.const (.int .i64 1))⟩,
           ⟨(some 4), none, .mv (.tmp 26)⟩]))
        (.skip))))
     (.reg [⟨(some 12), none, .mv (.tmp 5)⟩,
       ⟨(some 13), none, .bin .add (.tmp 12) (.const (.int .i64 1))⟩,
       ⟨(some 5), none, .mv (.tmp 13)⟩]))))))
  (.seq (.reg [⟨(some 27), none, .mv (.tmp 3)⟩,
     ⟨(some 28), none, .mv (.tmp 0)⟩,
     ⟨(some 29), none, .mv (.tmp 4)⟩,
     ⟨(some 30), none, .slcS (.tmp 28) (some (.tmp 29)) none⟩,
     ⟨(some 31), none, .mks 9 1 1 [(.string ⟨#[]⟩)] [(0, (.tmp 30))]⟩,
     ⟨(some 32), none, .app 9 1 16 (.string ⟨#[]⟩) (.tmp 27) (.tmp 31)⟩,
     ⟨(some 2), none, .mv (.tmp 32)⟩])
  (.ret))))))
theorem ck_hearsayref_LabelsOf : chkFun Tryd.prog 40 1 = some (rc_hearsayref_LabelsOf, [2]) := by kernel_rfl
/-- hearsay/dns.labels -/
def rc_dns_labels : RCode :=
  .seq (.reg [⟨(some 2), none, .mv (.const (.slice none 0 0))⟩])
  (.seq (.seq (.reg [⟨(some 3), none, .mv (.tmp 0)⟩,
      ⟨(some 4), none, .bin .eql (.tmp 3) (.const (.string ⟨#[]⟩))⟩])
   (.cond (.tmp 4)
    (.seq (.reg [⟨(some 2), none, .mv (.const (.slice none 0 0))⟩])
     (.ret))
    (.skip)))
  (.seq (.reg [⟨(some 5), none, .mv (.tmp 0)⟩,
     ⟨(some 6), none, .call (.func 39) [(.tmp 5), (.const (.string ⟨#[46]⟩))]⟩,
     ⟨(some 2), none, .mv (.tmp 6)⟩])
  (.ret)))
theorem ck_dns_labels : chkFun Tryd.prog 41 1 = some (rc_dns_labels, [2]) := by kernel_rfl
/-- hearsay/dns.Check$1 -/
def rc_dns_Check_1 : RCode :=
  .seq (.reg [⟨(some 2), none, .mv (.const (.bool false))⟩])
  (.seq (.reg [⟨(some 3), none, .mv (.tmp 0)⟩,
     ⟨(some 4), none, .call (.func 35) [(.tmp 3)]⟩,
     ⟨(some 5), none, .not (.tmp 4)⟩,
     ⟨(some 2), none, .mv (.tmp 5)⟩])
  (.ret))
theorem ck_dns_Check_1 : chkFun Tryd.prog 42 1 = some (rc_dns_Check_1, [2]) := by kernel_rfl
/-- hearsay/dns.check -/
def rc_dns_check : RCode :=
  .seq (.reg [⟨(some 1), none, .box 40 7 (.tmp 0)⟩,
     ⟨(some 2), none, .mv (.const (.int .i64 0))⟩])
  (.seq (.block 0
    (.seq (.reg [⟨(some 8), none, .fldA 0 (.tmp 1)⟩,
       ⟨(some 9), none, .load false 1 (.tmp 8)⟩,
       ⟨(some 10), none, .call (.func 54) [(.tmp 9), (.const (.int .i64 0)), (.const (.int .i64 65535))]⟩,
       ⟨(some 11), none, .not (.tmp 10)⟩,
       ⟨(some 12), none, .mv (.tmp 11)⟩,
       ⟨(some 13), (some (12, false)), .fldA 3 (.tmp 1)⟩,
       ⟨(some 14), (some (12, false)), .load false 1 (.tmp 13)⟩,
       ⟨(some 15), (some (12, false)), .call (.func 54) [(.tmp 14), (.const (.int .i64 0)), (.const (.int .i64 15))]⟩,
       ⟨(some 16), (some (12, false)), .not (.tmp 15)⟩,
       ⟨(some 17), none, .pick (.tmp 12) (.const (.bool true)) (.tmp 16)⟩,
       ⟨(some 7), none, .mv (.tmp 17)⟩])
    (.cond (.tmp 7)
     (.seq (.reg [⟨(some 2), none, .mv (.const (.int .i64 3))⟩])
      (.ret))
     (.seq (.reg [⟨(some 19), none, .fldA 6 (.tmp 1)⟩,
         ⟨(some 20), none, .load false 1 (.tmp 19)⟩,
         ⟨(some 21), none, .len false (.tmp 20)⟩,
         ⟨(some 22), none, .bin .gtr (.tmp 21) (.const (.int .i64 20))⟩,
         ⟨(some 18), none, .mv (.tmp 22)⟩])
      (.cond (.tmp 18)
       (.seq (.reg [⟨(some 2), none, .mv (.const (.int .i64 2))⟩])
        (.ret))
       (.skip))))))
  (.seq (.seq (.reg [⟨(some 23), none, .fldA 4 (.tmp 1)⟩,
      ⟨(some 24), none, .fldA 0 (.tmp 23)⟩,
      ⟨(some 25), none, .load false 1 (.tmp 24)⟩,
      ⟨(some 26), none, .call (.func 21) [(.tmp 25)]⟩,
      ⟨(some 3), none, .mv (.tmp 26)⟩])
   (.seq (.reg [⟨(some 27), none, .mv (.tmp 3)⟩,
      ⟨(some 28), none, .bin .neq (.tmp 27) (.const (.int .i64 0))⟩])
   (.cond (.tmp 28)
    (.seq (.reg [⟨(some 29), none, .mv (.tmp 3)⟩,
        ⟨(some 2), none, .mv (.tmp 29)⟩])
     (.ret))
    (.skip))))
  (.seq (.seq (.reg [⟨(some 30), none, .fldA 4 (.tmp 1)⟩,
      ⟨(some 31), none, .fldA 1 (.tmp 30)⟩,
      ⟨(some 32), none, .load false 1 (.tmp 31)⟩,
      ⟨(some 33), none, .call (.func 61) [(.tmp 32)]⟩,
      ⟨(some 34), none, .not (.tmp 33)⟩])
   (.cond (.tmp 34)
    (.seq (.reg [⟨(some 2), none, .mv (.const (.int .i64 7))⟩])
     (.ret))
    (.skip)))
  (.seq (.seq (.reg [⟨(some 35), none, .fldA 6 (.tmp 1)⟩,
      ⟨(some 36), none, .load false 1 (.tmp 35)⟩,
      ⟨(some 37), none, .len false (.tmp 36)⟩,
      ⟨(some 38), none, .mv (.const (.int .i64 0))⟩])
   (.block 1
    (.loop
     (.seq (.reg [⟨(some 39), none, .bin .lss (.tmp 38) (.tmp 37)⟩])
     (.seq (.cond (.tmp 39)
       (.skip)
       (.exit 1))
     (.seq (.block 2
       (.seq (.reg [⟨(some 40), none, .idxA 7 (.tmp 36) (.tmp 38)⟩,
          ⟨(some 41), none, .load true 7 (.tmp 40)⟩,
          ⟨(some 5), none, .zbox 64 [(.string ⟨#[]⟩), (.int .i64 0), (.int .i64 0), (.int .i64 0), (.string ⟨#[]⟩), (.int .i64 0), (.string ⟨#[]⟩)]⟩,
          ⟨none, none, .store 7 (.tmp 5) (.tmp 41)⟩])
       (.seq (.reg [⟨(some 42), none, .load true 7 (.tmp 5)⟩,
          ⟨(some 43), none, .call (.func 62) [(.tmp 42)]⟩,
          ⟨(some 6), none, .mv (.tmp 43)⟩])
       (.seq (.reg [⟨(some 44), none, .mv (.tmp 6)⟩,
          ⟨(some 45), none, .bin .neq (.tmp 44) (.const (.int .i64 0))⟩])
       (.cond (.tmp 45)
        (.seq (.reg [⟨(some 46), none, .mv (.tmp 6)⟩,
            ⟨(some 2), none, .mv (.tmp 46)⟩])
         (.ret))
        (.skip))))))
     (.reg [⟨(some 47), none, .bin .add (.tmp 38) (.const (.int .i64 1))⟩,
       ⟨(some 38), none, .mv (.tmp 47)⟩])))))))
  (.seq (.reg [⟨(some 2), none, .mv (.const (.int .i64 0))⟩])
  (.ret))))))
theorem ck_dns_check : chkFun Tryd.prog 43 1 = some (rc_dns_check, [2]) := by kernel_rfl
/-- hearsay/hearsayref.between -/
def rc_hearsayref_between : RCode :=
  .seq (.reg [⟨(some 6), none, .mv (.const (.bool false))⟩])
  (.seq (.reg [⟨(some 7), none, .mv (.tmp 0)⟩,
     ⟨(some 8), none, .mv (.tmp 1)⟩,
     ⟨(some 9), none, .bin .geq (.tmp 7) (.tmp 8)⟩,
     ⟨(some 10), none, .mv (.tmp 9)⟩,
     ⟨(some 11), (some (10, true)), .mv (.tmp 0)⟩,
     ⟨(some 12), (some (10, true)), .mv (.tmp 2)⟩,
     ⟨(some 13), (some (10, true)), .bin .leq (.tmp 11) (.tmp 12)⟩,
     ⟨(some 14), none, .pick (.tmp 10) (.tmp 13) (.const (.bool false))⟩,
     ⟨(some 6), none, .mv (.tmp 14)⟩])
  (.ret))
theorem ck_hearsayref_between : chkFun Tryd.prog 45 3 = some (rc_hearsayref_between, [6]) := by kernel_rfl
/-- hearsay/hearsayref.IsType -/
def rc_hearsayref_IsType : RCode :=
  .seq (.reg [⟨(some 2), none, .mv (.const (.bool false))⟩])
  (.seq (.reg [⟨(some 3), none, .mv (.tmp 0)⟩,
     ⟨(some 4), none, .bin .eql (.tmp 3) (.const (.int .i64 1))⟩,
     ⟨(some 5), none, .mv (.tmp 4)⟩,
     ⟨(some 6), (some (5, false)), .mv (.tmp 0)⟩,
     ⟨(some 7), (some (5, false)), .bin .eql (.tmp 6) (.const (.int .i64 16))⟩,
     ⟨(some 8), none, .pick (.tmp 5) (.const (.bool true)) (.tmp 7)⟩,
     ⟨(some 9), none, .mv (.tmp 8)⟩,
     ⟨(some 10), (some (9, false)), .mv (.tmp 0)⟩,
     ⟨(some 11), (some (9, false)), .bin .eql (.tmp 10) (.const (.int .i64 33))⟩,
     ⟨(some 12), none, .pick (.tmp 9) (.const (.bool true)) (.tmp 11)⟩,
     ⟨(some 2), none, .mv (.tmp 12)⟩])
  (.ret))
theorem ck_hearsayref_IsType : chkFun Tryd.prog 46 1 = some (rc_hearsayref_IsType, [2]) := by kernel_rfl
/-- hearsay/hearsayref.CheckRecord -/
def rc_hearsayref_CheckRecord : RCode :=
  .seq (.reg [⟨(some 1), none, .box 64 7 (.tmp 0)⟩,
     ⟨(some 2), none, .mv (.const (.int .i64 0))⟩])
  (.seq (.reg [⟨(some 4), none, .fldA 0 (.tmp 1)⟩,
     ⟨(some 5), none, .load false 1 (.tmp 4)⟩,
     ⟨(some 6), none, .call (.func 22) [(.tmp 5)]⟩,
     ⟨(some 3), none, .mv (.tmp 6)⟩])
  (.seq (.block 0
    (.seq (.reg [⟨(some 8), none, .mv (.tmp 3)⟩,
       ⟨(some 9), none, .bin .neq (.tmp 8) (.const (.int .i64 0))⟩,
       ⟨(some 7), none, .mv (.tmp 9)⟩])
    (.cond (.tmp 7)
     (.seq (.reg [⟨(some 10), none, .mv (.tmp 3)⟩,
         ⟨(some 2), none, .mv (.tmp 10)⟩])
      (.ret))
     (.seq (.reg [⟨(some 12), none, .fldA 1 (.tmp 1)⟩,
         ⟨(some 13), none, .load false 1 (.tmp 12)⟩,
         ⟨(some 14), none, .call (.func 46) [(.tmp 13)]⟩,
         ⟨(some 15), none, .not (.tmp 14)⟩,
         ⟨(some 11), none, .mv (.tmp 15)⟩])
      (.cond (.tmp 11)
       (.seq (.reg [⟨(some 2), none, .mv (.const (.int .i64 7))⟩])
        (.ret))
       (.seq (.reg [⟨(some 17), none, .fldA 2 (.tmp 1)⟩,
           ⟨(some 18), none, .load false 1 (.tmp 17)⟩,
           ⟨(some 19), none, .call (.func 45) [(.tmp 18), (.const (.int .i64 0)), (.const (.int .i64 2147483647))]⟩,
           ⟨(some 20), none, .not (.tmp 19)⟩,
           ⟨(some 16), none, .mv (.tmp 20)⟩])
        (.cond (.tmp 16)
         (.seq (.reg [⟨(some 2), none, .mv (.const (.int .i64 3))⟩])
          (.ret))
         (.seq (.seq (.reg [⟨(some 22), none, .fldA 1 (.tmp 1)⟩,
              ⟨(some 23), none, .load false 1 (.tmp 22)⟩,
              ⟨(some 24), none, .bin .neq (.tmp 23) (.const (.int .i64 1))⟩,
              ⟨(some 25), none, .mv (.tmp 24)⟩,
              ⟨(some 26), (some (25, true)), .fldA 3 (.tmp 1)⟩,
              ⟨(some 27), (some (25, true)), .load false 1 (.tmp 26)⟩,
              ⟨(some 28), (some (25, true)), .bin .neq (.tmp 27) (.const (.int .i64 0))⟩,
              ⟨(some 29), none, .pick (.tmp 25) (.tmp 28) (.const (.bool false))⟩,
              ⟨(some 21), none, .mv (.tmp 29)⟩])
           (.cond (.tmp 21)
            (.skip)
            (.seq (.reg [⟨(some 30), none, .fldA 1 (.tmp 1)⟩,
                ⟨(some 31), none, .load false 1 (.tmp 30)⟩,
                ⟨(some 32), none, .bin .neq (.tmp 31) (.const (.int .i64 16))⟩,
                ⟨(some 33), none, .mv (.tmp 32)⟩,
                ⟨(some 34), (some (33, true)), .fldA 4 (.tmp 1)⟩,
                ⟨(some 35), (some (33, true)), .load false 1 (.tmp 34)⟩,
                ⟨(some 36), (some (33, true)), .bin .neq (.tmp 35) (.const (.string ⟨#[]⟩))⟩,
                ⟨(some 37), none, .pick (.tmp 33) (.tmp 36) (.const (.bool false))⟩,
                ⟨(some 21), none, .mv (.tmp 37)⟩])
             (.cond (.tmp 21)
              (.skip)
              (.reg [⟨(some 38), none, .fldA 1 (.tmp 1)⟩,
                 ⟨(some 39), none, .load false 1 (.tmp 38)⟩,
                 ⟨(some 40), none, .bin .neq (.tmp 39) (.const (.int .i64 33))⟩,
                 ⟨(some 41), none, .mv (.tmp 40)⟩,
                 ⟨(some 42), (some (41, true)), .fldA 5 (.tmp 1)⟩,
                 ⟨(some 43), (some (41, true)), .load false 1 (.tmp 42)⟩,
                 ⟨(some 44), (some (41, true)), .bin .neq (.tmp 43) (.const (.int .i64 0))⟩,
                 ⟨(some 45), (some (41, true)), .mv (.tmp 44)⟩,
                 ⟨(some 46), (some (45, false)), .fldA 6 (.tmp 1)⟩,
                 ⟨(some 47), (some (45, false)), .load false 1 (.tmp 46)⟩,
                 ⟨(some 48), (some (45, false)), .bin .neq (.tmp 47) (.const (.string ⟨#[]⟩))⟩,
                 ⟨(some 49), (some (41, true)), .pick (.tmp 45) (.const (.bool true)) (.tmp 48)⟩,
                 ⟨(some 50), none, .pick (.tmp 41) (.tmp 49) (.const (.bool false))⟩,
                 ⟨(some 21), none, .mv (.tmp 50)⟩])))))
          (.cond (.tmp 21)
           (.seq (.reg [⟨(some 2), none, .mv (.const (.int .i64 1))⟩])
            (.ret))
           (.seq (.seq (.reg [⟨(some 52), none, .fldA 3 (.tmp 1)⟩,
                ⟨(some 53), none, .load false 1 (.tmp 52)⟩,
                ⟨(some 54), none, .call (.func 67) [(.tmp 53)]⟩,
                ⟨(some 55), none, .not (.tmp 54)⟩,
                ⟨(some 51), none, .mv (.tmp 55)⟩])
             (.cond (.tmp 51)
              (.skip)
              (.reg [⟨(some 56), none, .fldA 5 (.tmp 1)⟩,
                 ⟨(some 57), none, .load false 1 (.tmp 56)⟩,
                 ⟨(some 58), none, .call (.func 45) [(.tmp 57), (.const (.int .i64 0)), (.const (.int .i64 65535))]⟩,
                 ⟨(some 59), none, .not (.tmp 58)⟩,
                 ⟨(some 51), none, .mv (.tmp 59)⟩])))
            (.cond (.tmp 51)
             (.seq (.reg [⟨(some 2), none, .mv (.const (.int .i64 3))⟩])
              (.ret))
             (.seq (.reg [⟨(some 61), none, .fldA 4 (.tmp 1)⟩,
                 ⟨(some 62), none, .load false 1 (.tmp 61)⟩,
                 ⟨(some 63), none, .len true (.tmp 62)⟩,
                 ⟨(some 64), none, .bin .gtr (.tmp 63) (.const (.int .i64 200))⟩,
                 ⟨(some 60), none, .mv (.tmp 64)⟩])
              (.cond (.tmp 60)
               (.seq (.reg [⟨(some 2), none, .mv (.const (.int .i64 2))⟩])
                (.ret))
               (.skip))))))))))))))
  (.seq (.reg [⟨(some 65), none, .fldA 6 (.tmp 1)⟩,
     ⟨(some 66), none, .load false 1 (.tmp 65)⟩,
     ⟨(some 67), none, .call (.func 22) [(.tmp 66)]⟩,
     ⟨(some 2), none, .mv (.tmp 67)⟩])
  (.ret))))
theorem ck_hearsayref_CheckRecord : chkFun Tryd.prog 47 1 = some (rc_hearsayref_CheckRecord, [2]) := by kernel_rfl
/-- hearsay/hearsayref.Number -/
def rc_hearsayref_Number : RCode :=
  .seq (.reg [⟨(some 4), none, .mv (.const (.string ⟨#[]⟩))⟩])
  (.seq (.reg [⟨(some 5), none, .mv (.const (.string ⟨#[]⟩))⟩])
  (.seq (.seq (.reg [⟨(some 6), none, .mv (.const (.int .i64 0))⟩])
   (.block 0
    (.loop
     (.seq (.seq (.reg [⟨(some 7), none, .mv (.tmp 6)⟩,
         ⟨(some 8), none, .mv (.tmp 1)⟩,
         ⟨(some 9), none, .bin .lss (.tmp 7) (.tmp 8)⟩])
      (.cond (.tmp 9)
       (.skip)
       (.exit 0)))
     (.seq (.block 1
       (.seq (.reg [⟨(some 12), none, .mv (.tmp 0)⟩,
          ⟨(some 13), none, .bin .rem (.tmp 12) (.const (.int .i64 256))⟩,
          ⟨(some 14), none, .conv .u8 (.tmp 13)⟩,
          ⟨(some 15), none, .mks 5 1 1 [(.int .u8 0)] [(0, (.tmp 14))]⟩,
          ⟨(some 16), none, .ofB (.tmp 15)⟩,
          ⟨(some 17), none, .mv (.tmp 5)⟩,
          ⟨(some 18), none, .bin .add (.tmp 16) (.tmp 17)⟩,
          ⟨(some 5), none, .mv (.tmp 18)⟩])
       (.reg [⟨(some 19), none, .mv (.tmp 0)⟩,
         ⟨(some 20), none, .bin .quo (.tmp 19) (.const (.int .i64 256))⟩,
         ⟨(some 0), none, .mv (.tmp 20)⟩])))
     (.reg [⟨(some 10), none, .mv (.tmp 6)⟩,
       ⟨(some 11), none, .bin .add (.tmp 10) (.const (.int .i64 1))⟩,
       ⟨(some 6), none, .mv (.tmp 11)⟩]))))))
  (.seq (.reg [⟨(some 21), none, .mv (.tmp 5)⟩,
     ⟨(some 4), none, .mv (.tmp 21)⟩])
  (.ret))))
theorem ck_hearsayref_Number : chkFun Tryd.prog 48 2 = some (rc_hearsayref_Number, [4]) := by kernel_rfl
/-- hearsay/hearsayref.NameBytes -/
def rc_hearsayref_NameBytes : RCode :=
  .seq (.reg [⟨(some 2), none, .mv (.const (.string ⟨#[]⟩))⟩])
  (.seq (.reg [⟨(some 3), none, .mv (.const (.string ⟨#[]⟩))⟩])
  (.seq (.reg [⟨(some 6), none, .mv (.tmp 0)⟩,
     ⟨(some 7), none, .call (.func 40) [(.tmp 6)]⟩,
     ⟨(some 4), none, .mv (.tmp 7)⟩])
  (.seq (.seq (.reg [⟨(some 5), none, .mv (.const (.int .i64 0))⟩])
   (.block 0
    (.loop
     (.seq (.seq (.reg [⟨(some 8), none, .mv (.tmp 5)⟩,
         ⟨(some 9), none, .mv (.tmp 4)⟩,
         ⟨(some 10), none, .len false (.tmp 9)⟩,
         ⟨(some 11), none, .bin .lss (.tmp 8) (.tmp 10)⟩])
      (.cond (.tmp 11)
       (.skip)
       (.exit 0)))
     (.seq (.block 1
       (.dreg [[⟨(some 14), none, .mv (.tmp 3)⟩,
          ⟨(some 15), none, .mv (.tmp 4)⟩,
          ⟨(some 16), none, .mv (.tmp 5)⟩,
          ⟨(some 17), none, .idxA 1 (.tmp 15) (.tmp 16)⟩,
          ⟨(some 18), none, .load false 1 (.tmp 17)⟩,
          ⟨(some 19), none, .len true (.tmp 18)⟩,
          ⟨(some 20), none, .call (.func 48) [(.tmp 19), (.const (.int .i64 1))]⟩,
          ⟨(some 21), none, .mv (.tmp 4)⟩,
          ⟨(some 22), none, .mv (.tmp 5)⟩,
          ⟨(some 23), none, .idxA 1 (.tmp 21) (.tmp 22)⟩,
          ⟨(some 24), none, .load false 1 (.tmp 23)⟩,
          ⟨(some 25), none, .bin .add (.tmp 20) (.tmp 24)⟩],
         [⟨(some 26), none, .bin .add (.tmp 14) (.tmp 25)⟩],
         [⟨(some 3), none, .mv (.tmp 26)⟩]]))
     (.reg [⟨(some 12), none, .mv (.tmp 5)⟩,
       ⟨(some 13), none, .bin .add (.tmp 12) (.const (.int .i64 1))⟩,
       ⟨(some 5), none, .mv (.tmp 13)⟩]))))))
  (.seq (.reg [⟨(some 27), none, .mv (.tmp 3)⟩,
     ⟨(some 28), none, .call (.func 48) [(.const (.int .i64 0)), (.const (.int .i64 1))]⟩,
     ⟨(some 29), none, .bin .add (.tmp 27) (.tmp 28)⟩,
     ⟨(some 2), none, .mv (.tmp 29)⟩])
  (.ret)))))
theorem ck_hearsayref_NameBytes : chkFun Tryd.prog 49 1 = some (rc_hearsayref_NameBytes, [2]) := by kernel_rfl
/-- hearsay/dns.within -/
def rc_dns_within : RCode :=
  .seq (.reg [⟨(some 6), none, .mv (.const (.bool false))⟩])
  (.seq (.reg [⟨(some 7), none, .mv (.tmp 0)⟩,
     ⟨(some 8), none, .mv (.tmp 1)⟩,
     ⟨(some 9), none, .bin .geq (.tmp 7) (.tmp 8)⟩,
     ⟨(some 10), none, .mv (.tmp 9)⟩,
     ⟨(some 11), (some (10, true)), .mv (.tmp 0)⟩,
     ⟨(some 12), (some (10, true)), .mv (.tmp 2)⟩,
     ⟨(some 13), (some (10, true)), .bin .leq (.tmp 11) (.tmp 12)⟩,
     ⟨(some 14), none, .pick (.tmp 10) (.tmp 13) (.const (.bool false))⟩,
     ⟨(some 6), none, .mv (.tmp 14)⟩])
  (.ret))
theorem ck_dns_within : chkFun Tryd.prog 54 3 = some (rc_dns_within, [6]) := by kernel_rfl
/-- strings.Join -/
def rc_strings_Join : RCode :=
  .seq (.reg [⟨(some 4), none, .mv (.const (.string ⟨#[]⟩))⟩])
  (.seq (.seq (.reg [⟨(some 11), none, .mv (.tmp 0)⟩,
      ⟨(some 12), none, .len false (.tmp 11)⟩])
   (.block 0
    (.seq (.reg [⟨(some 14), none, .bin .eql (.tmp 12) (.const (.int .i64 0))⟩,
       ⟨(some 13), none, .mv (.tmp 14)⟩])
    (.cond (.tmp 13)
     (.seq (.reg [⟨(some 4), none, .mv (.const (.string ⟨#[]⟩))⟩])
      (.ret))
     (.seq (.reg [⟨(some 16), none, .bin .eql (.tmp 12) (.const (.int .i64 1))⟩,
         ⟨(some 15), none, .mv (.tmp 16)⟩])
      (.cond (.tmp 15)
       (.seq (.reg [⟨(some 17), none, .mv (.tmp 0)⟩,
           ⟨(some 18), none, .idxA 1 (.tmp 17) (.const (.int .i64 0))⟩,
           ⟨(some 19), none, .load false 1 (.tmp 18)⟩,
           ⟨(some 4), none, .mv (.tmp 19)⟩])
        (.ret))
       (.skip)))))))
  (.seq (.reg [⟨(some 5), none, .mv (.const (.int .i64 0))⟩])
  (.seq (.seq (.reg [⟨(some 20), none, .mv (.tmp 1)⟩,
      ⟨(some 21), none, .len true (.tmp 20)⟩,
      ⟨(some 22), none, .bin .gtr (.tmp 21) (.const (.int .i64 0))⟩])
   (.cond (.tmp 22)
    (.seq (.seq (.reg [⟨(some 23), none, .mv (.tmp 1)⟩,
         ⟨(some 24), none, .len true (.tmp 23)⟩,
         ⟨(some 25), none, .mv (.tmp 0)⟩,
         ⟨(some 26), none, .len false (.tmp 25)⟩,
         ⟨(some 27), none, .bin .sub (.tmp 26) (.const (.int .i64 1))⟩,
         ⟨(some 28), none, .bin .quo (.const (.int .i64 9223372036854775807)) (.tmp 27)⟩,
         ⟨(some 29), none, .bin .geq (.tmp 24) (.tmp 28)⟩])
      (.cond (.tmp 29)
       (.reg [⟨(some 30), none, .mki 9 (.const (.string ⟨#[115, 116, 114, 105, 110, 103, 115, 58, 32, 74, 111, 105, 110, 32, 111, 117, 116, 112, 117, 116, 32, 108, 101, 110, 103, 116, 104, 32, 111, 118, 101, 114, 102, 108, 111, 119]⟩))⟩,
          ⟨none, none, .die (.tmp 30)⟩])
       (.skip)))
     (.reg [⟨(some 31), none, .mv (.tmp 5)⟩,
       ⟨(some 32), none, .mv (.tmp 1)⟩,
       ⟨(some 33), none, .len true (.tmp 32)⟩,
       ⟨(some 34), none, .mv (.tmp 0)⟩,
       ⟨(some 35), none, .len false (.tmp 34)⟩,
       ⟨(some 36), none, .bin .sub (.tmp 35) (.const (.int .i64 1))⟩,
       ⟨(some 37), none, .bin .mul (.tmp 33) (.tmp 36)⟩,
       ⟨(some 38), none, .bin .add (.tmp 31) (.tmp 37)⟩,
       ⟨(some 5), none, .mv (.tmp 38)⟩]))
    (.skip)))
  (.seq (.seq (.reg [⟨(some 39), none, .mv (.tmp 0)⟩,
      ⟨(some 40), none, .len false (.tmp 39)⟩,
      ⟨(some 41), none, .mv (.const (.int .i64 0))⟩])
   (.block 1
    (.loop
     (.seq (.reg [⟨(some 42), none, .bin .lss (.tmp 41) (.tmp 40)⟩])
     (.seq (.cond (.tmp 42)
       (.skip)
       (.exit 1))
     (.seq (.block 2
       (.seq (.reg [⟨(some 43), none, .idxA 1 (.tmp 39) (.tmp 41)⟩,
          ⟨(some 44), none, .load false 1 (.tmp 43)⟩,
          ⟨(some 7), none, .mv (.tmp 44)⟩])
       (.seq (.seq (.reg [⟨(some 45), none, .mv (.tmp 7)⟩,
           ⟨(some 46), none, .len true (.tmp 45)⟩,
           ⟨(some 47), none, .mv (.tmp 5)⟩,
           ⟨(some 48), none, .bin .sub (.const (.int .i64 9223372036854775807)) (.tmp 47)⟩,
           ⟨(some 49), none, .bin .gtr (.tmp 46) (.tmp 48)⟩])
        (.cond (.tmp 49)
         (.reg [⟨(some 50), none, .mki 9 (.const (.string ⟨#[115, 116, 114, 105, 110, 103, 115, 58, 32, 74, 111, 105, 110, 32, 111, 117, 116, 112, 117, 116, 32, 108, 101, 110, 103, 116, 104, 32, 111, 118, 101, 114, 102, 108, 111, 119]⟩))⟩,
            ⟨none, none, .die (.tmp 50)⟩])
         (.skip)))
       (.reg [⟨(some 51), none, .mv (.tmp 5)⟩,
         ⟨(some 52), none, .mv (.tmp 7)⟩,
         ⟨(some 53), none, .len true (.tmp 52)⟩,
         ⟨(some 54), none, .bin .add (.tmp 51) (.tmp 53)⟩,
         ⟨(some 5), none, .mv (.tmp 54)⟩]))))
     (.reg [⟨(some 55), none, .bin .add (.tmp 41) (.const (.int .i64 1))⟩,
       ⟨(some 41), none, .mv (.tmp 55)⟩])))))))
  (.seq (.reg [⟨(some 8), none, .zbox 88 [(.pointer none), (.slice none 0 0)]⟩])
  (.seq (.reg [⟨(some 56), none, .mv (.tmp 5)⟩,
     ⟨(some 57), none, .call (.func 74) [(.tmp 8), (.tmp 56)]⟩])
  (.seq (.reg [⟨(some 58), none, .mv (.tmp 0)⟩,
     ⟨(some 59), none, .idxA 1 (.tmp 58) (.const (.int .i64 0))⟩,
     ⟨(some 60), none, .load false 1 (.tmp 59)⟩,
     ⟨(some 61), none, .call (.func 75) [(.tmp 8), (.tmp 60)]⟩])
  (.seq (.seq (.reg [⟨(some 62), none, .mv (.tmp 0)⟩,
      ⟨(some 63), none, .slcL 1 (.tmp 62) (some (.const (.int .i64 1))) none none⟩,
      ⟨(some 64), none, .len false (.tmp 63)⟩,
      ⟨(some 65), none, .mv (.const (.int .i64 0))⟩])
   (.block 3
    (.loop
     (.seq (.reg [⟨(some 66), none, .bin .lss (.tmp 65) (.tmp 64)⟩])
     (.seq (.cond (.tmp 66)
       (.skip)
       (.exit 3))
     (.seq (.block 4
       (.seq (.reg [⟨(some 67), none, .idxA 1 (.tmp 63) (.tmp 65)⟩,
          ⟨(some 68), none, .load false 1 (.tmp 67)⟩,
          ⟨(some 10), none, .mv (.tmp 68)⟩])
       (.seq (.reg [⟨(some 69), none, .mv (.tmp 1)⟩,
          ⟨(some 70), none, .call (.func 75) [(.tmp 8), (.tmp 69)]⟩])
       (.reg [⟨(some 71), none, .mv (.tmp 10)⟩,
         ⟨(some 72), none, .call (.func 75) [(.tmp 8), (.tmp 71)]⟩]))))
     (.reg [⟨(some 73), none, .bin .add (.tmp 65) (.const (.int .i64 1))⟩,
       ⟨(some 65), none, .mv (.tmp 73)⟩])))))))
  (.seq (.reg [⟨(some 74), none, .call (.func 66) [(.tmp 8)]⟩,
     ⟨(some 4), none, .mv (.tmp 74)⟩])
  (.ret))))))))))
theorem ck_strings_Join : chkFun Tryd.prog 55 2 = some (rc_strings_Join, [4]) := by kernel_rfl
/-- slices.DeleteFunc(()string,string) -/
def rc_slices_DeleteFunc_string_string : RCode :=
  .seq (.reg [⟨(some 4), none, .mv (.const (.slice none 0 0))⟩])
  (.seq (.reg [⟨(some 8), none, .mv (.tmp 0)⟩,
     ⟨(some 9), none, .mv (.tmp 1)⟩,
     ⟨(some 10), none, .call (.func 58) [(.tmp 8), (.tmp 9)]⟩,
     ⟨(some 5), none, .mv (.tmp 10)⟩])
  (.seq (.seq (.reg [⟨(some 11), none, .mv (.tmp 5)⟩,
      ⟨(some 12), none, .bin .eql (.tmp 11) (.const (.int .i64 (-1)))⟩])
   (.cond (.tmp 12)
    (.seq (.reg [⟨(some 13), none, .mv (.tmp 0)⟩,
        ⟨(some 4), none, .mv (.tmp 13)⟩])
     (.ret))
    (.skip)))
  (.seq (.seq (.reg [⟨(some 14), none, .mv (.tmp 5)⟩,
      ⟨(some 15), none, .bin .add (.tmp 14) (.const (.int .i64 1))⟩,
      ⟨(some 6), none, .mv (.tmp 15)⟩])
   (.block 0
    (.loop
     (.seq (.seq (.reg [⟨(some 16), none, .mv (.tmp 6)⟩,
         ⟨(some 17), none, .mv (.tmp 0)⟩,
         ⟨(some 18), none, .len false (.tmp 17)⟩,
         ⟨(some 19), none, .bin .lss (.tmp 16) (.tmp 18)⟩])
      (.cond (.tmp 19)
       (.skip)
       (.exit 0)))
     (.seq (.block 1
       (.seq (.reg [⟨(some 22), none, .mv (.tmp 0)⟩,
          ⟨(some 23), none, .mv (.tmp 6)⟩,
          ⟨(some 24), none, .idxA 1 (.tmp 22) (.tmp 23)⟩,
          ⟨(some 25), none, .load false 1 (.tmp 24)⟩,
          ⟨(some 7), none, .mv (.tmp 25)⟩])
       (.seq (.reg [⟨(some 26), none, .mv (.tmp 1)⟩,
          ⟨(some 27), none, .mv (.tmp 7)⟩,
          ⟨(some 28), none, .call (.tmp 26) [(.tmp 27)]⟩,
          ⟨(some 29), none, .not (.tmp 28)⟩])
       (.cond (.tmp 29)
        (.seq (.reg [⟨(some 30), none, .mv (.tmp 0)⟩,
            ⟨(some 31), none, .mv (.tmp 5)⟩,
            ⟨(some 32), none, .mv (.tmp 7)⟩,
            ⟨(some 33), none, .idxA 1 (.tmp 30) (.tmp 31)⟩,
            ⟨none, none, .store 1 (.tmp 33) (.tmp 32)⟩])
         (.reg [⟨(some 34), none, .mv (.tmp 5)⟩,
           ⟨(some 35), none, .bin .add (.tmp 34) (.const (.int .i64 1))⟩,
           ⟨(some 5), none, .mv (.tmp 35)⟩]))
        (.skip)))))
     (.reg [⟨(some 20), none, .mv (.tmp 6)⟩,
       ⟨(some 21), none, .bin .add (.tmp 20) (.const (.int .i64 1))⟩,
       ⟨(some 6), none, .mv (.tmp 21)⟩]))))))
  (.seq (.reg [⟨(some 36), none, .mv (.tmp 0)⟩,
     ⟨(some 37), none, .mv (.tmp 5)⟩,
     ⟨(some 38), none, .slcL 1 (.tmp 36) (some (.tmp 37)) none none⟩,
     ⟨none, none, .clr 1 [(.string ⟨#[]⟩)] (.tmp 38)⟩])
  (.seq (.reg [⟨(some 39), none, .mv (.tmp 0)⟩,
     ⟨(some 40), none, .mv (.tmp 5)⟩,
     ⟨(some 41), none, .slcL 1 (.tmp 39) none (some (.tmp 40)) none⟩,
     ⟨(some 4), none, .mv (.tmp 41)⟩])
  (.ret))))))
theorem ck_slices_DeleteFunc_string_string : chkFun Tryd.prog 56 2 = some (rc_slices_DeleteFunc_string_string, [4]) := by kernel_rfl
/-- hearsay/query.printed$1 -/
def rc_query_printed_1 : RCode :=
  .seq (.reg [⟨(some 2), none, .mv (.const (.bool false))⟩])
  (.seq (.reg [⟨(some 3), none, .mv (.tmp 0)⟩,
     ⟨(some 4), none, .bin .eql (.tmp 3) (.const (.string ⟨#[]⟩))⟩,
     ⟨(some 2), none, .mv (.tmp 4)⟩])
  (.ret))
theorem ck_query_printed_1 : chkFun Tryd.prog 57 1 = some (rc_query_printed_1, [2]) := by kernel_rfl
/-- slices.IndexFunc(()string,string) -/
def rc_slices_IndexFunc_string_string : RCode :=
  .seq (.reg [⟨(some 4), none, .mv (.const (.int .i64 0))⟩])
  (.seq (.seq (.reg [⟨(some 6), none, .mv (.tmp 0)⟩,
      ⟨(some 7), none, .len false (.tmp 6)⟩,
      ⟨(some 8), none, .mv (.const (.int .i64 0))⟩])
   (.block 0
    (.loop
     (.seq (.reg [⟨(some 9), none, .bin .lss (.tmp 8) (.tmp 7)⟩])
     (.seq (.cond (.tmp 9)
       (.skip)
       (.exit 0))
     (.seq (.block 1
       (.seq (.reg [⟨(some 10), none, .mv (.tmp 8)⟩,
          ⟨(some 5), none, .mv (.tmp 10)⟩])
       (.seq (.reg [⟨(some 11), none, .mv (.tmp 1)⟩,
          ⟨(some 12), none, .mv (.tmp 0)⟩,
          ⟨(some 13), none, .mv (.tmp 5)⟩,
          ⟨(some 14), none, .idxA 1 (.tmp 12) (.tmp 13)⟩,
          ⟨(some 15), none, .load false 1 (.tmp 14)⟩,
          ⟨(some 16), none, .call (.tmp 11) [(.tmp 15)]⟩])
       (.cond (.tmp 16)
        (.seq (.reg [⟨(some 17), none, .mv (.tmp 5)⟩,
            ⟨(some 4), none, .mv (.tmp 17)⟩])
         (.ret))
        (.skip)))))
     (.reg [⟨(some 18), none, .bin .add (.tmp 8) (.const (.int .i64 1))⟩,
       ⟨(some 8), none, .mv (.tmp 18)⟩])))))))
  (.seq (.reg [⟨(some 4), none, .mv (.const (.int .i64 (-1)))⟩])
  (.ret)))
theorem ck_slices_IndexFunc_string_string : chkFun Tryd.prog 58 2 = some (rc_slices_IndexFunc_string_string, [4]) := by kernel_rfl
/-- slices.Index(()string,string) -/
def rc_slices_Index_string_string : RCode :=
  .seq (.reg [⟨(some 4), none, .mv (.const (.int .i64 0))⟩])
  (.seq (.seq (.reg [⟨(some 6), none, .mv (.tmp 0)⟩,
      ⟨(some 7), none, .len false (.tmp 6)⟩,
      ⟨(some 8), none, .mv (.const (.int .i64 0))⟩])
   (.block 0
    (.loop
     (.seq (.reg [⟨(some 9), none, .bin .lss (.tmp 8) (.tmp 7)⟩])
     (.seq (.cond (.tmp 9)
       (.skip)
       (.exit 0))
     (.seq (.block 1
       (.seq (.reg [⟨(some 10), none, .mv (.tmp 8)⟩,
          ⟨(some 5), none, .mv (.tmp 10)⟩])
       (.seq (.reg [⟨(some 11), none, .mv (.tmp 1)⟩,
          ⟨(some 12), none, .mv (.tmp 0)⟩,
          ⟨(some 13), none, .mv (.tmp 5)⟩,
          ⟨(some 14), none, .idxA 1 (.tmp 12) (.tmp 13)⟩,
          ⟨(some 15), none, .load false 1 (.tmp 14)⟩,
          ⟨(some 16), none, .bin .eql (.tmp 11) (.tmp 15)⟩])
       (.cond (.tmp 16)
        (.seq (.reg [⟨(some 17), none, .mv (.tmp 5)⟩,
            ⟨(some 4), none, .mv (.tmp 17)⟩])
         (.ret))
        (.skip)))))
     (.reg [⟨(some 18), none, .bin .add (.tmp 8) (.const (.int .i64 1))⟩,
       ⟨(some 8), none, .mv (.tmp 18)⟩])))))))
  (.seq (.reg [⟨(some 4), none, .mv (.const (.int .i64 (-1)))⟩])
  (.ret)))
theorem ck_slices_Index_string_string : chkFun Tryd.prog 59 2 = some (rc_slices_Index_string_string, [4]) := by kernel_rfl
/-- strings.genSplit -/
def rc_strings_genSplit : RCode :=
  .seq (.reg [⟨(some 8), none, .mv (.const (.slice none 0 0))⟩])
  (.seq (.seq (.reg [⟨(some 12), none, .mv (.tmp 3)⟩,
      ⟨(some 13), none, .bin .eql (.tmp 12) (.const (.int .i64 0))⟩])
   (.cond (.tmp 13)
    (.seq (.reg [⟨(some 8), none, .mv (.const (.slice none 0 0))⟩])
     (.ret))
    (.skip)))
  (.seq (.seq (.reg [⟨(some 14), none, .mv (.tmp 1)⟩,
      ⟨(some 15), none, .bin .eql (.tmp 14) (.const (.string ⟨#[]⟩))⟩])
   (.cond (.tmp 15)
    (.seq (.reg [⟨(some 16), none, .mv (.tmp 0)⟩,
        ⟨(some 17), none, .mv (.tmp 3)⟩,
        ⟨(some 18), none, .call (.func 76) [(.tmp 16), (.tmp 17)]⟩,
        ⟨(some 8), none, .mv (.tmp 18)⟩])
     (.ret))
    (.skip)))
  (.seq (.seq (.reg [⟨(some 19), none, .mv (.tmp 3)⟩,
      ⟨(some 20), none, .bin .lss (.tmp 19) (.const (.int .i64 0))⟩])
   (.cond (.tmp 20)
    (.reg [⟨(some 21), none, .mv (.tmp 0)⟩,
       ⟨(some 22), none, .mv (.tmp 1)⟩,
       ⟨(some 23), none, .call (.func 77) [(.tmp 21), (.tmp 22)]⟩,
       ⟨(some 24), none, .bin .add (.tmp 23) (.const (.int .i64 1))⟩,
       ⟨(some 3), none, .mv (.tmp 24)⟩])
    (.skip)))
  (.seq (.reg [⟨(some 25), none, .mv (.tmp 3)⟩,
     ⟨(some 26), none, .mv (.tmp 0)⟩,
     ⟨(some 27), none, .len true (.tmp 26)⟩,
     ⟨(some 28), none, .bin .add (.tmp 27) (.const (.int .i64 1))⟩,
     ⟨(some 29), none, .mm false (.tmp 25) (.tmp 28)⟩,
     ⟨(some 3), none, .mv (.tmp 29)⟩])
  (.seq (.reg [⟨(some 30), none, .mv (.tmp 3)⟩,
     ⟨(some 31), none, .mkn 9 1 16 [(.string ⟨#[]⟩)] (.tmp 30) (.tmp 30)⟩,
     ⟨(some 9), none, .mv (.tmp 31)⟩])
  (.seq (.reg [⟨(some 32), none, .mv (.tmp 3)⟩,
     ⟨(some 33), none, .bin .sub (.tmp 32) (.const (.int .i64 1))⟩,
     ⟨(some 3), none, .mv (.tmp 33)⟩])
  (.seq (.reg [⟨(some 10), none, .mv (.const (.int .i64 0))⟩])
  (.seq (.block 0
    (.loop
     (.seq (.seq (.reg [⟨(some 34), none, .mv (.tmp 10)⟩,
         ⟨(some 35), none, .mv (.tmp 3)⟩,
         ⟨(some 36), none, .bin .lss (.tmp 34) (.tmp 35)⟩])
      (.cond (.tmp 36)
       (.skip)
       (.exit 0)))
     (.block 1
      (.seq (.reg [⟨(some 37), none, .mv (.tmp 0)⟩,
         ⟨(some 38), none, .mv (.tmp 1)⟩,
         ⟨(some 39), none, .call (.func 78) [(.tmp 37), (.tmp 38)]⟩,
         ⟨(some 11), none, .mv (.tmp 39)⟩])
      (.seq (.seq (.reg [⟨(some 40), none, .mv (.tmp 11)⟩,
          ⟨(some 41), none, .bin .lss (.tmp 40) (.const (.int .i64 0))⟩])
       (.cond (.tmp 41)
        (.exit 0)
        (.skip)))
      (.seq (.reg [⟨(some 42), none, .mv (.tmp 9)⟩,
         ⟨(some 43), none, .mv (.tmp 10)⟩,
         ⟨(some 44), none, .mv (.tmp 0)⟩,
         ⟨(some 45), none, .mv (.tmp 11)⟩,
         ⟨(some 46), none, .mv (.tmp 2)⟩,
         ⟨(some 47), none, .bin .add (.tmp 45) (.tmp 46)⟩,
         ⟨(some 48), none, .slcS (.tmp 44) none (some (.tmp 47))⟩,
         ⟨(some 49), none, .idxA 1 (.tmp 42) (.tmp 43)⟩,
         ⟨none, none, .store 1 (.tmp 49) (.tmp 48)⟩])
      (.seq (.reg [⟨(some 50), none, .mv (.tmp 0)⟩,
         ⟨(some 51), none, .mv (.tmp 11)⟩,
         ⟨(some 52), none, .mv (.tmp 1)⟩,
         ⟨(some 53), none, .len true (.tmp 52)⟩,
         ⟨(some 54), none, .bin .add (.tmp 51) (.tmp 53)⟩,
         ⟨(some 55), none, .slcS (.tmp 50) (some (.tmp 54)) none⟩,
         ⟨(some 0), none, .mv (.tmp 55)⟩])
      (.reg [⟨(some 56), none, .mv (.tmp 10)⟩,
        ⟨(some 57), none, .bin .add (.tmp 56) (.const (.int .i64 1))⟩,
        ⟨(some 10), none, .mv (.tmp 57)⟩])))))))))
  (.seq (.reg [⟨(some 58), none, .mv (.tmp 9)⟩,
     ⟨(some 59), none, .mv (.tmp 10)⟩,
     ⟨(some 60), none, .mv (.tmp 0)⟩,
     ⟨(some 61), none, .idxA 1 (.tmp 58) (.tmp 59)⟩,
     ⟨none, none, .store 1 (.tmp 61) (.tmp 60)⟩])
  (.seq (.reg [⟨(some 62), none, .mv (.tmp 9)⟩,
     ⟨(some 63), none, .mv (.tmp 10)⟩,
     ⟨(some 64), none, .bin .add (.tmp 63) (.const (.int .i64 1))⟩,
     ⟨(some 65), none, .slcL 1 (.tmp 62) none (some (.tmp 64)) none⟩,
     ⟨(some 8), none, .mv (.tmp 65)⟩])
  (.ret)))))))))))
theorem ck_strings_genSplit : chkFun Tryd.prog 60 4 = some (rc_strings_genSplit, [8]) := by kernel_rfl
/-- hearsay/dns.IsType -/
def rc_dns_IsType : RCode :=
  .seq (.reg [⟨(some 2), none, .mv (.const (.bool false))⟩])
  (.seq (.reg [⟨(some 3), none, .mks 3 1 3 [(.int .i64 0)] [(0, (.const (.int .i64 1))), (1, (.const (.int .i64 16))), (2, (.const (.int .i64 33)))]⟩,
     ⟨(some 4), none, .mv (.tmp 0)⟩,
     ⟨(some 5), none, .call (.func 79) [(.tmp 3), (.tmp 4)]⟩,
     ⟨(some 2), none, .mv (.tmp 5)⟩])
  (.ret))
theorem ck_dns_IsType : chkFun Tryd.prog 61 1 = some (rc_dns_IsType, [2]) := by kernel_rfl
/-- hearsay/dns.checkRecord -/
def rc_dns_checkRecord : RCode :=
  .seq (.reg [⟨(some 1), none, .box 64 7 (.tmp 0)⟩,
     ⟨(some 2), none, .mv (.const (.int .i64 0))⟩])
  (.seq (.seq (.reg [⟨(some 4), none, .fldA 0 (.tmp 1)⟩,
      ⟨(some 5), none, .load false 1 (.tmp 4)⟩,
      ⟨(some 6), none, .call (.func 21) [(.tmp 5)]⟩,
      ⟨(some 3), none, .mv (.tmp 6)⟩])
   (.seq (.reg [⟨(some 7), none, .mv (.tmp 3)⟩,
      ⟨(some 8), none, .bin .neq (.tmp 7) (.const (.int .i64 0))⟩])
   (.cond (.tmp 8)
    (.seq (.reg [⟨(some 9), none, .mv (.tmp 3)⟩,
        ⟨(some 2), none, .mv (.tmp 9)⟩])
     (.ret))
    (.skip))))
  (.seq (.block 0
    (.seq (.reg [⟨(some 11), none, .fldA 1 (.tmp 1)⟩,
       ⟨(some 12), none, .load false 1 (.tmp 11)⟩,
       ⟨(some 13), none, .call (.func 61) [(.tmp 12)]⟩,
       ⟨(some 14), none, .not (.tmp 13)⟩,
       ⟨(some 10), none, .mv (.tmp 14)⟩])
    (.cond (.tmp 10)
     (.seq (.reg [⟨(some 2), none, .mv (.const (.int .i64 7))⟩])
      (.ret))
     (.seq (.reg [⟨(some 16), none, .fldA 2 (.tmp 1)⟩,
         ⟨(some 17), none, .load false 1 (.tmp 16)⟩,
         ⟨(some 18), none, .call (.func 54) [(.tmp 17), (.const (.int .i64 0)), (.const (.int .i64 2147483647))]⟩,
         ⟨(some 19), none, .not (.tmp 18)⟩,
         ⟨(some 15), none, .mv (.tmp 19)⟩])
      (.cond (.tmp 15)
       (.seq (.reg [⟨(some 2), none, .mv (.const (.int .i64 3))⟩])
        (.ret))
       (.seq (.reg [⟨(some 21), none, .load true 7 (.tmp 1)⟩,
           ⟨(some 22), none, .call (.func 80) [(.tmp 21)]⟩,
           ⟨(some 23), none, .not (.tmp 22)⟩,
           ⟨(some 20), none, .mv (.tmp 23)⟩])
        (.cond (.tmp 20)
         (.seq (.reg [⟨(some 2), none, .mv (.const (.int .i64 1))⟩])
          (.ret))
         (.seq (.reg [⟨(some 25), none, .fldA 3 (.tmp 1)⟩,
             ⟨(some 26), none, .load false 1 (.tmp 25)⟩,
             ⟨(some 27), none, .call (.func 54) [(.tmp 26), (.const (.int .i64 0)), (.const (.int .i64 4294967295))]⟩,
             ⟨(some 28), none, .not (.tmp 27)⟩,
             ⟨(some 29), none, .mv (.tmp 28)⟩,
             ⟨(some 30), (some (29, false)), .fldA 5 (.tmp 1)⟩,
             ⟨(some 31), (some (29, false)), .load false 1 (.tmp 30)⟩,
             ⟨(some 32), (some (29, false)), .call (.func 54) [(.tmp 31), (.const (.int .i64 0)), (.const (.int .i64 65535))]⟩,
             ⟨(some 33), (some (29, false)), .not (.tmp 32)⟩,
             ⟨(some 34), none, .pick (.tmp 29) (.const (.bool true)) (.tmp 33)⟩,
             ⟨(some 24), none, .mv (.tmp 34)⟩])
          (.cond (.tmp 24)
           (.seq (.reg [⟨(some 2), none, .mv (.const (.int .i64 3))⟩])
            (.ret))
           (.seq (.reg [⟨(some 36), none, .fldA 4 (.tmp 1)⟩,
               ⟨(some 37), none, .load false 1 (.tmp 36)⟩,
               ⟨(some 38), none, .len true (.tmp 37)⟩,
               ⟨(some 39), none, .bin .gtr (.tmp 38) (.const (.int .i64 200))⟩,
               ⟨(some 35), none, .mv (.tmp 39)⟩])
            (.cond (.tmp 35)
             (.seq (.reg [⟨(some 2), none, .mv (.const (.int .i64 2))⟩])
              (.ret))
             (.skip))))))))))))
  (.seq (.reg [⟨(some 40), none, .fldA 6 (.tmp 1)⟩,
     ⟨(some 41), none, .load false 1 (.tmp 40)⟩,
     ⟨(some 42), none, .call (.func 21) [(.tmp 41)]⟩,
     ⟨(some 2), none, .mv (.tmp 42)⟩])
  (.ret))))
theorem ck_dns_checkRecord : chkFun Tryd.prog 62 1 = some (rc_dns_checkRecord, [2]) := by kernel_rfl
/-- hearsay/hearsayref.IsAddress -/
def rc_hearsayref_IsAddress : RCode :=
  .seq (.reg [⟨(some 2), none, .mv (.const (.bool false))⟩])
  (.seq (.reg [⟨(some 3), none, .mv (.tmp 0)⟩,
     ⟨(some 4), none, .call (.func 45) [(.tmp 3), (.const (.int .i64 0)), (.const (.int .i64 4294967295))]⟩,
     ⟨(some 2), none, .mv (.tmp 4)⟩])
  (.ret))
theorem ck_hearsayref_IsAddress : chkFun Tryd.prog 67 1 = some (rc_hearsayref_IsAddress, [2]) := by kernel_rfl
/-- (*hearsay/dns.reader).two -/
def rc_dns_reader_two : RCode :=
  .seq (.reg [⟨(some 2), none, .mv (.const (.int .i64 0))⟩])
  (.seq (.reg [⟨(some 3), none, .mv (.tmp 0)⟩,
     ⟨(some 4), none, .call (.func 69) [(.tmp 3)]⟩,
     ⟨(some 5), none, .bin .shl (.tmp 4) (.const (.int .u64 8))⟩,
     ⟨(some 6), none, .mv (.tmp 0)⟩,
     ⟨(some 7), none, .call (.func 69) [(.tmp 6)]⟩,
     ⟨(some 8), none, .bin .or (.tmp 5) (.tmp 7)⟩,
     ⟨(some 2), none, .mv (.tmp 8)⟩])
  (.ret))
theorem ck_dns_reader_two : chkFun Tryd.prog 68 1 = some (rc_dns_reader_two, [2]) := by kernel_rfl
/-- (*hearsay/dns.reader).must -/
def rc_dns_reader_must : RCode :=
  .seq (.reg [⟨(some 4), none, .mv (.tmp 1)⟩,
     ⟨(some 5), none, .not (.tmp 4)⟩])
  (.cond (.tmp 5)
   (.reg [⟨(some 6), none, .build [] []⟩,
      ⟨(some 7), none, .mki 68 (.tmp 6)⟩,
      ⟨none, none, .die (.tmp 7)⟩])
   (.skip))
theorem ck_dns_reader_must : chkFun Tryd.prog 70 2 = some (rc_dns_reader_must, []) := by kernel_rfl
/-- hearsay/hearsayref.NameOf -/
def rc_hearsayref_NameOf : RCode :=
  .seq (.reg [⟨(some 2), none, .mv (.const (.string ⟨#[]⟩))⟩])
  (.seq (.reg [⟨(some 3), none, .mv (.const (.string ⟨#[]⟩))⟩])
  (.seq (.seq (.reg [⟨(some 4), none, .mv (.const (.int .i64 0))⟩])
   (.block 0
    (.loop
     (.seq (.seq (.reg [⟨(some 5), none, .mv (.tmp 4)⟩,
         ⟨(some 6), none, .mv (.tmp 0)⟩,
         ⟨(some 7), none, .len false (.tmp 6)⟩,
         ⟨(some 8), none, .bin .lss (.tmp 5) (.tmp 7)⟩])
      (.cond (.tmp 8)
       (.skip)
       (.exit 0)))
     (.seq (.block 1
       (.seq (.seq (.reg [⟨(some 11), none, .mv (.tmp 4)⟩,
           ⟨(some 12), none, .bin .gtr (.tmp 11) (.const (.int .i64 0))⟩])
        (.cond (.tmp 12)
         (.reg [⟨(some 13), none, .mv (.tmp 3)⟩,
            ⟨(some 14), none, .bin .add (.tmp 13) (.const (.string ⟨#[46]⟩))⟩,
            ⟨(some 3), none, .mv (.tmp 14)⟩])
         (.skip)))
       (.reg [⟨(some 15), none, .mv (.tmp 3)⟩,
         ⟨(some 16), none, .mv (.tmp 0)⟩,
         ⟨(some 17), none, .mv (.tmp 4)⟩,
         ⟨(some 18), none, .idxA 1 (.tmp 16) (.tmp 17)⟩,
         ⟨(some 19), none, .load false 1 (.tmp 18)⟩,
         ⟨(some 20), none, .bin .add (.tmp 15) (.tmp 19)⟩,
         ⟨(some 3), none, .mv (.tmp 20)⟩])))
     (.reg [⟨(some 9), none, .mv (.tmp 4)⟩,
       ⟨(some 10), none, .bin .add (.tmp 9) (.const (.int .i64 1))⟩,
       ⟨(some 4), none, .mv (.tmp 10)⟩]))))))
  (.seq (.reg [⟨(some 21), none, .mv (.tmp 3)⟩,
     ⟨(some 2), none, .mv (.tmp 21)⟩])
  (.ret))))
theorem ck_hearsayref_NameOf : chkFun Tryd.prog 73 1 = some (rc_hearsayref_NameOf, [2]) := by kernel_rfl
/-- slices.Contains(()int,int) -/
def rc_slices_Contains_int_int : RCode :=
  .seq (.reg [⟨(some 4), none, .mv (.const (.bool false))⟩])
  (.seq (.reg [⟨(some 5), none, .mv (.tmp 0)⟩,
     ⟨(some 6), none, .mv (.tmp 1)⟩,
     ⟨(some 7), none, .call (.func 92) [(.tmp 5), (.tmp 6)]⟩,
     ⟨(some 8), none, .bin .geq (.tmp 7) (.const (.int .i64 0))⟩,
     ⟨(some 4), none, .mv (.tmp 8)⟩])
  (.ret))
theorem ck_slices_Contains_int_int : chkFun Tryd.prog 79 2 = some (rc_slices_Contains_int_int, [4]) := by kernel_rfl
/-- hearsay/dns.unused -/
def rc_dns_unused : RCode :=
  .seq (.reg [⟨(some 1), none, .box 64 7 (.tmp 0)⟩,
     ⟨(some 2), none, .mv (.const (.bool false))⟩])
  (.seq (.reg [⟨(some 3), none, .fldA 1 (.tmp 1)⟩,
     ⟨(some 4), none, .load false 1 (.tmp 3)⟩,
     ⟨(some 5), none, .bin .eql (.tmp 4) (.const (.int .i64 1))⟩,
     ⟨(some 6), none, .mv (.tmp 5)⟩,
     ⟨(some 7), (some (6, false)), .fldA 3 (.tmp 1)⟩,
     ⟨(some 8), (some (6, false)), .load false 1 (.tmp 7)⟩,
     ⟨(some 9), (some (6, false)), .bin .eql (.tmp 8) (.const (.int .i64 0))⟩,
     ⟨(some 10), none, .pick (.tmp 6) (.const (.bool true)) (.tmp 9)⟩,
     ⟨(some 11), none, .mv (.tmp 10)⟩,
     ⟨(some 12), (some (11, true)), .fldA 1 (.tmp 1)⟩,
     ⟨(some 13), (some (11, true)), .load false 1 (.tmp 12)⟩,
     ⟨(some 14), (some (11, true)), .bin .eql (.tmp 13) (.const (.int .i64 16))⟩,
     ⟨(some 15), (some (11, true)), .mv (.tmp 14)⟩,
     ⟨(some 16), (some (15, false)), .fldA 4 (.tmp 1)⟩,
     ⟨(some 17), (some (15, false)), .load false 1 (.tmp 16)⟩,
     ⟨(some 18), (some (15, false)), .bin .eql (.tmp 17) (.const (.string ⟨#[]⟩))⟩,
     ⟨(some 19), (some (11, true)), .pick (.tmp 15) (.const (.bool true)) (.tmp 18)⟩,
     ⟨(some 20), none, .pick (.tmp 11) (.tmp 19) (.const (.bool false))⟩,
     ⟨(some 21), none, .mv (.tmp 20)⟩,
     ⟨(some 22), (some (21, true)), .fldA 1 (.tmp 1)⟩,
     ⟨(some 23), (some (21, true)), .load false 1 (.tmp 22)⟩,
     ⟨(some 24), (some (21, true)), .bin .eql (.tmp 23) (.const (.int .i64 33))⟩,
     ⟨(some 25), (some (21, true)), .mv (.tmp 24)⟩,
     ⟨(some 26), (some (25, false)), .fldA 5 (.tmp 1)⟩,
     ⟨(some 27), (some (25, false)), .load false 1 (.tmp 26)⟩,
     ⟨(some 28), (some (25, false)), .bin .eql (.tmp 27) (.const (.int .i64 0))⟩,
     ⟨(some 29), (some (25, false)), .mv (.tmp 28)⟩,
     ⟨(some 30), (some (29, true)), .fldA 6 (.tmp 1)⟩,
     ⟨(some 31), (some (29, true)), .load false 1 (.tmp 30)⟩,
     ⟨(some 32), (some (29, true)), .bin .eql (.tmp 31) (.const (.string ⟨#[]⟩))⟩,
     ⟨(some 33), (some (25, false)), .pick (.tmp 29) (.tmp 32) (.const (.bool false))⟩,
     ⟨(some 34), (some (21, true)), .pick (.tmp 25) (.const (.bool true)) (.tmp 33)⟩,
     ⟨(some 35), none, .pick (.tmp 21) (.tmp 34) (.const (.bool false))⟩,
     ⟨(some 2), none, .mv (.tmp 35)⟩])
  (.ret))
theorem ck_dns_unused : chkFun Tryd.prog 80 1 = some (rc_dns_unused, [2]) := by kernel_rfl
/-- hearsay/dns.small -/
def rc_dns_small : RCode :=
  .seq (.reg [⟨(some 2), none, .mv (.const (.string ⟨#[]⟩))⟩])
  (.seq (.reg [⟨(some 6), none, .mv (.tmp 0)⟩,
     ⟨(some 7), none, .toB (.tmp 6)⟩,
     ⟨(some 3), none, .mv (.tmp 7)⟩])
  (.seq (.seq (.reg [⟨(some 8), none, .mv (.tmp 3)⟩,
      ⟨(some 9), none, .len false (.tmp 8)⟩,
      ⟨(some 10), none, .mv (.const (.int .i64 0))⟩])
   (.block 0
    (.loop
     (.seq (.reg [⟨(some 11), none, .bin .lss (.tmp 10) (.tmp 9)⟩])
     (.seq (.cond (.tmp 11)
       (.skip)
       (.exit 0))
     (.seq (.block 1
       (.seq (.reg [⟨(some 12), none, .mv (.tmp 10)⟩,
          ⟨(some 13), none, .idxA 1 (.tmp 8) (.tmp 10)⟩,
          ⟨(some 14), none, .load false 1 (.tmp 13)⟩,
          ⟨(some 4), none, .mv (.tmp 12)⟩,
          ⟨(some 5), none, .mv (.tmp 14)⟩])
       (.seq (.reg [⟨(some 15), none, .mv (.tmp 5)⟩,
          ⟨(some 16), none, .bin .geq (.tmp 15) (.const (.int .u8 65))⟩,
          ⟨(some 17), none, .mv (.tmp 16)⟩,
          ⟨(some 18), (some (17, true)), .mv (.tmp 5)⟩,
          ⟨(some 19), (some (17, true)), .bin .leq (.tmp 18) (.const (.int .u8 90))⟩,
          ⟨(some 20), none, .pick (.tmp 17) (.tmp 19) (.const (.bool false))⟩])
       (.cond (.tmp 20)
        (.reg [⟨(some 21), none, .mv (.tmp 3)⟩,
           ⟨(some 22), none, .mv (.tmp 4)⟩,
           ⟨(some 23), none, .mv (.tmp 5)⟩,
           ⟨(some 24), none, .bin .add (.tmp 23) (.const (.int .u8 32))⟩,
           ⟨(some 25), none, .idxA 1 (.tmp 21) (.tmp 22)⟩,
           ⟨none, none, .store 1 (.tmp 25) (.tmp 24)⟩])
        (.skip)))))
     (.reg [⟨(some 26), none, .bin .add (.tmp 10) (.const (.int .i64 1))⟩,
       ⟨(some 10), none, .mv (.tmp 26)⟩])))))))
  (.seq (.reg [⟨(some 27), none, .mv (.tmp 3)⟩,
     ⟨(some 28), none, .ofB (.tmp 27)⟩,
     ⟨(some 2), none, .mv (.tmp 28)⟩])
  (.ret))))
theorem ck_dns_small : chkFun Tryd.prog 83 1 = some (rc_dns_small, [2]) := by kernel_rfl
/-- (*hearsay/dns.reader).four -/
def rc_dns_reader_four : RCode :=
  .seq (.reg [⟨(some 2), none, .mv (.const (.int .i64 0))⟩])
  (.seq (.reg [⟨(some 3), none, .mv (.tmp 0)⟩,
     ⟨(some 4), none, .call (.func 68) [(.tmp 3)]⟩,
     ⟨(some 5), none, .bin .shl (.tmp 4) (.const (.int .u64 16))⟩,
     ⟨(some 6), none, .mv (.tmp 0)⟩,
     ⟨(some 7), none, .call (.func 68) [(.tmp 6)]⟩,
     ⟨(some 8), none, .bin .or (.tmp 5) (.tmp 7)⟩,
     ⟨(some 2), none, .mv (.tmp 8)⟩])
  (.ret))
theorem ck_dns_reader_four : chkFun Tryd.prog 85 1 = some (rc_dns_reader_four, [2]) := by kernel_rfl
/-- slices.Index(()int,int) -/
def rc_slices_Index_int_int : RCode :=
  .seq (.reg [⟨(some 4), none, .mv (.const (.int .i64 0))⟩])
  (.seq (.seq (.reg [⟨(some 6), none, .mv (.tmp 0)⟩,
      ⟨(some 7), none, .len false (.tmp 6)⟩,
      ⟨(some 8), none, .mv (.const (.int .i64 0))⟩])
   (.block 0
    (.loop
     (.seq (.reg [⟨(some 9), none, .bin .lss (.tmp 8) (.tmp 7)⟩])
     (.seq (.cond (.tmp 9)
       (.skip)
       (.exit 0))
     (.seq (.block 1
       (.seq (.reg [⟨(some 10), none, .mv (.tmp 8)⟩,
          ⟨(some 5), none, .mv (.tmp 10)⟩])
       (.seq (.reg [⟨(some 11), none, .mv (.tmp 1)⟩,
          ⟨(some 12), none, .mv (.tmp 0)⟩,
          ⟨(some 13), none, .mv (.tmp 5)⟩,
          ⟨(some 14), none, .idxA 1 (.tmp 12) (.tmp 13)⟩,
          ⟨(some 15), none, .load false 1 (.tmp 14)⟩,
          ⟨(some 16), none, .bin .eql (.tmp 11) (.tmp 15)⟩])
       (.cond (.tmp 16)
        (.seq (.reg [⟨(some 17), none, .mv (.tmp 5)⟩,
            ⟨(some 4), none, .mv (.tmp 17)⟩])
         (.ret))
        (.skip)))))
     (.reg [⟨(some 18), none, .bin .add (.tmp 8) (.const (.int .i64 1))⟩,
       ⟨(some 8), none, .mv (.tmp 18)⟩])))))))
  (.seq (.reg [⟨(some 4), none, .mv (.const (.int .i64 (-1)))⟩])
  (.ret)))
theorem ck_slices_Index_int_int : chkFun Tryd.prog 92 2 = some (rc_slices_Index_int_int, [4]) := by kernel_rfl

end Go.Proofs.YtjhdlcmecbngkaaDoor
/- Contracts of strings.Split at a text of one byte, and of what it calls. -/
namespace Go.Proofs.YtjhdlcmecbngkaaDoor
open Go.RowKit Pl
set_option linter.unusedVariables false
def sRow (s : ByteArray) : List V := [.v (.string s)]
instance : FlatRow sRow := ⟨fun x u hu => by simp [sRow] at hu; subst hu; exact ⟨_, rfl⟩⟩
theorem count_fun (s : ByteArray) (c : UInt8) : Fun Tryd.prog 77 [.c (.v (.string s)), .c (.v (.string ⟨#[c]⟩))] [.c (.v (.int .i64 (cnb s c)))] :=
  fun_flat (xs := [.string s, .string ⟨#[c]⟩]) (callable Tryd.func77 (by kernel_rfl) (by kernel_rfl)) fun w => (count_one s c w).mono fun e w' ⟨h1, h2⟩ => ⟨h1, h2 ▸ Below.refl _ _⟩
theorem index_fun (s : ByteArray) (c : UInt8) : Fun Tryd.prog 78 [.c (.v (.string s)), .c (.v (.string ⟨#[c]⟩))] [.c (.v (.int .i64 (ixb s c)))] :=
  fun_flat (xs := [.string s, .string ⟨#[c]⟩]) (callable Tryd.func78 (by kernel_rfl) (by kernel_rfl)) fun w => (index_one s c w).mono fun e w' ⟨h1, h2⟩ => ⟨h1, h2 ▸ Below.refl _ _⟩
/-- the cells behind k rounds -/
def splRows (c : UInt8) (s : ByteArray) (k : Nat) : List ByteArray := (List.range k).map (piece c s) ++ List.replicate (cnb s c + 1 - k) ⟨#[]⟩
theorem splRows_len (c : UInt8) (s : ByteArray) {k : Nat} (h : k ≤ cnb s c + 1) : (splRows c s k).length = cnb s c + 1 := by simp [splRows]; omega
theorem splRows_set (c : UInt8) (s : ByteArray) {k : Nat} (h : k < cnb s c + 1) (x : ByteArray) : (splRows c s k).set k x = (List.range k).map (piece c s) ++ [x] ++ List.replicate (cnb s c - k) ⟨#[]⟩ := by
  unfold splRows
  rw [show cnb s c + 1 - k = (cnb s c - k) + 1 by omega, List.replicate_succ]
  rw [List.set_append_right _ _ (by simp)]
  simp
theorem splRows_next (c : UInt8) (s : ByteArray) {k : Nat} (h : k < cnb s c) : (splRows c s k).set k (piece c s k) = splRows c s (k + 1) := by
  rw [splRows_set c s (by omega)]
  unfold splRows
  rw [List.range_succ, List.map_append]
  simp
theorem splRows_end (c : UInt8) (s : ByteArray) : ((splRows c s (cnb s c)).set (cnb s c) (rest c s (cnb s c))).take (cnb s c + 1) = pieces c s := by
  rw [splRows_set c s (by omega)]
  unfold pieces
  rw [Nat.sub_self, List.replicate_zero, List.append_nil]
  exact List.take_of_length_le (by simp)
theorem sep_ne (c : UInt8) : ((⟨#[c]⟩ : ByteArray).toList == (⟨#[]⟩ : ByteArray).toList) = false := by simp [Lib.toList_data]
theorem splRows_zero (c : UInt8) (s : ByteArray) : (splRows c s 0).map sRow = List.replicate (cnb s c + 1) (([.string ⟨#[]⟩] : List Value).map .v) := by
  simp [splRows, sRow]
theorem genSplit_fun (s : ByteArray) (c : UInt8) (hs : s.size ≤ 1000000000000) : Fun Tryd.prog 60 [.c (.v (.string s)), .c (.v (.string ⟨#[c]⟩)), .c (.v (.int .i64 0)), .c (.v (.int .i64 (-1)))] [.o 9 1 ((pieces c s).map sRow)] := by
  have hc := cnb_le s c
  have hR := rest_count c s
  have hz := rest_size c s
  refine fun_x ck_strings_genSplit rfl ?_
  ((conv => whnf); repeat' ((first | refine ⟨rfl, ?_⟩ | refine ⟨_, row_map (by assumption), ?_⟩ | refine ⟨_, (by exact some_rfl), ?_⟩ | refine ⟨_, wrap_ok (by omega) (by omega), ?_⟩ | refine ⟨_, wrap_u64 (by omega) (by omega), ?_⟩ | refine ⟨by decide, _, fdiv_half (by omega), ?_⟩ | (intro gg)); (conv => whnf)))
  rw [sep_ne]
  ((conv => whnf); repeat' ((first | refine ⟨rfl, ?_⟩ | refine ⟨_, row_map (by assumption), ?_⟩ | refine ⟨_, (by exact some_rfl), ?_⟩ | refine ⟨_, wrap_ok (by omega) (by omega), ?_⟩ | refine ⟨_, wrap_u64 (by omega) (by omega), ?_⟩ | refine ⟨by decide, _, fdiv_half (by omega), ?_⟩ | (intro gg)); (conv => whnf)))
  (refine .inl ⟨_, _, false, [], (by (repeat' (first | exact ArgsOk.nil _ | exact argsOk_cells (by assumption) | refine ArgsOk.same (by first | exact cl_b rfl | exact cl_list | exact cl_nil | exact cl_one | exact cl_ll1 | exact cl_ll2 | exact cl_clo (by assumption)) ?_ | refine ArgsOk.nilsl _ ?_ | refine ArgsOk.nilown _ _ (by decide) ?_ | refine ArgsOk.borp rfl rfl rfl (cl_row rfl) (by decide) ?_ | refine ArgsOk.borc (by (repeat' (first | exact cap_n | refine cap_p rfl rfl rfl (by first | exact cl_row rfl | exact cl_r1 rfl | exact cl_r1b) ?_ ?_ | refine cap_m rfl (by decide) ?_ | refine cap_c (by first | exact cl_b rfl | exact cl_list | exact cl_nil | exact cl_one | exact cl_ll1 | exact cl_ll2 | exact cl_clo (by assumption)) ?_ | decide))) ?_ | refine ArgsOk.bor rfl rfl (deref_flat (by first | exact cl_rs rfl | exact cl_rows | exact cl_setB rfl | exact cl_setG (cl_setB rfl) rfl | exact cl_appB cl_rows (cl_rs rfl) | exact cl_rl1 | exact cl_rl2)) (by decide) ?_ | refine give' rfl (by first | exact cl_rs rfl | exact cl_rows | exact cl_setB rfl | exact cl_setG (cl_setB rfl) rfl | exact cl_appB cl_rows (cl_rs rfl) | exact cl_rl1 | exact cl_rl2) (by decide) (by decide) ?_))), count_fun s c, nobor, (by exact Nat.le_of_ble_eq_true rfl), ?_⟩)
  ((conv => whnf); repeat' ((first | refine ⟨rfl, ?_⟩ | refine ⟨_, row_map (by assumption), ?_⟩ | refine ⟨_, (by exact some_rfl), ?_⟩ | refine ⟨_, wrap_ok (by omega) (by omega), ?_⟩ | refine ⟨_, wrap_u64 (by omega) (by omega), ?_⟩ | refine ⟨by decide, _, fdiv_half (by omega), ?_⟩ | (intro gg)); (conv => whnf)))
  rw [show min ((cnb s c : Int) + 1) ((s.size : Int) + 1) = (cnb s c : Int) + 1 by omega]
  ((conv => whnf); repeat' ((first | refine ⟨rfl, ?_⟩ | refine ⟨_, row_map (by assumption), ?_⟩ | refine ⟨_, (by exact some_rfl), ?_⟩ | refine ⟨_, wrap_ok (by omega) (by omega), ?_⟩ | refine ⟨_, wrap_u64 (by omega) (by omega), ?_⟩ | refine ⟨by decide, _, fdiv_half (by omega), ?_⟩ | (intro gg)); (conv => whnf)))
  refine ⟨cnb s c + 1, by simp, by simp, by simp only [maxLen]; omega, by omega, ?_⟩
  ((conv => whnf); repeat' ((first | refine ⟨rfl, ?_⟩ | refine ⟨_, row_map (by assumption), ?_⟩ | refine ⟨_, (by exact some_rfl), ?_⟩ | refine ⟨_, wrap_ok (by omega) (by omega), ?_⟩ | refine ⟨_, wrap_u64 (by omega) (by omega), ?_⟩ | refine ⟨by decide, _, fdiv_half (by omega), ?_⟩ | (intro gg)); (conv => whnf)))
  rw [← splRows_zero]
  ((conv => whnf); repeat' ((first | refine ⟨rfl, ?_⟩ | refine ⟨_, row_map (by assumption), ?_⟩ | refine ⟨_, (by exact some_rfl), ?_⟩ | refine ⟨_, wrap_ok (by omega) (by omega), ?_⟩ | refine ⟨_, wrap_u64 (by omega) (by omega), ?_⟩ | refine ⟨by decide, _, fdiv_half (by omega), ?_⟩ | (intro gg)); (conv => whnf)))
  (refine ⟨[], none, {k : Nat // k ≤ cnb s c}, [1, 2, 3, 9], fun ⟨k, hk⟩ => [(0, .v (.string (rest c s k))), (10, .v (.int .i64 k))], [], fun ⟨k, hk⟩ => [(496, ⟨gg, 9, 1, (splRows c s k).map sRow⟩)], fun ⟨k, hk⟩ => cnb s c - k, trivial, fun _ => ⟨trivial, fun _ => ⟨⟨0, by omega⟩, by (repeat' (first | exact trivial | refine ⟨rfl, ?_⟩)), keptE_refl _ _, by (repeat' (first | exact trivial | refine ⟨rfl, ?_⟩)), keptH_refl _ _⟩⟩, fun ⟨k, hk⟩ => ?_⟩)
  ((conv => whnf); repeat' ((first | refine ⟨rfl, ?_⟩ | refine ⟨_, row_map (by assumption), ?_⟩ | refine ⟨_, (by exact some_rfl), ?_⟩ | refine ⟨_, wrap_ok (by omega) (by omega), ?_⟩ | refine ⟨_, wrap_u64 (by omega) (by omega), ?_⟩ | refine ⟨by decide, _, fdiv_half (by omega), ?_⟩ | (intro gg)); (conv => whnf)))
  (refine bIf_of (fun h1 => ?_) (fun h1 => ?_) <;> rw [h1])
  · have hlt : k < cnb s c := (by have := of_decide_eq_true h1; omega)
    obtain ⟨m, e1, e2, e3, e4⟩ := rest_at c s hlt
    have e5 := hz k
    have e6 := splRows_next c s hlt
    have e7 := splRows_len c s (k := k) (by omega)
    have e8 : k < (splRows c s k).length := by omega
    ((conv => whnf); repeat' ((first | refine ⟨rfl, ?_⟩ | refine ⟨_, row_map (by assumption), ?_⟩ | refine ⟨_, (by exact some_rfl), ?_⟩ | refine ⟨_, wrap_ok (by omega) (by omega), ?_⟩ | refine ⟨_, wrap_u64 (by omega) (by omega), ?_⟩ | refine ⟨by decide, _, fdiv_half (by omega), ?_⟩ | (intro gg)); (conv => whnf)))
    (refine .inl ⟨_, _, false, [], (by (repeat' (first | exact ArgsOk.nil _ | exact argsOk_cells (by assumption) | refine ArgsOk.same (by first | exact cl_b rfl | exact cl_list | exact cl_nil | exact cl_one | exact cl_ll1 | exact cl_ll2 | exact cl_clo (by assumption)) ?_ | refine ArgsOk.nilsl _ ?_ | refine ArgsOk.nilown _ _ (by decide) ?_ | refine ArgsOk.borp rfl rfl rfl (cl_row rfl) (by decide) ?_ | refine ArgsOk.borc (by (repeat' (first | exact cap_n | refine cap_p rfl rfl rfl (by first | exact cl_row rfl | exact cl_r1 rfl | exact cl_r1b) ?_ ?_ | refine cap_m rfl (by decide) ?_ | refine cap_c (by first | exact cl_b rfl | exact cl_list | exact cl_nil | exact cl_one | exact cl_ll1 | exact cl_ll2 | exact cl_clo (by assumption)) ?_ | decide))) ?_ | refine ArgsOk.bor rfl rfl (deref_flat (by first | exact cl_rs rfl | exact cl_rows | exact cl_setB rfl | exact cl_setG (cl_setB rfl) rfl | exact cl_appB cl_rows (cl_rs rfl) | exact cl_rl1 | exact cl_rl2)) (by decide) ?_ | refine give' rfl (by first | exact cl_rs rfl | exact cl_rows | exact cl_setB rfl | exact cl_setG (cl_setB rfl) rfl | exact cl_appB cl_rows (cl_rs rfl) | exact cl_rl1 | exact cl_rl2) (by decide) (by decide) ?_))), index_fun (rest c s k) c, nobor, (by exact Nat.le_of_ble_eq_true rfl), ?_⟩)
    rw [e1]
    ((conv => whnf); repeat' ((first | refine ⟨rfl, ?_⟩ | refine ⟨_, row_map (by assumption), ?_⟩ | refine ⟨_, (by exact some_rfl), ?_⟩ | refine ⟨_, wrap_ok (by omega) (by omega), ?_⟩ | refine ⟨_, wrap_u64 (by omega) (by omega), ?_⟩ | refine ⟨by decide, _, fdiv_half (by omega), ?_⟩ | (intro gg)); (conv => whnf)))
    refine ⟨0, m, rfl, ⟨_, rfl⟩, by omega, by omega, ?_⟩
    ((conv => whnf); repeat' ((first | refine ⟨rfl, ?_⟩ | refine ⟨_, row_map (by assumption), ?_⟩ | refine ⟨_, (by exact some_rfl), ?_⟩ | refine ⟨_, wrap_ok (by omega) (by omega), ?_⟩ | refine ⟨_, wrap_u64 (by omega) (by omega), ?_⟩ | refine ⟨by decide, _, fdiv_half (by omega), ?_⟩ | (intro gg)); (conv => whnf)))
    refine ⟨k, _, rfl, row_map e8, ?_⟩
    ((conv => whnf); repeat' ((first | refine ⟨rfl, ?_⟩ | refine ⟨_, row_map (by assumption), ?_⟩ | refine ⟨_, (by exact some_rfl), ?_⟩ | refine ⟨_, wrap_ok (by omega) (by omega), ?_⟩ | refine ⟨_, wrap_u64 (by omega) (by omega), ?_⟩ | refine ⟨by decide, _, fdiv_half (by omega), ?_⟩ | (intro gg)); (conv => whnf)))
    refine ⟨(m : Int) + 1, wrap_ok (n := (m : Int) + 1) (by omega) (by omega), ?_⟩
    ((conv => whnf); repeat' ((first | refine ⟨rfl, ?_⟩ | refine ⟨_, row_map (by assumption), ?_⟩ | refine ⟨_, (by exact some_rfl), ?_⟩ | refine ⟨_, wrap_ok (by omega) (by omega), ?_⟩ | refine ⟨_, wrap_u64 (by omega) (by omega), ?_⟩ | refine ⟨by decide, _, fdiv_half (by omega), ?_⟩ | (intro gg)); (conv => whnf)))
    refine ⟨m + 1, (rest c s k).size, ⟨_, rfl⟩, rfl, by omega, Nat.le_refl _, ?_⟩
    rw [← e4]
    ((conv => whnf); repeat' ((first | refine ⟨rfl, ?_⟩ | refine ⟨_, row_map (by assumption), ?_⟩ | refine ⟨_, (by exact some_rfl), ?_⟩ | refine ⟨_, wrap_ok (by omega) (by omega), ?_⟩ | refine ⟨_, wrap_u64 (by omega) (by omega), ?_⟩ | refine ⟨by decide, _, fdiv_half (by omega), ?_⟩ | (intro gg)); (conv => whnf)))
    have hn : (splRows c s (k + 1)).map sRow = ((splRows c s k).map sRow).set k [V.v (Value.string ((rest c s k).extract 0 m))] := by rw [← e6, List.map_set, e3]; rfl
    (exact ⟨none, trivial, fun gr => ⟨⟨k + 1, by omega⟩, by show cnb s c - (k + 1) < cnb s c - k; omega, by (repeat' (first | exact trivial | refine ⟨rfl, ?_⟩ | refine ⟨(by show some (Ent.mk _ _ _ _) = some (Ent.mk _ _ _ _); (first | (rw [hn]; done) | (rw [hn]; rfl) | (rw [hn, List.map_append]; done) | (rw [hn, List.map_append]; rfl) | (rw [hn, List.map_append, List.map_append]; done) | (rw [hn, List.map_append, List.map_append]; rfl))), ?_⟩ | refine ⟨(by show V.v _ = V.v _; (first | (rw [hn]; done) | (rw [hn]; rfl) | (rw [hn, List.map_append]; done) | (rw [hn, List.map_append]; rfl) | (rw [hn, List.map_append, List.map_append]; done) | (rw [hn, List.map_append, List.map_append]; rfl))), ?_⟩ | refine ⟨(by show V.sl _ _ = V.sl _ _; (first | (rw [hn]; done) | (rw [hn]; rfl) | (rw [hn, List.map_append]; done) | (rw [hn, List.map_append]; rfl) | (rw [hn, List.map_append, List.map_append]; done) | (rw [hn, List.map_append, List.map_append]; rfl))), ?_⟩)), by (repeat' (first | exact trivial | refine ⟨rfl, ?_⟩ | refine ⟨(by show some (Ent.mk _ _ _ _) = some (Ent.mk _ _ _ _); (first | (rw [hn]; done) | (rw [hn]; rfl) | (rw [hn, List.map_append]; done) | (rw [hn, List.map_append]; rfl) | (rw [hn, List.map_append, List.map_append]; done) | (rw [hn, List.map_append, List.map_append]; rfl))), ?_⟩ | refine ⟨(by show V.v _ = V.v _; (first | (rw [hn]; done) | (rw [hn]; rfl) | (rw [hn, List.map_append]; done) | (rw [hn, List.map_append]; rfl) | (rw [hn, List.map_append, List.map_append]; done) | (rw [hn, List.map_append, List.map_append]; rfl))), ?_⟩ | refine ⟨(by show V.sl _ _ = V.sl _ _; (first | (rw [hn]; done) | (rw [hn]; rfl) | (rw [hn, List.map_append]; done) | (rw [hn, List.map_append]; rfl) | (rw [hn, List.map_append, List.map_append]; done) | (rw [hn, List.map_append, List.map_append]; rfl))), ?_⟩)), by (repeat' (first | exact trivial | refine ⟨rfl, ?_⟩ | refine ⟨(by show some (Ent.mk _ _ _ _) = some (Ent.mk _ _ _ _); (first | (rw [hn]; done) | (rw [hn]; rfl) | (rw [hn, List.map_append]; done) | (rw [hn, List.map_append]; rfl) | (rw [hn, List.map_append, List.map_append]; done) | (rw [hn, List.map_append, List.map_append]; rfl))), ?_⟩ | refine ⟨(by show V.v _ = V.v _; (first | (rw [hn]; done) | (rw [hn]; rfl) | (rw [hn, List.map_append]; done) | (rw [hn, List.map_append]; rfl) | (rw [hn, List.map_append, List.map_append]; done) | (rw [hn, List.map_append, List.map_append]; rfl))), ?_⟩ | refine ⟨(by show V.sl _ _ = V.sl _ _; (first | (rw [hn]; done) | (rw [hn]; rfl) | (rw [hn, List.map_append]; done) | (rw [hn, List.map_append]; rfl) | (rw [hn, List.map_append, List.map_append]; done) | (rw [hn, List.map_append, List.map_append]; rfl))), ?_⟩)), by (repeat' (first | exact trivial | refine ⟨rfl, ?_⟩ | refine ⟨(by show some (Ent.mk _ _ _ _) = some (Ent.mk _ _ _ _); (first | (rw [hn]; done) | (rw [hn]; rfl) | (rw [hn, List.map_append]; done) | (rw [hn, List.map_append]; rfl) | (rw [hn, List.map_append, List.map_append]; done) | (rw [hn, List.map_append, List.map_append]; rfl))), ?_⟩ | refine ⟨(by show V.v _ = V.v _; (first | (rw [hn]; done) | (rw [hn]; rfl) | (rw [hn, List.map_append]; done) | (rw [hn, List.map_append]; rfl) | (rw [hn, List.map_append, List.map_append]; done) | (rw [hn, List.map_append, List.map_append]; rfl))), ?_⟩ | refine ⟨(by show V.sl _ _ = V.sl _ _; (first | (rw [hn]; done) | (rw [hn]; rfl) | (rw [hn, List.map_append]; done) | (rw [hn, List.map_append]; rfl) | (rw [hn, List.map_append, List.map_append]; done) | (rw [hn, List.map_append, List.map_append]; rfl))), ?_⟩))⟩⟩)
  · have hge : ¬ k < cnb s c := (by have := of_decide_eq_false h1; omega)
    have hk' : k ≤ cnb s c := hk
    obtain rfl : k = cnb s c := by omega
    have e7 := splRows_len c s (k := cnb s c) (by omega)
    have e8 : cnb s c < (splRows c s (cnb s c)).length := by omega
    ((conv => whnf); repeat' ((first | refine ⟨rfl, ?_⟩ | refine ⟨_, row_map (by assumption), ?_⟩ | refine ⟨_, (by exact some_rfl), ?_⟩ | refine ⟨_, wrap_ok (by omega) (by omega), ?_⟩ | refine ⟨_, wrap_u64 (by omega) (by omega), ?_⟩ | refine ⟨by decide, _, fdiv_half (by omega), ?_⟩ | (intro gg)); (conv => whnf)))
    refine ⟨cnb s c, _, rfl, row_map e8, ?_⟩
    ((conv => whnf); repeat' ((first | refine ⟨rfl, ?_⟩ | refine ⟨_, row_map (by assumption), ?_⟩ | refine ⟨_, (by exact some_rfl), ?_⟩ | refine ⟨_, wrap_ok (by omega) (by omega), ?_⟩ | refine ⟨_, wrap_u64 (by omega) (by omega), ?_⟩ | refine ⟨by decide, _, fdiv_half (by omega), ?_⟩ | (intro gg)); (conv => whnf)))
    refine ⟨0, 0, cnb s c + 1, rfl, rfl, ⟨_, rfl⟩, Nat.zero_le _, by simp [e7], rfl, rfl, fun g => ?_⟩
    ((conv => whnf); repeat' ((first | refine ⟨rfl, ?_⟩ | refine ⟨_, row_map (by assumption), ?_⟩ | refine ⟨_, (by exact some_rfl), ?_⟩ | refine ⟨_, wrap_ok (by omega) (by omega), ?_⟩ | refine ⟨_, wrap_u64 (by omega) (by omega), ?_⟩ | refine ⟨by decide, _, fdiv_half (by omega), ?_⟩ | (intro gg)); (conv => whnf)))
    have hE : (((splRows c s (cnb s c)).map sRow).set (cnb s c) [V.v (Value.string (rest c s (cnb s c)))]).take (cnb s c + 1) = (pieces c s).map sRow := by rw [← splRows_end, List.map_take, List.map_set]; rfl
    rw [hE]
    (exact ⟨[496], by (repeat' (first | exact ArgsOk.nil _ | exact argsOk_cells (by assumption) | refine ArgsOk.same (by first | exact cl_b rfl | exact cl_list | exact cl_nil | exact cl_one | exact cl_ll1 | exact cl_ll2 | exact cl_clo (by assumption)) ?_ | refine ArgsOk.nilsl _ ?_ | refine ArgsOk.nilown _ _ (by decide) ?_ | refine ArgsOk.borp rfl rfl rfl (cl_row rfl) (by decide) ?_ | refine ArgsOk.borc (by %caps) ?_ | refine ArgsOk.bor rfl rfl (deref_flat (by first | exact cl_rs rfl | exact cl_rows | exact cl_setB rfl | exact cl_setG (cl_setB rfl) rfl | exact cl_appB cl_rows (cl_rs rfl) | exact cl_rl1 | exact cl_rl2)) (by decide) ?_ | refine give' rfl (by first | exact cl_rs rfl | exact cl_rows | exact cl_setB rfl | exact cl_setG (cl_setB rfl) rfl | exact cl_appB cl_rows (cl_rs rfl) | exact cl_rl1 | exact cl_rl2) (by decide) (by decide) ?_))⟩)
end Go.Proofs.YtjhdlcmecbngkaaDoor
/- Plain: what a label is. No program in sight. -/
namespace Go.Proofs.YtjhdlcmecbngkaaDoor.Pl
set_option linter.unusedVariables false

/-- may a byte stand in a label? -/
def okB (n : Int) : Bool := decide ((97 ≤ n ∧ n ≤ 122) ∨ (48 ≤ n ∧ n ≤ 57) ∨ n = 45 ∨ n = 95)
/-- is a text a label? -/
def lab (s : List UInt8) : Bool := s.all (fun c => okB c.toNat) && decide (1 ≤ s.length ∧ s.length ≤ 30)

theorem lab_yes {s : List UInt8} (h : ∀ i, (hi : i < s.length) → okB (s[i]).toNat = true) (h1 : 1 ≤ s.length) (h2 : s.length ≤ 30) : lab s = true := by
  unfold lab
  rw [Bool.and_eq_true_iff]
  refine ⟨List.all_eq_true.2 fun c hc => ?_, by simp; omega⟩
  obtain ⟨i, hi, rfl⟩ := List.getElem_of_mem hc
  exact h i hi
theorem lab_bad {s : List UInt8} {i : Nat} (hi : i < s.length) (h : okB (s[i]).toNat = false) : lab s = false := by
  unfold lab
  rw [Bool.and_eq_false_iff]
  left
  rw [List.all_eq_false]
  exact ⟨s[i], List.getElem_mem hi, by simp [h]⟩
theorem lab_long {s : List UInt8} (h : ¬ (1 ≤ s.length ∧ s.length ≤ 30)) : lab s = false := by
  unfold lab
  simp only [h, decide_false, Bool.and_false]
theorem lab_bd {s : List UInt8} (h : lab s = true) : 1 ≤ s.length ∧ s.length ≤ 30 := by
  unfold lab at h
  simp only [Bool.and_eq_true, decide_eq_true_eq] at h
  exact h.2
theorem okB_no {n : Int} (h : ¬ ((97 ≤ n ∧ n ≤ 122) ∨ (48 ≤ n ∧ n ≤ 57) ∨ n = 45 ∨ n = 95)) : okB n = false := by
  unfold okB; simpa using h
theorem okB_yes {n : Int} (h : (97 ≤ n ∧ n ≤ 122) ∨ (48 ≤ n ∧ n ≤ 57) ∨ n = 45 ∨ n = 95) : okB n = true := by
  unfold okB; simpa using h
end Go.Proofs.YtjhdlcmecbngkaaDoor.Pl
/- The walks of dns.IsLabel and of the reference's IsLabel. -/
namespace Go.Proofs.YtjhdlcmecbngkaaDoor
open Go.RowKit Pl
set_option linter.unusedVariables false

theorem lab_step {s : ByteArray} {k : Nat} (h : ∀ j, (hj : j < s.data.toList.length) → j < k → okB (s.data.toList[j]).toNat = true) (hlt : k < s.size) (hk : okB (s[k]).toNat = true) :
    ∀ j, (hj : j < s.data.toList.length) → j < k + 1 → okB (s.data.toList[j]).toNat = true := by
  intro j hj hjk
  rcases (by omega : j < k ∨ j = k) with g | rfl
  · exact h j hj g
  · exact hk
theorem isEmpty_size (s : ByteArray) : s.toList.isEmpty = decide (s.size = 0) := by
  rw [ByteArray.toList_eq, Bool.eq_iff_iff, List.isEmpty_iff_length_eq_zero, decide_eq_true_eq, Array.length_toList]
  rfl
theorem lab_endA {s : ByteArray} (h1 : 1 ≤ s.size ∧ s.size ≤ 30 → lab s.data.toList = true) (h2 : ¬ (1 ≤ s.size ∧ s.size ≤ 30) → lab s.data.toList = false) (e : s.toList.isEmpty = false) : decide ((s.size : Int) ≤ 30) = lab s.data.toList := by
  have e0 : s.size ≠ 0 := by simpa [isEmpty_size] using e
  by_cases g : s.size ≤ 30
  · rw [h1 ⟨by omega, g⟩]; simp; omega
  · rw [h2 (by omega)]; simp; omega
theorem lab_endB {s : ByteArray} (h2 : ¬ (1 ≤ s.size ∧ s.size ≤ 30) → lab s.data.toList = false) (e : s.toList.isEmpty = true) : false = lab s.data.toList := by
  have e0 : s.size = 0 := by simpa [isEmpty_size] using e
  rw [h2 (by omega)]
theorem cell_new (w : World) (C : Array Value) (t : TypeId) (fr : Nat × Nat) (k : Nat) : (w.alloc (.cells C t fr)).drew.cell? ⟨w.heap.size, k, none⟩ = C[k]? := by
  have h : (w.alloc (.cells C t fr)).drew.heap[w.heap.size]? = some (.cells C t fr) := heap_alloc_new w _
  unfold World.cell?
  rw [h]
  rfl
theorem lab_out {s : ByteArray} {k : Nat} (hlt : k < s.size) (hk : okB (s[k]).toNat = false) : false = lab s.data.toList :=
  (lab_bad (i := k) (s := s.data.toList) (by simpa using hlt) hk).symm

theorem refIsLabel_any (s : ByteArray) (w : World) (hs : s.size ≤ 9223372036854775807) :
    Calls Tryd.prog 38 #[.string s] w fun e w' => e = .returned (.bool (lab s.data.toList)) ∧ w = w' := by
  go_enter Tryd.func38, Tryd.ntmps38
  go_wp2
  go_loop [3] (fun i => ∃ k : Nat, k ≤ s.size ∧ i = .int .i64 k ∧ ∀ j, (hj : j < s.data.toList.length) → j < k → okB (s.data.toList[j]).toNat = true) (fun i => s.size - (intOf i).toNat)
  case atStart => exact ⟨0, Nat.zero_le _, rfl, fun j _ h => absurd h (by omega)⟩
  case round =>
    obtain ⟨k, hk, rfl, hall⟩ := hrel
    have HA := hid hall
    clear hall
    by_cases hlt : k < s.size
    · go_wp2
      all_goals first
        | (go_round
           case rel => exact ⟨k + 1, by omega, by go_num, lab_step HA.out hlt (okB_yes (by go_light; clear HA; first | omega | (simp_all; done) | (simp_all; omega)))⟩
           case measure => simp [intOf]; omega)
        | (go_ret
           exact ⟨ret_bool (lab_out hlt (okB_no (by go_light; clear HA; first | omega | (simp_all; done) | (simp_all; omega)))), rfl⟩)
    · have HL := fun (g : 1 ≤ s.size ∧ s.size ≤ 30) => lab_yes (s := s.data.toList) (fun i hi => HA.out i hi (by simp at hi; omega)) (by simpa using g.1) (by simpa using g.2)
      have HN := fun (g : ¬ (1 ≤ s.size ∧ s.size ≤ 30)) => lab_long (s := s.data.toList) (by simpa using g)
      have HL := hid HL
      have HN := hid HN
      clear HA
      go_wp2
      all_goals go_ret
      all_goals exact ⟨ret_bool (by
        go_light
        by_cases g : 1 ≤ s.size ∧ s.size ≤ 30
        · rw [HL.out g] <;> first | rfl | (simp <;> omega)
        · rw [HN.out g] <;> first | rfl | (simp <;> omega)), rfl⟩

/-- the bytes of a text in a block of the call's own, as the walk wants them -/
theorem bytes_run (s : ByteArray) (w : World) : ∃ (cap : Nat) (C : Array Value) (fr : Nat × Nat),
    (convert 9 82 (.string s)).run Tryd.prog w = .ok (.slice (some ⟨w.heap.size, 0, none⟩) s.size cap) (w.drew.alloc (.cells C 5 fr)) ∧
    ∀ j, (h : j < s.size) → C[j]? = some (.int .u8 ((s[j]).toNat : Int)) := by
  refine ⟨_, _, _, run_bytes_of_string w 9 82 5 s Tryd.underlying9 Tryd.underlying82 Tryd.underlying5, ?_⟩
  intro j h
  exact bytesRow_at s _ j h

set_option maxRecDepth 100000 in
theorem IsLabel_any (s : ByteArray) (w : World) (hs : s.size ≤ 9223372036854775807) :
    Calls Tryd.prog 35 #[.string s] w fun e w' => e = .returned (.bool (lab s.data.toList)) ∧ Below w.heap.size w w' ∧ w.drawn ≤ w'.drawn := by
  obtain ⟨cap, C, fr, hrun, hC⟩ := bytes_run s w
  have HC := hid hC
  clear hC
  have hB : Below w.heap.size w (w.alloc (.cells C 5 fr)).drew ∧ w.drawn ≤ (w.alloc (.cells C 5 fr)).drew.drawn := ⟨(by repeat (first | exact Below.refl _ _ | assumption | refine Below.drew ?_ | refine below_drewN ?_ _ | refine Below.alloc ?_ (by simp; try omega) _ | refine Below.setCell ?_ (by simp; try omega) _)), Nat.le_succ _⟩
  have HB := hid hB
  clear hB
  go_enter Tryd.func35, Tryd.ntmps35
  go_wp2
  go_loop [8] (fun i => ∃ k : Nat, k ≤ s.size ∧ i = .int .i64 k ∧ ∀ j, (hj : j < s.data.toList.length) → j < k → okB (s.data.toList[j]).toNat = true) (fun i => s.size - (intOf i).toNat)
  case atStart => exact ⟨0, Nat.zero_le _, rfl, fun j _ h => absurd h (by omega)⟩
  case round =>
    obtain ⟨k, hk, rfl, hall⟩ := hrel
    have HA := hid hall
    clear hall
    by_cases hlt : k < s.size
    · have hcell : (w.alloc (.cells C 5 fr)).drew.cell? ⟨w.heap.size, k, none⟩ = some (.int .u8 ((s[k]).toNat : Int)) := (cell_new w C 5 fr k).trans (HC.out k hlt)
      have hby : ((s[k]).toNat : Int) ≤ 255 := by have := (s[k]).toNat_lt; omega
      clear hrun
      go_wp2
      all_goals first
        | (go_round
           case rel => exact ⟨k + 1, by omega, by go_num, lab_step HA.out hlt (okB_yes (by go_light; clear HA; first | omega | (simp_all; done) | (simp_all; omega)))⟩
           case measure => simp [intOf]; omega)
        | (go_ret
           exact ⟨ret_bool (lab_out hlt (okB_no (by go_light; clear HA; first | omega | (simp_all; done) | (simp_all; omega)))), HB.out⟩)
    · have HL := fun (g : 1 ≤ s.size ∧ s.size ≤ 30) => lab_yes (s := s.data.toList) (fun i hi => HA.out i hi (by simp at hi; omega)) (by simpa using g.1) (by simpa using g.2)
      have HN := fun (g : ¬ (1 ≤ s.size ∧ s.size ≤ 30)) => lab_long (s := s.data.toList) (by simpa using g)
      have HL := hid HL
      have HN := hid HN
      clear HA
      go_wp2
      all_goals go_ret
      all_goals first
        | exact ⟨ret_bool (lab_endA HL.out HN.out ‹s.toList.isEmpty = false›), HB.out⟩
        | exact ⟨ret_bool (lab_endB HN.out ‹s.toList.isEmpty = true›), HB.out⟩
end Go.Proofs.YtjhdlcmecbngkaaDoor
/- Contracts of the two functions that know labels. -/
namespace Go.Proofs.YtjhdlcmecbngkaaDoor
open Go.RowKit Pl
set_option linter.unusedVariables false
theorem label_fun (s : ByteArray) (hs : s.size ≤ 9223372036854775807) : Fun Tryd.prog 35 [.c (.v (.string s))] [.c (.v (.bool (lab s.data.toList)))] :=
  fun_flat (xs := [.string s]) (callable Tryd.func35 (by kernel_rfl) (by kernel_rfl)) fun w => (IsLabel_any s w hs).mono fun e w' h => ⟨h.1, h.2.1⟩
theorem rlabel_fun (s : ByteArray) (hs : s.size ≤ 9223372036854775807) : Fun Tryd.prog 38 [.c (.v (.string s))] [.c (.v (.bool (lab s.data.toList)))] :=
  fun_flat (xs := [.string s]) (callable Tryd.func38 (by kernel_rfl) (by kernel_rfl)) fun w => (refIsLabel_any s w hs).mono fun e w' ⟨h1, h2⟩ => ⟨h1, h2 ▸ Below.refl _ _⟩
end Go.Proofs.YtjhdlcmecbngkaaDoor
/- Plain: lists, and what slices' functions make of them. No program in sight. -/
namespace Go.Proofs.YtjhdlcmecbngkaaDoor.Pl
set_option linter.unusedVariables false
theorem any_at {α : Type} (p : α → Bool) (l : List α) : decide (0 ≤ at_ p l) = l.any p := by
  rcases at_inv (p := p) (l := l) with ⟨h1, h2⟩ | ⟨k, hk, h1, h2, _⟩
  · rw [h1]
    cases hq : l.any p with
    | false => rfl
    | true =>
      obtain ⟨x, hx, hp⟩ := List.any_eq_true.1 hq
      obtain ⟨i, hi, rfl⟩ := List.getElem_of_mem hx
      rw [h2 i hi] at hp; cases hp
  · rw [h1]
    have : l.any p = true := List.any_eq_true.2 ⟨_, List.getElem_mem hk, h2⟩
    rw [this]; simp
/-- those that stay -/
def keep {α : Type} (p : α → Bool) (l : List α) : List α := l.filter fun x => !p x
theorem keep_all {α : Type} {p : α → Bool} {l : List α} (h : ∀ i, (h : i < l.length) → p l[i] = false) : keep p l = l := by
  unfold keep; rw [List.filter_eq_self]; intro x hx
  obtain ⟨i, hi, rfl⟩ := List.getElem_of_mem hx
  simp [h i hi]
theorem keep_take {α : Type} {p : α → Bool} {l : List α} {k : Nat} (h : k < l.length) : keep p (l.take (k + 1)) = if p l[k] = true then keep p (l.take k) else keep p (l.take k) ++ [l[k]] := by
  unfold keep
  rw [List.take_add_one, List.getElem?_eq_getElem h, List.filter_append]
  cases q : p l[k] <;> simp [q]
/-- what stays, moved up -/
structure Moved {α : Type} (p : α → Bool) (l l' : List α) (i j : Nat) : Prop where
  ij : i < j
  jl : j ≤ l.length
  len : l'.length = l.length
  ahead : l'.take i = keep p (l.take j)
  behind : ∀ k, (h : k < l.length) → j ≤ k → l'[k]'(by rw [len]; exact h) = l[k]
theorem Moved.start {α : Type} {p : α → Bool} {l : List α} {k : Nat} (hk : k < l.length) (h1 : p l[k] = true) (h0 : ∀ i, (h : i < l.length) → i < k → p l[i] = false) : Moved p l l k (k + 1) := by
  refine ⟨by omega, by omega, rfl, ?_, fun _ _ _ => rfl⟩
  rw [keep_take hk, if_pos h1, keep_all]
  intro i hi
  simp at hi
  simp only [List.getElem_take]
  exact h0 i (by omega) (by omega)
theorem Moved.gone {α : Type} {p : α → Bool} {l l' : List α} {i j : Nat} (h : Moved p l l' i j) (hj : j < l.length) (hp : p l[j] = true) : Moved p l l' i (j + 1) := by
  refine ⟨by have := h.ij; omega, by omega, h.len, ?_, fun k hk hkj => h.behind k hk (by omega)⟩
  rw [keep_take hj, if_pos hp]; exact h.ahead
theorem Moved.stays {α : Type} {p : α → Bool} {l l' : List α} {i j : Nat} (h : Moved p l l' i j) (hj : j < l.length) (hp : p l[j] = false) : Moved p l (l'.set i l[j]) (i + 1) (j + 1) := by
  have hij := h.ij
  have hlen := h.len
  refine ⟨by omega, by omega, by simp [hlen], ?_, fun k hk hkj => ?_⟩
  · rw [keep_take hj, if_neg (by simp [hp]), List.take_add_one, List.take_set_of_le (Nat.le_refl _), h.ahead]
    congr 1
    rw [List.getElem?_set_self (by omega)]; rfl
  · rw [List.getElem_set_ne (by omega)]
    exact h.behind k hk (by omega)
theorem Moved.fin {α : Type} {p : α → Bool} {l l' : List α} {i j : Nat} (h : Moved p l l' i j) (hj : ¬ j < l.length) : l'.take i = keep p l := by
  rw [h.ahead, List.take_of_length_le (by omega)]
theorem erase_cut {α : Type} (l : List α) (i : Nat) : l.eraseIdx i = l.take i ++ l.drop (i + 1) := List.eraseIdx_eq_take_drop_succ l i
theorem erase_rows {α β : Type} {f : α → β} {l : List α} {i : Nat} (hi : i < l.length) {z : β} {t : List β} {k : Nat} :
    (l.eraseIdx i).map f = (((((l.map f).take i ++ ((l.map f).drop (i + 1)).take ((l.map f).length - (i + 1)) ++ (l.map f).drop (i + ((l.map f).length - (i + 1)))).take (0 + (i + ((l.map f).length - (i + 1))))) ++ List.replicate k z ++ t)).take (i + ((l.map f).length - (i + 1))) := by
  have h1 : ((l.map f).drop (i + 1)).take ((l.map f).length - (i + 1)) = (l.map f).drop (i + 1) := List.take_of_length_le (by simp)
  have h2 : ((l.map f).take i ++ (l.map f).drop (i + 1)).length = i + ((l.map f).length - (i + 1)) := by simp; omega
  rw [h1, Nat.zero_add, ← h2, List.take_left, List.append_assoc, List.take_left, erase_cut, List.map_append, List.map_take, List.map_drop]
end Go.Proofs.YtjhdlcmecbngkaaDoor.Pl
