/- Plain: the order of texts, byte by byte. -/
import Derived.WalkKit
namespace Go.Proofs.Ytckkeeicngblgaa.Pl
set_option linter.unusedVariables false

theorem bl_irrefl : ∀ x : List UInt8, Op.bytesLess x x = false
  | [] => rfl
  | a :: x => by simp [Op.bytesLess, bl_irrefl x, UInt8.lt_irrefl]
theorem bl_trans : ∀ {x y z : List UInt8}, Op.bytesLess x y = true → Op.bytesLess y z = true → Op.bytesLess x z = true
  | [], _ :: _, [], _, h => by simp [Op.bytesLess] at h
  | _, [], _, h, _ => by cases ‹List UInt8› <;> simp [Op.bytesLess] at h
  | [], b :: y, c :: z, _, _ => rfl
  | a :: x, b :: y, [], _, h => by simp [Op.bytesLess] at h
  | a :: x, b :: y, c :: z, h1, h2 => by
    simp only [Op.bytesLess, Bool.or_eq_true, decide_eq_true_eq, Bool.and_eq_true, beq_iff_eq] at h1 h2 ⊢
    rcases h1 with h1 | ⟨rfl, h1⟩
    · rcases h2 with h2 | ⟨rfl, h2⟩
      · exact .inl (UInt8.lt_trans h1 h2)
      · exact .inl h1
    · rcases h2 with h2 | ⟨rfl, h2⟩
      · exact .inl h2
      · exact .inr ⟨rfl, bl_trans h1 h2⟩
theorem bl_tri : ∀ {x y : List UInt8}, Op.bytesLess x y = false → Op.bytesLess y x = false → x = y
  | [], [], _, _ => rfl
  | [], b :: y, h, _ => by simp [Op.bytesLess] at h
  | a :: x, [], _, h => by simp [Op.bytesLess] at h
  | a :: x, b :: y, h1, h2 => by
    simp only [Op.bytesLess, Bool.or_eq_false_iff, decide_eq_false_iff_not, Bool.and_eq_false_iff] at h1 h2
    have hab : a = b := by
      have g1 : ¬ a.toNat < b.toNat := h1.1
      have g2 : ¬ b.toNat < a.toNat := h2.1
      exact UInt8.toNat_inj.1 (by omega)
    subst hab
    have e1 : Op.bytesLess x y = false := by rcases h1.2 with h | h <;> simp_all
    have e2 : Op.bytesLess y x = false := by rcases h2.2 with h | h <;> simp_all
    rw [bl_tri e1 e2]
/-- does one text stand ahead of another? -/
def slt (a b : ByteArray) : Bool := Op.bytesLess a.toList b.toList
theorem toList_inj {a b : ByteArray} (h : a.toList = b.toList) : a = b := by
  rw [ByteArray.toList_eq, ByteArray.toList_eq] at h
  cases a; cases b
  congr
  exact Array.toList_inj.1 h
theorem slt_irrefl (a : ByteArray) : slt a a = false := bl_irrefl _
theorem slt_trans {a b c : ByteArray} (h1 : slt a b = true) (h2 : slt b c = true) : slt a c = true := bl_trans h1 h2
theorem slt_tri {a b : ByteArray} (h1 : slt a b = false) (h2 : slt b a = false) : a = b := toList_inj (bl_tri h1 h2)
theorem slt_asymm {a b : ByteArray} (h1 : slt a b = true) : slt b a = false := by
  rcases Bool.eq_false_or_eq_true (slt b a) with h | h
  · have := slt_trans h1 h; rw [slt_irrefl] at this; cases this
  · exact h
theorem slt_ne {a b : ByteArray} (h1 : slt a b = true) : a ≠ b := by
  rintro rfl
  rw [slt_irrefl] at h1; cases h1
theorem seq_iff {a b : ByteArray} : (a.toList == b.toList) = true ↔ a = b := by
  rw [beq_iff_eq]; exact ⟨toList_inj, fun h => by rw [h]⟩
theorem seq_no {a b : ByteArray} (h : a ≠ b) : (a.toList == b.toList) = false := by
  rcases Bool.eq_false_or_eq_true (a.toList == b.toList) with g | g
  · exact absurd (seq_iff.1 g) h
  · exact g
/-- what '<=' says -/
theorem sle_eq (a b : ByteArray) : (Op.bytesLess a.toList b.toList || a.toList == b.toList) = !(slt b a) := by
  rcases Bool.eq_false_or_eq_true (slt b a) with h | h
  · rw [h]
    have h1 := slt_asymm h
    unfold slt at h1
    rw [h1, seq_no (fun e => by subst e; rw [slt_irrefl] at h; cases h)]
    rfl
  · rw [h]
    rcases Bool.eq_false_or_eq_true (slt a b) with g | g
    · unfold slt at g; rw [g]; rfl
    · have := slt_tri g h
      subst this
      simp
end Go.Proofs.Ytckkeeicngblgaa.Pl
