/- Plain functions of how far places are: no program in sight. -/
import Derived.Test.YtckkeeicngblgaaPlainPlace
import Derived.Test.YtckkeeicngblgaaPlainRoot
namespace Go.Proofs.Ytckkeeicngblgaa.Pl
set_option linter.unusedVariables false

def sq3 (x y z x' y' z' : Int) : Int := (x - x') * (x - x') + (y - y') * (y - y') + (z - z') * (z - z')
/-- how far without heights -/
def flat (x y z x' y' z' : Int) : Int := rt (sq3 x y z x' y' z')

theorem okPl_iff {x y z h s : Int} : okPl x y z h s = true ↔ (-10000000 ≤ x ∧ x ≤ 10000000) ∧ (-10000000 ≤ y ∧ y ≤ 10000000) ∧ (-10000000 ≤ z ∧ z ≤ 10000000) ∧ (0 ≤ h ∧ h ≤ 1000000) ∧ (0 ≤ s ∧ s ≤ 1000) := by
  unfold okPl
  simp only [Bool.and_eq_true, wi_iff, and_assoc]

theorem sq_abs {x b : Int} (h1 : -b ≤ x) (h2 : x ≤ b) : 0 ≤ x * x ∧ x * x ≤ b * b := by
  rcases Int.le_total 0 x with h | h
  · exact ⟨Int.mul_nonneg h h, sq_mono h h2⟩
  · have := sq_mono (a := -x) (b := b) (by omega) (by omega)
    rw [Int.neg_mul_neg] at this
    exact ⟨Int.mul_nonneg_of_nonpos_of_nonpos h h, this⟩
theorem sq_diff {x x' : Int} (h1 : -10000000 ≤ x) (h2 : x ≤ 10000000) (h3 : -10000000 ≤ x') (h4 : x' ≤ 10000000) : 0 ≤ (x - x') * (x - x') ∧ (x - x') * (x - x') ≤ 400000000000000 :=
  sq_abs (x := x - x') (b := 20000000) (by omega) (by omega)
theorem sq3_bd {x y z x' y' z' : Int} (a1 : 0 ≤ (x - x') * (x - x') ∧ (x - x') * (x - x') ≤ 400000000000000) (a2 : 0 ≤ (y - y') * (y - y') ∧ (y - y') * (y - y') ≤ 400000000000000)
    (a3 : 0 ≤ (z - z') * (z - z') ∧ (z - z') * (z - z') ≤ 400000000000000) : 0 ≤ sq3 x y z x' y' z' ∧ sq3 x y z x' y' z' ≤ 1200000000000000 := by unfold sq3; omega
theorem flat_bd {x y z x' y' z' : Int} (h : 0 ≤ sq3 x y z x' y' z' ∧ sq3 x y z x' y' z' ≤ 1200000000000000) : 0 ≤ flat x y z x' y' z' ∧ flat x y z x' y' z' ≤ 34641017 :=
  ⟨rt_nonneg _, rt_le h.1 (by omega) (by omega)⟩
theorem flat_ok {x y z h s x' y' z' h' s' : Int} (o : okPl x y z h s = true) (o' : okPl x' y' z' h' s' = true) : 0 ≤ flat x y z x' y' z' ∧ flat x y z x' y' z' ≤ 34641017 := by
  obtain ⟨⟨a1, a2⟩, ⟨a3, a4⟩, ⟨a5, a6⟩, _, _⟩ := okPl_iff.1 o
  obtain ⟨⟨b1, b2⟩, ⟨b3, b4⟩, ⟨b5, b6⟩, _, _⟩ := okPl_iff.1 o'
  exact flat_bd (sq3_bd (sq_diff a1 a2 b1 b2) (sq_diff a3 a4 b3 b4) (sq_diff a5 a6 b5 b6))
theorem flat_comm (x y z x' y' z' : Int) : flat x y z x' y' z' = flat x' y' z' x y z := by
  unfold flat sq3
  rw [show (x - x') * (x - x') = (x' - x) * (x' - x) by grind, show (y - y') * (y - y') = (y' - y) * (y' - y) by grind, show (z - z') * (z - z') = (z' - z) * (z' - z) by grind]
/-- how far, heights too -/
def far (x y z h x' y' z' h' : Int) : Int := flat x y z x' y' z' + h + h'
end Go.Proofs.Ytckkeeicngblgaa.Pl
