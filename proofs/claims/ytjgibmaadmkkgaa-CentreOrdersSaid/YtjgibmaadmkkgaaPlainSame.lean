/- Plain: two lists that are the same, element by element. No program in sight. -/
import Derived.Test.YtjgibmaadmkkgaaPlainStr
namespace Go.Proofs.Ytjgibmaadmkkgaa.Pl
set_option linter.unusedVariables false
def sameL {α : Type} (e : α → α → Bool) (a b : List α) : Bool := decide (a.length = b.length) && (List.zip a b).all fun x => e x.1 x.2
theorem sameL_no {α : Type} {e : α → α → Bool} {a b : List α} (h : a.length ≠ b.length) : sameL e a b = false := by simp [sameL, h]
theorem sameL_at {α : Type} {e : α → α → Bool} {a b : List α} {k : Nat} (h1 : k < a.length) (h2 : k < b.length) (h : e a[k] b[k] = false) : sameL e a b = false := by
  unfold sameL
  rw [Bool.and_eq_false_iff]
  right
  rw [List.all_eq_false]
  have hz : k < (List.zip a b).length := by simp; omega
  exact ⟨(List.zip a b)[k], List.getElem_mem hz, by simp [h]⟩
theorem sameL_yes {α : Type} {e : α → α → Bool} {a b : List α} (hl : a.length = b.length) (h : ∀ k, (h1 : k < a.length) → (h2 : k < b.length) → e a[k] b[k] = true) : sameL e a b = true := by
  unfold sameL
  rw [Bool.and_eq_true_iff]
  refine ⟨by simpa using hl, List.all_eq_true.2 fun x hx => ?_⟩
  obtain ⟨k, hk, rfl⟩ := List.getElem_of_mem hx
  simp at hk ⊢
  exact h k (by omega) (by omega)
theorem sameL_refl {α : Type} {e : α → α → Bool} (he : ∀ x, e x x = true) (a : List α) : sameL e a a = true := sameL_yes rfl fun k _ _ => he _
theorem sameL_iff {α : Type} {e : α → α → Bool} (he : ∀ x y, e x y = true ↔ x = y) {a b : List α} : sameL e a b = true ↔ a = b := by
  constructor
  · intro h
    unfold sameL at h
    rw [Bool.and_eq_true_iff] at h
    have hl : a.length = b.length := by simpa using h.1
    apply List.ext_getElem hl
    intro i h1 h2
    have hz : i < (List.zip a b).length := by simp; omega
    have := List.all_eq_true.1 h.2 _ (List.getElem_mem hz)
    simp at this
    exact (he _ _).1 this
  · rintro rfl
    exact sameL_refl (fun x => (he x x).2 rfl) a
end Go.Proofs.Ytjgibmaadmkkgaa.Pl
