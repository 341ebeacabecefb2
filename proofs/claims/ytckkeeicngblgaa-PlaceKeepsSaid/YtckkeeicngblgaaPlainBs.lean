/- Plain: looking a thing up in a sorted list. No program in sight (but for the order of texts). -/
import Derived.Test.YtckkeeicngblgaaPlainStr
namespace Go.Proofs.Ytckkeeicngblgaa.Pl
set_option linter.unusedVariables false

/-- three ways -/
def scmp (a b : ByteArray) : Int := if slt a b then -1 else if slt b a then 1 else 0
theorem scmp_lt {a b : ByteArray} (h : slt a b = true) : scmp a b = -1 := by simp [scmp, h]
theorem scmp_gt {a b : ByteArray} (h : slt b a = true) : scmp a b = 1 := by simp [scmp, slt_asymm h, h]
theorem scmp_eq (a : ByteArray) : scmp a a = 0 := by simp [scmp, slt_irrefl]
theorem scmp_neg {a b : ByteArray} : scmp a b < 0 ↔ slt a b = true := by
  unfold scmp
  split
  · simp_all
  · split <;> simp_all
theorem scmp_zero {a b : ByteArray} : scmp a b = 0 ↔ a = b := by
  unfold scmp
  split
  · rename_i h
    exact ⟨fun e => by omega, fun e => by subst e; rw [slt_irrefl] at h; cases h⟩
  · split
    · rename_i h
      exact ⟨fun e => by omega, fun e => by subst e; rw [slt_irrefl] at h; cases h⟩
    · rename_i h1 h2
      exact ⟨fun _ => slt_tri (by simpa using h1) (by simpa using h2), fun _ => rfl⟩
theorem scmp_bd (a b : ByteArray) : -1 ≤ scmp a b ∧ scmp a b ≤ 1 := by
  unfold scmp; split
  · omega
  · split <;> omega

section
variable {α : Type} {cf : α → Int} {l : List α}
/-- how many stand ahead -/
def low (cf : α → Int) : List α → Nat
  | [] => 0
  | x :: r => if cf x < 0 then low cf r + 1 else 0
/-- those ahead stand ahead of all others -/
def Mono (cf : α → Int) (l : List α) : Prop := ∀ i j, (hi : i < l.length) → (hj : j < l.length) → i ≤ j → cf l[j] < 0 → cf l[i] < 0
theorem low_le : ∀ l : List α, low cf l ≤ l.length
  | [] => Nat.le_refl _
  | x :: r => by simp only [low, List.length_cons]; split <;> have := low_le r <;> omega
theorem low_lt : ∀ {l : List α} {i : Nat} (hi : i < l.length), i < low cf l → cf l[i] < 0
  | x :: r, 0, _, h => by
    simp only [low] at h
    split at h
    · assumption
    · omega
  | x :: r, i + 1, hi, h => by
    simp only [low] at h
    split at h
    · exact low_lt (l := r) (by simpa using hi) (by omega)
    · omega
theorem low_ge : ∀ {l : List α} (h : low cf l < l.length), 0 ≤ cf l[low cf l]
  | [], h => by simp at h
  | x :: r, h => by
    by_cases hx : cf x < 0
    · have e : low cf (x :: r) = low cf r + 1 := by simp [low, hx]
      have h' : low cf r < r.length := by rw [e] at h; simpa using h
      have := low_ge h'
      simp only [e, List.getElem_cons_succ]
      exact this
    · have e : low cf (x :: r) = 0 := by simp [low, hx]
      simp only [e, List.getElem_cons_zero]
      omega
/-- what the search leaves: all below a stand ahead, none from a on -/
theorem low_uniq {a : Nat} (ha : a ≤ l.length) (h1 : ∀ i, (hi : i < l.length) → i < a → cf l[i] < 0) (h2 : ∀ i, (hi : i < l.length) → a ≤ i → 0 ≤ cf l[i]) : a = low cf l := by
  have hl := low_le (cf := cf) l
  rcases Nat.lt_trichotomy a (low cf l) with h | h | h
  · have := low_lt (cf := cf) (l := l) (i := a) (by omega) h
    have := h2 a (by omega) (Nat.le_refl _)
    omega
  · exact h
  · have := low_ge (cf := cf) (l := l) (by omega)
    have := h1 (low cf l) (by omega) h
    omega
/-- is it there? -/
def hit (cf : α → Int) (l : List α) : Bool := match l[low cf l]? with
  | some x => decide (cf x = 0)
  | none => false
theorem hit_in (h : low cf l < l.length) : hit cf l = decide (cf l[low cf l] = 0) := by simp [hit, h]
theorem hit_out (h : ¬ low cf l < l.length) : hit cf l = false := by
  have : l[low cf l]? = none := List.getElem?_eq_none (by omega)
  simp [hit, this]
end
end Go.Proofs.Ytckkeeicngblgaa.Pl
