/- Plain: lists that are checked element by element, and for order. No program in sight. -/
namespace Go.Proofs.Ytckkeeicngblgaa.Pl
set_option linter.unusedVariables false
section
variable {α : Type}

/-- the first thing that is wrong; 0: nothing is -/
def firstErr (e : α → Int) : List α → Int
  | [] => 0
  | x :: r => if e x = 0 then firstErr e r else e x
/-- does each stand ahead of the next? -/
def sorted (lt : α → α → Bool) : List α → Bool
  | [] => true
  | [_] => true
  | x :: y :: r => lt x y && sorted lt (y :: r)
/-- what is wrong with a list of so many at most -/
def ckL (mx : Nat) (e : α → Int) (lt : α → α → Bool) (l : List α) : Int :=
  if mx < l.length then 2 else if firstErr e l = 0 then (if sorted lt l then 0 else 4) else firstErr e l

theorem firstErr_zero {e : α → Int} : ∀ {l : List α}, (∀ i, (h : i < l.length) → e l[i] = 0) → firstErr e l = 0
  | [], _ => rfl
  | x :: r, h => by
    have h0 : e x = 0 := h 0 (by simp)
    simp only [firstErr, h0, if_true]
    exact firstErr_zero fun i hi => h (i + 1) (by simpa using hi)
theorem firstErr_at {e : α → Int} : ∀ {l : List α} {k : Nat} (hk : k < l.length), (∀ i, (h : i < l.length) → i < k → e l[i] = 0) → e l[k] ≠ 0 → firstErr e l = e l[k]
  | x :: r, 0, _, _, hne => by
    simp only [List.getElem_cons_zero] at hne ⊢
    simp [firstErr, hne]
  | x :: r, k + 1, hk, h, hne => by
    have h0 : e x = 0 := h 0 (by simp) (by omega)
    simp only [firstErr, h0, if_true, List.getElem_cons_succ] at hne ⊢
    exact firstErr_at (by simpa using hk) (fun i hi hik => h (i + 1) (by simpa using hi) (by omega)) hne
theorem sorted_of {lt : α → α → Bool} : ∀ {l : List α}, (∀ i, (h : i + 1 < l.length) → lt l[i] l[i + 1] = true) → sorted lt l = true
  | [], _ => rfl
  | [_], _ => rfl
  | x :: y :: r, h => by
    simp only [sorted, Bool.and_eq_true_iff]
    exact ⟨h 0 (by simp), sorted_of fun i hi => h (i + 1) (by simpa using hi)⟩
theorem sorted_not {lt : α → α → Bool} : ∀ {l : List α} {k : Nat} (hk : k + 1 < l.length), lt l[k] l[k + 1] = false → sorted lt l = false
  | [_], k, hk, _ => by simp at hk
  | x :: y :: r, 0, _, h => by
    simp only [List.getElem_cons_zero, List.getElem_cons_succ] at h
    simp [sorted, h]
  | x :: y :: r, k + 1, hk, h => by
    have : sorted lt (y :: r) = false := sorted_not (k := k) (by simpa using hk) (by simpa using h)
    simp [sorted, this]
theorem sorted_get {lt : α → α → Bool} : ∀ {l : List α}, sorted lt l = true → ∀ i, (h : i + 1 < l.length) → lt l[i] l[i + 1] = true
  | [], _, i, h => by simp at h
  | [_], _, i, h => by simp at h
  | x :: y :: r, hs, 0, _ => by
    simp only [sorted, Bool.and_eq_true_iff] at hs
    exact hs.1
  | x :: y :: r, hs, i + 1, h => by
    simp only [sorted, Bool.and_eq_true_iff] at hs
    exact sorted_get hs.2 i (by simpa using h)
theorem firstErr_get {e : α → Int} : ∀ {l : List α}, firstErr e l = 0 → ∀ i, (h : i < l.length) → e l[i] = 0
  | [], _, i, h => by simp at h
  | x :: r, hs, i, h => by
    by_cases h0 : e x = 0
    · simp only [firstErr, h0, if_true] at hs
      cases i with
      | zero => exact h0
      | succ i => exact firstErr_get hs i (by simpa using h)
    · simp [firstErr, h0] at hs

variable {mx : Nat} {e : α → Int} {lt : α → α → Bool} {l : List α}
theorem ckL_long (h : mx < l.length) : ckL mx e lt l = 2 := by simp [ckL, h]
theorem ckL_err {k : Nat} (h : l.length ≤ mx) (hk : k < l.length) (h0 : ∀ i, (hi : i < l.length) → i < k → e l[i] = 0) (h1 : e l[k] ≠ 0) : ckL mx e lt l = e l[k] := by
  have hf := firstErr_at hk h0 h1
  unfold ckL
  rw [if_neg (by omega), if_neg (by rw [hf]; exact h1), hf]
theorem ckL_unsorted {k : Nat} (h : l.length ≤ mx) (h0 : ∀ i, (hi : i < l.length) → e l[i] = 0) (hk : k + 1 < l.length) (h1 : lt l[k] l[k + 1] = false) : ckL mx e lt l = 4 := by
  unfold ckL
  rw [if_neg (by omega), if_pos (firstErr_zero h0), sorted_not hk h1]
  rfl
theorem ckL_ok (h : l.length ≤ mx) (h0 : ∀ i, (hi : i < l.length) → e l[i] = 0) (h1 : ∀ i, (hi : i + 1 < l.length) → lt l[i] l[i + 1] = true) : ckL mx e lt l = 0 := by
  unfold ckL
  rw [if_neg (by omega), if_pos (firstErr_zero h0), sorted_of h1]
  rfl
theorem ckL_inv (he : ∀ x, e x = 0 ∨ e x = 1 ∨ e x = 3 ∨ e x = 7) (h : ckL mx e lt l = 0) : l.length ≤ mx ∧ (∀ i, (hi : i < l.length) → e l[i] = 0) ∧ sorted lt l = true := by
  unfold ckL at h
  split at h
  · omega
  · split at h
    · rename_i h1 h2
      split at h
      · rename_i h3
        exact ⟨by omega, firstErr_get h2, h3⟩
      · omega
    · rename_i h1 h2
      exact absurd h h2
end
end Go.Proofs.Ytckkeeicngblgaa.Pl
