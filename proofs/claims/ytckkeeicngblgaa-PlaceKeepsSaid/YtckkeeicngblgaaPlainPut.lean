/- Plain: a list into which a thing is put in its place. No program in sight. -/
import Derived.Test.YtckkeeicngblgaaPlainBs
import Derived.Test.YtckkeeicngblgaaPlainList
namespace Go.Proofs.Ytckkeeicngblgaa.Pl
set_option linter.unusedVariables false
section
variable {α : Type}

/-- the first place at which p holds; -1: there is none -/
def at_ (p : α → Bool) (l : List α) : Int := match l.findIdx? p with
  | some i => (i : Int)
  | none => -1
theorem at_yes {p : α → Bool} {l : List α} {k : Nat} (hk : k < l.length) (h0 : ∀ i, (h : i < l.length) → i < k → p l[i] = false) (h1 : p l[k] = true) : at_ p l = k := by
  have : l.findIdx? p = some k := by
    rw [List.findIdx?_eq_some_iff_getElem]
    exact ⟨hk, h1, fun j hj => by simp [h0 j (by omega) hj]⟩
  simp [at_, this]
theorem at_no {p : α → Bool} {l : List α} (h0 : ∀ i, (h : i < l.length) → p l[i] = false) : at_ p l = -1 := by
  have : l.findIdx? p = none := by
    rw [List.findIdx?_eq_none_iff]
    intro x hx
    obtain ⟨i, hi, rfl⟩ := List.getElem_of_mem hx
    exact h0 i hi
  simp [at_, this]
theorem at_inv {p : α → Bool} {l : List α} : (at_ p l = -1 ∧ ∀ i, (h : i < l.length) → p l[i] = false) ∨ ∃ k, ∃ hk : k < l.length, at_ p l = (k : Int) ∧ p l[k] = true ∧ ∀ i, (h : i < l.length) → i < k → p l[i] = false := by
  cases h : l.findIdx? p with
  | none =>
    left
    refine ⟨by simp [at_, h], fun i hi => ?_⟩
    rw [List.findIdx?_eq_none_iff] at h
    exact h _ (List.getElem_mem hi)
  | some k =>
    right
    rw [List.findIdx?_eq_some_iff_getElem] at h
    obtain ⟨hk, h1, h2⟩ := h
    refine ⟨k, hk, ?_, h1, fun i hi hik => by simpa using h2 i hik⟩
    have : l.findIdx? p = some k := by
      rw [List.findIdx?_eq_some_iff_getElem]
      exact ⟨hk, h1, h2⟩
    simp [at_, this]

/-- one round: ahead of the first that does not stand ahead (ge) the new one is put; what has its key (not ne) is left out -/
def putStep (ge ne : α → Bool) (g : α) (st : List α × Bool) (x : α) : List α × Bool :=
  if (!st.2 && ge x) = true then (if ne x = true then (st.1 ++ [g] ++ [x], true) else (st.1 ++ [g], true))
  else (if ne x = true then (st.1 ++ [x], st.2) else st)
def putTo (ge ne : α → Bool) (g : α) (l : List α) : List α × Bool := l.foldl (putStep ge ne g) ([], false)
def putL (ge ne : α → Bool) (g : α) (l : List α) : List α := if (putTo ge ne g l).2 = true then (putTo ge ne g l).1 else (putTo ge ne g l).1 ++ [g]

theorem putTo_snoc {ge ne : α → Bool} {g : α} (l : List α) (x : α) : putTo ge ne g (l ++ [x]) = putStep ge ne g (putTo ge ne g l) x := by
  simp [putTo, List.foldl_append]
theorem take_snoc_ {l : List α} {k : Nat} (hk : k < l.length) : l.take (k + 1) = l.take k ++ [l[k]] := by
  rw [List.take_succ_eq_append_getElem hk]
theorem putTo_next {ge ne : α → Bool} {g : α} {l : List α} {k : Nat} (hk : k < l.length) : putTo ge ne g (l.take (k + 1)) = putStep ge ne g (putTo ge ne g (l.take k)) l[k] := by
  rw [take_snoc_ hk, putTo_snoc]
theorem putStep_len {ge ne : α → Bool} {g : α} (st : List α × Bool) (x : α) : (putStep ge ne g st x).1.length ≤ st.1.length + 2 := by
  unfold putStep
  split <;> split <;> simp
theorem putTo_len {ge ne : α → Bool} {g : α} : ∀ (n : Nat) (l : List α), l.length = n → (putTo ge ne g l).1.length ≤ 2 * n := by
  intro n
  induction n with
  | zero => intro l h; obtain rfl := List.eq_nil_of_length_eq_zero h; simp [putTo]
  | succ n ih =>
    intro l h
    have hk : n < l.length := by omega
    have e : l = l.take (n + 1) := (List.take_of_length_le (by omega)).symm
    rw [e, putTo_next hk]
    have h1 := ih (l.take n) (by rw [List.length_take]; omega)
    have h2 := putStep_len (ge := ge) (ne := ne) (g := g) (putTo ge ne g (l.take n)) l[n]
    omega

/-- all ahead of it: nothing is put yet -/
theorem putTo_ahead {ge ne : α → Bool} {g : α} {l : List α} (h1 : ∀ x ∈ l, ge x = false) (h2 : ∀ x ∈ l, ne x = true) : ∀ (k : Nat), k ≤ l.length → putTo ge ne g (l.take k) = (l.take k, false) := by
  intro k
  induction k with
  | zero => intro _; simp [putTo]
  | succ k ih =>
    intro hk
    have hk' : k < l.length := hk
    rw [putTo_next hk', ih (by omega), take_snoc_ hk']
    simp [putStep, h1 _ (List.getElem_mem hk'), h2 _ (List.getElem_mem hk')]
/-- behind: what is left is taken over -/
theorem putTo_behind {ge ne : α → Bool} {g : α} {pre : List α} {out : List α} (hp : putTo ge ne g pre = (out, true)) {r : List α} (h2 : ∀ x ∈ r, ne x = true) : ∀ (k : Nat), k ≤ r.length → putTo ge ne g (pre ++ r.take k) = (out ++ r.take k, true) := by
  intro k
  induction k with
  | zero => intro _; simp [hp]
  | succ k ih =>
    intro hk
    have hk' : k < r.length := hk
    rw [take_snoc_ hk', ← List.append_assoc, putTo_snoc, ih (by omega)]
    simp [putStep, h2 _ (List.getElem_mem hk')]

/-- put, where those ahead stand in front: not there: in between -/
theorem putL_new {ge ne : α → Bool} {g : α} {pre r : List α} (h1 : ∀ x ∈ pre, ge x = false) (h2 : ∀ x ∈ pre, ne x = true) (h3 : ∀ x ∈ r, ge x = true) (h4 : ∀ x ∈ r, ne x = true) :
    putL ge ne g (pre ++ r) = pre ++ [g] ++ r := by
  have hp : putTo ge ne g pre = (pre, false) := by simpa using putTo_ahead h1 h2 pre.length (Nat.le_refl _)
  cases r with
  | nil => simp [putL, hp]
  | cons x r =>
    have hx : putTo ge ne g (pre ++ [x]) = (pre ++ [g] ++ [x], true) := by
      rw [putTo_snoc, hp]
      simp [putStep, h3 x (by simp), h4 x (by simp)]
    have := putTo_behind hx (r := r) (fun y hy => h4 y (by simp [hy])) r.length (Nat.le_refl _)
    rw [List.take_length] at this
    have e : pre ++ x :: r = pre ++ [x] ++ r := by simp
    rw [e]
    unfold putL
    rw [this]
    simp
/-- there already: in its place -/
theorem putL_set {ge ne : α → Bool} {g x : α} {pre r : List α} (h1 : ∀ x ∈ pre, ge x = false) (h2 : ∀ x ∈ pre, ne x = true) (hx : ge x = true) (hx' : ne x = false) (h4 : ∀ x ∈ r, ne x = true) :
    putL ge ne g (pre ++ x :: r) = pre ++ g :: r := by
  have hp : putTo ge ne g pre = (pre, false) := by simpa using putTo_ahead h1 h2 pre.length (Nat.le_refl _)
  have hx2 : putTo ge ne g (pre ++ [x]) = (pre ++ [g], true) := by
    rw [putTo_snoc, hp]
    simp [putStep, hx, hx']
  have := putTo_behind hx2 (r := r) h4 r.length (Nat.le_refl _)
  rw [List.take_length] at this
  have e : pre ++ x :: r = pre ++ [x] ++ r := by simp
  rw [e]
  unfold putL
  rw [this]
  simp
end
end Go.Proofs.Ytckkeeicngblgaa.Pl
