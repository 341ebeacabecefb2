/- Plain: sorted lists, what is found in them, and what is put into them. No program in sight. -/
import Derived.Test.YtjgibmaadmkkgaaPlainPut
namespace Go.Proofs.Ytjgibmaadmkkgaa.Pl
set_option linter.unusedVariables false
section
variable {α : Type} {lt : α → α → Bool} {cf : α → Int} {l : List α}

theorem sorted_pair (htr : ∀ x y z, lt x y = true → lt y z = true → lt x z = true) (hs : sorted lt l = true) : ∀ j i, (hj : j < l.length) → (hij : i < j) → lt (l[i]'(by omega)) l[j] = true := by
  intro j
  induction j with
  | zero => intro i _ h; omega
  | succ j ih =>
    intro i hj hij
    have h1 := sorted_get hs j hj
    rcases (by omega : i < j ∨ i = j) with g | rfl
    · exact htr _ _ _ (ih i (by omega) g) h1
    · exact h1
/-- strictly: whoever stands ahead of one that is not behind the target stands ahead of the target -/
def SMono (cf : α → Int) (l : List α) : Prop := ∀ i j, (hj : j < l.length) → (hij : i < j) → cf l[j] ≤ 0 → cf (l[i]'(by omega)) < 0
theorem smono_of (htr : ∀ x y z, lt x y = true → lt y z = true → lt x z = true) (hcf : ∀ x y, lt x y = true → cf y ≤ 0 → cf x < 0) (hs : sorted lt l = true) : SMono cf l :=
  fun i j hj hij h => hcf _ _ (sorted_pair htr hs j i hj hij) h
theorem SMono.mono (h : SMono cf l) : Mono cf l := fun i j hi hj hij hc => by
  rcases (by omega : i < j ∨ i = j) with g | rfl
  · exact h i j hj g (by omega)
  · exact hc

theorem hit_lt (h : hit cf l = true) : low cf l < l.length := by
  rcases Nat.lt_or_ge (low cf l) l.length with g | g
  · exact g
  · rw [hit_out (by omega)] at h; cases h
theorem hit_zero (h : hit cf l = true) : cf (l[low cf l]'(hit_lt h)) = 0 := by
  have := hit_in (hit_lt h)
  rw [this] at h
  simpa using h
theorem low_ahead {x : α} (hx : x ∈ l.take (low cf l)) : cf x < 0 := by
  obtain ⟨i, hi, rfl⟩ := List.getElem_of_mem hx
  rw [List.length_take] at hi
  rw [List.getElem_take]
  exact low_lt (by omega) (by omega)
theorem low_behind (hm : SMono cf l) (h : hit cf l = false) {x : α} (hx : x ∈ l.drop (low cf l)) : 0 < cf x := by
  obtain ⟨i, hi, rfl⟩ := List.getElem_of_mem hx
  rw [List.length_drop] at hi
  rw [List.getElem_drop]
  have hlo : low cf l < l.length := by omega
  have h0 := low_ge hlo
  have h1 : cf l[low cf l] ≠ 0 := by
    rw [hit_in hlo] at h
    simpa using h
  rcases Nat.eq_zero_or_pos i with rfl | hp
  · simp only [Nat.add_zero]; omega
  · have := hm (low cf l) (low cf l + i) (by omega) (by omega)
    omega
theorem hit_behind (hm : SMono cf l) (h : hit cf l = true) {x : α} (hx : x ∈ l.drop (low cf l + 1)) : 0 < cf x := by
  obtain ⟨i, hi, rfl⟩ := List.getElem_of_mem hx
  rw [List.length_drop] at hi
  rw [List.getElem_drop]
  have h0 := hit_zero h
  have := hm (low cf l) (low cf l + 1 + i) (by omega) (by omega)
  omega
theorem split_at {k : Nat} (hk : k < l.length) : l = l.take k ++ l[k] :: l.drop (k + 1) := by
  rw [← List.drop_eq_getElem_cons hk, List.take_append_drop]

/-- what the reference finds -/
theorem at_sorted (hm : SMono cf l) : at_ (fun x => decide (cf x = 0)) l = if hit cf l = true then (low cf l : Int) else -1 := by
  split
  · rename_i h
    refine at_yes (hit_lt h) (fun i hi hlt => ?_) (by simpa using hit_zero h)
    have := low_lt (cf := cf) hi hlt
    simp; omega
  · rename_i h
    refine at_no fun i hi => ?_
    have hf : hit cf l = false := by simpa using h
    rcases Nat.lt_or_ge i (low cf l) with g | g
    · have := low_lt (cf := cf) hi g
      simp; omega
    · have hx : l[i] ∈ l.drop (low cf l) := by
        rw [List.mem_iff_getElem]
        exact ⟨i - low cf l, by rw [List.length_drop]; omega, by rw [List.getElem_drop]; congr 1; omega⟩
      have := low_behind hm hf hx
      simp; omega
/-- what the program puts: in its place, or in between -/
def putAt (cf : α → Int) (g : α) (l : List α) : List α := if hit cf l = true then l.set (low cf l) g else l.take (low cf l) ++ [g] ++ l.drop (low cf l)
theorem putL_sorted (hm : SMono cf l) (g : α) : putL (fun x => decide (0 ≤ cf x)) (fun x => decide (cf x ≠ 0)) g l = putAt cf g l := by
  unfold putAt
  split
  · rename_i h
    have hl := hit_lt h
    have e : l = l.take (low cf l) ++ l[low cf l] :: l.drop (low cf l + 1) := split_at hl
    have e2 : l.set (low cf l) g = l.take (low cf l) ++ g :: l.drop (low cf l + 1) := by
      rw [List.set_eq_take_append_cons_drop, if_pos hl]
    rw [e2]
    conv => lhs; arg 4; rw [e]
    refine putL_set (fun x hx => ?_) (fun x hx => ?_) ?_ ?_ (fun x hx => ?_)
    · have := low_ahead hx; simp; omega
    · have := low_ahead hx; simp; omega
    · have := hit_zero h; simp; omega
    · simpa using hit_zero h
    · have := hit_behind hm h hx; simp; omega
  · rename_i h
    have hf : hit cf l = false := by simpa using h
    conv => lhs; arg 4; rw [← List.take_append_drop (low cf l) l]
    refine putL_new (fun x hx => ?_) (fun x hx => ?_) (fun x hx => ?_) (fun x hx => ?_)
    · have := low_ahead hx; simp; omega
    · have := low_ahead hx; simp; omega
    · have := low_behind hm hf hx; simp; omega
    · have := low_behind hm hf hx; simp; omega
end
end Go.Proofs.Ytjgibmaadmkkgaa.Pl
