/- Plain: what a label is. No program in sight. -/
namespace Go.Proofs.Ytckkeeicngblgaa.Pl
set_option linter.unusedVariables false

/-- may a byte stand in a label? -/
def okB (n : Int) : Bool := decide ((97 ≤ n ∧ n ≤ 122) ∨ (48 ≤ n ∧ n ≤ 57) ∨ n = 45 ∨ n = 95)
/-- is a text a label? -/
def lab (s : List UInt8) : Bool := s.all (fun c => okB c.toNat) && decide (1 ≤ s.length ∧ s.length ≤ 30)

theorem lab_yes {s : List UInt8} (h : ∀ i, (hi : i < s.length) → okB (s[i]).toNat = true) (h1 : 1 ≤ s.length) (h2 : s.length ≤ 30) : lab s = true := by
  unfold lab
  rw [Bool.and_eq_true_iff]
  refine ⟨List.all_eq_true.2 fun c hc => ?_, by simp; omega⟩
  obtain ⟨i, hi, rfl⟩ := List.getElem_of_mem hc
  exact h i hi
theorem lab_bad {s : List UInt8} {i : Nat} (hi : i < s.length) (h : okB (s[i]).toNat = false) : lab s = false := by
  unfold lab
  rw [Bool.and_eq_false_iff]
  left
  rw [List.all_eq_false]
  exact ⟨s[i], List.getElem_mem hi, by simp [h]⟩
theorem lab_long {s : List UInt8} (h : ¬ (1 ≤ s.length ∧ s.length ≤ 30)) : lab s = false := by
  unfold lab
  simp only [h, decide_false, Bool.and_false]
theorem lab_bd {s : List UInt8} (h : lab s = true) : 1 ≤ s.length ∧ s.length ≤ 30 := by
  unfold lab at h
  simp only [Bool.and_eq_true, decide_eq_true_eq] at h
  exact h.2
theorem okB_no {n : Int} (h : ¬ ((97 ≤ n ∧ n ≤ 122) ∨ (48 ≤ n ∧ n ≤ 57) ∨ n = 45 ∨ n = 95)) : okB n = false := by
  unfold okB; simpa using h
theorem okB_yes {n : Int} (h : (97 ≤ n ∧ n ≤ 122) ∨ (48 ≤ n ∧ n ≤ 57) ∨ n = 45 ∨ n = 95) : okB n = true := by
  unfold okB; simpa using h
end Go.Proofs.Ytckkeeicngblgaa.Pl
