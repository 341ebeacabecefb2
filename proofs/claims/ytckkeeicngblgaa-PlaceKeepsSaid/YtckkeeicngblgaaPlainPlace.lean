/- Plain functions of places: no program in sight. -/

namespace Go.Proofs.Ytckkeeicngblgaa.Pl
set_option linter.unusedVariables false

/-- within two bounds -/
def wi (n a b : Int) : Bool := decide (a ≤ n) && decide (n ≤ b)
theorem wi_iff {n a b : Int} : wi n a b = true ↔ a ≤ n ∧ n ≤ b := by simp [wi]
theorem wi_no {n a b : Int} : wi n a b = false ↔ ¬ (a ≤ n ∧ n ≤ b) := by rw [← wi_iff]; simp

def okPl (x y z h s : Int) : Bool := wi x (-10000000) 10000000 && wi y (-10000000) 10000000 && wi z (-10000000) 10000000 && wi h 0 1000000 && wi s 0 1000
/-- what is wrong with a place -/
def ckPl (x y z h s : Int) : Int := if okPl x y z h s then 0 else 3
end Go.Proofs.Ytckkeeicngblgaa.Pl
