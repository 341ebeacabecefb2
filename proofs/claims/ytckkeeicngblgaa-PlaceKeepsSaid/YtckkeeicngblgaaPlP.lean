/- Plain: places, moved. No program in sight (but for the order of texts). -/
import Derived.Test.YtckkeeicngblgaaPlainFar
import Derived.Test.YtckkeeicngblgaaFCom
namespace Go.Proofs.Ytckkeeicngblgaa.Pl
set_option linter.unusedVariables false
structure Pc where
  x : Int
  y : Int
  z : Int
  h : Int
  s : Int
def Pc.row (p : Pc) : List V := [.v (.int .i64 p.x), .v (.int .i64 p.y), .v (.int .i64 p.z), .v (.int .i64 p.h), .v (.int .i64 p.s)]
instance : FlatRow Pc.row := ⟨fun x u hu => by simp [Pc.row] at hu; rcases hu with rfl | rfl | rfl | rfl | rfl <;> exact ⟨_, rfl⟩⟩
def Pc.ok (p : Pc) : Prop := True
def Pc.okb (p : Pc) : Bool := okPl p.x p.y p.z p.h p.s
def Pc.err (p : Pc) : Int := ckPl p.x p.y p.z p.h p.s
theorem Pc.err_ok {p : Pc} (h : p.okb = true) : p.err = 0 := by unfold Pc.err ckPl; unfold Pc.okb at h; rw [if_pos h]
theorem Pc.err_bad {p : Pc} (h : p.okb = false) : p.err = 3 := by unfold Pc.err ckPl; unfold Pc.okb at h; rw [if_neg (by rw [h]; decide)]
theorem Pc.err_iff {p : Pc} : p.err = 0 ↔ p.okb = true := by
  cases h : p.okb with
  | true => simp [Pc.err_ok h]
  | false => simp [Pc.err_bad h]
def Pc.flat (a b : Pc) : Int := Pl.flat a.x a.y a.z b.x b.y b.z
def Pc.far (a b : Pc) : Int := Pl.far a.x a.y a.z a.h b.x b.y b.z b.h
def farM (a b : Pc) : Int × Int := if a.okb = true then (if b.okb = true then (0, a.far b) else (3, 0)) else (3, 0)
def bnd (n least most : Int) : Int := max least (min most n)
def weight (a b : Pc) : Int := if 0 < a.s + b.s then (a.s * 1000).tdiv (a.s + b.s) else 500
def pull (a b : Pc) (round : Int) : Int := ((round - a.far b) * weight a b).tdiv 4000
def wrongP (a b : Pc) (round : Int) : Int := min 1000 ((max (round - a.far b) (a.far b - round) * 1000).tdiv round)
def alongP (s d u v : Int) : Int := bnd (u + (s * (u - v)).tdiv d) (-10000000) 10000000
/-- what Move gives, of what is right -/
def moveR (a b : Pc) (round : Int) : Pc :=
  ⟨if 0 < a.flat b then alongP (pull a b round) (a.flat b) a.x b.x else bnd (a.x + pull a b round) (-10000000) 10000000,
   if 0 < a.flat b then alongP (pull a b round) (a.flat b) a.y b.y else a.y,
   if 0 < a.flat b then alongP (pull a b round) (a.flat b) a.z b.z else a.z,
   bnd (a.h + (pull a b round).tdiv 10) 0 1000000,
   bnd (a.s + ((wrongP a b round - a.s) * weight a b).tdiv 4000) 0 1000⟩
def moveM (a b : Pc) (round : Int) : Int × Pc :=
  if a.okb = true then (if b.okb = true then (if wi round 1 5000000 = true then (0, moveR a b round) else (3, ⟨0, 0, 0, 0, 0⟩)) else (3, ⟨0, 0, 0, 0, 0⟩)) else (3, ⟨0, 0, 0, 0, 0⟩)
theorem mul_bd {x y A B : Int} (hx : -A ≤ x ∧ x ≤ A) (hy : -B ≤ y ∧ y ≤ B) : -(A * B) ≤ x * y ∧ x * y ≤ A * B := by
  have e : (x * y).natAbs ≤ (A * B).natAbs := by
    rw [Int.natAbs_mul, Int.natAbs_mul]
    exact Nat.mul_le_mul (by omega) (by omega)
  have h : 0 ≤ A * B := Int.mul_nonneg (by omega) (by omega)
  omega
theorem tdiv_bd {x y A : Int} (hx : -A ≤ x ∧ x ≤ A) : -A ≤ x.tdiv y ∧ x.tdiv y ≤ A := by
  have e : (x.tdiv y).natAbs ≤ x.natAbs := by rw [Int.natAbs_tdiv]; exact Nat.div_le_self _ _
  omega
theorem tdiv_nn {x y : Int} (hx : 0 ≤ x) (hy : 0 ≤ y) : 0 ≤ x.tdiv y := Int.tdiv_nonneg hx hy
theorem far_bd {a b : Pc} (h : a.okb = true) (h' : b.okb = true) : (0 ≤ a.flat b ∧ a.flat b ≤ 34641017) ∧ (0 ≤ a.far b ∧ a.far b ≤ 36641017) := by
  have f := flat_ok h h'
  obtain ⟨_, _, _, ⟨a7, a8⟩, _⟩ := okPl_iff.1 h
  obtain ⟨_, _, _, ⟨b7, b8⟩, _⟩ := okPl_iff.1 h'
  refine ⟨f, ?_⟩
  unfold Pc.far Pl.far
  omega
theorem weight_bd {a b : Pc} (h : a.okb = true) (h' : b.okb = true) : 0 ≤ weight a b ∧ weight a b ≤ 1000 := by
  obtain ⟨_, _, _, _, ⟨a7, a8⟩⟩ := okPl_iff.1 h
  obtain ⟨_, _, _, _, ⟨b7, b8⟩⟩ := okPl_iff.1 h'
  unfold weight
  split
  · rename_i hp
    refine ⟨tdiv_nn (by omega) (by omega), ?_⟩
    rw [Int.tdiv_eq_ediv_of_nonneg (by omega)]
    exact Int.ediv_le_of_le_mul hp (by omega)
  · omega
theorem pull_bd {a b : Pc} {r : Int} (h : a.okb = true) (h' : b.okb = true) (hr : wi r 1 5000000 = true) : (-36641017000 ≤ (r - a.far b) * weight a b ∧ (r - a.far b) * weight a b ≤ 36641017000) ∧ (-36641017000 ≤ pull a b r ∧ pull a b r ≤ 36641017000) := by
  have f := (far_bd h h').2
  have w := weight_bd h h'
  have hr' := wi_iff.1 hr
  have m := mul_bd (x := r - a.far b) (y := weight a b) (A := 36641017) (B := 1000) (by omega) (by omega)
  have e : (36641017 : Int) * 1000 = 36641017000 := by decide
  rw [e] at m
  exact ⟨m, tdiv_bd m⟩
theorem wrong_bd {a b : Pc} {r : Int} (h : a.okb = true) (h' : b.okb = true) (hr : wi r 1 5000000 = true) : 0 ≤ wrongP a b r ∧ wrongP a b r ≤ 1000 := by
  have f := (far_bd h h').2
  have hr' := wi_iff.1 hr
  unfold wrongP
  have := tdiv_nn (x := max (r - a.far b) (a.far b - r) * 1000) (y := r) (by omega) (by omega)
  omega
theorem sure_bd {a b : Pc} {r : Int} (h : a.okb = true) (h' : b.okb = true) (hr : wi r 1 5000000 = true) : (-1000000 ≤ (wrongP a b r - a.s) * weight a b ∧ (wrongP a b r - a.s) * weight a b ≤ 1000000) ∧ (-1000000 ≤ ((wrongP a b r - a.s) * weight a b).tdiv 4000 ∧ ((wrongP a b r - a.s) * weight a b).tdiv 4000 ≤ 1000000) := by
  have f := wrong_bd h h' hr
  have w := weight_bd h h'
  obtain ⟨_, _, _, _, ⟨a7, a8⟩⟩ := okPl_iff.1 h
  have m := mul_bd (x := wrongP a b r - a.s) (y := weight a b) (A := 1000) (B := 1000) (by omega) (by omega)
  have e : (1000 : Int) * 1000 = 1000000 := by decide
  rw [e] at m
  exact ⟨m, tdiv_bd m⟩
theorem step_bd {s d u v : Int} (hs : -36641017000 ≤ s ∧ s ≤ 36641017000) (hu : -10000000 ≤ u ∧ u ≤ 10000000) (hv : -10000000 ≤ v ∧ v ≤ 10000000) : (-732820340000000000 ≤ s * (u - v) ∧ s * (u - v) ≤ 732820340000000000) ∧ (-732820340000000000 ≤ (s * (u - v)).tdiv d ∧ (s * (u - v)).tdiv d ≤ 732820340000000000) := by
  have m := mul_bd (x := s) (y := u - v) (A := 36641017000) (B := 20000000) hs (by omega)
  have e : (36641017000 : Int) * 20000000 = 732820340000000000 := by decide
  rw [e] at m
  exact ⟨m, tdiv_bd m⟩
theorem bnd_if {n l m : Int} (h : l ≤ m) : bnd n l m = if n < l then l else if m < n then m else n := by
  unfold bnd; split
  · omega
  · split <;> omega
theorem bnd_in {n l m : Int} (h : l ≤ m) : l ≤ bnd n l m ∧ bnd n l m ≤ m := by unfold bnd; omega
theorem bnd_id {n l m : Int} (h1 : l ≤ n) (h2 : n ≤ m) : bnd n l m = n := by unfold bnd; omega
theorem flat_comm' (a b : Pc) : a.flat b = b.flat a := flat_comm _ _ _ _ _ _
theorem far_comm (a b : Pc) : a.far b = b.far a := by
  have := flat_comm' a b
  unfold Pc.flat at this
  unfold Pc.far Pl.far
  omega
theorem move_okb {a b : Pc} {r : Int} (h : a.okb = true) : (moveR a b r).okb = true := by
  obtain ⟨a1, a2, a3, a4, a5⟩ := okPl_iff.1 h
  refine okPl_iff.2 ⟨?_, ?_, ?_, bnd_in (by omega), bnd_in (by omega)⟩
  · show _ ≤ (if _ then _ else _) ∧ (if _ then _ else _) ≤ _
    split
    · exact bnd_in (by omega)
    · exact bnd_in (by omega)
  · show _ ≤ (if _ then _ else _) ∧ (if _ then _ else _) ≤ _
    split
    · exact bnd_in (by omega)
    · exact a2
  · show _ ≤ (if _ then _ else _) ∧ (if _ then _ else _) ≤ _
    split
    · exact bnd_in (by omega)
    · exact a3
/-- a round that took just as long as told -/
theorem move_same {a b : Pc} (h : a.okb = true) (h' : b.okb = true) (hr : wi (a.far b) 1 5000000 = true) : (moveR a b (a.far b)).x = a.x ∧ (moveR a b (a.far b)).y = a.y ∧ (moveR a b (a.far b)).z = a.z ∧ (moveR a b (a.far b)).h = a.h ∧ (moveR a b (a.far b)).s ≤ a.s := by
  obtain ⟨a1, a2, a3, a4, a5⟩ := okPl_iff.1 h
  have p0 : pull a b (a.far b) = 0 := by unfold pull; rw [Int.sub_self, Int.zero_mul]; decide
  have hr' := wi_iff.1 hr
  have w0 : wrongP a b (a.far b) = 0 := by
    unfold wrongP
    rw [Int.sub_self]
    simp
    decide
  have w := weight_bd h h'
  have al : ∀ u v : Int, -10000000 ≤ u ∧ u ≤ 10000000 → alongP 0 (a.flat b) u v = u := fun u v hu => by
    unfold alongP
    rw [Int.zero_mul, Int.zero_tdiv, Int.add_zero]
    exact bnd_id hu.1 hu.2
  refine ⟨?_, ?_, ?_, ?_, ?_⟩
  · show (if _ then _ else _) = _
    rw [p0]
    split
    · exact al _ _ a1
    · rw [Int.add_zero]; exact bnd_id a1.1 a1.2
  · show (if _ then _ else _) = _
    rw [p0]
    split
    · exact al _ _ a2
    · rfl
  · show (if _ then _ else _) = _
    rw [p0]
    split
    · exact al _ _ a3
    · rfl
  · show bnd _ _ _ = _
    rw [p0, Int.zero_tdiv, Int.add_zero]
    exact bnd_id a4.1 a4.2
  · show bnd _ _ _ ≤ _
    rw [w0]
    have m : (0 - a.s) * weight a b ≤ 0 := Int.mul_nonpos_of_nonpos_of_nonneg (by omega) w.1
    have t : ((0 - a.s) * weight a b).tdiv 4000 ≤ 0 := by
      have e : (0 - a.s) * weight a b = -(a.s * weight a b) := by rw [Int.zero_sub, Int.neg_mul]
      rw [e, Int.neg_tdiv]
      have := tdiv_nn (x := a.s * weight a b) (y := 4000) (Int.mul_nonneg a5.1 w.1) (by omega)
      omega
    unfold bnd
    omega
theorem pl_dec (row : List V) (h : Fits [.i, .i, .i, .i, .i] row) : ∃ m : Pc, row = m.row ∧ m.ok := by
  obtain ⟨u0, _, rfl, f0, h⟩ := fits_cons h
  obtain ⟨u1, _, rfl, f1, h⟩ := fits_cons h
  obtain ⟨u2, _, rfl, f2, h⟩ := fits_cons h
  obtain ⟨u3, _, rfl, f3, h⟩ := fits_cons h
  obtain ⟨u4, _, rfl, f4, h⟩ := fits_cons h
  obtain rfl := fits_nil h
  obtain ⟨a, rfl, _⟩ := fit_i f0
  obtain ⟨b, rfl, _⟩ := fit_i f1
  obtain ⟨c, rfl, _⟩ := fit_i f2
  obtain ⟨d, rfl, _⟩ := fit_i f3
  obtain ⟨e, rfl, _⟩ := fit_i f4
  exact ⟨⟨a, b, c, d, e⟩, rfl, trivial⟩
end Go.Proofs.Ytckkeeicngblgaa.Pl
