/- Plain arithmetic of the integer square root: no program in sight. -/
namespace Go.Proofs.Ytckkeeicngblgaa.Pl
set_option linter.unusedVariables false

def isqAux (n : Nat) : Nat → Nat
  | 0 => 0
  | k + 1 => if (k + 1) * (k + 1) ≤ n then k + 1 else isqAux n k

/-- the greatest number whose square is not more -/
def isq (n : Nat) : Nat := isqAux n n

theorem isqAux_sq (n k : Nat) : isqAux n k * isqAux n k ≤ n := by
  induction k with
  | zero => simp [isqAux]
  | succ k ih =>
    unfold isqAux
    split
    · assumption
    · exact ih

theorem isqAux_lt (n k : Nat) (h : n < (k + 1) * (k + 1)) : n < (isqAux n k + 1) * (isqAux n k + 1) := by
  induction k with
  | zero => simpa [isqAux] using h
  | succ k ih =>
    unfold isqAux
    split
    · exact h
    · exact ih (by omega)

theorem isq_sq (n : Nat) : isq n * isq n ≤ n := isqAux_sq n n
theorem isq_lt (n : Nat) : n < (isq n + 1) * (isq n + 1) := isqAux_lt n n (by rw [Nat.add_mul]; omega)

theorem isq_uniq (n r : Nat) (h1 : r * r ≤ n) (h2 : n < (r + 1) * (r + 1)) : isq n = r := by
  have a := isq_sq n
  have b := isq_lt n
  rcases Nat.lt_trichotomy (isq n) r with h | h | h
  · have := Nat.mul_le_mul (show isq n + 1 ≤ r from h) (show isq n + 1 ≤ r from h); omega
  · exact h
  · have := Nat.mul_le_mul (show r + 1 ≤ isq n from h) (show r + 1 ≤ isq n from h); omega

/-- the root of a number from 0 on, as an integer -/
def rt (n : Int) : Int := (isq n.toNat : Int)

theorem rt_nonneg (n : Int) : 0 ≤ rt n := Int.natCast_nonneg _
theorem rt_sq (n : Int) (h : 0 ≤ n) : rt n * rt n ≤ n := by
  have := isq_sq n.toNat
  unfold rt
  have e : ((isq n.toNat * isq n.toNat : Nat) : Int) ≤ (n.toNat : Int) := Int.ofNat_le.2 this
  rw [Int.natCast_mul] at e
  omega
theorem rt_lt (n : Int) (h : 0 ≤ n) : n < (rt n + 1) * (rt n + 1) := by
  have := isq_lt n.toNat
  unfold rt
  have e : (n.toNat : Int) < ((isq n.toNat + 1) * (isq n.toNat + 1) : Nat) := Int.ofNat_lt.2 this
  rw [Int.natCast_mul] at e
  simp only [Int.natCast_add, Int.natCast_one] at e
  omega
theorem sq_mono {a b : Int} (h0 : 0 ≤ a) (h : a ≤ b) : a * a ≤ b * b := Int.mul_le_mul h h h0 (by omega)
theorem sq_le {a b : Int} (h0 : 0 ≤ b) (h : a * a < (b + 1) * (b + 1)) : a ≤ b := by
  rcases Int.lt_or_le b a with g | g
  · have := sq_mono (show 0 ≤ b + 1 by omega) (show b + 1 ≤ a by omega); omega
  · exact g
theorem rt_le {n r : Int} (h : 0 ≤ n) (h0 : 0 ≤ r) (h2 : n < (r + 1) * (r + 1)) : rt n ≤ r := by
  have := rt_sq n h
  exact sq_le h0 (by omega)
theorem le_rt {n r : Int} (h : 0 ≤ n) (h2 : r * r ≤ n) : r ≤ rt n := by
  have := rt_lt n h
  exact sq_le (rt_nonneg n) (by omega)
theorem rt_uniq {n r : Int} (h0 : 0 ≤ r) (h1 : r * r ≤ n) (h2 : n < (r + 1) * (r + 1)) : rt n = r := by
  have hn : 0 ≤ n := Int.le_trans (Int.mul_nonneg h0 h0) h1
  have a := rt_le hn h0 h2
  have b := le_rt hn h1
  omega
theorem rt_max (n : Int) (h : 0 ≤ n) (hm : n ≤ 9223372036854775807) : rt n ≤ 3037000499 := rt_le h (by omega) (by omega)

theorem div_bounds {n x : Int} (hn : 0 ≤ n) (hx : 1 ≤ x) : 0 ≤ n / x ∧ x * (n / x) ≤ n ∧ n < x * (n / x) + x := by
  have := Int.mul_ediv_add_emod n x
  have := Int.emod_nonneg n (show x ≠ 0 by omega)
  have := Int.emod_lt_of_pos n (show 0 < x by omega)
  exact ⟨Int.ediv_nonneg hn (by omega), by omega, by omega⟩

theorem amgm {a b s : Int} (h0 : 0 ≤ a) (h1 : 0 ≤ b) (h : a + b ≤ 2 * s) : a * b ≤ s * s := by
  have h2 : (a + b) * (a + b) ≤ (2 * s) * (2 * s) := sq_mono (by omega) h
  have h3 : 0 ≤ (a - b) * (a - b) := by
    rcases Int.le_total 0 (a - b) with g | g
    · exact Int.mul_nonneg g g
    · exact Int.mul_nonneg_of_nonpos_of_nonpos g g
  have e : (a - b) * (a - b) = (a + b) * (a + b) - 4 * (a * b) := by grind
  have e2 : (2 * s) * (2 * s) = 4 * (s * s) := by grind
  omega

/-- a step of the first loop -/
theorem up_le {n x : Int} (hn : 0 ≤ n) (hm : n ≤ 9223372036854775807) (hx : 1 ≤ x) (h : x ≤ n / x) : x ≤ 3037000499 := by
  obtain ⟨a, b, c⟩ := div_bounds hn hx
  have : x * x ≤ x * (n / x) := Int.mul_le_mul_of_nonneg_left h (by omega)
  exact sq_le (by omega) (by omega)
theorem up_end {n x : Int} (hn : 0 ≤ n) (hx : 1 ≤ x) (h : n / x < x) : rt n ≤ x := by
  obtain ⟨a, b, c⟩ := div_bounds hn hx
  have : x * (n / x) ≤ x * (x - 1) := Int.mul_le_mul_of_nonneg_left (by omega) (by omega)
  have e : x * (x - 1) = x * x - x := by grind
  have e2 : (x + 1) * (x + 1) = x * x + 2 * x + 1 := by grind
  exact rt_le hn (by omega) (by omega)
/-- the quotient in the second loop -/
theorem down_q {n x : Int} (hn : 1 ≤ n) (hx : 1 ≤ x) (h : rt n ≤ x) : n / x ≤ rt n + 2 := by
  have a := rt_lt n (by omega)
  have b : 1 ≤ rt n := le_rt (by omega) (by omega)
  refine Int.ediv_le_of_le_mul (by omega) ?_
  have e : (rt n + 1) * (rt n + 1) = (rt n + 2) * rt n + 1 := by grind
  have : (rt n + 2) * rt n ≤ (rt n + 2) * x := Int.mul_le_mul_of_nonneg_left h (by omega)
  omega
theorem down_ge {n x : Int} (hn : 0 ≤ n) (hx : 1 ≤ x) : rt n ≤ (x + n / x) / 2 := by
  obtain ⟨a, b, c⟩ := div_bounds hn hx
  have s := rt_sq n hn
  rcases Int.lt_or_le ((x + n / x) / 2) (rt n) with g | g
  · have := amgm (a := x) (b := n / x + 1) (s := rt n) (by omega) (by omega) (by omega)
    have e : x * (n / x + 1) = x * (n / x) + x := by grind
    omega
  · exact g
theorem down_end {n x : Int} (hn : 0 ≤ n) (hx : 1 ≤ x) (h : rt n ≤ x) (g : x ≤ (x + n / x) / 2) : x = rt n := by
  obtain ⟨a, b, c⟩ := div_bounds hn hx
  have : x * x ≤ x * (n / x) := Int.mul_le_mul_of_nonneg_left (by omega) (by omega)
  have := le_rt (n := n) (r := x) hn (by omega)
  omega

/-- bit by bit: b is a power of two (or 0); the root lies between r and what the bits left can add -/
def RootRel (n r b : Int) : Prop :=
  0 ≤ r ∧ r * r ≤ n ∧ ((b = 0 ∧ n < (r + 1) * (r + 1)) ∨ ((∃ k : Nat, k ≤ 31 ∧ b = 2 ^ k) ∧ n < (r + 2 * b) * (r + 2 * b)))

theorem pow_half (k : Nat) : ((2 : Int) ^ (k + 1)) / 2 = 2 ^ k ∧ (2 : Int) ^ (k + 1) = 2 * 2 ^ k ∧ 1 ≤ (2 : Int) ^ k := by
  have h : (2 : Int) ^ (k + 1) = 2 ^ k * 2 := Int.pow_succ 2 k
  have p : 0 < (2 : Int) ^ k := Int.pow_pos (by omega)
  omega
theorem pow_le (k : Nat) (h : k ≤ 31) : (2 : Int) ^ k ≤ 2147483648 := by
  have e : (2147483648 : Int) = 2 ^ k * 2 ^ (31 - k) := by
    rw [← Int.pow_add, show k + (31 - k) = 31 by omega]; decide
  have p : 1 ≤ (2 : Int) ^ (31 - k) := by have : 0 < (2 : Int) ^ (31 - k) := Int.pow_pos (by omega); omega
  have q : 0 ≤ (2 : Int) ^ k := by have : 0 < (2 : Int) ^ k := Int.pow_pos (by omega); omega
  have := Int.mul_le_mul_of_nonneg_left p q
  omega
theorem rootRel_start {n : Int} (h0 : 0 ≤ n) (hm : n ≤ 9223372036854775807) : RootRel n 0 2147483648 :=
  ⟨by omega, by omega, .inr ⟨⟨31, by omega, by decide⟩, by omega⟩⟩
theorem rootRel_bounds {n r b : Int} (h0 : 0 ≤ n) (hm : n ≤ 9223372036854775807) (h : RootRel n r b) :
    0 ≤ r ∧ r ≤ 3037000499 ∧ 0 ≤ b ∧ b ≤ 2147483648 ∧ (0 < b → 0 ≤ b / 2) := by
  obtain ⟨a, c, d⟩ := h
  have hr : r ≤ 3037000499 := sq_le (by omega) (by omega)
  refine ⟨a, hr, ?_⟩
  rcases d with ⟨e, _⟩ | ⟨⟨k, hk, e⟩, _⟩
  · omega
  · have := pow_le k hk
    have : 0 < (2 : Int) ^ k := Int.pow_pos (by omega)
    omega
theorem rootRel_yes {n r b : Int} (h : RootRel n r b) (hb : 0 < b) (c : (r + b) * (r + b) ≤ n) : RootRel n (r + b) (b / 2) := by
  obtain ⟨a, _, d⟩ := h
  refine ⟨by omega, c, ?_⟩
  rcases d with ⟨e, _⟩ | ⟨⟨k, hk, e⟩, d⟩
  · omega
  · cases k with
    | zero =>
      have : b = 1 := by simpa using e
      subst this
      exact .inl ⟨by decide, by rw [show r + 1 + 1 = r + 2 * 1 by omega]; exact d⟩
    | succ k =>
      obtain ⟨p, q, s⟩ := pow_half k
      refine .inr ⟨⟨k, by omega, by rw [e, p]⟩, ?_⟩
      rw [show r + b + 2 * (b / 2) = r + 2 * b by rw [e, p, q]; omega]; exact d
theorem rootRel_no {n r b : Int} (h : RootRel n r b) (hb : 0 < b) (c : n < (r + b) * (r + b)) : RootRel n r (b / 2) := by
  obtain ⟨a, f, d⟩ := h
  refine ⟨a, f, ?_⟩
  rcases d with ⟨e, _⟩ | ⟨⟨k, hk, e⟩, d⟩
  · omega
  · cases k with
    | zero =>
      have : b = 1 := by simpa using e
      subst this
      exact .inl ⟨by decide, c⟩
    | succ k =>
      obtain ⟨p, q, s⟩ := pow_half k
      refine .inr ⟨⟨k, by omega, by rw [e, p]⟩, ?_⟩
      rw [show r + 2 * (b / 2) = r + b by rw [e, p, q]]; exact c
theorem rootRel_end {n r b : Int} (h0 : 0 ≤ n) (h : RootRel n r b) (hb : b ≤ 0) : r = rt n := by
  obtain ⟨a, f, d⟩ := h
  rcases d with ⟨e, d⟩ | ⟨⟨k, hk, e⟩, d⟩
  · exact (rt_uniq a f d).symm
  · have : 0 < (2 : Int) ^ k := Int.pow_pos (by omega)
    omega
theorem sq_small {x : Int} (h0 : 0 ≤ x) (h : x ≤ 3037000499) : x * x ≤ 9223372036854775807 := by
  have := sq_mono h0 h
  omega
theorem sq_big {n x : Int} (h0 : 0 ≤ n) (hm : n ≤ 9223372036854775807) (h : 3037000500 ≤ x) : n < x * x := by
  have := sq_mono (show (0 : Int) ≤ 3037000500 by omega) h
  omega

end Go.Proofs.Ytckkeeicngblgaa.Pl
