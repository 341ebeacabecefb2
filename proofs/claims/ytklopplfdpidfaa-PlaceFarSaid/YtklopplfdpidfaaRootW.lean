/- The walks of place.root, place.Root and hearsayref.RootOf: each computes the integer root. -/
import Derived.Test.YtklopplfdpidfaaRows
import Derived.Test.YtklopplfdpidfaaPlainRoot
import Derived.WalkKit
import Derived.Test.YtklopplfdpidfaaKit
namespace Go.Proofs.Ytklopplfdpidfaa
open Go.RowKit Pl
set_option linter.unusedVariables false

theorem root_any (n : Int) (w : World) (h0 : 0 ≤ n) (hm : n ≤ 9223372036854775807) :
    Calls Try.prog 22 #[.int .i64 n] w fun e w' => e = .returned (.int .i64 (rt n)) ∧ w = w' := by
  by_cases h2 : n < 2
  · have hr : rt n = n := rt_uniq h0 (by rcases (by omega : n = 0 ∨ n = 1) with rfl | rfl <;> decide) (by rcases (by omega : n = 0 ∨ n = 1) with rfl | rfl <;> decide)
    have HR := hid hr; clear hr
    go_enter Try.func22, Try.ntmps22
    go_wp2
    go_ret
    exact ⟨ret_int HR.out.symm, rfl⟩
  · go_enter Try.func22, Try.ntmps22
    go_wp2
    go_loop [3] (fun x => ∃ k : Int, 1 ≤ k ∧ k ≤ 6074000998 ∧ x = .int .i64 k) (fun x => (12148001996 - intOf x).toNat)
    case atStart => exact ⟨1, by omega, by omega, rfl⟩
    case round =>
      obtain ⟨k, hk1, hk2, rfl⟩ := hrel
      by_cases hc : k ≤ n / k
      · have hb := up_le h0 hm hk1 hc
        go_wp2
        go_round
        case rel => exact ⟨k * 2, by omega, by omega, rfl⟩
        case measure => simp [intOf]; omega
      · have hb := up_end h0 hk1 (by omega)
        go_wp2
        go_loop [3, 4] (fun x y => ∃ k : Int, 1 ≤ k ∧ k ≤ 6074000998 ∧ rt n ≤ k ∧ x = .int .i64 k) (fun x _ => (intOf x).toNat)
        case atStart => exact ⟨k, by omega, by omega, hb, rfl⟩
        case round =>
          clear hb hc hk1 hk2 
          obtain ⟨k, hk1, hk2, hk3, rfl⟩ := hrel
          have q1 := div_bounds h0 hk1
          have q2 := down_q (by omega) hk1 hk3
          have q3 := rt_max n h0 hm
          have q4 := down_ge h0 hk1
          have q5 : 1 ≤ rt n := le_rt (by omega) (by omega)
          have q6 := q1.1
          clear q1
          by_cases hc : k ≤ (k + n / k) / 2
          · have he := down_end h0 hk1 hk3 hc
            have HE := hid he; clear he
            go_wp2
            go_ret
            exact ⟨ret_int HE.out, rfl⟩
          · go_wp2
            go_round
            case rel => exact ⟨(k + n / k) / 2, by omega, by omega, by omega, rfl⟩
            case measure => simp [intOf]; omega

theorem Root_neg (n : Int) (w : World) (h0 : n < 0) :
    Calls Try.prog 9 #[.int .i64 n] w fun e w' => e = .returned (.tuple #[.int .i64 0, .int .i64 3]) ∧ w = w' := by
  go_enter Try.func9, Try.ntmps9
  go_wp2
  go_ret2
  exact ⟨rfl, rfl⟩
theorem Root_pos (n : Int) (w : World) (h0 : 0 ≤ n) (hm : n ≤ 9223372036854775807) :
    Calls Try.prog 9 #[.int .i64 n] w fun e w' => e = .returned (.tuple #[.int .i64 (rt n), .int .i64 0]) ∧ w = w' := by
  go_enter Try.func9, Try.ntmps9
  go_wp2_with (go_at_call 22; refine (root_any _ _ h0 hm).mono ?_; rintro e w' ⟨rfl, rfl⟩)
  go_ret2
  exact ⟨rfl, rfl⟩

/-- bit by bit: k bits are still to come -/
theorem RootOf_any (n : Int) (w : World) (h0 : 0 ≤ n) (hm : n ≤ 9223372036854775807) :
    Calls Try.prog 11 #[.int .i64 n] w fun e w' => e = .returned (.int .i64 (rt n)) ∧ w = w' := by
  have M := rt_max n h0 hm
  have S := rt_lt n h0
  go_enter Try.func11, Try.ntmps11
  clear S
  go_wp2
  go_loop [3, 4] (fun x y => ∃ r b : Int, RootRel n r b ∧ x = .int .i64 r ∧ y = .int .i64 b) (fun _ y => (intOf y).toNat)
  case atStart => exact ⟨0, 2147483648, rootRel_start h0 hm, rfl, rfl⟩
  case round =>
    obtain ⟨r, b, hr, rfl, rfl⟩ := hrel
    obtain ⟨g1, g2, g3, g4, g5⟩ := rootRel_bounds h0 hm hr
    have HR := hid hr; clear hr
    by_cases hb : 0 < b
    · have g6 := g5 hb
      clear g5
      by_cases c1 : r + b ≤ 3037000499
      · have g7 := sq_small (show 0 ≤ r + b by omega) c1
        have g8 : 0 ≤ (r + b) * (r + b) := Int.mul_nonneg (by omega) (by omega)
        by_cases c2 : (r + b) * (r + b) ≤ n
        · go_wp2
          go_round
          case rel => exact ⟨r + b, b / 2, rootRel_yes HR.out hb c2, rfl, rfl⟩
          case measure => simp [intOf]; omega
        · go_wp2
          go_round
          case rel => exact ⟨r, b / 2, rootRel_no HR.out hb (by omega), rfl, rfl⟩
          case measure => simp [intOf]; omega
      · go_wp2
        go_round
        case rel => exact ⟨r, b / 2, rootRel_no HR.out hb (sq_big h0 hm (by omega)), rfl, rfl⟩
        case measure => simp [intOf]; omega
    · go_wp2
      go_ret
      exact ⟨ret_int (rootRel_end h0 HR.out (by omega)), rfl⟩
end Go.Proofs.Ytklopplfdpidfaa
