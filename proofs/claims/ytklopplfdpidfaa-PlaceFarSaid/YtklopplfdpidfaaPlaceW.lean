/- The walks of package place's Check and of the reference's CheckPlace. -/
import Derived.Test.YtklopplfdpidfaaRootW
import Derived.Test.YtklopplfdpidfaaPlainPlace
import Derived.BigGuardPart
import Derived.Deep.Light
import Derived.Deep.RegionHeld3
open Go
namespace Go.Proofs.Ytklopplfdpidfaa
open Go.RowKit Pl
set_option linter.unusedVariables false

theorem within_any (n a b : Int) (w : World) :
    Calls Try.prog 27 #[.int .i64 n, .int .i64 a, .int .i64 b] w fun e w' => e = .returned (.bool (wi n a b)) ∧ w = w' := by
  by_cases h1 : a ≤ n
  · by_cases h2 : n ≤ b
    · go_enter Try.func27, Try.ntmps27
      go_wp2
      go_ret
      exact ⟨ret_bool (by rw [wi_iff.2 ⟨h1, h2⟩]), rfl⟩
    · go_enter Try.func27, Try.ntmps27
      go_wp2
      go_ret
      exact ⟨ret_bool (by rw [wi_no.2 (by omega)]), rfl⟩
  · go_enter Try.func27, Try.ntmps27
    go_wp2
    go_ret
    exact ⟨ret_bool (by rw [wi_no.2 (by omega)]), rfl⟩
theorem Check1_any (n : Int) (w : World) :
    Calls Try.prog 26 #[.int .i64 n] w fun e w' => e = .returned (.bool (wi n (-10000000) 10000000)) ∧ w = w' := by
  go_enter Try.func26, Try.ntmps26
  go_wp2_with (go_at_call 27; refine (within_any _ _ _ _).mono ?_; rintro e w' ⟨rfl, rfl⟩)
  go_ret
  exact ⟨rfl, rfl⟩

set_option maxHeartbeats 1000000 in
theorem placeCheck_any (x y z h s : Int) (w : World) :
    Calls Try.prog 15 #[.agg #[.int .i64 x, .int .i64 y, .int .i64 z, .int .i64 h, .int .i64 s]] w fun e w' => e = .returned (.int .i64 (ckPl x y z h s)) ∧ Below w.heap.size w w' := by
  go_enter Try.func15, Try.ntmps15
  go_wp2_with (first | (go_at_call 26; refine (Check1_any _ _).mono ?_; rintro e w' ⟨rfl, rfl⟩) | (go_at_call 27; refine (within_any _ _ _ _).mono ?_; rintro e w' ⟨rfl, rfl⟩))
  all_goals go_ret
  all_goals exact ⟨ret_int (by go_light; simp_all [ckPl, okPl]), (Below.refl _ _).alloc (Nat.le_refl _) _⟩

theorem between_any (n a b : Int) (w : World) :
    Calls Try.prog 28 #[.int .i64 n, .int .i64 a, .int .i64 b] w fun e w' => e = .returned (.bool (wi n a b)) ∧ w = w' := by
  by_cases h1 : a ≤ n
  · by_cases h2 : n ≤ b
    · go_enter Try.func28, Try.ntmps28
      go_wp2
      go_ret
      exact ⟨ret_bool (by rw [wi_iff.2 ⟨h1, h2⟩]), rfl⟩
    · go_enter Try.func28, Try.ntmps28
      go_wp2
      go_ret
      exact ⟨ret_bool (by rw [wi_no.2 (by omega)]), rfl⟩
  · go_enter Try.func28, Try.ntmps28
    go_wp2
    go_ret
    exact ⟨ret_bool (by rw [wi_no.2 (by omega)]), rfl⟩

set_option maxHeartbeats 1000000 in
theorem CheckPlace_any (x y z h s : Int) (w : World) :
    Calls Try.prog 16 #[.agg #[.int .i64 x, .int .i64 y, .int .i64 z, .int .i64 h, .int .i64 s]] w fun e w' => e = .returned (.int .i64 (ckPl x y z h s)) ∧ Below w.heap.size w w' := by
  go_enter Try.func16, Try.ntmps16
  go_wp2_with (go_at_call 28; refine (between_any _ _ _ _).mono ?_; rintro e w' ⟨rfl, rfl⟩)
  all_goals go_ret
  all_goals exact ⟨ret_int (by go_light; simp_all [ckPl, okPl]), (Below.refl _ _).alloc (Nat.le_refl _) _⟩

theorem placeCheck_ok (x y z h s : Int) (w : World) (ho : okPl x y z h s = true) :
    Calls Try.prog 15 #[.agg #[.int .i64 x, .int .i64 y, .int .i64 z, .int .i64 h, .int .i64 s]] w fun e w' => e = .returned (.int .i64 0) ∧ Below w.heap.size w w' := by
  have := placeCheck_any x y z h s w
  simpa [ckPl, ho] using this
theorem placeCheck_bad (x y z h s : Int) (w : World) (ho : okPl x y z h s = false) :
    Calls Try.prog 15 #[.agg #[.int .i64 x, .int .i64 y, .int .i64 z, .int .i64 h, .int .i64 s]] w fun e w' => e = .returned (.int .i64 3) ∧ Below w.heap.size w w' := by
  have := placeCheck_any x y z h s w
  simpa [ckPl, ho] using this

theorem cells10 {w : World} {b : Nat} {t : TypeId} {fz : Nat × Nat} {v0 v1 v2 v3 v4 v5 v6 v7 v8 v9 : Value} (hb : w.heap[b]? = some (.cells #[v0, v1, v2, v3, v4, v5, v6, v7, v8, v9] t fz)) :
    w.cell? ⟨b, 0, none⟩ = some v0 ∧ w.cell? ⟨b, 1, none⟩ = some v1 ∧ w.cell? ⟨b, 2, none⟩ = some v2 ∧ w.cell? ⟨b, 3, none⟩ = some v3 ∧ w.cell? ⟨b, 4, none⟩ = some v4 ∧
    w.cell? ⟨b, 5, none⟩ = some v5 ∧ w.cell? ⟨b, 6, none⟩ = some v6 ∧ w.cell? ⟨b, 7, none⟩ = some v7 ∧ w.cell? ⟨b, 8, none⟩ = some v8 ∧ w.cell? ⟨b, 9, none⟩ = some v9 := by
  simp [World.cell?, hb]
theorem block_lt {w : World} {b : Nat} {o : Obj} (h : w.heap[b]? = some o) : b < w.heap.size := (Array.getElem?_eq_some_iff.1 h).1

/-- two at once: what is wrong with the first, else with the second -/
def ck2 (a b : Bool) : Int := if a && b then 0 else 3
/-- the relation of check's loop over two -/
def Two (ok1 ok2 : Bool) (B : Nat) (w wr : World) (i : Value) : Prop := ∃ k : Nat, k ≤ 2 ∧ i = .int .i64 k ∧ (1 ≤ k → ok1 = true) ∧ (2 ≤ k → ok2 = true) ∧ Below B w wr

/-- the check of two places, as 'check(a, b)' hands them over: in one block -/
theorem check2_any (x y z h s x' y' z' h' s' : Int) (b : Nat) (fz : Nat × Nat) (w : World)
    (hb : w.heap[b]? = some (.cells #[.int .i64 x, .int .i64 y, .int .i64 z, .int .i64 h, .int .i64 s, .int .i64 x', .int .i64 y', .int .i64 z', .int .i64 h', .int .i64 s'] 29 fz)) :
    Calls Try.prog 23 #[.slice (some ⟨b, 0, none⟩) 2 2] w fun e w' => e = .returned (.int .i64 (ck2 (okPl x y z h s) (okPl x' y' z' h' s'))) ∧ Below w.heap.size w w' := by
  have hlt := block_lt hb
  have HB := hid hb
  clear hb
  go_enter Try.func23, Try.ntmps23
  go_wp2
  go_loopw [8] (fun i wr => Two (okPl x y z h s) (okPl x' y' z' h' s') w.heap.size w wr i) (fun i _ => 2 - (intOf i).toNat)
  case atStart => exact ⟨0, by omega, rfl, by omega, by omega, Below.refl _ _⟩
  case round =>
    obtain ⟨k, hk, rfl, h1, h2, hB⟩ := hrel
    have HBL := hid hB
    obtain ⟨c0, c1, c2, c3, c4, c5, c6, c7, c8, c9⟩ := cells10 ((hB.block b hlt).trans HB.out)
    clear hB
    rcases (by omega : k = 0 ∨ k = 1 ∨ k = 2) with rfl | rfl | rfl
    · clear h1 h2 c5 c6 c7 c8 c9
      rcases Bool.eq_false_or_eq_true (okPl x y z h s) with ho | ho
      · have HO := hid ho
        clear ho
        go_wp2_with (go_at_call 15; refine (placeCheck_ok _ _ _ _ _ _ HO.out).mono ?_; rintro e w1 ⟨rfl, hb1⟩)
        go_roundw
        case rel => exact ⟨1, by omega, rfl, fun _ => HO.out, by omega, HBL.out.trans ((((Below.refl _ _).alloc HBL.out.size _)).trans (hb1.mono (by have := HBL.out.size; simp; omega)))⟩
        case measure => simp [intOf]
      · have HO := hid ho
        clear ho
        go_wp2_with (go_at_call 15; refine (placeCheck_bad _ _ _ _ _ _ HO.out).mono ?_; rintro e w1 ⟨rfl, hb1⟩)
        go_ret
        exact ⟨ret_int (by simp [ck2, HO.out]), HBL.out.trans ((((Below.refl _ _).alloc HBL.out.size _)).trans (hb1.mono (by have := HBL.out.size; simp; omega)))⟩
    · clear c0 c1 c2 c3 c4 h2
      have HO1 := hid (h1 (by omega))
      clear h1
      rcases Bool.eq_false_or_eq_true (okPl x' y' z' h' s') with ho | ho
      · have HO := hid ho
        clear ho
        go_wp2_with (go_at_call 15; refine (placeCheck_ok _ _ _ _ _ _ HO.out).mono ?_; rintro e w1 ⟨rfl, hb1⟩)
        go_roundw
        case rel => exact ⟨2, by omega, rfl, fun _ => HO1.out, fun _ => HO.out, HBL.out.trans ((((Below.refl _ _).alloc HBL.out.size _)).trans (hb1.mono (by have := HBL.out.size; simp; omega)))⟩
        case measure => simp [intOf]
      · have HO := hid ho
        clear ho
        go_wp2_with (go_at_call 15; refine (placeCheck_bad _ _ _ _ _ _ HO.out).mono ?_; rintro e w1 ⟨rfl, hb1⟩)
        go_ret
        exact ⟨ret_int (by simp [ck2, HO.out]), HBL.out.trans ((((Below.refl _ _).alloc HBL.out.size _)).trans (hb1.mono (by have := HBL.out.size; simp; omega)))⟩
    · have H1 := hid (h1 (by omega))
      have H2 := hid (h2 (by omega))
      clear h1 h2 c0 c1 c2 c3 c4 c5 c6 c7 c8 c9
      go_wp2
      go_ret
      exact ⟨ret_int (by simp [ck2, H1.out, H2.out]), HBL.out⟩
end Go.Proofs.Ytklopplfdpidfaa
