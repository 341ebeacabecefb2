/- The walks of how far places are. -/
import Derived.Test.YtklopplfdpidfaaPlaceW
import Derived.Test.YtklopplfdpidfaaPlainFar
import Derived.BigQuiet
import Derived.Deep.QuietTactic
namespace Go.Proofs.Ytklopplfdpidfaa
open Go.RowKit Pl
set_option linter.unusedVariables false

theorem apart_any (x y z h s x' y' z' h' s' : Int) (w : World) (o : okPl x y z h s = true) (o' : okPl x' y' z' h' s' = true) :
    Calls Try.prog 29 #[.agg #[.int .i64 x, .int .i64 y, .int .i64 z, .int .i64 h, .int .i64 s], .agg #[.int .i64 x', .int .i64 y', .int .i64 z', .int .i64 h', .int .i64 s']] w
      fun e w' => e = .returned (.int .i64 (flat x y z x' y' z')) ∧ Below w.heap.size w w' := by
  obtain ⟨⟨a1, a2⟩, ⟨a3, a4⟩, ⟨a5, a6⟩, _, _⟩ := okPl_iff.1 o
  obtain ⟨⟨b1, b2⟩, ⟨b3, b4⟩, ⟨b5, b6⟩, _, _⟩ := okPl_iff.1 o'
  have q1 := sq_diff a1 a2 b1 b2
  have q2 := sq_diff a3 a4 b3 b4
  have q3 := sq_diff a5 a6 b5 b6
  have q4 := sq3_bd q1 q2 q3
  obtain ⟨q11, q12⟩ := q1
  obtain ⟨q21, q22⟩ := q2
  obtain ⟨q31, q32⟩ := q3
  have Q4 := hid q4
  clear q4 o o'
  go_enter Try.func29, Try.ntmps29
  go_wp2
  go_quiet (fail)
  go_wp2_with (go_at_call 22; refine (root_any _ _ (by omega) (by omega)).mono ?_; rintro e w' ⟨rfl, rfl⟩)
  go_ret
  exact ⟨ret_int rfl, (by repeat (first | exact Below.refl _ _ | assumption | refine Below.drew ?_ | refine below_drewN ?_ _ | refine Below.alloc ?_ (by simp; try omega) _ | refine Below.setCell ?_ (by simp; try omega) _))⟩

theorem RawFar_any (x y z h s x' y' z' h' s' : Int) (w : World) (o : okPl x y z h s = true) (o' : okPl x' y' z' h' s' = true) :
    Calls Try.prog 24 #[.agg #[.int .i64 x, .int .i64 y, .int .i64 z, .int .i64 h, .int .i64 s], .agg #[.int .i64 x', .int .i64 y', .int .i64 z', .int .i64 h', .int .i64 s']] w
      fun e w' => e = .returned (.int .i64 (far x y z h x' y' z' h')) ∧ Below w.heap.size w w' := by
  obtain ⟨f1, f2⟩ := flat_ok o o'
  obtain ⟨_, _, _, ⟨a7, a8⟩, _⟩ := okPl_iff.1 o
  obtain ⟨_, _, _, ⟨b7, b8⟩, _⟩ := okPl_iff.1 o'
  have O := hid o
  have O' := hid o'
  clear o o'
  go_enter Try.func24, Try.ntmps24
  go_wp2_with fail
  have hB0 : Below w.heap.size w ((w.alloc (.cells #[.int .i64 x, .int .i64 y, .int .i64 z, .int .i64 h, .int .i64 s] 29)).alloc (.cells #[.int .i64 x', .int .i64 y', .int .i64 z', .int .i64 h', .int .i64 s'] 29)).drew := (by repeat (first | exact Below.refl _ _ | assumption | refine Below.drew ?_ | refine below_drewN ?_ _ | refine Below.alloc ?_ (by simp; try omega) _ | refine Below.setCell ?_ (by simp; try omega) _))
  go_region_held3 (fun w' => w'.cell? ⟨w.heap.size, 0, none⟩ = some (.int .i64 x) ∧ w'.cell? ⟨w.heap.size, 1, none⟩ = some (.int .i64 y) ∧ w'.cell? ⟨w.heap.size, 2, none⟩ = some (.int .i64 z) ∧ w'.cell? ⟨w.heap.size, 3, none⟩ = some (.int .i64 h) ∧ w'.cell? ⟨w.heap.size, 4, none⟩ = some (.int .i64 s) ∧ w'.cell? ⟨w.heap.size + 1, 0, none⟩ = some (.int .i64 x') ∧ w'.cell? ⟨w.heap.size + 1, 1, none⟩ = some (.int .i64 y') ∧ w'.cell? ⟨w.heap.size + 1, 2, none⟩ = some (.int .i64 z') ∧ w'.cell? ⟨w.heap.size + 1, 3, none⟩ = some (.int .i64 h') ∧ w'.cell? ⟨w.heap.size + 1, 4, none⟩ = some (.int .i64 s') ∧ Below w.heap.size w w' ∧ w.heap.size + 2 ≤ w'.heap.size)
    (first
      | go_keep
      | (go_split_ands
         refine ⟨?_, ?_, ?_, ?_, ?_, ?_, ?_, ?_, ?_, ?_, (‹Below _ w _›).trans (hb.mono (by omega)), Nat.le_trans ‹_› hb.size⟩ <;> (first | (rw [hb.cell (by simp <;> omega)]; done) | (rw [hb.cell (by simp <;> omega)]; assumption))))
    ((go_at_call 29; refine (apart_any _ _ _ _ _ _ _ _ _ _ _ O.out O'.out).mono ?_; rintro e w1 ⟨rfl, hb⟩))
  go_wp2
  go_ret
  obtain ⟨_, _, _, _, _, _, _, _, _, _, hB1, _⟩ := ‹w1.cell? _ = _ ∧ _›
  exact ⟨ret_int (by rw [IntWalk.i64_in (flat x y z x' y' z' + h) (by omega), IntWalk.i64_in (flat x y z x' y' z' + h + h') (by omega)]; rfl), hB1⟩
theorem FlatFar_any (x y z h s x' y' z' h' s' : Int) (w : World) (o : okPl x y z h s = true) (o' : okPl x' y' z' h' s' = true) :
    Calls Try.prog 25 #[.agg #[.int .i64 x, .int .i64 y, .int .i64 z, .int .i64 h, .int .i64 s], .agg #[.int .i64 x', .int .i64 y', .int .i64 z', .int .i64 h', .int .i64 s']] w
      fun e w' => e = .returned (.int .i64 (flat x y z x' y' z')) ∧ Below w.heap.size w w' := by
  obtain ⟨⟨a1, a2⟩, ⟨a3, a4⟩, ⟨a5, a6⟩, _, _⟩ := okPl_iff.1 o
  obtain ⟨⟨b1, b2⟩, ⟨b3, b4⟩, ⟨b5, b6⟩, _, _⟩ := okPl_iff.1 o'
  have q1 := sq_diff a1 a2 b1 b2
  have q2 := sq_diff a3 a4 b3 b4
  have q3 := sq_diff a5 a6 b5 b6
  have q4 := sq3_bd q1 q2 q3
  obtain ⟨q11, q12⟩ := q1
  obtain ⟨q21, q22⟩ := q2
  obtain ⟨q31, q32⟩ := q3
  have Q4 := hid q4
  clear q4 o o'
  go_enter Try.func25, Try.ntmps25
  go_wp2_with (go_at_call 11; refine (RootOf_any _ _ (by omega) (by omega)).mono ?_; rintro e w' ⟨rfl, rfl⟩)
  go_ret
  exact ⟨ret_int rfl, (by repeat (first | exact Below.refl _ _ | assumption | refine Below.drew ?_ | refine below_drewN ?_ _ | refine Below.alloc ?_ (by simp; try omega) _ | refine Below.setCell ?_ (by simp; try omega) _))⟩

theorem FarOf_any (x y z h s x' y' z' h' s' : Int) (w : World) (o : okPl x y z h s = true) (o' : okPl x' y' z' h' s' = true) :
    Calls Try.prog 14 #[.agg #[.int .i64 x, .int .i64 y, .int .i64 z, .int .i64 h, .int .i64 s], .agg #[.int .i64 x', .int .i64 y', .int .i64 z', .int .i64 h', .int .i64 s']] w
      fun e w' => e = .returned (.int .i64 (far x y z h x' y' z' h')) ∧ Below w.heap.size w w' := by
  obtain ⟨f1, f2⟩ := flat_ok o o'
  obtain ⟨_, _, _, ⟨a7, a8⟩, _⟩ := okPl_iff.1 o
  obtain ⟨_, _, _, ⟨b7, b8⟩, _⟩ := okPl_iff.1 o'
  have O := hid o
  have O' := hid o'
  clear o o'
  go_enter Try.func14, Try.ntmps14
  go_wp2_with fail
  have hB0 : Below w.heap.size w ((w.alloc (.cells #[.int .i64 x, .int .i64 y, .int .i64 z, .int .i64 h, .int .i64 s] 29)).alloc (.cells #[.int .i64 x', .int .i64 y', .int .i64 z', .int .i64 h', .int .i64 s'] 29)).drew := (by repeat (first | exact Below.refl _ _ | assumption | refine Below.drew ?_ | refine below_drewN ?_ _ | refine Below.alloc ?_ (by simp; try omega) _ | refine Below.setCell ?_ (by simp; try omega) _))
  go_region_held3 (fun w' => w'.cell? ⟨w.heap.size, 0, none⟩ = some (.int .i64 x) ∧ w'.cell? ⟨w.heap.size, 1, none⟩ = some (.int .i64 y) ∧ w'.cell? ⟨w.heap.size, 2, none⟩ = some (.int .i64 z) ∧ w'.cell? ⟨w.heap.size, 3, none⟩ = some (.int .i64 h) ∧ w'.cell? ⟨w.heap.size, 4, none⟩ = some (.int .i64 s) ∧ w'.cell? ⟨w.heap.size + 1, 0, none⟩ = some (.int .i64 x') ∧ w'.cell? ⟨w.heap.size + 1, 1, none⟩ = some (.int .i64 y') ∧ w'.cell? ⟨w.heap.size + 1, 2, none⟩ = some (.int .i64 z') ∧ w'.cell? ⟨w.heap.size + 1, 3, none⟩ = some (.int .i64 h') ∧ w'.cell? ⟨w.heap.size + 1, 4, none⟩ = some (.int .i64 s') ∧ Below w.heap.size w w' ∧ w.heap.size + 2 ≤ w'.heap.size)
    (first
      | go_keep
      | (go_split_ands
         refine ⟨?_, ?_, ?_, ?_, ?_, ?_, ?_, ?_, ?_, ?_, (‹Below _ w _›).trans (hb.mono (by omega)), Nat.le_trans ‹_› hb.size⟩ <;> (first | (rw [hb.cell (by simp <;> omega)]; done) | (rw [hb.cell (by simp <;> omega)]; assumption))))
    ((go_at_call 25; refine (FlatFar_any _ _ _ _ _ _ _ _ _ _ _ O.out O'.out).mono ?_; rintro e w1 ⟨rfl, hb⟩))
  go_wp2
  go_ret
  obtain ⟨_, _, _, _, _, _, _, _, _, _, hB1, _⟩ := ‹w1.cell? _ = _ ∧ _›
  exact ⟨ret_int (by rw [IntWalk.i64_in (flat x y z x' y' z' + h) (by omega), IntWalk.i64_in (flat x y z x' y' z' + h + h') (by omega)]; rfl), hB1⟩

/-- far, if both are right -/
theorem Far_ok (x y z h s x' y' z' h' s' : Int) (w : World) (o : okPl x y z h s = true) (o' : okPl x' y' z' h' s' = true) :
    Calls Try.prog 12 #[.agg #[.int .i64 x, .int .i64 y, .int .i64 z, .int .i64 h, .int .i64 s], .agg #[.int .i64 x', .int .i64 y', .int .i64 z', .int .i64 h', .int .i64 s']] w
      fun e w' => e = .returned (.tuple #[.int .i64 (far x y z h x' y' z' h'), .int .i64 0]) ∧ Below w.heap.size w w' := by
  have O := hid o
  have O' := hid o'
  have hk : ck2 (okPl x y z h s) (okPl x' y' z' h' s') = 0 := by simp [ck2, o, o']
  clear o o'
  have HK := hid hk
  clear hk
  go_enter Try.func12, Try.ntmps12
  go_wp2_with fail
  refine (check2_any x y z h s x' y' z' h' s' _ (0, 0) _ (new_at (by simp))).mono ?_
  rintro e w1 ⟨rfl, hb⟩
  rw [HK.out]
  obtain ⟨bc, bf⟩ := bcell hb
  have hz := hb.size
  simp at hz
  go_wp2_with (go_at_call 24; refine (RawFar_any _ _ _ _ _ _ _ _ _ _ _ O.out O'.out).mono ?_; rintro e w2 ⟨rfl, hb2⟩)
  go_ret2
  exact ⟨rfl, (Below.trans (by repeat (first | exact Below.refl _ _ | refine Below.alloc ?_ (by simp; try omega) _)) (hb.mono (by simp; try omega))).trans (hb2.mono (by omega))⟩
theorem Far_bad (x y z h s x' y' z' h' s' : Int) (w : World) (o : (okPl x y z h s && okPl x' y' z' h' s') = false) :
    Calls Try.prog 12 #[.agg #[.int .i64 x, .int .i64 y, .int .i64 z, .int .i64 h, .int .i64 s], .agg #[.int .i64 x', .int .i64 y', .int .i64 z', .int .i64 h', .int .i64 s']] w
      fun e w' => e = .returned (.tuple #[.int .i64 0, .int .i64 3]) ∧ Below w.heap.size w w' := by
  have hk : ck2 (okPl x y z h s) (okPl x' y' z' h' s') = 3 := by simp [ck2, o]
  clear o
  have HK := hid hk
  clear hk
  go_enter Try.func12, Try.ntmps12
  go_wp2_with fail
  refine (check2_any x y z h s x' y' z' h' s' _ (0, 0) _ (new_at (by simp))).mono ?_
  rintro e w1 ⟨rfl, hb⟩
  rw [HK.out]
  go_wp2
  go_ret2
  exact ⟨rfl, Below.trans (by repeat (first | exact Below.refl _ _ | refine Below.alloc ?_ (by simp; try omega) _)) (hb.mono (by simp; try omega))⟩

theorem CheckPlace_ok (x y z h s : Int) (w : World) (ho : okPl x y z h s = true) :
    Calls Try.prog 16 #[.agg #[.int .i64 x, .int .i64 y, .int .i64 z, .int .i64 h, .int .i64 s]] w fun e w' => e = .returned (.int .i64 0) ∧ Below w.heap.size w w' := by
  have := CheckPlace_any x y z h s w
  simpa [ckPl, ho] using this
theorem CheckPlace_bad (x y z h s : Int) (w : World) (ho : okPl x y z h s = false) :
    Calls Try.prog 16 #[.agg #[.int .i64 x, .int .i64 y, .int .i64 z, .int .i64 h, .int .i64 s]] w fun e w' => e = .returned (.int .i64 3) ∧ Below w.heap.size w w' := by
  have := CheckPlace_any x y z h s w
  simpa [ckPl, ho] using this
theorem twoPlaces_any (x y z h s x' y' z' h' s' : Int) (w : World) :
    Calls Try.prog 13 #[.agg #[.int .i64 x, .int .i64 y, .int .i64 z, .int .i64 h, .int .i64 s], .agg #[.int .i64 x', .int .i64 y', .int .i64 z', .int .i64 h', .int .i64 s']] w fun e w' => e = .returned (.int .i64 (ck2 (okPl x y z h s) (okPl x' y' z' h' s'))) ∧ Below w.heap.size w w' := by
  rcases Bool.eq_false_or_eq_true (okPl x y z h s) with o | o
  · rcases Bool.eq_false_or_eq_true (okPl x' y' z' h' s') with o' | o'
    · have O := hid o
      have O' := hid o'
      clear o o'
      go_enter Try.func13, Try.ntmps13
      go_wp2_with fail
      refine (CheckPlace_ok _ _ _ _ _ _ O.out).mono ?_
      rintro e w1 ⟨rfl, hb⟩
      obtain ⟨bc, bf⟩ := bcell hb
      have hz := hb.size
      simp at hz
      go_wp2_with (go_at_call 16; refine (CheckPlace_ok _ _ _ _ _ _ O'.out).mono ?_; rintro e w2 ⟨rfl, hb2⟩)
      go_ret
      exact ⟨ret_int (by rw [O.out, O'.out]; rfl), (Below.trans (by repeat (first | exact Below.refl _ _ | refine Below.alloc ?_ (by simp; try omega) _)) (hb.mono (by simp; try omega))).trans (hb2.mono (by omega))⟩
    · have O := hid o
      have O' := hid o'
      clear o o'
      go_enter Try.func13, Try.ntmps13
      go_wp2_with fail
      refine (CheckPlace_ok _ _ _ _ _ _ O.out).mono ?_
      rintro e w1 ⟨rfl, hb⟩
      obtain ⟨bc, bf⟩ := bcell hb
      have hz := hb.size
      simp at hz
      go_wp2_with (go_at_call 16; refine (CheckPlace_bad _ _ _ _ _ _ O'.out).mono ?_; rintro e w2 ⟨rfl, hb2⟩)
      go_ret
      exact ⟨ret_int (by rw [O.out, O'.out]; rfl), (Below.trans (by repeat (first | exact Below.refl _ _ | refine Below.alloc ?_ (by simp; try omega) _)) (hb.mono (by simp; try omega))).trans (hb2.mono (by omega))⟩
  · have O := hid o
    clear o
    go_enter Try.func13, Try.ntmps13
    go_wp2_with (go_at_call 16; refine (CheckPlace_bad _ _ _ _ _ _ O.out).mono ?_; rintro e w1 ⟨rfl, hb⟩)
    go_ret
    exact ⟨ret_int (by rw [O.out]; rfl), (Below.trans (by repeat (first | exact Below.refl _ _ | refine Below.alloc ?_ (by simp; try omega) _)) (hb.mono (by simp; try omega)))⟩
theorem placeBegun_any (w : World) : Calls Try.prog 10 #[] w fun e w' => e = .returned (.bool true) ∧ Below w.heap.size w w' := by
  have h1 : rt 17 = 4 := rt_uniq (by decide) (by decide) (by decide)
  have h2 : far 3 0 0 1 0 4 0 2 = 8 := by
    unfold far flat
    rw [show sq3 3 0 0 0 4 0 = 25 from by decide, show rt 25 = 5 from rt_uniq (by decide) (by decide) (by decide)]
    decide
  have H1 := hid h1
  have H2 := hid h2
  clear h1 h2
  go_enter Try.func10, Try.ntmps10
  go_wp2_with fail
  refine (Root_pos 17 _ (by decide) (by decide)).mono ?_
  rintro e w1 ⟨rfl, rfl⟩
  rw [H1.out]
  go_wp2_with fail
  refine (Far_ok 3 0 0 1 0 0 4 0 2 0 _ (by decide) (by decide)).mono ?_
  rintro e w1 ⟨rfl, hb⟩
  rw [H2.out]
  go_wp2
  go_ret
  exact ⟨rfl, hb⟩
end Go.Proofs.Ytklopplfdpidfaa
