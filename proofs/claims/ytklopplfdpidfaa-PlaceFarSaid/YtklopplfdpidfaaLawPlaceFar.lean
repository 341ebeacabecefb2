/- PlaceFar: whatever two places come in, Check and Far answer what the reference answers; no condition. -/
import Derived.Test.YtklopplfdpidfaaFarW
import Derived.Test.YtklopplfdpidfaaLaw
import Derived.Test.YtklopplfdpidfaaOpen
namespace Go.Proofs.Ytklopplfdpidfaa.placeFar
open Go.ChangeShapes Go.WideShapes Go.ChangeAt Go.RowKit Pl
set_option linter.unusedVariables false

theorem walk (x y z h s x' y' z' h' s' : Int) (w : World) :
    Calls Try.prog 5 #[.agg #[.int .i64 x, .int .i64 y, .int .i64 z, .int .i64 h, .int .i64 s], .agg #[.int .i64 x', .int .i64 y', .int .i64 z', .int .i64 h', .int .i64 s']] w
      fun e w' => e = .returned (.bool true) ∧ Below w.heap.size w w' := by
  have hB0 : Below w.heap.size w ((w.alloc (.cells #[.int .i64 x, .int .i64 y, .int .i64 z, .int .i64 h, .int .i64 s] 29)).alloc (.cells #[.int .i64 x', .int .i64 y', .int .i64 z', .int .i64 h', .int .i64 s'] 29)) := (by repeat (first | exact Below.refl _ _ | assumption | refine Below.drew ?_ | refine below_drewN ?_ _ | refine Below.alloc ?_ (by simp; try omega) _ | refine Below.setCell ?_ (by simp; try omega) _))
  have B1 := (Blk.new w 29 #[.int .i64 x, .int .i64 y, .int .i64 z, .int .i64 h, .int .i64 s]).alloc (.cells #[.int .i64 x', .int .i64 y', .int .i64 z', .int .i64 h', .int .i64 s'] 29)
  have B2 := Blk.new_ (w.alloc (.cells #[.int .i64 x, .int .i64 y, .int .i64 z, .int .i64 h, .int .i64 s] 29)) 29 #[.int .i64 x', .int .i64 y', .int .i64 z', .int .i64 h', .int .i64 s'] (g := w.heap.size + 1) (by simp)
  rcases Bool.eq_false_or_eq_true (okPl x y z h s && okPl x' y' z' h' s') with o | o
  · obtain ⟨o1, o2⟩ := Bool.and_eq_true_iff.1 o
    have O1 := hid o1
    have O2 := hid o2
    have hk : ck2 (okPl x y z h s) (okPl x' y' z' h' s') = 0 := by simp [ck2, o]
    have HK := hid hk
    clear o o1 o2 hk
    go_enter Try.func5, Try.ntmps5
    go_wp2_with fail
    refine (Far_ok _ _ _ _ _ _ _ _ _ _ _ O1.out O2.out).mono ?_
    rintro e w1 ⟨rfl, hb⟩
    have B1 := B1.below' hb
    have B2 := B2.below' hb
    have c1 := B1.cell
    have c2 := B2.cell
    have hB1 := hB0.trans (hb.mono hB0.size)
    go_wp2_with fail
    refine (twoPlaces_any _ _ _ _ _ _ _ _ _ _ _).mono ?_
    rintro e w2 ⟨rfl, hb2⟩
    rw [HK.out]
    have B1 := B1.below' hb2
    have B2 := B2.below' hb2
    clear c1 c2
    have c1 := B1.cell
    have c2 := B2.cell
    have hB2 := hB1.trans (hb2.mono hB1.size)
    go_wp2_with fail
    refine (FarOf_any _ _ _ _ _ _ _ _ _ _ _ O1.out O2.out).mono ?_
    rintro e w3 ⟨rfl, hb3⟩
    have B1 := B1.below' hb3
    have B2 := B2.below' hb3
    clear c1 c2
    have c1 := B1.cell
    have hB3 := hB2.trans (hb3.mono hB2.size)
    have hz3 : w.heap.size + 2 ≤ w3.heap.size := B2.lt
    go_wp2_with fail
    have hB3d := hB3.drew
    clear hB0 hB1 hB2 hB3 hb hb2 hb3
    go_region_held3 (fun w' => (∀ i, w'.cell? ⟨w.heap.size, i, none⟩ = (#[.int .i64 x, .int .i64 y, .int .i64 z, .int .i64 h, .int .i64 s])[i]?) ∧ Below w.heap.size w w' ∧ w.heap.size + 2 ≤ w'.heap.size) (first | (go_keep; done) | (go_split_ands; refine ⟨?_, (‹Below _ w _›).trans (hb.mono (by first | omega | (simp <;> omega))), Nat.le_trans ‹_› hb.size⟩ <;> (first | exact keep_all hb (by omega) (by assumption) | exact keep_one hb (by omega) (by assumption)))) ((first
      | (go_at_call 10; refine (placeBegun_any _).mono ?_; rintro e w_hb ⟨rfl, hb⟩)
      | (go_at_call 15; refine (placeCheck_ok _ _ _ _ _ _ O1.out).mono ?_; rintro e w4 ⟨rfl, hb⟩)
      | (go_at_call 16; refine (CheckPlace_ok _ _ _ _ _ _ O1.out).mono ?_; rintro e w4 ⟨rfl, hb⟩)))
    go_wp2
    go_ret
    exact ⟨rfl, by go_split_ands; assumption⟩
  · have hk : ck2 (okPl x y z h s) (okPl x' y' z' h' s') = 3 := by simp [ck2, o]
    have HK := hid hk
    have O := hid o
    clear o hk
    go_enter Try.func5, Try.ntmps5
    go_wp2_with fail
    refine (Far_bad _ _ _ _ _ _ _ _ _ _ _ O.out).mono ?_
    rintro e w1 ⟨rfl, hb⟩
    have B1 := B1.below' hb
    have B2 := B2.below' hb
    have c1 := B1.cell
    have c2 := B2.cell
    have hB1 := hB0.trans (hb.mono hB0.size)
    go_wp2_with fail
    refine (twoPlaces_any _ _ _ _ _ _ _ _ _ _ _).mono ?_
    rintro e w2 ⟨rfl, hb2⟩
    rw [HK.out]
    have B1 := B1.below' hb2
    have B2 := B2.below' hb2
    clear c1 c2
    have c1 := B1.cell
    have hB2 := hB1.trans (hb2.mono hB1.size)
    have hz3 : w.heap.size + 2 ≤ w2.heap.size := B2.lt
    go_wp2_with fail
    have hB3d := hB2.drew
    clear hB0 hB1 hB2 hb hb2
    go_region_held3 (fun w' => (∀ i, w'.cell? ⟨w.heap.size, i, none⟩ = (#[.int .i64 x, .int .i64 y, .int .i64 z, .int .i64 h, .int .i64 s])[i]?) ∧ Below w.heap.size w w' ∧ w.heap.size + 2 ≤ w'.heap.size) (first | (go_keep; done) | (go_split_ands; refine ⟨?_, (‹Below _ w _›).trans (hb.mono (by first | omega | (simp <;> omega))), Nat.le_trans ‹_› hb.size⟩ <;> (first | exact keep_all hb (by omega) (by assumption) | exact keep_one hb (by omega) (by assumption)))) ((first
      | (go_at_call 10; refine (placeBegun_any _).mono ?_; rintro e w_hb ⟨rfl, hb⟩)
      | (go_at_call 15; refine (placeCheck_any _ _ _ _ _ _).mono ?_; rintro e w_hb ⟨rfl, hb⟩)
      | (go_at_call 16; refine (CheckPlace_any _ _ _ _ _ _).mono ?_; rintro e w_hb ⟨rfl, hb⟩)))
    go_wp2
    go_ret
    exact ⟨rfl, by go_split_ands; assumption⟩

--FRAME
theorem own : ownKnob Try.prog.godebug = none := by kernel_rfl

set_option maxRecDepth 100000 in
theorem lifted (os : Os) (started : os.Started) (H : Type) (enc : TypeId × Value → H) :
    ReturnsInHanded {} Try.checked os 5 .any (Rows.placeFarSpec.pre6 enc Try.prog Try.f5 Rows.placeFarRow.domain false) (Rows.placeFarSpec.post enc Try.prog Try.f5 false true false false) := by
  refine returnsInHanded_of_change (C := Try.checked) own started (by kernel_rfl) Try.func5
    (ChangeSpec.witness6 (enc := enc) (C := Try.checked) false ⟨#[], #[.agg #[.int .i64 0, .int .i64 0, .int .i64 0, .int .i64 0, .int .i64 0], .agg #[.int .i64 0, .int .i64 0, .int .i64 0, .int .i64 0, .int .i64 0]], []⟩ 8 (by kernel_rfl) (by kernel_rfl) (by kernel_rfl) (by kernel_rfl)) ?_
  intro W base args ds gs before hval0 hW hcnd hsz
  have hval : ∀ (j : Nat) t v, Try.f5.params[j]? = some t → args[j]? = some v → Value.okWide Try.prog W .any base t v := hval0
  have hW' := hW
  obtain ⟨p, q, hA0, hV, rfl, hfz, hnd⟩ := hW
  have hA : DataW.TrodAll enc Try.prog W 0 (fun _ => true) true Try.f5.params.toList args.toList ds p := hA0
  rw [Try.params5] at hA hval
  obtain ⟨v0, vs0, d0, ds0, p0, q0, hargs, rfl, rfl, h0, r0⟩ := trodAll_cons hA
  obtain ⟨v1, vs1, d1, ds1, p1, q1, rfl, rfl, rfl, h1, r1⟩ := trodAll_cons r0
  obtain ⟨rfl, rfl, rfl⟩ := trodAll_nil r1
  obtain rfl : args = #[v0, v1] := by cases args; simp_all
  obtain ⟨rfl, rfl⟩ := trodVars_none hV
  obtain ⟨x0, y0, z0, u0, s0, rfl⟩ := open_five Try.underlying29 (by kernel_rfl) (by kernel_rfl) Try.underlying3 rfl rfl rfl rfl rfl (hval 0 29 v0 rfl rfl) h0
  obtain ⟨x1, y1, z1, u1, s1, rfl⟩ := open_five Try.underlying29 (by kernel_rfl) (by kernel_rfl) Try.underlying3 rfl rfl rfl rfl rfl (hval 1 29 v1 rfl rfl) h1
  clear hA0 hval0
  refine (walk x0 y0 z0 u0 s0 x1 y1 z1 u1 s1 W ).mono fun e W' ⟨he, hg⟩ => ?_
  subst he
  exact ⟨_, rfl, law_post hW' (by kernel_rfl) (by rw [Try.params5]; exact of_decide_eq_true (by kernel_rfl)) rfl rfl (by kernel_rfl) Try.underlying4 hg⟩

theorem over : Rows.placeFarRow.holds Try.pinned (OpenSpec.ofChange Rows.placeFarSpec) :=
  OpenClaim.holds_of_wide 5 Try.f5 rfl rfl rfl rfl rfl rfl rfl ⟨rfl, rfl, rfl, rfl, rfl⟩ rfl rfl rfl rfl rfl (by kernel_rfl) Try.func5 (by kernel_rfl)
    (of_decide_eq_true (by kernel_rfl)) (by unfold Func.isWrapper; first | (rw [if_pos (by decide +kernel)]; kernel_rfl) | (rw [if_neg (by decide +kernel)]; exact ⟨rfl, rfl⟩))
    (fun os started H enc _ => lifted os started H enc)

/-- the statement -/
theorem proved : Rows.PlaceFarSaid := over
#print axioms proved

end Go.Proofs.Ytklopplfdpidfaa.placeFar
