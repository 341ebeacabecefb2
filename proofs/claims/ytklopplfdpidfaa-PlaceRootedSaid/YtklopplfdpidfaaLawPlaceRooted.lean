/- PlaceRooted: whatever number comes in, what Root answers is the greatest number whose square is not more; no condition. -/
import Derived.Test.YtklopplfdpidfaaRootW
import Derived.Test.YtklopplfdpidfaaFarW
import Derived.Test.YtklopplfdpidfaaLaw
namespace Go.Proofs.Ytklopplfdpidfaa.placeRooted
open Go.ChangeShapes Go.WideShapes Go.ChangeAt Go.RowKit Pl
set_option linter.unusedVariables false

theorem walk (n : Int) (w : World) (w0 : (Lit.int .i64 n).wf = true) :
    Calls Try.prog 4 #[.int .i64 n] w fun e w' => e = .returned (.bool true) ∧ Below w.heap.size w w' := by
  have hx : -9223372036854775808 ≤ n ∧ n ≤ 9223372036854775807 := by simpa [Lit.wf, IntKind.min, IntKind.max, IntKind.signed, IntKind.bits] using w0
  obtain ⟨hx1, hx2⟩ := hx
  clear w0
  by_cases h0 : n < 0
  · go_enter Try.func4, Try.ntmps4
    go_wp2_with fail
    refine (Root_neg _ _ h0).mono ?_
    rintro e w' ⟨rfl, rfl⟩
    go_wp2_with fail
    refine (placeBegun_any _).mono ?_
    rintro e w1 ⟨rfl, hb⟩
    go_wp2_with fail
    refine (placeBegun_any _).mono ?_
    rintro e w2 ⟨rfl, hb2⟩
    go_wp2
    go_ret
    exact ⟨rfl, hb.trans (hb2.mono hb.size)⟩
  · have h1 : 0 ≤ n := by omega
    have p0 := rt_nonneg n
    have p1 := rt_max n h1 hx2
    have p2 := rt_sq n h1
    have p3 := rt_lt n h1
    have p4 := sq_small p0 p1
    have p5 : 0 ≤ rt n * rt n := Int.mul_nonneg p0 p0
    have p6 : rt n < 3037000499 → (rt n + 1) * (rt n + 1) ≤ 9223372036854775807 := fun h => sq_small (by omega) (by omega)
    have hR := Root_pos n w h1 hx2
    generalize rt n = r at *
    rcases (by omega : r = 3037000499 ∨ r < 3037000499) with rfl | hr
    · clear p3 p6
      go_enter Try.func4, Try.ntmps4
      go_wp2_with fail
      refine hR.mono ?_
      rintro e w' ⟨rfl, rfl⟩
      go_wp2_with (go_at_call 10; refine (placeBegun_any _).mono ?_; rintro e w_hb ⟨rfl, hb⟩)
      go_ret
      exact ⟨rfl, hb⟩
    · have p7 := p6 hr
      have p8 : (r == 3037000499) = false := by simp; omega
      clear p6
      go_enter Try.func4, Try.ntmps4
      go_wp2_with fail
      refine hR.mono ?_
      rintro e w' ⟨rfl, rfl⟩
      go_wp2_with (go_at_call 10; refine (placeBegun_any _).mono ?_; rintro e w_hb ⟨rfl, hb⟩)
      go_ret
      exact ⟨rfl, hb⟩

--FRAME
theorem own : ownKnob Try.prog.godebug = none := by kernel_rfl

set_option maxRecDepth 100000 in
theorem lifted (os : Os) (started : os.Started) (H : Type) (enc : TypeId × Value → H) :
    ReturnsInHanded {} Try.checked os 4 .any (Rows.placeRootedSpec.pre6 enc Try.prog Try.f4 Rows.placeRootedRow.domain false) (Rows.placeRootedSpec.post enc Try.prog Try.f4 false true false false) := by
  refine returnsInHanded_of_change (C := Try.checked) own started (by kernel_rfl) Try.func4
    (ChangeSpec.witness6 (enc := enc) (C := Try.checked) false ⟨#[], #[.int .i64 0], []⟩ 8 (by kernel_rfl) (by kernel_rfl) (by kernel_rfl) (by kernel_rfl)) ?_
  intro W base args ds gs before hval0 hW hcnd hsz
  have hval : ∀ (j : Nat) t v, Try.f4.params[j]? = some t → args[j]? = some v → Value.okWide Try.prog W .any base t v := hval0
  have hW' := hW
  obtain ⟨p, q, hA0, hV, rfl, hfz, hnd⟩ := hW
  have hA : DataW.TrodAll enc Try.prog W 0 (fun _ => true) true Try.f4.params.toList args.toList ds p := hA0
  rw [Try.params4] at hA hval
  obtain ⟨v0, vs0, d0, ds0, p0, q0, hargs, rfl, rfl, h0, r0⟩ := trodAll_cons hA
  obtain ⟨rfl, rfl, rfl⟩ := trodAll_nil r0
  obtain rfl : args = #[v0] := by cases args; simp_all
  obtain ⟨rfl, rfl⟩ := trodVars_none hV
  obtain ⟨a0, rfl, rfl, rfl, w0⟩ := open_int Try.underlying3 (hval 0 3 v0 rfl rfl) h0
  clear hA0 hval0
  refine (walk a0 W w0).mono fun e W' ⟨he, hg⟩ => ?_
  subst he
  exact ⟨_, rfl, law_post hW' (by kernel_rfl) (by rw [Try.params4]; exact of_decide_eq_true (by kernel_rfl)) rfl rfl (by kernel_rfl) Try.underlying4 hg⟩

theorem over : Rows.placeRootedRow.holds Try.pinned (OpenSpec.ofChange Rows.placeRootedSpec) :=
  OpenClaim.holds_of_wide 4 Try.f4 rfl rfl rfl rfl rfl rfl rfl ⟨rfl, rfl, rfl, rfl, rfl⟩ rfl rfl rfl rfl rfl (by kernel_rfl) Try.func4 (by kernel_rfl)
    (of_decide_eq_true (by kernel_rfl)) (by unfold Func.isWrapper; first | (rw [if_pos (by decide +kernel)]; kernel_rfl) | (rw [if_neg (by decide +kernel)]; exact ⟨rfl, rfl⟩))
    (fun os started H enc _ => lifted os started H enc)

/-- the statement -/
theorem proved : Rows.PlaceRootedSaid := over
#print axioms proved

end Go.Proofs.Ytklopplfdpidfaa.placeRooted
