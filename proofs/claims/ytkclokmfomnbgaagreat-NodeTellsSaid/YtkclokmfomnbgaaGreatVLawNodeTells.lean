/- NodeTells: whatever node comes in, Tell and Whole answer what the reference answers; no condition. -/
import Derived.Test.YtkclokmfomnbgaaGreatVa
import Derived.Test.YtkclokmfomnbgaaGreatVb
import Derived.Test.YtkclokmfomnbgaaGreatVc
import Derived.Test.YtkclokmfomnbgaaGreatVd
namespace Go.Proofs.YtkclokmfomnbgaaGreat.nodeTells
open Go.Joins Go.ChangeShapes Go.WideShapes Go.ChangeAt Go.RowKit Pl
set_option linter.unusedVariables false
theorem law (n : Nd) (h : n.ok) : Fun Tryz.prog 5 [.c (.agg n.row)] [.c (.v (.bool true))] := by
  have D1 := tell_fun n h
  have D2 := whole_fun n h
  have C := rcheckN_fun n h
  by_cases he : n.err = 0
  · have g := Nd.good he
    have e2 : wholeM n = wholeR n := by unfold wholeM; rw [if_neg (by simp [he])]
    rw [tellM_ok he, he] at D1
    rw [e2, he] at D2
    rw [he] at C
    have T1 := tellOf_fun n g
    have T2 := wholeOf_fun n
    have hR := ckRu_inv g.rs
    have hs := Nd_sh g.ok
    have hrs : (restN n).length ≤ 9223372036854775807 := by
      have := hR.len
      show (restL _ _).length ≤ _
      exact Nat.le_trans (List.length_filter_le _ _) (by rw [bumpS_len]; omega)
    obtain ⟨f1, f2, f3⟩ := told_facts hR
    have I1 := nodeIs_fun (tellN n) (tellN n) 0 ⟨hs.msl, hrs, hs.svl, hs.gsl, hs.whl⟩ (fun _ => rfl) (fun q => absurd rfl q)
    have I2 := samePk_fun (tellP n) ⟨by show (srtN (toldN n)).length ≤ _; rw [srtN_all f2]; omega, Nat.zero_le _, Nat.zero_le _, Nat.zero_le _⟩
    have I3 := samePk_fun (wholeR n) ⟨hs.msl, hs.svl, hs.gsl, hs.whl⟩
    generalize tellN n = x1 at *
    generalize tellP n = x2 at *
    generalize wholeR n = x3 at *
    refine fun_x ck_hearsaylaw_NodeTells rfl ?_
    refine G1 ?_; intro gg
    (refine .inl ⟨_, _, false, [], aI, D1, nobor, nI, ?_⟩)
    (refine goI ?_; repeat (intro gg; refine goI ?_))
    (refine .inl ⟨_, _, false, [], aI, D2, nobor, nI, ?_⟩)
    (refine goI ?_; repeat (intro gg; refine goI ?_))
    (refine .inl ⟨_, _, false, [], aI, C, nobor, nI, ?_⟩)
    (refine goI ?_; repeat (intro gg; refine goI ?_))
    (refine .inl ⟨_, _, false, [], aI, T1, nobor, nI, ?_⟩)
    refine G1 ?_; intro gg
    (refine .inl ⟨_, _, false, [], aI, T2, nobor, nI, ?_⟩)
    refine G1 ?_; intro gg
    (refine .inl ⟨_, _, false, [], aI, nbegun_fun, nobor, nI, ?_⟩)
    refine G1 ?_; intro gg
    (refine .inl ⟨_, _, false, [], aI, I1, nobor, nI, ?_⟩)
    refine G1 ?_; intro gg
    (refine .inl ⟨_, _, false, [], aI, I2, nobor, nI, ?_⟩)
    refine G1 ?_; intro gg
    (refine .inl ⟨_, _, false, [], aI, I3, nobor, nI, ?_⟩)
    refine G1 ?_; intro gg
    (exact ⟨[], aI⟩)
  · have e2 : wholeM n = pk0 := by unfold wholeM; rw [if_pos he]
    rw [tellM_e he] at D1
    rw [e2] at D2
    have I1 := nodeIs_fun nd0 nd0 n.err nd0_sh (fun _ => rfl) (fun _ => rfl)
    have I2 := samePk_fun pk0 pk0_sh
    refine fun_x ck_hearsaylaw_NodeTells rfl ?_
    refine G1 ?_; intro gg
    (refine .inl ⟨_, _, false, [], aI, D1, nobor, nI, ?_⟩)
    (refine goI ?_; repeat (intro gg; refine goI ?_))
    (refine .inl ⟨_, _, false, [], aI, D2, nobor, nI, ?_⟩)
    (refine goI ?_; repeat (intro gg; refine goI ?_))
    (refine .inl ⟨_, _, false, [], aI, C, nobor, nI, ?_⟩)
    (refine goI ?_; repeat (intro gg; refine goI ?_))
    rw [show (n.err == 0) = false from beq_eq_false_iff_ne.2 he]
    refine G0 ?_
    (refine .inl ⟨_, _, false, [], aI, nbegun_fun, nobor, nI, ?_⟩)
    refine G1 ?_; intro gg
    (refine .inl ⟨_, _, true, [], aI, I1, (fun _ => fI), nI, ?_⟩)
    refine G1 ?_; intro gg
    (refine .inl ⟨_, _, true, [], aI, I2, (fun _ => fI), nI, ?_⟩)
    refine G1 ?_; intro gg
    (refine bIf_of (fun q => ?_) (fun q => ?_) <;> rw [q]; rotate_left; focus (exfalso; simp at q))
    refine G0 ?_
    (refine .inl ⟨_, _, true, [], aI, I2, (fun _ => fI), nI, ?_⟩)
    refine G1 ?_; intro gg
    (exact ⟨[], aI⟩)
theorem own : ownKnob Tryz.prog.godebug = none := by kernel_rfl
set_option maxRecDepth 100000 in
theorem lifted (os : Os) (started : os.Started) (H : Type) (enc : TypeId × Value → H) :
    ReturnsInHanded {} Tryz.checked os 5 .any (Rows.nodeTellsSpec.pre6 enc Tryz.prog Tryz.f5 Rows.nodeTellsRow.domain false) (Rows.nodeTellsSpec.post enc Tryz.prog Tryz.f5 false true false false) := by
  refine returnsInHanded_of_change (C := Tryz.checked) own started (by kernel_rfl) Tryz.func5
    (ChangeSpec.witness6 (enc := enc) (C := Tryz.checked) false ⟨#[], #[.agg #[.string ⟨#[]⟩, .string ⟨#[]⟩, .slice none 0 0, .slice none 0 0, .slice none 0 0, .slice none 0 0, .int .i64 0, .int .i64 0, .int .i64 0, .int .i64 0, .int .i64 0, .slice none 0 0]], []⟩ 8 (by kernel_rfl) (by kernel_rfl) (by kernel_rfl) (by kernel_rfl)) ?_
  intro W base args ds gs before hval0 hW hcnd hsz
  have hval : ∀ (j : Nat) t v, Tryz.f5.params[j]? = some t → args[j]? = some v → Value.okWide Tryz.prog W .any base t v := hval0
  have hW' := hW
  obtain ⟨p, q, hA0, hV, rfl, hfz, hnd⟩ := hW
  have hA : DataW.TrodAll enc Tryz.prog W 0 (fun _ => true) true Tryz.f5.params.toList args.toList ds p := hA0
  rw [Tryz.params5] at hA hval
  obtain ⟨v0, vs0, d0, ds0, p0, q0, hargs, rfl, rfl, h0, r0⟩ := trodAll_cons hA
  obtain ⟨rfl, rfl, rfl⟩ := trodAll_nil r0
  obtain rfl : args = #[v0] := by cases args; simp_all
  obtain ⟨rfl, rfl⟩ := trodVars_none hV
  obtain ⟨u0, f0, rv0⟩ := open_struct (dp := 5) Tryz.underlying30 (by kernel_rfl) (hval 0 30 v0 rfl rfl) h0
  obtain ⟨m0, rfl, mw0⟩ := nd_dec _ f0
  clear hA0 hval0
  refine (tieL (us := [_]) (xs := [_]) (w := W) (law m0 mw0) ⟨rv0, trivial⟩).mono fun e W' ⟨he, hg⟩ => ?_
  subst he
  exact ⟨_, rfl, law_post hW' (by kernel_rfl) (by rw [Tryz.params5]; exact of_decide_eq_true (by kernel_rfl)) rfl rfl (by kernel_rfl) Tryz.underlying4 hg⟩
theorem over : Rows.nodeTellsRow.holds Tryz.pinned (OpenSpec.ofChange Rows.nodeTellsSpec) :=
  OpenClaim.holds_of_wide 5 Tryz.f5 rfl rfl rfl rfl rfl rfl rfl ⟨rfl, rfl, rfl, rfl, rfl⟩ rfl rfl rfl rfl rfl (by kernel_rfl) Tryz.func5 (by kernel_rfl)
    (of_decide_eq_true (by kernel_rfl)) (by unfold Func.isWrapper; first | (rw [if_pos (by decide +kernel)]; kernel_rfl) | (rw [if_neg (by decide +kernel)]; exact ⟨rfl, rfl⟩))
    (fun os started H enc _ => lifted os started H enc)
theorem proved : Rows.NodeTellsSaid := over
#print axioms proved
end Go.Proofs.YtkclokmfomnbgaaGreat.nodeTells
