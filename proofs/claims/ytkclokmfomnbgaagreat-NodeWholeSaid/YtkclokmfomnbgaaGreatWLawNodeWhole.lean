/- NodeWhole: whoever hears all that another knows knows it, and hears nothing new at the second time; no condition. -/
import Derived.Test.YtkclokmfomnbgaaGreatWa
import Derived.Test.YtkclokmfomnbgaaGreatWb
import Derived.Test.YtkclokmfomnbgaaGreatWc
import Derived.Test.YtkclokmfomnbgaaGreatWd
set_option linter.unusedSimpArgs false
namespace Go.Proofs.YtkclokmfomnbgaaGreat.nodeWhole
open Go.Joins Go.ChangeShapes Go.WideShapes Go.ChangeAt Go.RowKit Pl
set_option linter.unusedVariables false
theorem law (a b : Nd) (ha : a.ok) (hb : b.ok) : Fun Tryz.prog 7 [.c (.agg a.row), .c (.agg b.row)] [.c (.v (.bool true))] := by
 have D1 := whole_fun a ha
 by_cases he : a.err = 0
 ·have g := Nd.good he
  have hsh := Nd_sh g.ok
  have e2 : wholeM a = wholeR a := by unfold wholeM; rw [if_neg (by simp [he])]
  rw [e2, he] at D1
  have hs := (ckSv_inv g.sv).1
  have hg := (ckGw_inv g.gs).1
  have hw := (ckWh_all g.wh).1
  have hp : (wholeR a).ok := ⟨ha.nm, ha.msl, ha.ms, by show a.sv.length ≤ _; omega, ha.sv, by show a.gs.length ≤ _; omega, ha.gs, by show a.wh.length ≤ _; omega, ha.wh⟩
  have D2 := hear_fun b hb (wholeR a) hp
  by_cases h0 : (hearN b (wholeR a)).1 = 0
  ·have hbe : b.err = 0 := by
    by_cases q : b.err = 0
    ·exact q
    ·rw [hearN_e q] at h0; exact h0
   have gb := Nd.good hbe
   have K := (hear_keeps (p := wholeR a) gb h0).2.2.2.2.2.1
   have O := older_fun a _ hsh K (hear_notOlder gb h0)
   have D3 := hear_fun _ K.ok (wholeR a) hp
   rw [hear_again gb h0] at D3
   have I := sameN_fun _ (Nd_sh K.ok)
   rw [h0] at D2
   generalize (hearN b (wholeR a)).2 = x at *
   generalize wholeR a = p at *
   refine fun_x ck_hearsaylaw_NodeWhole rfl ?_
   (refine goI ?_; repeat (intro gg; refine goI ?_))
   (refine .inl ⟨_, _, false, [], aI, nbegun_fun, nobor, nI, ?_⟩)
   (refine goI ?_; repeat (intro gg; refine goI ?_))
   (refine .inl ⟨_, _, false, [], aI, D1, nobor, nI, ?_⟩)
   (refine goI ?_; repeat (intro gg; refine goI ?_))
   (refine .inl ⟨_, _, false, [], aI, D2, nobor, nI, ?_⟩)
   (refine goI ?_; repeat (intro gg; refine goI ?_))
   (refine .inl ⟨_, _, false, [], aI, D3, nobor, nI, ?_⟩)
   (refine goI ?_; repeat (intro gg; refine goI ?_))
   (refine .inl ⟨_, _, false, [], aI, O, nobor, nI, ?_⟩)
   (refine goI ?_; repeat (intro gg; refine goI ?_))
   (refine .inl ⟨_, _, false, [], aI, I, nobor, nI, ?_⟩)
   (refine goI ?_; repeat (intro gg; refine goI ?_))
   (exact ⟨[], aI⟩)
  ·generalize hearN b (wholeR a) = x at *
   obtain ⟨e, x⟩ := x
   generalize wholeR a = p at *
   refine fun_x ck_hearsaylaw_NodeWhole rfl ?_
   (refine goI ?_; repeat (intro gg; refine goI ?_))
   (refine .inl ⟨_, _, false, [], aI, nbegun_fun, nobor, nI, ?_⟩)
   (refine goI ?_; repeat (intro gg; refine goI ?_))
   (refine .inl ⟨_, _, false, [], aI, D1, nobor, nI, ?_⟩)
   (refine goI ?_; repeat (intro gg; refine goI ?_))
   (refine .inl ⟨_, _, false, [], aI, D2, nobor, nI, ?_⟩)
   (refine goI ?_; repeat (intro gg; refine goI ?_))
   rw [show (e != 0) = true from bne_iff_ne.2 h0]
   (refine goI ?_; repeat (intro gg; refine goI ?_))
   (exact ⟨[], aI⟩)
 ·have e2 : wholeM a = pk0 := by unfold wholeM; rw [if_pos he]
  rw [e2] at D1
  have C := rcheckN_fun a ha
  refine fun_x ck_hearsaylaw_NodeWhole rfl ?_
  (refine goI ?_; repeat (intro gg; refine goI ?_))
  (refine .inl ⟨_, _, false, [], aI, nbegun_fun, nobor, nI, ?_⟩)
  (refine goI ?_; repeat (intro gg; refine goI ?_))
  (refine .inl ⟨_, _, false, [], aI, D1, nobor, nI, ?_⟩)
  (refine goI ?_; repeat (intro gg; refine goI ?_))
  rw [show (a.err != 0) = true from bne_iff_ne.2 he]
  (refine goI ?_; repeat (intro gg; refine goI ?_))
  (refine .inl ⟨_, _, false, [], aI, C, nobor, nI, ?_⟩)
  (refine goI ?_; repeat (intro gg; refine goI ?_))
  rw [show (a.err != 0) = true from bne_iff_ne.2 he]
  (refine goI ?_; repeat (intro gg; refine goI ?_))
  (exact ⟨[], aI⟩)
theorem own : ownKnob Tryz.prog.godebug = none := by kernel_rfl
set_option maxRecDepth 100000 in
theorem lifted (os : Os) (started : os.Started) (H : Type) (enc : TypeId × Value → H) :
  ReturnsInHanded {} Tryz.checked os 7 .any (Rows.nodeWholeSpec.pre6 enc Tryz.prog Tryz.f7 Rows.nodeWholeRow.domain false) (Rows.nodeWholeSpec.post enc Tryz.prog Tryz.f7 false true false false) := by
 refine returnsInHanded_of_change (C := Tryz.checked) own started (by kernel_rfl) Tryz.func7
  (ChangeSpec.witness6 (enc := enc) (C := Tryz.checked) false ⟨#[], #[.agg #[.string ⟨#[]⟩, .string ⟨#[]⟩, .slice none 0 0, .slice none 0 0, .slice none 0 0, .slice none 0 0, .int .i64 0, .int .i64 0, .int .i64 0, .int .i64 0, .int .i64 0, .slice none 0 0], .agg #[.string ⟨#[]⟩, .string ⟨#[]⟩, .slice none 0 0, .slice none 0 0, .slice none 0 0, .slice none 0 0, .int .i64 0, .int .i64 0, .int .i64 0, .int .i64 0, .int .i64 0, .slice none 0 0]], []⟩ 8 (by kernel_rfl) (by kernel_rfl) (by kernel_rfl) (by kernel_rfl)) ?_
 intro W base args ds gs before hval0 hW hcnd hsz
 have hval : ∀ (j : Nat) t v, Tryz.f7.params[j]? = some t → args[j]? = some v → Value.okWide Tryz.prog W .any base t v := hval0
 have hW' := hW
 obtain ⟨p, q, hA0, hV, rfl, hfz, hnd⟩ := hW
 have hA : DataW.TrodAll enc Tryz.prog W 0 (fun _ => true) true Tryz.f7.params.toList args.toList ds p := hA0
 rw [Tryz.params7] at hA hval
 obtain ⟨v0, vs0, d0, ds0, p0, q0, hargs, rfl, rfl, h0, r0⟩ := trodAll_cons hA
 obtain ⟨v1, vs1, d1, ds1, p1, q1, rfl, rfl, rfl, h1, r1⟩ := trodAll_cons r0
 obtain ⟨rfl, rfl, rfl⟩ := trodAll_nil r1
 obtain rfl : args = #[v0, v1] := by cases args; simp_all
 obtain ⟨rfl, rfl⟩ := trodVars_none hV
 obtain ⟨u0, f0, rv0⟩ := open_struct (dp := 5) Tryz.underlying30 (by kernel_rfl) (hval 0 30 v0 rfl rfl) h0
 obtain ⟨m0, rfl, mw0⟩ := nd_dec _ f0
 obtain ⟨u1, f1, rv1⟩ := open_struct (dp := 5) Tryz.underlying30 (by kernel_rfl) (hval 1 30 v1 rfl rfl) h1
 obtain ⟨m1, rfl, mw1⟩ := nd_dec _ f1
 clear hA0 hval0
 refine (tieL (us := [_, _]) (xs := [_, _]) (w := W) (law m0 m1 mw0 mw1) ⟨rv0, rv1, trivial⟩).mono fun e W' ⟨he, hg⟩ => ?_
 subst he
 exact ⟨_, rfl, law_post hW' (by kernel_rfl) (by rw [Tryz.params7]; exact of_decide_eq_true (by kernel_rfl)) rfl rfl (by kernel_rfl) Tryz.underlying4 hg⟩
theorem over : Rows.nodeWholeRow.holds Tryz.pinned (OpenSpec.ofChange Rows.nodeWholeSpec) :=
 OpenClaim.holds_of_wide 7 Tryz.f7 rfl rfl rfl rfl rfl rfl rfl ⟨rfl, rfl, rfl, rfl, rfl⟩ rfl rfl rfl rfl rfl (by kernel_rfl) Tryz.func7 (by kernel_rfl)
  (of_decide_eq_true (by kernel_rfl)) (by unfold Func.isWrapper; first | (rw [if_pos (by decide +kernel)]; kernel_rfl) | (rw [if_neg (by decide +kernel)]; exact ⟨rfl, rfl⟩))
  (fun os started H enc _ => lifted os started H enc)
theorem proved : Rows.NodeWholeSaid := over
#print axioms proved
end Go.Proofs.YtkclokmfomnbgaaGreat.nodeWhole
