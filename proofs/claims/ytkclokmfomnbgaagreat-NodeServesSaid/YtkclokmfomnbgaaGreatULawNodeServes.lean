/- NodeServes: whatever comes in, Serve, Drop and Open answer what the reference answers; no condition. -/
import Derived.Test.YtkclokmfomnbgaaGreatUa
import Derived.Test.YtkclokmfomnbgaaGreatUb
import Derived.Test.YtkclokmfomnbgaaGreatUc
import Derived.Test.YtkclokmfomnbgaaGreatUd
set_option linter.unusedSimpArgs false
namespace Go.Proofs.YtkclokmfomnbgaaGreat.nodeServes
open Go.Joins Go.ChangeShapes Go.WideShapes Go.ChangeAt Go.RowKit Pl
set_option linter.unusedVariables false
theorem law (n : Nd) (s : Sv) (id : ByteArray) (a : Int) (h : n.ok) (hs : s.ok) (hid : id.size ≤ 9223372036854775807) (_ : -9223372036854775808 ≤ a ∧ a ≤ 9223372036854775807) : Fun Tryz.prog 11 [.c (.agg n.row), .c (.agg s.row), .c (.v (.string id)), .c (.v (.int .i64 a))] [.c (.v (.bool true))] := by
 have D1 := serve_fun n h s hs
 have D2 := drop_fun n h id hid
 have D3 := open_fun n h a
 have C := rcheckN_fun n h
 by_cases he : n.err = 0
 ·have g := Nd.good he
  rw [serveM_ok he] at D1
  rw [dropN_ok he] at D2
  rw [openN_ok he] at D3
  rw [he] at C
  have T1 := serveOf_fun n g s hs
  have T2 := dropOf_fun n g id hid
  have T3 := openGw_fun n g a
  have I1 := nodeIs_fun (serveR n s).2 (serveR n s).2 (serveR n s).1 (serveR_sh g) (fun _ => rfl) serveR_e
  have I2 := nodeIs_fun (dropRN n id).2 (dropRN n id).2 (dropRN n id).1 (dropRN_sh g) (fun _ => rfl) (fun e => doneN_e e)
  have I3 := nodeIs_fun (openRN n a).2 (openRN n a).2 (openRN n a).1 (openRN_sh g) (fun _ => rfl) (fun e => doneN_e e)
  generalize serveR n s = x1 at *
  generalize dropRN n id = x2 at *
  generalize openRN n a = x3 at *
  refine fun_x ck_hearsaylaw_NodeServes rfl ?_
  (refine goI ?_; repeat (intro gg; refine goI ?_))
  (refine .inl ⟨_, _, false, [], aI, D1, nobor, nI, ?_⟩)
  (refine goI ?_; repeat (intro gg; refine goI ?_))
  (refine .inl ⟨_, _, false, [], aI, D2, nobor, nI, ?_⟩)
  (refine goI ?_; repeat (intro gg; refine goI ?_))
  (refine .inl ⟨_, _, false, [], aI, D3, nobor, nI, ?_⟩)
  (refine goI ?_; repeat (intro gg; refine goI ?_))
  (refine .inl ⟨_, _, false, [], aI, C, nobor, nI, ?_⟩)
  (refine goI ?_; repeat (intro gg; refine goI ?_))
  (refine .inl ⟨_, _, false, [], aI, T1, nobor, nI, ?_⟩)
  refine G1 ?_; intro gg
  (refine .inl ⟨_, _, false, [], aI, T2, nobor, nI, ?_⟩)
  refine G1 ?_; intro gg
  (refine .inl ⟨_, _, false, [], aI, T3, nobor, nI, ?_⟩)
  refine G1 ?_; intro gg
  (refine .inl ⟨_, _, false, [], aI, nbegun_fun, nobor, nI, ?_⟩)
  refine G1 ?_; intro gg
  (refine .inl ⟨_, _, false, [], aI, I1, nobor, nI, ?_⟩)
  refine G1 ?_; intro gg
  (refine .inl ⟨_, _, false, [], aI, I2, nobor, nI, ?_⟩)
  refine G1 ?_; intro gg
  (refine .inl ⟨_, _, false, [], aI, I3, nobor, nI, ?_⟩)
  refine G1 ?_; intro gg
  (exact ⟨[], aI⟩)
 ·rw [serveM_e he] at D1
  rw [dropN_e he] at D2
  rw [openN_e he] at D3
  have I := nodeIs_fun nd0 nd0 n.err nd0_sh (fun _ => rfl) (fun _ => rfl)
  refine fun_x ck_hearsaylaw_NodeServes rfl ?_
  (refine goI ?_; repeat (intro gg; refine goI ?_))
  (refine .inl ⟨_, _, false, [], aI, D1, nobor, nI, ?_⟩)
  (refine goI ?_; repeat (intro gg; refine goI ?_))
  (refine .inl ⟨_, _, false, [], aI, D2, nobor, nI, ?_⟩)
  (refine goI ?_; repeat (intro gg; refine goI ?_))
  (refine .inl ⟨_, _, false, [], aI, D3, nobor, nI, ?_⟩)
  (refine goI ?_; repeat (intro gg; refine goI ?_))
  (refine .inl ⟨_, _, false, [], aI, C, nobor, nI, ?_⟩)
  (refine goI ?_; repeat (intro gg; refine goI ?_))
  rw [show (n.err == 0) = false from beq_eq_false_iff_ne.2 he]
  refine G0 ?_
  (refine .inl ⟨_, _, false, [], aI, nbegun_fun, nobor, nI, ?_⟩)
  refine G1 ?_; intro gg
  (refine .inl ⟨_, _, true, [], aI, I, (fun _ => fI), nI, ?_⟩)
  refine G1 ?_; intro gg
  (refine .inl ⟨_, _, true, [], aI, I, (fun _ => fI), nI, ?_⟩)
  refine G1 ?_; intro gg
  (refine .inl ⟨_, _, true, [], aI, I, (fun _ => fI), nI, ?_⟩)
  refine G1 ?_; intro gg
  (exact ⟨[], aI⟩)
theorem own : ownKnob Tryz.prog.godebug = none := by kernel_rfl
set_option maxRecDepth 100000 in
theorem lifted (os : Os) (started : os.Started) (H : Type) (enc : TypeId × Value → H) :
  ReturnsInHanded {} Tryz.checked os 11 .any (Rows.nodeServesSpec.pre6 enc Tryz.prog Tryz.f11 Rows.nodeServesRow.domain false) (Rows.nodeServesSpec.post enc Tryz.prog Tryz.f11 false true false false) := by
 refine returnsInHanded_of_change (C := Tryz.checked) own started (by kernel_rfl) Tryz.func11
  (ChangeSpec.witness6 (enc := enc) (C := Tryz.checked) false ⟨#[], #[.agg #[.string ⟨#[]⟩, .string ⟨#[]⟩, .slice none 0 0, .slice none 0 0, .slice none 0 0, .slice none 0 0, .int .i64 0, .int .i64 0, .int .i64 0, .int .i64 0, .int .i64 0, .slice none 0 0], .agg #[.string ⟨#[]⟩, .string ⟨#[]⟩, .string ⟨#[]⟩, .string ⟨#[]⟩, .int .i64 0, .int .i64 0, .bool false, .int .i64 0, .bool false], .string ⟨#[]⟩, .int .i64 0], []⟩ 8 (by kernel_rfl) (by kernel_rfl) (by kernel_rfl) (by kernel_rfl)) ?_
 intro W base args ds gs before hval0 hW hcnd hsz
 have hval : ∀ (j : Nat) t v, Tryz.f11.params[j]? = some t → args[j]? = some v → Value.okWide Tryz.prog W .any base t v := hval0
 have hW' := hW
 obtain ⟨p, q, hA0, hV, rfl, hfz, hnd⟩ := hW
 have hA : DataW.TrodAll enc Tryz.prog W 0 (fun _ => true) true Tryz.f11.params.toList args.toList ds p := hA0
 rw [Tryz.params11] at hA hval
 obtain ⟨v0, vs0, d0, ds0, p0, q0, hargs, rfl, rfl, h0, r0⟩ := trodAll_cons hA
 obtain ⟨v1, vs1, d1, ds1, p1, q1, rfl, rfl, rfl, h1, r1⟩ := trodAll_cons r0
 obtain ⟨v2, vs2, d2, ds2, p2, q2, rfl, rfl, rfl, h2, r2⟩ := trodAll_cons r1
 obtain ⟨v3, vs3, d3, ds3, p3, q3, rfl, rfl, rfl, h3, r3⟩ := trodAll_cons r2
 obtain ⟨rfl, rfl, rfl⟩ := trodAll_nil r3
 obtain rfl : args = #[v0, v1, v2, v3] := by cases args; simp_all
 obtain ⟨rfl, rfl⟩ := trodVars_none hV
 obtain ⟨u0, f0, rv0⟩ := open_struct (dp := 5) Tryz.underlying30 (by kernel_rfl) (hval 0 30 v0 rfl rfl) h0
 obtain ⟨m0, rfl, mw0⟩ := nd_dec _ f0
 obtain ⟨u1, f1, rv1⟩ := open_struct (dp := 5) Tryz.underlying64 (by kernel_rfl) (hval 1 64 v1 rfl rfl) h1
 obtain ⟨m1, rfl, mw1⟩ := sv_dec _ f1
 obtain ⟨a2, rfl, rfl, rfl, w2⟩ := Go.ChangeMaps.open_string Tryz.underlying9 (hval 2 9 v2 rfl rfl) h2
 obtain ⟨a3, rfl, rfl, rfl, w3⟩ := open_int Tryz.underlying3 (hval 3 3 v3 rfl rfl) h3
 clear hA0 hval0
 refine (tieL (us := [_, _, _, _]) (xs := [_, _, _, _]) (w := W) (law m0 m1 a2 a3 mw0 mw1 (by simpa [maxLen] using w2) (by simpa [Lit.wf, IntKind.min, IntKind.max, IntKind.signed, IntKind.bits] using w3)) ⟨rv0, rv1, RV.v _, RV.v _, trivial⟩).mono fun e W' ⟨he, hg⟩ => ?_
 subst he
 exact ⟨_, rfl, law_post hW' (by kernel_rfl) (by rw [Tryz.params11]; exact of_decide_eq_true (by kernel_rfl)) rfl rfl (by kernel_rfl) Tryz.underlying4 hg⟩
theorem over : Rows.nodeServesRow.holds Tryz.pinned (OpenSpec.ofChange Rows.nodeServesSpec) :=
 OpenClaim.holds_of_wide 11 Tryz.f11 rfl rfl rfl rfl rfl rfl rfl ⟨rfl, rfl, rfl, rfl, rfl⟩ rfl rfl rfl rfl rfl (by kernel_rfl) Tryz.func11 (by kernel_rfl)
  (of_decide_eq_true (by kernel_rfl)) (by unfold Func.isWrapper; first | (rw [if_pos (by decide +kernel)]; kernel_rfl) | (rw [if_neg (by decide +kernel)]; exact ⟨rfl, rfl⟩))
  (fun os started H enc _ => lifted os started H enc)
theorem proved : Rows.NodeServesSaid := over
#print axioms proved
end Go.Proofs.YtkclokmfomnbgaaGreat.nodeServes
