/- NodeTurns: whatever comes in, Doubt, Bury and Leave answer what the reference answers; no condition. -/
import Derived.Test.YtkclokmfomnbgaaGreatYa
import Derived.Test.YtkclokmfomnbgaaGreatYb
import Derived.Test.YtkclokmfomnbgaaGreatYc
set_option linter.unusedSimpArgs false
namespace Go.Proofs.YtkclokmfomnbgaaGreat.nodeTurns
open Go.Joins Go.ChangeShapes Go.WideShapes Go.ChangeAt Go.RowKit Pl
set_option linter.unusedVariables false
theorem law (n : Nd) (name : ByteArray) (h : n.ok) (hn : name.size ≤ 9223372036854775807) : Fun Tryz.prog 9 [.c (.agg n.row), .c (.v (.string name))] [.c (.v (.bool true))] := by
 have D1 := doubt_fun n h name hn
 have D2 := bury_fun n h name hn
 have D3 := leave_fun n h
 have C := rcheckN_fun n h
 by_cases he : n.err = 0
 ·have g := Nd.good he
  rw [turnM_ok he] at D1 D2
  rw [leaveM_ok he] at D3
  rw [he] at C
  have T1 := turnOf_fun n g name hn 1 2 rfl
  have T2 := turnOf_fun n g name hn 2 3 rfl
  have T3 := leaveOf_fun n g
  have I1 := nodeIs_fun (turnR n name 1 2).2 (turnR n name 1 2).2 (turnR n name 1 2).1 (turnR_sh g) (fun _ => rfl) turnR_e
  have I2 := nodeIs_fun (turnR n name 2 3).2 (turnR n name 2 3).2 (turnR n name 2 3).1 (turnR_sh g) (fun _ => rfl) turnR_e
  have I3 := nodeIs_fun (leaveR n).2 (leaveR n).2 (leaveR n).1 (leaveR_sh g) (fun _ => rfl) leaveR_e
  generalize turnR n name 1 2 = x1 at *
  generalize turnR n name 2 3 = x2 at *
  generalize leaveR n = x3 at *
  refine fun_x ck_hearsaylaw_NodeTurns rfl ?_
  refine G1 ?_; intro gg
  (refine .inl ⟨_, _, false, [], aI, D1, nobor, nI, ?_⟩)
  (refine goI ?_; repeat (intro gg; refine goI ?_))
  (refine .inl ⟨_, _, false, [], aI, D2, nobor, nI, ?_⟩)
  (refine goI ?_; repeat (intro gg; refine goI ?_))
  (refine .inl ⟨_, _, false, [], aI, D3, nobor, nI, ?_⟩)
  (refine goI ?_; repeat (intro gg; refine goI ?_))
  (refine .inl ⟨_, _, false, [], aI, C, nobor, nI, ?_⟩)
  (refine goI ?_; repeat (intro gg; refine goI ?_))
  (refine .inl ⟨_, _, false, [], aI, T1, nobor, nI, ?_⟩)
  refine G1 ?_; intro gg
  (refine .inl ⟨_, _, false, [], aI, T2, nobor, nI, ?_⟩)
  refine G1 ?_; intro gg
  (refine .inl ⟨_, _, false, [], aI, T3, nobor, nI, ?_⟩)
  refine G1 ?_; intro gg
  (refine .inl ⟨_, _, false, [], aI, nbegun_fun, nobor, nI, ?_⟩)
  refine G1 ?_; intro gg
  (refine .inl ⟨_, _, false, [], aI, I1, nobor, nI, ?_⟩)
  refine G1 ?_; intro gg
  (refine .inl ⟨_, _, false, [], aI, I2, nobor, nI, ?_⟩)
  refine G1 ?_; intro gg
  (refine .inl ⟨_, _, false, [], aI, I3, nobor, nI, ?_⟩)
  refine G1 ?_; intro gg
  (exact ⟨[], aI⟩)
 ·rw [turnM_e he] at D1 D2
  rw [leaveM_e he] at D3
  have I := nodeIs_fun nd0 nd0 n.err nd0_sh (fun _ => rfl) (fun _ => rfl)
  refine fun_x ck_hearsaylaw_NodeTurns rfl ?_
  refine G1 ?_; intro gg
  (refine .inl ⟨_, _, false, [], aI, D1, nobor, nI, ?_⟩)
  (refine goI ?_; repeat (intro gg; refine goI ?_))
  (refine .inl ⟨_, _, false, [], aI, D2, nobor, nI, ?_⟩)
  (refine goI ?_; repeat (intro gg; refine goI ?_))
  (refine .inl ⟨_, _, false, [], aI, D3, nobor, nI, ?_⟩)
  (refine goI ?_; repeat (intro gg; refine goI ?_))
  (refine .inl ⟨_, _, false, [], aI, C, nobor, nI, ?_⟩)
  (refine goI ?_; repeat (intro gg; refine goI ?_))
  rw [show (n.err == 0) = false from beq_eq_false_iff_ne.2 he]
  refine G0 ?_
  (refine .inl ⟨_, _, false, [], aI, nbegun_fun, nobor, nI, ?_⟩)
  refine G1 ?_; intro gg
  (refine .inl ⟨_, _, true, [], aI, I, (fun _ => fI), nI, ?_⟩)
  refine G1 ?_; intro gg
  (refine .inl ⟨_, _, true, [], aI, I, (fun _ => fI), nI, ?_⟩)
  refine G1 ?_; intro gg
  (refine .inl ⟨_, _, true, [], aI, I, (fun _ => fI), nI, ?_⟩)
  refine G1 ?_; intro gg
  (exact ⟨[], aI⟩)
theorem own : ownKnob Tryz.prog.godebug = none := by kernel_rfl
set_option maxRecDepth 100000 in
theorem lifted (os : Os) (started : os.Started) (H : Type) (enc : TypeId × Value → H) :
  ReturnsInHanded {} Tryz.checked os 9 .any (Rows.nodeTurnsSpec.pre6 enc Tryz.prog Tryz.f9 Rows.nodeTurnsRow.domain false) (Rows.nodeTurnsSpec.post enc Tryz.prog Tryz.f9 false true false false) := by
 refine returnsInHanded_of_change (C := Tryz.checked) own started (by kernel_rfl) Tryz.func9
  (ChangeSpec.witness6 (enc := enc) (C := Tryz.checked) false ⟨#[], #[.agg #[.string ⟨#[]⟩, .string ⟨#[]⟩, .slice none 0 0, .slice none 0 0, .slice none 0 0, .slice none 0 0, .int .i64 0, .int .i64 0, .int .i64 0, .int .i64 0, .int .i64 0, .slice none 0 0], .string ⟨#[]⟩], []⟩ 8 (by kernel_rfl) (by kernel_rfl) (by kernel_rfl) (by kernel_rfl)) ?_
 intro W base args ds gs before hval0 hW hcnd hsz
 have hval : ∀ (j : Nat) t v, Tryz.f9.params[j]? = some t → args[j]? = some v → Value.okWide Tryz.prog W .any base t v := hval0
 have hW' := hW
 obtain ⟨p, q, hA0, hV, rfl, hfz, hnd⟩ := hW
 have hA : DataW.TrodAll enc Tryz.prog W 0 (fun _ => true) true Tryz.f9.params.toList args.toList ds p := hA0
 rw [Tryz.params9] at hA hval
 obtain ⟨v0, vs0, d0, ds0, p0, q0, hargs, rfl, rfl, h0, r0⟩ := trodAll_cons hA
 obtain ⟨v1, vs1, d1, ds1, p1, q1, rfl, rfl, rfl, h1, r1⟩ := trodAll_cons r0
 obtain ⟨rfl, rfl, rfl⟩ := trodAll_nil r1
 obtain rfl : args = #[v0, v1] := by cases args; simp_all
 obtain ⟨rfl, rfl⟩ := trodVars_none hV
 obtain ⟨u0, f0, rv0⟩ := open_struct (dp := 5) Tryz.underlying30 (by kernel_rfl) (hval 0 30 v0 rfl rfl) h0
 obtain ⟨m0, rfl, mw0⟩ := nd_dec _ f0
 obtain ⟨a1, rfl, rfl, rfl, w1⟩ := Go.ChangeMaps.open_string Tryz.underlying9 (hval 1 9 v1 rfl rfl) h1
 clear hA0 hval0
 refine (tieL (us := [_, _]) (xs := [_, _]) (w := W) (law m0 a1 mw0 (by simpa [maxLen] using w1)) ⟨rv0, RV.v _, trivial⟩).mono fun e W' ⟨he, hg⟩ => ?_
 subst he
 exact ⟨_, rfl, law_post hW' (by kernel_rfl) (by rw [Tryz.params9]; exact of_decide_eq_true (by kernel_rfl)) rfl rfl (by kernel_rfl) Tryz.underlying4 hg⟩
theorem over : Rows.nodeTurnsRow.holds Tryz.pinned (OpenSpec.ofChange Rows.nodeTurnsSpec) :=
 OpenClaim.holds_of_wide 9 Tryz.f9 rfl rfl rfl rfl rfl rfl rfl ⟨rfl, rfl, rfl, rfl, rfl⟩ rfl rfl rfl rfl rfl (by kernel_rfl) Tryz.func9 (by kernel_rfl)
  (of_decide_eq_true (by kernel_rfl)) (by unfold Func.isWrapper; first | (rw [if_pos (by decide +kernel)]; kernel_rfl) | (rw [if_neg (by decide +kernel)]; exact ⟨rfl, rfl⟩))
  (fun os started H enc _ => lifted os started H enc)
theorem proved : Rows.NodeTurnsSaid := over
#print axioms proved
end Go.Proofs.YtkclokmfomnbgaaGreat.nodeTurns
