/- NodeGrows: what a node knows never gets older; it never takes itself for dead; no condition. -/
import Derived.Test.YtkclokmfomnbgaaGreatWa
import Derived.Test.YtkclokmfomnbgaaGreatWb
import Derived.Test.YtkclokmfomnbgaaGreatWc
import Derived.Test.YtkclokmfomnbgaaGreatWd
set_option linter.unusedSimpArgs false
namespace Go.Proofs.YtkclokmfomnbgaaGreat.nodeGrows
open Go.Joins Go.ChangeShapes Go.WideShapes Go.ChangeAt Go.RowKit Pl
set_option linter.unusedVariables false
theorem law (n : Nd) (p : Pk) (name : ByteArray) (h : n.ok) (hp : p.ok) (hn : name.size ≤ 9223372036854775807) : Fun Tryz.prog 8 [.c (.agg n.row), .c (.agg p.row), .c (.v (.string name))] [.c (.v (.bool true))] := by
 have D1 := hear_fun n h p hp
 have D2 := doubt_fun n h name hn
 have D3 := leave_fun n h
 by_cases he : n.err = 0
 ·have g := Nd.good he
  have hsh := Nd_sh g.ok
  have K1 := hear_keeps (p := p) g
  have K2 := turn_keeps (name := name) (frm := 1) (to := 2) g
  have K3 := leave_keeps g
  have O1 : (hearN n p).1 = 0 → Fun Tryz.prog 26 [.c (.agg n.row), .c (.agg (hearN n p).2.row)] [.c (.v (.bool false))] := fun e => older_fun _ _ hsh (K1 e).2.2.2.2.2.1 (K1 e).2.2.2.2.2.2
  have C1 : (hearN n p).1 = 0 → Fun Tryz.prog 17 [.c (.agg (hearN n p).2.row)] [.c (.v (.int .i64 0))] := fun e => by
   have := ndCheck_fun _ (K1 e).2.2.2.2.2.1.ok
   rw [(K1 e).2.2.2.2.2.1.err] at this; exact this
  have O2 := fun e => older_fun _ _ hsh (K2 e).1 (K2 e).2
  have C2 : (turnM n name 1 2).1 = 0 → Fun Tryz.prog 17 [.c (.agg (turnM n name 1 2).2.row)] [.c (.v (.int .i64 0))] := fun e => by
   have := ndCheck_fun _ (K2 e).1.ok
   rw [(K2 e).1.err] at this; exact this
  have O3 := fun e => older_fun _ _ hsh (K3 e).1 (K3 e).2
  have C3 : (leaveM n).1 = 0 → Fun Tryz.prog 17 [.c (.agg (leaveM n).2.row)] [.c (.v (.int .i64 0))] := fun e => by
   have := ndCheck_fun _ (K3 e).1.ok
   rw [(K3 e).1.err] at this; exact this
  clear K1 K2 K3
  generalize hearN n p = x1 at *
  generalize turnM n name 1 2 = x2 at *
  generalize leaveM n = x3 at *
  obtain ⟨e1, x1⟩ := x1
  obtain ⟨e2, x2⟩ := x2
  obtain ⟨e3, x3⟩ := x3
  have tail : ∀ (P : Prop), P → P := fun _ h => h
  refine fun_x ck_hearsaylaw_NodeGrows rfl ?_
  (refine goI ?_; repeat (intro gg; refine goI ?_))
  (refine .inl ⟨_, _, false, [], aI, nbegun_fun, nobor, nI, ?_⟩)
  (refine goI ?_; repeat (intro gg; refine goI ?_))
  (refine .inl ⟨_, _, false, [], aI, D1, nobor, nI, ?_⟩)
  (refine goI ?_; repeat (intro gg; refine goI ?_))
  (refine bIf_of (fun q1 => ?_) (fun q1 => ?_) <;> rw [q1])
  ·have z1 : e1 = 0 := eq_of_beq q1
   subst z1
   (refine goI ?_; repeat (intro gg; refine goI ?_))
   (refine .inl ⟨_, _, false, [], aI, O1 rfl, nobor, nI, ?_⟩)
   (refine goI ?_; repeat (intro gg; refine goI ?_))
   (refine .inl ⟨_, _, false, [], aI, C1 rfl, nobor, nI, ?_⟩)
   (refine goI ?_; repeat (intro gg; refine goI ?_))
   (refine .inl ⟨_, _, false, [], aI, D2, nobor, nI, ?_⟩)
   (refine goI ?_; repeat (intro gg; refine goI ?_))
   (refine bIf_of (fun q2 => ?_) (fun q2 => ?_) <;> rw [q2])
   ·have z2 : e2 = 0 := eq_of_beq q2
    subst z2
    (refine goI ?_; repeat (intro gg; refine goI ?_))
    (refine .inl ⟨_, _, false, [], aI, O2 rfl, nobor, nI, ?_⟩)
    (refine goI ?_; repeat (intro gg; refine goI ?_))
    (refine .inl ⟨_, _, false, [], aI, C2 rfl, nobor, nI, ?_⟩)
    (refine goI ?_; repeat (intro gg; refine goI ?_))
    (refine .inl ⟨_, _, false, [], aI, D3, nobor, nI, ?_⟩)
    (refine goI ?_; repeat (intro gg; refine goI ?_))
    (refine bIf_of (fun q3 => ?_) (fun q3 => ?_) <;> rw [q3])
    ·(refine goI ?_; repeat (intro gg; refine goI ?_))
     (exact ⟨[], aI⟩)
    ·have z3 : e3 = 0 := by simpa using q3
     subst z3
     (refine goI ?_; repeat (intro gg; refine goI ?_))
     (refine .inl ⟨_, _, false, [], aI, O3 rfl, nobor, nI, ?_⟩)
     (refine goI ?_; repeat (intro gg; refine goI ?_))
     (refine .inl ⟨_, _, false, [], aI, C3 rfl, nobor, nI, ?_⟩)
     (refine goI ?_; repeat (intro gg; refine goI ?_))
     (exact ⟨[], aI⟩)
   ·(refine goI ?_; repeat (intro gg; refine goI ?_))
    (refine .inl ⟨_, _, false, [], aI, D3, nobor, nI, ?_⟩)
    (refine goI ?_; repeat (intro gg; refine goI ?_))
    (refine bIf_of (fun q3 => ?_) (fun q3 => ?_) <;> rw [q3])
    ·(refine goI ?_; repeat (intro gg; refine goI ?_))
     (exact ⟨[], aI⟩)
    ·have z3 : e3 = 0 := by simpa using q3
     subst z3
     (refine goI ?_; repeat (intro gg; refine goI ?_))
     (refine .inl ⟨_, _, false, [], aI, O3 rfl, nobor, nI, ?_⟩)
     (refine goI ?_; repeat (intro gg; refine goI ?_))
     (refine .inl ⟨_, _, false, [], aI, C3 rfl, nobor, nI, ?_⟩)
     (refine goI ?_; repeat (intro gg; refine goI ?_))
     (exact ⟨[], aI⟩)
  ·(refine goI ?_; repeat (intro gg; refine goI ?_))
   (refine .inl ⟨_, _, false, [], aI, D2, nobor, nI, ?_⟩)
   (refine goI ?_; repeat (intro gg; refine goI ?_))
   (refine bIf_of (fun q2 => ?_) (fun q2 => ?_) <;> rw [q2])
   ·have z2 : e2 = 0 := eq_of_beq q2
    subst z2
    (refine goI ?_; repeat (intro gg; refine goI ?_))
    (refine .inl ⟨_, _, false, [], aI, O2 rfl, nobor, nI, ?_⟩)
    (refine goI ?_; repeat (intro gg; refine goI ?_))
    (refine .inl ⟨_, _, false, [], aI, C2 rfl, nobor, nI, ?_⟩)
    (refine goI ?_; repeat (intro gg; refine goI ?_))
    (refine .inl ⟨_, _, false, [], aI, D3, nobor, nI, ?_⟩)
    (refine goI ?_; repeat (intro gg; refine goI ?_))
    (refine bIf_of (fun q3 => ?_) (fun q3 => ?_) <;> rw [q3])
    ·(refine goI ?_; repeat (intro gg; refine goI ?_))
     (exact ⟨[], aI⟩)
    ·have z3 : e3 = 0 := by simpa using q3
     subst z3
     (refine goI ?_; repeat (intro gg; refine goI ?_))
     (refine .inl ⟨_, _, false, [], aI, O3 rfl, nobor, nI, ?_⟩)
     (refine goI ?_; repeat (intro gg; refine goI ?_))
     (refine .inl ⟨_, _, false, [], aI, C3 rfl, nobor, nI, ?_⟩)
     (refine goI ?_; repeat (intro gg; refine goI ?_))
     (exact ⟨[], aI⟩)
   ·(refine goI ?_; repeat (intro gg; refine goI ?_))
    (refine .inl ⟨_, _, false, [], aI, D3, nobor, nI, ?_⟩)
    (refine goI ?_; repeat (intro gg; refine goI ?_))
    (refine bIf_of (fun q3 => ?_) (fun q3 => ?_) <;> rw [q3])
    ·(refine goI ?_; repeat (intro gg; refine goI ?_))
     (exact ⟨[], aI⟩)
    ·have z3 : e3 = 0 := by simpa using q3
     subst z3
     (refine goI ?_; repeat (intro gg; refine goI ?_))
     (refine .inl ⟨_, _, false, [], aI, O3 rfl, nobor, nI, ?_⟩)
     (refine goI ?_; repeat (intro gg; refine goI ?_))
     (refine .inl ⟨_, _, false, [], aI, C3 rfl, nobor, nI, ?_⟩)
     (refine goI ?_; repeat (intro gg; refine goI ?_))
     (exact ⟨[], aI⟩)
 ·rw [hearN_e he] at D1
  rw [turnM_e he] at D2
  rw [leaveM_e he] at D3
  have z : (n.err == 0) = false := beq_eq_false_iff_ne.2 he
  refine fun_x ck_hearsaylaw_NodeGrows rfl ?_
  (refine goI ?_; repeat (intro gg; refine goI ?_))
  (refine .inl ⟨_, _, false, [], aI, nbegun_fun, nobor, nI, ?_⟩)
  (refine goI ?_; repeat (intro gg; refine goI ?_))
  (refine .inl ⟨_, _, false, [], aI, D1, nobor, nI, ?_⟩)
  (refine goI ?_; repeat (intro gg; refine goI ?_))
  rw [z]
  (refine goI ?_; repeat (intro gg; refine goI ?_))
  (refine .inl ⟨_, _, false, [], aI, D2, nobor, nI, ?_⟩)
  (refine goI ?_; repeat (intro gg; refine goI ?_))
  rw [z]
  (refine goI ?_; repeat (intro gg; refine goI ?_))
  (refine .inl ⟨_, _, false, [], aI, D3, nobor, nI, ?_⟩)
  (refine goI ?_; repeat (intro gg; refine goI ?_))
  rw [show (n.err != 0) = true from bne_iff_ne.2 he]
  (refine goI ?_; repeat (intro gg; refine goI ?_))
  (exact ⟨[], aI⟩)
theorem own : ownKnob Tryz.prog.godebug = none := by kernel_rfl
set_option maxRecDepth 100000 in
theorem lifted (os : Os) (started : os.Started) (H : Type) (enc : TypeId × Value → H) :
  ReturnsInHanded {} Tryz.checked os 8 .any (Rows.nodeGrowsSpec.pre6 enc Tryz.prog Tryz.f8 Rows.nodeGrowsRow.domain false) (Rows.nodeGrowsSpec.post enc Tryz.prog Tryz.f8 false true false false) := by
 refine returnsInHanded_of_change_sized (C := Tryz.checked) own started (by kernel_rfl) Tryz.func8
  (ChangeSpec.witness6 (enc := enc) (C := Tryz.checked) false ⟨#[], #[.agg #[.string ⟨#[]⟩, .string ⟨#[]⟩, .slice none 0 0, .slice none 0 0, .slice none 0 0, .slice none 0 0, .int .i64 0, .int .i64 0, .int .i64 0, .int .i64 0, .int .i64 0, .slice none 0 0], .agg #[.string ⟨#[]⟩, .bool false, .slice none 0 0, .slice none 0 0, .slice none 0 0, .slice none 0 0], .string ⟨#[]⟩], []⟩ 8 (by kernel_rfl) (by kernel_rfl) (by kernel_rfl) (by kernel_rfl)) ?_
 intro W base args ds gs before hval0 hW hcnd hsz _
 have hval : ∀ (j : Nat) t v, Tryz.f8.params[j]? = some t → args[j]? = some v → Value.okWide Tryz.prog W .any base t v := hval0
 have hW' := hW
 obtain ⟨p, q, hA0, hV, rfl, hfz, hnd⟩ := hW
 have hA : DataW.TrodAll enc Tryz.prog W 0 (fun _ => true) true Tryz.f8.params.toList args.toList ds p := hA0
 rw [Tryz.params8] at hA hval
 obtain ⟨v0, vs0, d0, ds0, p0, q0, hargs, rfl, rfl, h0, r0⟩ := trodAll_cons hA
 obtain ⟨v1, vs1, d1, ds1, p1, q1, rfl, rfl, rfl, h1, r1⟩ := trodAll_cons r0
 obtain ⟨v2, vs2, d2, ds2, p2, q2, rfl, rfl, rfl, h2, r2⟩ := trodAll_cons r1
 obtain ⟨rfl, rfl, rfl⟩ := trodAll_nil r2
 obtain rfl : args = #[v0, v1, v2] := by cases args; simp_all
 obtain ⟨rfl, rfl⟩ := trodVars_none hV
 obtain ⟨u0, f0, rv0⟩ := open_struct (dp := 5) Tryz.underlying30 (by kernel_rfl) (hval 0 30 v0 rfl rfl) h0
 obtain ⟨m0, rfl, mw0⟩ := nd_dec _ f0
 obtain ⟨u1, f1, rv1⟩ := open_struct (dp := 5) Tryz.underlying44 (by kernel_rfl) (hval 1 44 v1 rfl rfl) h1
 obtain ⟨m1, rfl, mw1⟩ := pk_dec _ f1
 have z1_3 := struct_len Tryz.underlying44 h1 rv1 (j := 1) hsz (by rw [Tryz.params8]; rfl) rfl (i := 3) rfl Tryz.underlying24 (by kernel_rfl) (by kernel_rfl) rfl
 have z1_4 := struct_len Tryz.underlying44 h1 rv1 (j := 1) hsz (by rw [Tryz.params8]; rfl) rfl (i := 4) rfl Tryz.underlying25 (by kernel_rfl) (by kernel_rfl) rfl
 have z1_5 := struct_len Tryz.underlying44 h1 rv1 (j := 1) hsz (by rw [Tryz.params8]; rfl) rfl (i := 5) rfl Tryz.underlying28 (by kernel_rfl) (by kernel_rfl) rfl
 obtain ⟨a2, rfl, rfl, rfl, w2⟩ := Go.ChangeMaps.open_string Tryz.underlying9 (hval 2 9 v2 rfl rfl) h2
 clear hA0 hval0
 refine (tieL (us := [_, _, _]) (xs := [_, _, _]) (w := W) (law m0 m1 a2 mw0 (mw1.ok z1_3 z1_4 z1_5) (by simpa [maxLen] using w2)) ⟨rv0, rv1, RV.v _, trivial⟩).mono fun e W' ⟨he, hg⟩ => ?_
 subst he
 exact ⟨_, rfl, law_post hW' (by kernel_rfl) (by rw [Tryz.params8]; exact of_decide_eq_true (by kernel_rfl)) rfl rfl (by kernel_rfl) Tryz.underlying4 hg⟩
theorem over : Rows.nodeGrowsRow.holds Tryz.pinned (OpenSpec.ofChange Rows.nodeGrowsSpec) :=
 OpenClaim.holds_of_wide 8 Tryz.f8 rfl rfl rfl rfl rfl rfl rfl ⟨rfl, rfl, rfl, rfl, rfl⟩ rfl rfl rfl rfl rfl (by kernel_rfl) Tryz.func8 (by kernel_rfl)
  (of_decide_eq_true (by kernel_rfl)) (by unfold Func.isWrapper; first | (rw [if_pos (by decide +kernel)]; kernel_rfl) | (rw [if_neg (by decide +kernel)]; exact ⟨rfl, rfl⟩))
  (fun os started H enc _ => lifted os started H enc)
theorem proved : Rows.NodeGrowsSaid := over
#print axioms proved
end Go.Proofs.YtkclokmfomnbgaaGreat.nodeGrows
