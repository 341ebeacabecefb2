/- NodeHears: whatever comes in, Hear answers what the reference answers; no condition. -/
import Derived.Test.YtkclokmfomnbgaaGreatZa
import Derived.Test.YtkclokmfomnbgaaGreatZb
import Derived.Test.YtkclokmfomnbgaaGreatZc
import Derived.Test.YtkclokmfomnbgaaGreatZd
set_option linter.unusedSimpArgs false
namespace Go.Proofs.YtkclokmfomnbgaaGreat.nodeHears
open Go.Joins Go.ChangeShapes Go.WideShapes Go.ChangeAt Go.RowKit Pl
set_option linter.unusedVariables false
theorem hearO_e {n : Nd} {p : Pk} (h : (hearO n p).1 ≠ 0) : (hearO n p).2 = nd0 := by
 unfold hearO at h ⊢
 split
 ·rfl
 ·rename_i q
  rw [if_neg q] at h
  unfold hearR at h ⊢
  split
  ·rfl
  ·rename_i q1
   rw [if_neg q1] at h
   split
   ·rfl
   ·rename_i q2
    rw [if_neg q2] at h
    split
    ·rfl
    ·rename_i q3
     rw [if_neg q3] at h
     exact absurd rfl h
theorem hearO_sh {n : Nd} (g : n.Good) {p : Pk} : Nd.sh (hearO n p).2 := by
 unfold hearO
 split
 ·exact nd0_sh
 ·unfold hearR
  split
  ·exact nd0_sh
  ·rename_i q1
   split
   ·exact nd0_sh
   ·rename_i q2
    split
    ·exact nd0_sh
    ·rename_i q3
     have q1 : (spreadsM n p.ms).1 = 0 := Classical.byContradiction q1
     have gx := (spreads_good g q1).1
     have hs := Nd_sh gx.ok
     have q2 : (joinS n.sv p.sv).1 = 0 := Classical.byContradiction q2
     have q3 : (joinG n.gs p.gs).1 = 0 := Classical.byContradiction q3
     have l2 : (joinS n.sv p.sv).2.length ≤ 40 := by
      unfold joinS at q2 ⊢
      split
      ·simp
      ·split
       ·simp
       ·split
        ·simp
        ·rename_i z; show (joinL Sv.kf Sv.nw n.sv p.sv).length ≤ 40; omega
     have l3 : (joinG n.gs p.gs).2.length ≤ 6 := by
      unfold joinG at q3 ⊢
      split
      ·simp
      ·split
       ·simp
       ·split
        ·simp
        ·rename_i z; show (joinL Gw.kf Gw.nw n.gs p.gs).length ≤ 6; omega
     have hw := ckWh_all g.wh
     have l4 := (putWhs_good p.wh (l := n.wh) hw.2.2 hw.1).2
     exact ⟨hs.msl, hs.rsl, by show (joinS n.sv p.sv).2.length ≤ _; omega, by show (joinG n.gs p.gs).2.length ≤ _; omega, by show (p.wh.foldl putWh n.wh).length ≤ _; omega⟩
theorem law (n : Nd) (p : Pk) (h : n.ok) (hp : p.ok) : Fun Tryz.prog 6 [.c (.agg n.row), .c (.agg p.row)] [.c (.v (.bool true))] := by
 have D1 := hear_fun n h p hp
 have C := rcheckN_fun n h
 by_cases he : n.err = 0
 ·have g := Nd.good he
  rw [hearN_O he] at D1
  rw [he] at C
  have T1 := hearOf_fun n g p hp
  have I1 := nodeIs_fun (hearO n p).2 (hearO n p).2 (hearO n p).1 (hearO_sh g) (fun _ => rfl) hearO_e
  generalize hearO n p = x1 at *
  refine fun_x ck_hearsaylaw_NodeHears rfl ?_
  (refine goI ?_; repeat (intro gg; refine goI ?_))
  (refine .inl ⟨_, _, false, [], aI, D1, nobor, nI, ?_⟩)
  (refine goI ?_; repeat (intro gg; refine goI ?_))
  (refine .inl ⟨_, _, false, [], aI, C, nobor, nI, ?_⟩)
  (refine goI ?_; repeat (intro gg; refine goI ?_))
  (refine .inl ⟨_, _, false, [], aI, T1, nobor, nI, ?_⟩)
  (refine goI ?_; repeat (intro gg; refine goI ?_))
  (refine .inl ⟨_, _, false, [], aI, nbegun_fun, nobor, nI, ?_⟩)
  (refine goI ?_; repeat (intro gg; refine goI ?_))
  (refine .inl ⟨_, _, false, [], aI, I1, nobor, nI, ?_⟩)
  (refine goI ?_; repeat (intro gg; refine goI ?_))
  (exact ⟨[], aI⟩)
 ·rw [hearN_e he] at D1
  have I := nodeIs_fun nd0 nd0 n.err nd0_sh (fun _ => rfl) (fun _ => rfl)
  refine fun_x ck_hearsaylaw_NodeHears rfl ?_
  (refine goI ?_; repeat (intro gg; refine goI ?_))
  (refine .inl ⟨_, _, false, [], aI, D1, nobor, nI, ?_⟩)
  (refine goI ?_; repeat (intro gg; refine goI ?_))
  (refine .inl ⟨_, _, false, [], aI, C, nobor, nI, ?_⟩)
  (refine goI ?_; repeat (intro gg; refine goI ?_))
  rw [show (n.err == 0) = false from beq_eq_false_iff_ne.2 he]
  (refine goI ?_; repeat (intro gg; refine goI ?_))
  (refine .inl ⟨_, _, false, [], aI, nbegun_fun, nobor, nI, ?_⟩)
  (refine goI ?_; repeat (intro gg; refine goI ?_))
  (refine .inl ⟨_, _, true, [], aI, I, (fun _ => fI), nI, ?_⟩)
  (refine goI ?_; repeat (intro gg; refine goI ?_))
  (exact ⟨[], aI⟩)
theorem own : ownKnob Tryz.prog.godebug = none := by kernel_rfl
set_option maxRecDepth 100000 in
theorem lifted (os : Os) (started : os.Started) (H : Type) (enc : TypeId × Value → H) :
  ReturnsInHanded {} Tryz.checked os 6 .any (Rows.nodeHearsSpec.pre6 enc Tryz.prog Tryz.f6 Rows.nodeHearsRow.domain false) (Rows.nodeHearsSpec.post enc Tryz.prog Tryz.f6 false true false false) := by
 refine returnsInHanded_of_change_sized (C := Tryz.checked) own started (by kernel_rfl) Tryz.func6
  (ChangeSpec.witness6 (enc := enc) (C := Tryz.checked) false ⟨#[], #[.agg #[.string ⟨#[]⟩, .string ⟨#[]⟩, .slice none 0 0, .slice none 0 0, .slice none 0 0, .slice none 0 0, .int .i64 0, .int .i64 0, .int .i64 0, .int .i64 0, .int .i64 0, .slice none 0 0], .agg #[.string ⟨#[]⟩, .bool false, .slice none 0 0, .slice none 0 0, .slice none 0 0, .slice none 0 0]], []⟩ 8 (by kernel_rfl) (by kernel_rfl) (by kernel_rfl) (by kernel_rfl)) ?_
 intro W base args ds gs before hval0 hW hcnd hsz _
 have hval : ∀ (j : Nat) t v, Tryz.f6.params[j]? = some t → args[j]? = some v → Value.okWide Tryz.prog W .any base t v := hval0
 have hW' := hW
 obtain ⟨p, q, hA0, hV, rfl, hfz, hnd⟩ := hW
 have hA : DataW.TrodAll enc Tryz.prog W 0 (fun _ => true) true Tryz.f6.params.toList args.toList ds p := hA0
 rw [Tryz.params6] at hA hval
 obtain ⟨v0, vs0, d0, ds0, p0, q0, hargs, rfl, rfl, h0, r0⟩ := trodAll_cons hA
 obtain ⟨v1, vs1, d1, ds1, p1, q1, rfl, rfl, rfl, h1, r1⟩ := trodAll_cons r0
 obtain ⟨rfl, rfl, rfl⟩ := trodAll_nil r1
 obtain rfl : args = #[v0, v1] := by cases args; simp_all
 obtain ⟨rfl, rfl⟩ := trodVars_none hV
 obtain ⟨u0, f0, rv0⟩ := open_struct (dp := 5) Tryz.underlying30 (by kernel_rfl) (hval 0 30 v0 rfl rfl) h0
 obtain ⟨m0, rfl, mw0⟩ := nd_dec _ f0
 obtain ⟨u1, f1, rv1⟩ := open_struct (dp := 5) Tryz.underlying44 (by kernel_rfl) (hval 1 44 v1 rfl rfl) h1
 obtain ⟨m1, rfl, mw1⟩ := pk_dec _ f1
 have z1_3 := struct_len Tryz.underlying44 h1 rv1 (j := 1) hsz (by rw [Tryz.params6]; rfl) rfl (i := 3) rfl Tryz.underlying24 (by kernel_rfl) (by kernel_rfl) rfl
 have z1_4 := struct_len Tryz.underlying44 h1 rv1 (j := 1) hsz (by rw [Tryz.params6]; rfl) rfl (i := 4) rfl Tryz.underlying25 (by kernel_rfl) (by kernel_rfl) rfl
 have z1_5 := struct_len Tryz.underlying44 h1 rv1 (j := 1) hsz (by rw [Tryz.params6]; rfl) rfl (i := 5) rfl Tryz.underlying28 (by kernel_rfl) (by kernel_rfl) rfl
 clear hA0 hval0
 refine (tieL (us := [_, _]) (xs := [_, _]) (w := W) (law m0 m1 mw0 (mw1.ok z1_3 z1_4 z1_5)) ⟨rv0, rv1, trivial⟩).mono fun e W' ⟨he, hg⟩ => ?_
 subst he
 exact ⟨_, rfl, law_post hW' (by kernel_rfl) (by rw [Tryz.params6]; exact of_decide_eq_true (by kernel_rfl)) rfl rfl (by kernel_rfl) Tryz.underlying4 hg⟩
theorem over : Rows.nodeHearsRow.holds Tryz.pinned (OpenSpec.ofChange Rows.nodeHearsSpec) :=
 OpenClaim.holds_of_wide 6 Tryz.f6 rfl rfl rfl rfl rfl rfl rfl ⟨rfl, rfl, rfl, rfl, rfl⟩ rfl rfl rfl rfl rfl (by kernel_rfl) Tryz.func6 (by kernel_rfl)
  (of_decide_eq_true (by kernel_rfl)) (by unfold Func.isWrapper; first | (rw [if_pos (by decide +kernel)]; kernel_rfl) | (rw [if_neg (by decide +kernel)]; exact ⟨rfl, rfl⟩))
  (fun os started H enc _ => lifted os started H enc)
theorem proved : Rows.NodeHearsSaid := over
#print axioms proved
end Go.Proofs.YtkclokmfomnbgaaGreat.nodeHears
