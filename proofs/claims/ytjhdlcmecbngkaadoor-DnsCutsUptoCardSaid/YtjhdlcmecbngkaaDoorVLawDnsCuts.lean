/- DnsCuts: whatever message and size come in, what fits is no longer than told and has the first records; the message of bulk at most 1048576. -/
import Derived.Test.YtjhdlcmecbngkaaDoorCards
import Derived.Test.YtjhdlcmecbngkaaDoorTie
import Derived.Deep.DeepHandedRow
import Derived.Deep.DeepWitnessRowRef
import Derived.Lib.LaidU8
import Derived.Lib.LaidIn
import Derived.Test.YtjhdlcmecbngkaaDoorVa
import Derived.Test.YtjhdlcmecbngkaaDoorVb
import Derived.Test.YtjhdlcmecbngkaaDoorVc
import Derived.Test.YtjhdlcmecbngkaaDoorVd
set_option linter.unusedSimpArgs false
namespace Go.Proofs.YtjhdlcmecbngkaaDoor.dnsCuts
open Go.Joins Go.ChangeShapes Go.WideShapes Go.ChangeAt Go.RowKit Pl
set_option linter.unusedVariables false
theorem firstE_take {l : List Int} {n : Nat} (h : firstE l = 0) : firstE (l.take n) = 0 := by
 induction l generalizing n with
 | nil => simpa using h
 | cons e l ih =>
  by_cases he : e ≠ 0
  ·have : firstE (e :: l) = e := if_pos he
   rw [this] at h; exact absurd h he
  ·have h1 : firstE (e :: l) = firstE l := if_neg he
   rw [h1] at h
   cases n with
   | zero => rfl
   | succ n => rw [List.take_succ_cons]; exact (if_neg he : firstE (e :: l.take n) = firstE (l.take n)).trans (ih h)
theorem cut_err {m : Ms} (h : msgErr m = 0) (n : Nat) : msgErr (cutM m n) = 0 := by
 have e0 : ∀ m : Ms, msgErr m = bif !wIn m.id 0 65535 then 3 else bif !wIn m.co 0 15 then 3 else if 20 < m.rs.length then 2 else if nameErr m.qn ≠ 0 then nameErr m.qn else bif !isTy m.qt then 7 else firstE (m.rs.map recErr) := fun _ => rfl
 rw [e0] at h ⊢
 show (bif !wIn m.id 0 65535 then (3 : Int) else bif !wIn m.co 0 15 then 3 else if 20 < (m.rs.take n).length then 2 else if nameErr m.qn ≠ 0 then nameErr m.qn else bif !isTy m.qt then 7 else firstE ((m.rs.take n).map recErr)) = 0
 cases h1 : (!wIn m.id 0 65535) with
 | true => rw [h1] at h; exact absurd h (by decide : (3 : Int) ≠ 0)
 | false =>
  rw [h1, cond_false] at h
  cases h2 : (!wIn m.co 0 15) with
  | true => rw [h2] at h; exact absurd h (by decide : (3 : Int) ≠ 0)
  | false =>
   rw [h2, cond_false] at h
   by_cases h3 : 20 < m.rs.length
   ·rw [if_pos h3] at h; exact absurd h (by decide)
   ·rw [if_neg h3] at h
    have h3' : ¬ 20 < (m.rs.take n).length := by rw [List.length_take]; omega
    by_cases h4 : nameErr m.qn ≠ 0
    ·rw [if_pos h4] at h; exact absurd h h4
    ·rw [if_neg h4] at h
     simp only [cond_false]
     rw [if_neg h3', if_neg h4]
     cases h5 : (!isTy m.qt) with
     | true => rw [h5] at h; exact absurd h (by decide : (7 : Int) ≠ 0)
     | false => rw [h5, cond_false] at h; rw [cond_false, List.map_take]; exact firstE_take h
theorem fitK_cut (m : Ms) (z : Int) (n : Nat) (hn : n ≤ m.rs.length) : (∃ k, k ≤ m.rs.length ∧ fitK m z n = (bA (msgB (cutM m k)), 0) ∧ ((msgB (cutM m k)).length : Int) ≤ z) ∨ fitK m z n = (⟨#[]⟩, 2) := by
 induction n with
 | zero =>
  by_cases h : ((msgB (cutM m 0)).length : Int) ≤ z
  ·exact .inl ⟨0, hn, fitK_yes h, h⟩
  ·exact .inr (fitK_end h)
 | succ n ih =>
  by_cases h : ((msgB (cutM m (n + 1))).length : Int) ≤ z
  ·exact .inl ⟨n + 1, hn, fitK_yes h, h⟩
  ·rw [fitK_no h]; exact ih (by omega)
theorem fitP_cut (m : Ms) (z : Int) : (∃ k, k ≤ m.rs.length ∧ fitP m z = (bA (msgB (cutM m k)), 0) ∧ ((msgB (cutM m k)).length : Int) ≤ z ∧ z ≤ 512 ∧ msgErr m = 0) ∨ ∃ e, e ≠ 0 ∧ fitP m z = (⟨#[]⟩, e) := by
 have e0 : fitP m z = bif !wIn z 12 512 then (⟨#[]⟩, 3) else if msgErr m ≠ 0 then (⟨#[]⟩, msgErr m) else fitK m z m.rs.length := rfl
 cases hw : (!wIn z 12 512) with
 | true => rw [hw] at e0; exact .inr ⟨3, by decide, e0⟩
 | false =>
  rw [hw, cond_false] at e0
  have hz : z ≤ 512 := by
   unfold wIn at hw
   cases h1 : decide ((12 : Int) ≤ z) with
   | false => rw [h1] at hw; exact absurd (show (true : Bool) = false from hw) (by decide)
   | true => rw [h1, cond_true] at hw; have := of_decide_eq_true (by simpa using hw); omega
  by_cases he : msgErr m ≠ 0
  ·rw [if_pos he] at e0; exact .inr ⟨_, he, e0⟩
  ·rw [if_neg he] at e0
   rcases fitK_cut m z m.rs.length (Nat.le_refl _) with ⟨k, h1, h2, h3⟩ | h
   ·exact .inl ⟨k, h1, e0.trans h2, h3, hz, Decidable.not_not.1 he⟩
   ·exact .inr ⟨2, by decide, e0.trans h⟩
theorem law (m : Ms) (z : Int) (hm : MsIn m) (hz : -9223372036854775808 ≤ z ∧ z ≤ 9223372036854775807) : Fun Tryd.prog 11 [.c (.agg m.row), .c (.v (.int .i64 z))] [.c (.v (.bool true))] := by
 have hF := Fit_fun m z hm
 have hln := hm.ln
 rcases fitP_cut m z with ⟨k, h1, h2, h3, h4, h5⟩ | ⟨e, he, h2⟩
 ·rw [h2] at hF
  simp only at hF
  have hR := Read_fun (bA (msgB (cutM m k)))
  rw [show rdP (bA (msgB (cutM m k))) = (cutM m k, 0) from rdP_back (cut_err h5 k) (by omega)] at hR
  simp only at hR
  obtain ⟨id, an, ct, co, qn, qt, rs⟩ := m
  simp only at h1 hln
  have hS := sameRecs_fun false false (rs.take k) (by rw [List.length_take]; omega)
  have hlk : ((rs.take k).map Rr.row).length = k := by rw [List.length_map, List.length_take]; omega
  refine fun_x ck_hearsaylaw_DnsCuts rfl ?_
  (refine goI ?_; repeat (intro gg; refine goI ?_))
  (refine .inl ⟨_, _, false, [], aI, begun, nobor, nI, ?_⟩)
  (refine goI ?_; repeat (intro gg; refine goI ?_))
  (refine .inl ⟨_, _, false, [], aI, hF, nobor, nI, ?_⟩)
  (refine goI ?_; repeat (intro gg; refine goI ?_))
  (refine .inl ⟨_, _, false, [], aI, hR, nobor, nI, ?_⟩)
  (refine goI ?_; repeat (intro gg; refine goI ?_))
  have hlk' : (((cutM ⟨id, an, ct, co, qn, qt, rs⟩ k).rs.map Rr.row).length : Int) = (k : Int) := congrArg Int.ofNat hlk
  have hla : ((rs.map Rr.row).length : Int) = (rs.length : Int) := by rw [List.length_map]
  have row0 : (rs.map Rr.row) = [] ∨ ∃ row, (rs.map Rr.row)[0]? = some row ∧ row.length = 7 := by
   rcases rs with _ | ⟨r, rs⟩
   ·exact .inl rfl
   ·exact .inr ⟨_, rfl, rfl⟩
  have hsl : ((rs.map Rr.row).drop 0).take (k - 0) = (rs.take k).map Rr.row := by rw [List.drop_zero, List.map_take, Nat.sub_zero]
  rw [bA_size, show decide (((msgB (cutM ⟨id, an, ct, co, qn, qt, rs⟩ k)).length : Int) ≤ z) = true from decide_eq_true h3]
  (refine goI ?_; repeat (intro gg; refine goI ?_))
  rw [show decide ((((cutM ⟨id, an, ct, co, qn, qt, rs⟩ k).rs.map Rr.row).length : Int) ≤ ((rs.map Rr.row).length : Int)) = true from decide_eq_true (by rw [hlk', hla]; omega)]
  (refine goI ?_; repeat (intro gg; refine goI ?_))
  refine ⟨0, k, rfl, ⟨.i64, congrArg (fun x => V.v (.int .i64 x)) hlk'⟩, Nat.zero_le _, by show k ≤ (rs.map Rr.row).length; rw [List.length_map]; omega, row0, ?_⟩
  rw [hsl]
  (refine goI ?_; repeat (intro gg; refine goI ?_))
  (refine .inl ⟨_, _, false, [], aI, hS, nobor, nI, ?_⟩)
  (refine goI ?_; repeat (intro gg; refine goI ?_))
  cases ct
  ·(refine goI ?_; repeat (intro gg; refine goI ?_))
   rw [show decide ((((cutM ⟨id, an, false, co, qn, qt, rs⟩ k).rs.map Rr.row).length : Int) < ((rs.map Rr.row).length : Int)) = decide (k < rs.length) from by rw [hlk', hla]; exact decide_eq_decide.2 (by omega)]
   (refine goI ?_; repeat (intro gg; refine goI ?_))
   rw [show ((cutM ⟨id, an, false, co, qn, qt, rs⟩ k).ct == decide (k < rs.length)) = true from beq_self_eq_true _]
   (refine goI ?_; repeat (intro gg; refine goI ?_))
   rw [show ((cutM ⟨id, an, false, co, qn, qt, rs⟩ k).id == id) = true from beq_self_eq_true _]
   (refine goI ?_; repeat (intro gg; refine goI ?_))
   rw [show ((cutM ⟨id, an, false, co, qn, qt, rs⟩ k).qn.toList == qn.toList && ((cutM ⟨id, an, false, co, qn, qt, rs⟩ k).qt == qt && true)) = true by simp [cutM]]
   (exact ⟨[], aI⟩)
  ·(refine goI ?_; repeat (intro gg; refine goI ?_))
   rw [show ((cutM ⟨id, an, true, co, qn, qt, rs⟩ k).ct == true) = true from beq_self_eq_true _]
   (refine goI ?_; repeat (intro gg; refine goI ?_))
   rw [show ((cutM ⟨id, an, true, co, qn, qt, rs⟩ k).id == id) = true from beq_self_eq_true _]
   (refine goI ?_; repeat (intro gg; refine goI ?_))
   rw [show ((cutM ⟨id, an, true, co, qn, qt, rs⟩ k).qn.toList == qn.toList && ((cutM ⟨id, an, true, co, qn, qt, rs⟩ k).qt == qt && true)) = true by simp [cutM]]
   (exact ⟨[], aI⟩)
 ·rw [h2] at hF
  simp only at hF
  refine fun_x ck_hearsaylaw_DnsCuts rfl ?_
  (refine goI ?_; repeat (intro gg; refine goI ?_))
  (refine .inl ⟨_, _, false, [], aI, begun, nobor, nI, ?_⟩)
  (refine goI ?_; repeat (intro gg; refine goI ?_))
  (refine .inl ⟨_, _, false, [], aI, hF, nobor, nI, ?_⟩)
  (refine goI ?_; repeat (intro gg; refine goI ?_))
  rw [show (e != 0) = true from bne_iff_ne.2 he]
  (refine goI ?_; repeat (intro gg; refine goI ?_))
  rw [show ((⟨#[]⟩ : ByteArray).toList == (⟨#[]⟩ : ByteArray).toList) = true from beq_self_eq_true _]
  (exact ⟨[], aI⟩)
theorem own : ownKnob Tryd.prog.godebug = none := by kernel_rfl
noncomputable def laidWorld (os : Os) : World :=
 let w0 := World.holding Tryd.prog os ⟨#[], #[], []⟩
 let put (h : Array Obj) (g : Nat) (cs : Array Value) : Array Obj := h.modify g fun
  | .cells _ t frozen => .cells cs t frozen
  | o => o
 let h1 := put w0.heap 1 (Lib.firstTab.map fun z => Value.int .u8 z).toArray
 let h2 := put h1 2 ((List.range 16).flatMap fun i => [Value.int .u8 (Lib.accLo i), Value.int .u8 (Lib.accHi i)]).toArray
 { w0 with heap := h2 }
set_option maxRecDepth 100000 in
theorem laid_met (os : Os) (args : Array Value) : laidMet Tryd.prog Rows.dnsCutsUptoRow.laid ((laidWorld os).forCall (fun _ _ => 0) ⟨#[], args, []⟩).memory :=
 (LaidIn.of_run (l := [("unicode/utf8.acceptRanges", Rows.laid_unicode_utf8_acceptRanges), ("unicode/utf8.first", Rows.laid_unicode_utf8_first)]) [2, 1] 8 (by kernel_rfl) (by kernel_rfl) (by kernel_rfl) (by kernel_rfl)).met
set_option maxRecDepth 100000 in
theorem witness_row (os : Os) {H : Type} (enc : TypeId × Value → H) :
  (Rows.OpenSpec.upto Rows.dnsCutsSpec).preRow enc Tryd.prog Tryd.f11 Rows.dnsCutsUptoRow.domain false Rows.dnsCutsUptoRow.laid ((laidWorld os).forCall (fun _ _ => 0) ⟨#[], #[.agg #[.int .i64 0, .bool false, .bool false, .int .i64 0, .string ⟨#[]⟩, .int .i64 0, .slice none 0 0], .int .i64 0], []⟩).memory #[.agg #[.int .i64 0, .bool false, .bool false, .int .i64 0, .string ⟨#[]⟩, .int .i64 0, .slice none 0 0], .int .i64 0] := by
 have hw : (DataW.whole enc Tryd.prog ((laidWorld os).forCall (fun _ _ => 0) ⟨#[], #[.agg #[.int .i64 0, .bool false, .bool false, .int .i64 0, .string ⟨#[]⟩, .int .i64 0, .slice none 0 0], .int .i64 0], []⟩).memory Tryd.f11.params.toList Rows.dnsCutsSpec.vars false (#[.agg #[.int .i64 0, .bool false, .bool false, .int .i64 0, .string ⟨#[]⟩, .int .i64 0, .slice none 0 0], .int .i64 0] : Array Value).toList 8).map (fun x => (x.1, x.2.1)) =
   some ([.agg [.lit (.int .i64 0), .lit (.bool false), .lit (.bool false), .lit (.int .i64 0), .agg [.lit (.string []), .lit (.int .i64 0)], .nil], .lit (.int .i64 0)], []) := by kernel_rfl
 obtain ⟨⟨x1, x2, x3⟩, hx, hx1⟩ := Option.map_eq_some_iff.1 hw
 simp only [Prod.mk.injEq] at hx1
 obtain ⟨rfl, rfl⟩ := hx1
 exact OpenSpec.preRow_of_cond 8 hx (by kernel_rfl) (fun k hk => by cases hk; kernel_rfl) (by kernel_rfl) (laid_met os _)
set_option maxRecDepth 100000 in
theorem lifted (os : Os) (started : os.Started) (H : Type) (enc : TypeId × Value → H) (F : Stop.Interp) :
  ReturnsInHanded {} Tryd.checked os 11 .any ((Rows.OpenSpec.upto Rows.dnsCutsSpec).preRow enc Tryd.prog Tryd.f11 Rows.dnsCutsUptoRow.domain false Rows.dnsCutsUptoRow.laid) (((Rows.OpenSpec.upto Rows.dnsCutsSpec).at F).post enc Tryd.prog Tryd.f11 false true false false) := by
 refine returnsInHanded_of_row (C := Tryd.checked) (s := (Rows.OpenSpec.upto Rows.dnsCutsSpec)) own started (by kernel_rfl) Tryd.func11
  (witness_row_atRef (enc := enc) (C := Tryd.checked) false (laidWorld os) #[.agg #[.int .i64 0, .bool false, .bool false, .int .i64 0, .string ⟨#[]⟩, .int .i64 0, .slice none 0 0], .int .i64 0] rfl (by kernel_rfl) (by kernel_rfl) (by kernel_rfl) (witness_row os enc)) ?_
 intro W base args ds gs before hval0 hW _ hcond _ hL _ _
 have hval : ∀ (j : Nat) t v, Tryd.f11.params[j]? = some t → args[j]? = some v → Value.okWide Tryd.prog W .any base t v := hval0
 have hW' := hW
 obtain ⟨p, q, hA0, hV, rfl, hfz, hnd⟩ := hW
 have hA : DataW.TrodAll enc Tryd.prog W 0 (fun _ => true) true Tryd.f11.params.toList args.toList ds p := hA0
 rw [Tryd.params11] at hA hval
 obtain ⟨v0, vs0, d0, ds0, p0, q0, hargs, rfl, rfl, h0, r0⟩ := trodAll_cons hA
 obtain ⟨v1, vs1, d1, ds1, p1, q1, rfl, rfl, rfl, h1, r1⟩ := trodAll_cons r0
 obtain ⟨rfl, rfl, rfl⟩ := trodAll_nil r1
 obtain rfl : args = #[v0, v1] := by cases args; simp_all
 obtain ⟨rfl, rfl⟩ := trodVars_none hV
 have hb := of_decide_eq_true (hcond _ rfl)
 simp only [List.append_nil, Rows.uptoBulkAll] at hb
 obtain ⟨u0, f0, rv0, bd0⟩ := open_structB (dp := 5) upto_bulk Tryd.underlying40 (by kernel_rfl) (hval 0 40 v0 rfl rfl) h0 (show Rows.uptoBulk d0 ≤ 1048576 by omega)
 obtain ⟨m0, rfl, mw0⟩ := ms_dec (Nat.le_refl _) _ f0 bd0
 obtain ⟨a1, rfl, rfl, rfl, w1⟩ := open_int Tryd.underlying3 (hval 1 3 v1 rfl rfl) h1
 clear hA0 hval0
 refine (tieL (us := [_, _]) (xs := [_, _]) (w := W) (law m0 a1 mw0 (by simpa [Lit.wf, IntKind.min, IntKind.max, IntKind.signed, IntKind.bits] using w1)) ⟨rv0, RV.v _, trivial⟩).mono fun e W' ⟨he, hg⟩ => ?_
 subst he
 exact ⟨_, rfl, law_post hW' (by kernel_rfl) (by rw [Tryd.params11]; exact of_decide_eq_true (by kernel_rfl)) rfl rfl (by kernel_rfl) Tryd.underlying4 hg⟩
theorem said : Rows.DnsCutsUptoSaid :=
 OpenClaim.holds_of_cond 11 Tryd.f11 rfl rfl rfl rfl rfl rfl rfl ⟨rfl, rfl, rfl, rfl, rfl⟩ rfl rfl rfl rfl rfl (by kernel_rfl) Tryd.func11 (by kernel_rfl)
  (of_decide_eq_true (by kernel_rfl)) (by unfold Func.isWrapper; first | (rw [if_pos (by decide +kernel)]; kernel_rfl) | (rw [if_neg (by decide +kernel)]; exact ⟨rfl, rfl⟩))
  (fun os started H enc _ F => by rw [OpenClaim.pre_eq_preRow]; exact lifted os started H enc F)
theorem plain (f : FuncId) (fn : Func) (hf : Tryd.pinned.checked.prog.funcNamed "hearsay/hearsaylaw.DnsCuts" = some f) (hfn : Tryd.pinned.checked.prog.funcs[f]? = some fn) :
  true = Tryd.pinned.checked.prog.looks [] ∧ ∀ (j : Nat) t, fn.params[j]? = some t → Tryd.pinned.checked.prog.wantsStandIn t = false := by
 obtain rfl : f = 11 := Option.some.inj ((show Tryd.prog.funcNamed "hearsay/hearsaylaw.DnsCuts" = some 11 by kernel_rfl).symm.trans hf) |>.symm
 obtain rfl : fn = Tryd.f11 := (Option.some.inj (Tryd.func11.symm.trans hfn)).symm
 refine ⟨by kernel_rfl, fun j t ht => ?_⟩
 rw [Tryd.params11] at ht
 have hm : t = 40 ∨ t = 3 := by simpa using Array.mem_of_getElem? ht
 rcases hm with rfl | rfl
 ·exact (show Tryd.prog.wantsStandIn 40 = false by kernel_rfl)
 ·exact (show Tryd.prog.wantsStandIn 3 = false by kernel_rfl)
theorem proved : Rows.DnsCutsUptoCardSaid :=
 Claim7.holds_tied_plain_at .later [] _ _ _ _ said (fun _ h => by cases h) (by kernel_rfl) (fun _ h => by cases h) dnsCutsUpto_row_tie rfl ⟨rfl, rfl⟩ (by kernel_rfl) rfl plain (by kernel_rfl)
#print axioms proved
end Go.Proofs.YtjhdlcmecbngkaaDoor.dnsCuts
