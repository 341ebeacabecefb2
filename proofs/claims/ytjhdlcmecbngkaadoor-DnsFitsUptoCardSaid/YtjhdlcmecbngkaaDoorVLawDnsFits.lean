/- DnsFits: whatever message and size come in, Fit answers what the reference answers; the message of bulk at most 1048576. -/
import Derived.Test.YtjhdlcmecbngkaaDoorCards
import Derived.Test.YtjhdlcmecbngkaaDoorTie
import Derived.Deep.DeepHandedRow
import Derived.Deep.DeepWitnessRowRef
import Derived.Lib.LaidU8
import Derived.Lib.LaidIn
import Derived.Test.YtjhdlcmecbngkaaDoorVa
import Derived.Test.YtjhdlcmecbngkaaDoorVb
import Derived.Test.YtjhdlcmecbngkaaDoorVc
import Derived.Test.YtjhdlcmecbngkaaDoorVd
set_option linter.unusedSimpArgs false
namespace Go.Proofs.YtjhdlcmecbngkaaDoor.dnsFits
open Go.Joins Go.ChangeShapes Go.WideShapes Go.ChangeAt Go.RowKit Pl
set_option linter.unusedVariables false
theorem fitK_two (m : Ms) (z : Int) (n : Nat) : (fitK m z n).2 = 0 ∨ fitK m z n = (⟨#[]⟩, 2) := by
 induction n with
 | zero =>
  by_cases h : ((msgB (cutM m 0)).length : Int) ≤ z
  ·exact .inl (by rw [fitK_yes h])
  ·exact .inr (fitK_end h)
 | succ n ih =>
  by_cases h : ((msgB (cutM m (n + 1))).length : Int) ≤ z
  ·exact .inl (by rw [fitK_yes h])
  ·rw [fitK_no h]; exact ih
theorem fitP_two (m : Ms) (z : Int) : (fitP m z).2 = 0 ∨ ((fitP m z).2 ≠ 0 ∧ (fitP m z).1 = ⟨#[]⟩) := by
 have e0 : fitP m z = bif !wIn z 12 512 then (⟨#[]⟩, 3) else if msgErr m ≠ 0 then (⟨#[]⟩, msgErr m) else fitK m z m.rs.length := rfl
 cases hw : (!wIn z 12 512) with
 | true => rw [hw] at e0; rw [e0]; exact .inr ⟨(by decide : (3 : Int) ≠ 0), rfl⟩
 | false =>
  rw [hw, cond_false] at e0
  by_cases he : msgErr m ≠ 0
  ·rw [if_pos he] at e0; rw [e0]; exact .inr ⟨he, rfl⟩
  ·rw [if_neg he] at e0; rw [e0]
   rcases fitK_two m z m.rs.length with h | h
   ·exact .inl h
   ·rw [h]; exact .inr ⟨(by decide : (2 : Int) ≠ 0), rfl⟩
theorem law (m : Ms) (z : Int) (hm : MsIn m) (hz : -9223372036854775808 ≤ z ∧ z ≤ 9223372036854775807) : Fun Tryd.prog 10 [.c (.agg m.row), .c (.v (.int .i64 z))] [.c (.v (.bool true))] := by
 have hF := Fit_fun m z hm
 have hR := FitOf_fun m z hm
 have ht : Fun Tryd.prog 17 [.c (.v (.string (fitP m z).1)), .c (.v (.int .i64 (fitP m z).2)), .c (.v (.int .i64 (fitP m z).2)), .c (.v (.string (fitP m z).1))] [.c (.v (.bool true))] := by
  rcases fitP_two m z with h | ⟨h1, h2⟩
  ·rw [h]; exact textIs_ok _
  ·rw [h2]; exact textIs_bad _ _ h1
 generalize fitP m z = F at *
 refine fun_x ck_hearsaylaw_DnsFits rfl ?_
 (refine goI ?_; repeat (intro gg; refine goI ?_))
 (refine .inl ⟨_, _, false, [], aI, hF, nobor, nI, ?_⟩)
 (refine goI ?_; repeat (intro gg; refine goI ?_))
 (refine .inl ⟨_, _, false, [], aI, hR, nobor, nI, ?_⟩)
 (refine goI ?_; repeat (intro gg; refine goI ?_))
 (refine .inl ⟨_, _, false, [], aI, begun, nobor, nI, ?_⟩)
 (refine goI ?_; repeat (intro gg; refine goI ?_))
 (refine .inl ⟨_, _, false, [], aI, ht, nobor, nI, ?_⟩)
 (refine goI ?_; repeat (intro gg; refine goI ?_))
 (exact ⟨[], aI⟩)
theorem own : ownKnob Tryd.prog.godebug = none := by kernel_rfl
noncomputable def laidWorld (os : Os) : World :=
 let w0 := World.holding Tryd.prog os ⟨#[], #[], []⟩
 let put (h : Array Obj) (g : Nat) (cs : Array Value) : Array Obj := h.modify g fun
  | .cells _ t frozen => .cells cs t frozen
  | o => o
 let h1 := put w0.heap 1 (Lib.firstTab.map fun z => Value.int .u8 z).toArray
 let h2 := put h1 2 ((List.range 16).flatMap fun i => [Value.int .u8 (Lib.accLo i), Value.int .u8 (Lib.accHi i)]).toArray
 { w0 with heap := h2 }
set_option maxRecDepth 100000 in
theorem laid_met (os : Os) (args : Array Value) : laidMet Tryd.prog Rows.dnsFitsUptoRow.laid ((laidWorld os).forCall (fun _ _ => 0) ⟨#[], args, []⟩).memory :=
 (LaidIn.of_run (l := [("unicode/utf8.acceptRanges", Rows.laid_unicode_utf8_acceptRanges), ("unicode/utf8.first", Rows.laid_unicode_utf8_first)]) [2, 1] 8 (by kernel_rfl) (by kernel_rfl) (by kernel_rfl) (by kernel_rfl)).met
set_option maxRecDepth 100000 in
theorem witness_row (os : Os) {H : Type} (enc : TypeId × Value → H) :
  (Rows.OpenSpec.upto Rows.dnsFitsSpec).preRow enc Tryd.prog Tryd.f10 Rows.dnsFitsUptoRow.domain false Rows.dnsFitsUptoRow.laid ((laidWorld os).forCall (fun _ _ => 0) ⟨#[], #[.agg #[.int .i64 0, .bool false, .bool false, .int .i64 0, .string ⟨#[]⟩, .int .i64 0, .slice none 0 0], .int .i64 0], []⟩).memory #[.agg #[.int .i64 0, .bool false, .bool false, .int .i64 0, .string ⟨#[]⟩, .int .i64 0, .slice none 0 0], .int .i64 0] := by
 have hw : (DataW.whole enc Tryd.prog ((laidWorld os).forCall (fun _ _ => 0) ⟨#[], #[.agg #[.int .i64 0, .bool false, .bool false, .int .i64 0, .string ⟨#[]⟩, .int .i64 0, .slice none 0 0], .int .i64 0], []⟩).memory Tryd.f10.params.toList Rows.dnsFitsSpec.vars false (#[.agg #[.int .i64 0, .bool false, .bool false, .int .i64 0, .string ⟨#[]⟩, .int .i64 0, .slice none 0 0], .int .i64 0] : Array Value).toList 8).map (fun x => (x.1, x.2.1)) =
   some ([.agg [.lit (.int .i64 0), .lit (.bool false), .lit (.bool false), .lit (.int .i64 0), .agg [.lit (.string []), .lit (.int .i64 0)], .nil], .lit (.int .i64 0)], []) := by kernel_rfl
 obtain ⟨⟨x1, x2, x3⟩, hx, hx1⟩ := Option.map_eq_some_iff.1 hw
 simp only [Prod.mk.injEq] at hx1
 obtain ⟨rfl, rfl⟩ := hx1
 exact OpenSpec.preRow_of_cond 8 hx (by kernel_rfl) (fun k hk => by cases hk; kernel_rfl) (by kernel_rfl) (laid_met os _)
set_option maxRecDepth 100000 in
theorem lifted (os : Os) (started : os.Started) (H : Type) (enc : TypeId × Value → H) (F : Stop.Interp) :
  ReturnsInHanded {} Tryd.checked os 10 .any ((Rows.OpenSpec.upto Rows.dnsFitsSpec).preRow enc Tryd.prog Tryd.f10 Rows.dnsFitsUptoRow.domain false Rows.dnsFitsUptoRow.laid) (((Rows.OpenSpec.upto Rows.dnsFitsSpec).at F).post enc Tryd.prog Tryd.f10 false true false false) := by
 refine returnsInHanded_of_row (C := Tryd.checked) (s := (Rows.OpenSpec.upto Rows.dnsFitsSpec)) own started (by kernel_rfl) Tryd.func10
  (witness_row_atRef (enc := enc) (C := Tryd.checked) false (laidWorld os) #[.agg #[.int .i64 0, .bool false, .bool false, .int .i64 0, .string ⟨#[]⟩, .int .i64 0, .slice none 0 0], .int .i64 0] rfl (by kernel_rfl) (by kernel_rfl) (by kernel_rfl) (witness_row os enc)) ?_
 intro W base args ds gs before hval0 hW _ hcond _ hL _ _
 have hval : ∀ (j : Nat) t v, Tryd.f10.params[j]? = some t → args[j]? = some v → Value.okWide Tryd.prog W .any base t v := hval0
 have hW' := hW
 obtain ⟨p, q, hA0, hV, rfl, hfz, hnd⟩ := hW
 have hA : DataW.TrodAll enc Tryd.prog W 0 (fun _ => true) true Tryd.f10.params.toList args.toList ds p := hA0
 rw [Tryd.params10] at hA hval
 obtain ⟨v0, vs0, d0, ds0, p0, q0, hargs, rfl, rfl, h0, r0⟩ := trodAll_cons hA
 obtain ⟨v1, vs1, d1, ds1, p1, q1, rfl, rfl, rfl, h1, r1⟩ := trodAll_cons r0
 obtain ⟨rfl, rfl, rfl⟩ := trodAll_nil r1
 obtain rfl : args = #[v0, v1] := by cases args; simp_all
 obtain ⟨rfl, rfl⟩ := trodVars_none hV
 have hb := of_decide_eq_true (hcond _ rfl)
 simp only [List.append_nil, Rows.uptoBulkAll] at hb
 obtain ⟨u0, f0, rv0, bd0⟩ := open_structB (dp := 5) upto_bulk Tryd.underlying40 (by kernel_rfl) (hval 0 40 v0 rfl rfl) h0 (show Rows.uptoBulk d0 ≤ 1048576 by omega)
 obtain ⟨m0, rfl, mw0⟩ := ms_dec (Nat.le_refl _) _ f0 bd0
 obtain ⟨a1, rfl, rfl, rfl, w1⟩ := open_int Tryd.underlying3 (hval 1 3 v1 rfl rfl) h1
 clear hA0 hval0
 refine (tieL (us := [_, _]) (xs := [_, _]) (w := W) (law m0 a1 mw0 (by simpa [Lit.wf, IntKind.min, IntKind.max, IntKind.signed, IntKind.bits] using w1)) ⟨rv0, RV.v _, trivial⟩).mono fun e W' ⟨he, hg⟩ => ?_
 subst he
 exact ⟨_, rfl, law_post hW' (by kernel_rfl) (by rw [Tryd.params10]; exact of_decide_eq_true (by kernel_rfl)) rfl rfl (by kernel_rfl) Tryd.underlying4 hg⟩
theorem said : Rows.DnsFitsUptoSaid :=
 OpenClaim.holds_of_cond 10 Tryd.f10 rfl rfl rfl rfl rfl rfl rfl ⟨rfl, rfl, rfl, rfl, rfl⟩ rfl rfl rfl rfl rfl (by kernel_rfl) Tryd.func10 (by kernel_rfl)
  (of_decide_eq_true (by kernel_rfl)) (by unfold Func.isWrapper; first | (rw [if_pos (by decide +kernel)]; kernel_rfl) | (rw [if_neg (by decide +kernel)]; exact ⟨rfl, rfl⟩))
  (fun os started H enc _ F => by rw [OpenClaim.pre_eq_preRow]; exact lifted os started H enc F)
theorem plain (f : FuncId) (fn : Func) (hf : Tryd.pinned.checked.prog.funcNamed "hearsay/hearsaylaw.DnsFits" = some f) (hfn : Tryd.pinned.checked.prog.funcs[f]? = some fn) :
  true = Tryd.pinned.checked.prog.looks [] ∧ ∀ (j : Nat) t, fn.params[j]? = some t → Tryd.pinned.checked.prog.wantsStandIn t = false := by
 obtain rfl : f = 10 := Option.some.inj ((show Tryd.prog.funcNamed "hearsay/hearsaylaw.DnsFits" = some 10 by kernel_rfl).symm.trans hf) |>.symm
 obtain rfl : fn = Tryd.f10 := (Option.some.inj (Tryd.func10.symm.trans hfn)).symm
 refine ⟨by kernel_rfl, fun j t ht => ?_⟩
 rw [Tryd.params10] at ht
 have hm : t = 40 ∨ t = 3 := by simpa using Array.mem_of_getElem? ht
 rcases hm with rfl | rfl
 ·exact (show Tryd.prog.wantsStandIn 40 = false by kernel_rfl)
 ·exact (show Tryd.prog.wantsStandIn 3 = false by kernel_rfl)
theorem proved : Rows.DnsFitsUptoCardSaid :=
 Claim7.holds_tied_plain_at .later [] _ _ _ _ said (fun _ h => by cases h) (by kernel_rfl) (fun _ h => by cases h) dnsFitsUpto_row_tie rfl ⟨rfl, rfl⟩ (by kernel_rfl) rfl plain (by kernel_rfl)
#print axioms proved
end Go.Proofs.YtjhdlcmecbngkaaDoor.dnsFits
