/- DnsWrites: whatever message comes in, Write answers what the reference answers; the message of bulk at most 1048576. -/
import Derived.Test.YtjhdlcmecbngkaaDoorCards
import Derived.Test.YtjhdlcmecbngkaaDoorTie
import Derived.Deep.DeepHandedRow
import Derived.Deep.DeepWitnessRowRef
import Derived.Lib.LaidU8
import Derived.Lib.LaidIn
import Derived.Test.YtjhdlcmecbngkaaDoorVa
import Derived.Test.YtjhdlcmecbngkaaDoorVb
import Derived.Test.YtjhdlcmecbngkaaDoorVc
import Derived.Test.YtjhdlcmecbngkaaDoorVd
set_option linter.unusedSimpArgs false
namespace Go.Proofs.YtjhdlcmecbngkaaDoor.dnsWrites
open Go.Joins Go.ChangeShapes Go.WideShapes Go.ChangeAt Go.RowKit Pl
set_option linter.unusedVariables false
theorem law (m : Ms) (hm : MsIn m) : Fun Tryd.prog 7 [.c (.agg m.row)] [.c (.v (.bool true))] := by
 have hl : m.rs.length ≤ 9223372036854775807 := by have := hm.ln; omega
 have hW := Write_fun m hm.sz hl
 have hC := rCheck_fun m hm.sz hl
 refine fun_x ck_hearsaylaw_DnsWrites rfl ?_
 (refine goI ?_; repeat (intro gg; refine goI ?_))
 (refine .inl ⟨_, _, false, [], aI, hW, nobor, nI, ?_⟩)
 (refine goI ?_; repeat (intro gg; refine goI ?_))
 (refine .inl ⟨_, _, false, [], aI, hC, nobor, nI, ?_⟩)
 (refine goI ?_; repeat (intro gg; refine goI ?_))
 by_cases h1 : msgErr m = 0
 ·rw [show (msgErr m == 0) = true from beq_iff_eq.2 h1]
  have hM := rMsgB_fun m (goodM_of h1).1
  (refine goI ?_; repeat (intro gg; refine goI ?_))
  (refine .inl ⟨_, _, false, [], aI, hM, nobor, nI, ?_⟩)
  (refine goI ?_; repeat (intro gg; refine goI ?_))
  rw [bA_size]
  by_cases h2 : 512 < (msgB m).length
  ·obtain ⟨e1, e2⟩ := wr_long h1 h2
   rw [show decide ((512 : Int) < ((msgB m).length : Int)) = true from decide_eq_true (by omega), e1, e2]
   have ht := textIs_bad (bA (msgB m)) 2 (by decide)
   (refine goI ?_; repeat (intro gg; refine goI ?_))
   (refine .inl ⟨_, _, false, [], aI, begun, nobor, nI, ?_⟩)
   (refine goI ?_; repeat (intro gg; refine goI ?_))
   (refine .inl ⟨_, _, false, [], aI, ht, nobor, nI, ?_⟩)
   (refine goI ?_; repeat (intro gg; refine goI ?_))
   (exact ⟨[], aI⟩)
  ·obtain ⟨e1, e2⟩ := wr_ok h1 h2
   rw [show decide ((512 : Int) < ((msgB m).length : Int)) = false from decide_eq_false (by omega), e1, e2, h1]
   have ht := textIs_ok (bA (msgB m))
   (refine goI ?_; repeat (intro gg; refine goI ?_))
   (refine .inl ⟨_, _, false, [], aI, begun, nobor, nI, ?_⟩)
   (refine goI ?_; repeat (intro gg; refine goI ?_))
   (refine .inl ⟨_, _, false, [], aI, ht, nobor, nI, ?_⟩)
   (refine goI ?_; repeat (intro gg; refine goI ?_))
   (exact ⟨[], aI⟩)
 ·rw [show (msgErr m == 0) = false from beq_eq_false_iff_ne.2 h1]
  obtain ⟨e1, e2⟩ := wr_bad h1
  rw [e1, e2]
  have ht := textIs_bad ⟨#[]⟩ (msgErr m) h1
  (refine goI ?_; repeat (intro gg; refine goI ?_))
  (refine .inl ⟨_, _, false, [], aI, begun, nobor, nI, ?_⟩)
  (refine goI ?_; repeat (intro gg; refine goI ?_))
  (refine .inl ⟨_, _, false, [], aI, ht, nobor, nI, ?_⟩)
  (refine goI ?_; repeat (intro gg; refine goI ?_))
  (exact ⟨[], aI⟩)
theorem own : ownKnob Tryd.prog.godebug = none := by kernel_rfl
noncomputable def laidWorld (os : Os) : World :=
 let w0 := World.holding Tryd.prog os ⟨#[], #[], []⟩
 let put (h : Array Obj) (g : Nat) (cs : Array Value) : Array Obj := h.modify g fun
  | .cells _ t frozen => .cells cs t frozen
  | o => o
 let h1 := put w0.heap 1 (Lib.firstTab.map fun z => Value.int .u8 z).toArray
 let h2 := put h1 2 ((List.range 16).flatMap fun i => [Value.int .u8 (Lib.accLo i), Value.int .u8 (Lib.accHi i)]).toArray
 { w0 with heap := h2 }
set_option maxRecDepth 100000 in
theorem laid_met (os : Os) (args : Array Value) : laidMet Tryd.prog Rows.dnsWritesUptoRow.laid ((laidWorld os).forCall (fun _ _ => 0) ⟨#[], args, []⟩).memory :=
 (LaidIn.of_run (l := [("unicode/utf8.acceptRanges", Rows.laid_unicode_utf8_acceptRanges), ("unicode/utf8.first", Rows.laid_unicode_utf8_first)]) [2, 1] 8 (by kernel_rfl) (by kernel_rfl) (by kernel_rfl) (by kernel_rfl)).met
set_option maxRecDepth 100000 in
theorem witness_row (os : Os) {H : Type} (enc : TypeId × Value → H) :
  (Rows.OpenSpec.upto Rows.dnsWritesSpec).preRow enc Tryd.prog Tryd.f7 Rows.dnsWritesUptoRow.domain false Rows.dnsWritesUptoRow.laid ((laidWorld os).forCall (fun _ _ => 0) ⟨#[], #[.agg #[.int .i64 0, .bool false, .bool false, .int .i64 0, .string ⟨#[]⟩, .int .i64 0, .slice none 0 0]], []⟩).memory #[.agg #[.int .i64 0, .bool false, .bool false, .int .i64 0, .string ⟨#[]⟩, .int .i64 0, .slice none 0 0]] := by
 have hw : (DataW.whole enc Tryd.prog ((laidWorld os).forCall (fun _ _ => 0) ⟨#[], #[.agg #[.int .i64 0, .bool false, .bool false, .int .i64 0, .string ⟨#[]⟩, .int .i64 0, .slice none 0 0]], []⟩).memory Tryd.f7.params.toList Rows.dnsWritesSpec.vars false (#[.agg #[.int .i64 0, .bool false, .bool false, .int .i64 0, .string ⟨#[]⟩, .int .i64 0, .slice none 0 0]] : Array Value).toList 8).map (fun x => (x.1, x.2.1)) =
   some ([.agg [.lit (.int .i64 0), .lit (.bool false), .lit (.bool false), .lit (.int .i64 0), .agg [.lit (.string []), .lit (.int .i64 0)], .nil]], []) := by kernel_rfl
 obtain ⟨⟨x1, x2, x3⟩, hx, hx1⟩ := Option.map_eq_some_iff.1 hw
 simp only [Prod.mk.injEq] at hx1
 obtain ⟨rfl, rfl⟩ := hx1
 exact OpenSpec.preRow_of_cond 8 hx (by kernel_rfl) (fun k hk => by cases hk; kernel_rfl) (by kernel_rfl) (laid_met os _)
set_option maxRecDepth 100000 in
theorem lifted (os : Os) (started : os.Started) (H : Type) (enc : TypeId × Value → H) (F : Stop.Interp) :
  ReturnsInHanded {} Tryd.checked os 7 .any ((Rows.OpenSpec.upto Rows.dnsWritesSpec).preRow enc Tryd.prog Tryd.f7 Rows.dnsWritesUptoRow.domain false Rows.dnsWritesUptoRow.laid) (((Rows.OpenSpec.upto Rows.dnsWritesSpec).at F).post enc Tryd.prog Tryd.f7 false true false false) := by
 refine returnsInHanded_of_row (C := Tryd.checked) (s := (Rows.OpenSpec.upto Rows.dnsWritesSpec)) own started (by kernel_rfl) Tryd.func7
  (witness_row_atRef (enc := enc) (C := Tryd.checked) false (laidWorld os) #[.agg #[.int .i64 0, .bool false, .bool false, .int .i64 0, .string ⟨#[]⟩, .int .i64 0, .slice none 0 0]] rfl (by kernel_rfl) (by kernel_rfl) (by kernel_rfl) (witness_row os enc)) ?_
 intro W base args ds gs before hval0 hW _ hcond _ hL _ _
 have hval : ∀ (j : Nat) t v, Tryd.f7.params[j]? = some t → args[j]? = some v → Value.okWide Tryd.prog W .any base t v := hval0
 have hW' := hW
 obtain ⟨p, q, hA0, hV, rfl, hfz, hnd⟩ := hW
 have hA : DataW.TrodAll enc Tryd.prog W 0 (fun _ => true) true Tryd.f7.params.toList args.toList ds p := hA0
 rw [Tryd.params7] at hA hval
 obtain ⟨v0, vs0, d0, ds0, p0, q0, hargs, rfl, rfl, h0, r0⟩ := trodAll_cons hA
 obtain ⟨rfl, rfl, rfl⟩ := trodAll_nil r0
 obtain rfl : args = #[v0] := by cases args; simp_all
 obtain ⟨rfl, rfl⟩ := trodVars_none hV
 have hb := of_decide_eq_true (hcond _ rfl)
 simp only [List.append_nil, Rows.uptoBulkAll] at hb
 obtain ⟨u0, f0, rv0, bd0⟩ := open_structB (dp := 5) upto_bulk Tryd.underlying40 (by kernel_rfl) (hval 0 40 v0 rfl rfl) h0 (show Rows.uptoBulk d0 ≤ 1048576 by omega)
 obtain ⟨m0, rfl, mw0⟩ := ms_dec (Nat.le_refl _) _ f0 bd0
 clear hA0 hval0
 refine (tieL (us := [_]) (xs := [_]) (w := W) (law m0 mw0) ⟨rv0, trivial⟩).mono fun e W' ⟨he, hg⟩ => ?_
 subst he
 exact ⟨_, rfl, law_post hW' (by kernel_rfl) (by rw [Tryd.params7]; exact of_decide_eq_true (by kernel_rfl)) rfl rfl (by kernel_rfl) Tryd.underlying4 hg⟩
theorem said : Rows.DnsWritesUptoSaid :=
 OpenClaim.holds_of_cond 7 Tryd.f7 rfl rfl rfl rfl rfl rfl rfl ⟨rfl, rfl, rfl, rfl, rfl⟩ rfl rfl rfl rfl rfl (by kernel_rfl) Tryd.func7 (by kernel_rfl)
  (of_decide_eq_true (by kernel_rfl)) (by unfold Func.isWrapper; first | (rw [if_pos (by decide +kernel)]; kernel_rfl) | (rw [if_neg (by decide +kernel)]; exact ⟨rfl, rfl⟩))
  (fun os started H enc _ F => by rw [OpenClaim.pre_eq_preRow]; exact lifted os started H enc F)
theorem plain (f : FuncId) (fn : Func) (hf : Tryd.pinned.checked.prog.funcNamed "hearsay/hearsaylaw.DnsWrites" = some f) (hfn : Tryd.pinned.checked.prog.funcs[f]? = some fn) :
  true = Tryd.pinned.checked.prog.looks [] ∧ ∀ (j : Nat) t, fn.params[j]? = some t → Tryd.pinned.checked.prog.wantsStandIn t = false := by
 obtain rfl : f = 7 := Option.some.inj ((show Tryd.prog.funcNamed "hearsay/hearsaylaw.DnsWrites" = some 7 by kernel_rfl).symm.trans hf) |>.symm
 obtain rfl : fn = Tryd.f7 := (Option.some.inj (Tryd.func7.symm.trans hfn)).symm
 refine ⟨by kernel_rfl, fun j t ht => ?_⟩
 rw [Tryd.params7] at ht
 have hm : t = 40 := by simpa using Array.mem_of_getElem? ht
 rcases hm with rfl
 ·exact (show Tryd.prog.wantsStandIn 40 = false by kernel_rfl)
theorem proved : Rows.DnsWritesUptoCardSaid :=
 Claim7.holds_tied_plain_at .later [] _ _ _ _ said (fun _ h => by cases h) (by kernel_rfl) (fun _ h => by cases h) dnsWritesUpto_row_tie rfl ⟨rfl, rfl⟩ (by kernel_rfl) rfl plain (by kernel_rfl)
#print axioms proved
end Go.Proofs.YtjhdlcmecbngkaaDoor.dnsWrites
