/- DnsBack: whatever message and text come in, what is written is read as it was; both of bulk at most 1048576 together. -/
import Derived.Test.YtjhdlcmecbngkaaDoorCards
import Derived.Test.YtjhdlcmecbngkaaDoorTie
import Derived.Deep.DeepHandedRow
import Derived.Deep.DeepWitnessRowRef
import Derived.Lib.LaidU8
import Derived.Lib.LaidIn
import Derived.Test.YtjhdlcmecbngkaaDoorVa
import Derived.Test.YtjhdlcmecbngkaaDoorVb
import Derived.Test.YtjhdlcmecbngkaaDoorVc
import Derived.Test.YtjhdlcmecbngkaaDoorVd
set_option linter.unusedSimpArgs false
namespace Go.Proofs.YtjhdlcmecbngkaaDoor.dnsBack
open Go.Joins Go.ChangeShapes Go.WideShapes Go.ChangeAt Go.RowKit Pl
set_option linter.unusedVariables false
theorem rdP_zero {s : ByteArray} (h : (rdP s).2 = 0) : ∃ x, rdP s = (x, 0) ∧ msgErr x = 0 := by
 by_cases hl : 512 < s.size
 ·rw [rdP_long hl] at h; exact absurd h (by decide)
 ·rcases e : msgP s with _ | m
  ·rw [rdP_none hl e] at h; exact absurd h (by decide)
  ·rw [rdP_some hl e] at h ⊢
   by_cases he : msgErr m = 0
   ·rw [if_pos he]; exact ⟨m, rfl, he⟩
   ·rw [if_neg he] at h; exact absurd h (by decide)
theorem zero_sized : zeroMs.Sized ∧ zeroMs.rs.length ≤ 20 := ⟨⟨by decide, by simp [zeroMs]⟩, by decide⟩
theorem rdP_bd (s : ByteArray) : (rdP s).1.Sized ∧ (rdP s).1.rs.length ≤ 20 := by
 by_cases hl : 512 < s.size
 ·rw [rdP_long hl]; exact zero_sized
 ·rcases e : msgP s with _ | m
  ·rw [rdP_none hl e]; exact zero_sized
  ·rw [rdP_some hl e]
   by_cases he : msgErr m = 0
   ·rw [if_pos he]; exact msgP_bd (by omega) e
   ·rw [if_neg he]; exact zero_sized
theorem law (m : Ms) (s : ByteArray) (hm : MsIn m) (hs : s.size ≤ 1000000000000) : Fun Tryd.prog 9 [.c (.agg m.row), .c (.v (.string s))] [.c (.v (.bool true))] := by
 have hl : m.rs.length ≤ 9223372036854775807 := by have := hm.ln; omega
 have hW := Write_fun m hm.sz hl
 refine fun_x ck_hearsaylaw_DnsBack rfl ?_
 (refine goI ?_; repeat (intro gg; refine goI ?_))
 (refine .inl ⟨_, _, false, [], aI, begun, nobor, nI, ?_⟩)
 (refine goI ?_; repeat (intro gg; refine goI ?_))
 (refine .inl ⟨_, _, false, [], aI, hW, nobor, nI, ?_⟩)
 (refine goI ?_; repeat (intro gg; refine goI ?_))
 by_cases h1 : wrE m = 0
 ·obtain ⟨he, h2⟩ : msgErr m = 0 ∧ ¬ 512 < (msgB m).length := by
   by_cases he : msgErr m = 0
   ·refine ⟨he, fun h2 => ?_⟩
    rw [(wr_long he h2).1] at h1; exact absurd h1 (by decide)
   ·rw [(wr_bad he).1] at h1; exact absurd h1 he
  obtain ⟨e1, e2⟩ := wr_ok he h2
  have hR := Read_fun ⟨(msgB m).toArray⟩
  rw [rdP_back he h2] at hR
  simp only at hR
  rw [e1, e2]
  (refine goI ?_; repeat (intro gg; refine goI ?_))
  (refine .inl ⟨_, _, false, [], aI, hR, nobor, nI, ?_⟩)
  (refine goI ?_; repeat (intro gg; refine goI ?_))
  (refine .inl ⟨_, _, false, [], aI, sameMsg_fun m hl, nobor, nI, ?_⟩)
  (refine goI ?_; repeat (intro gg; refine goI ?_))
  (refine .inl ⟨_, _, false, [], aI, Read_fun s, nobor, nI, ?_⟩)
  (refine goI ?_; repeat (intro gg; refine goI ?_))
  by_cases h3 : (rdP s).2 = 0
  ·obtain ⟨x, hx, he⟩ := rdP_zero h3
   rw [hx]
   have hxl := (rdP_bd s).2
   have hxs := (rdP_bd s).1
   rw [hx] at hxl hxs
   simp only at hxl hxs
   have hX := Write_fun x hxs (by omega)
   (refine goI ?_; repeat (intro gg; refine goI ?_))
   by_cases h4 : 512 < (msgB x).length
   ·obtain ⟨f1, f2⟩ := wr_long he h4
    rw [f1, f2] at hX
    (refine .inl ⟨_, _, false, [], aI, hX, nobor, nI, ?_⟩)
    (refine goI ?_; repeat (intro gg; refine goI ?_))
    (exact ⟨[], aI⟩)
   ·obtain ⟨f1, f2⟩ := wr_ok he h4
    rw [f1, f2] at hX
    have hY := Read_fun ⟨(msgB x).toArray⟩
    rw [rdP_back he h4] at hY
    simp only at hY
    (refine .inl ⟨_, _, false, [], aI, hX, nobor, nI, ?_⟩)
    (refine goI ?_; repeat (intro gg; refine goI ?_))
    (refine .inl ⟨_, _, false, [], aI, hY, nobor, nI, ?_⟩)
    (refine goI ?_; repeat (intro gg; refine goI ?_))
    (refine .inl ⟨_, _, false, [], aI, sameMsg_fun x (by omega), nobor, nI, ?_⟩)
    (refine goI ?_; repeat (intro gg; refine goI ?_))
    (exact ⟨[], aI⟩)
  ·rw [show ((rdP s).2 != 0) = true from bne_iff_ne.2 h3]
   (refine goI ?_; repeat (intro gg; refine goI ?_))
   (exact ⟨[], aI⟩)
 ·rw [show (wrE m == 0) = false from beq_eq_false_iff_ne.2 h1]
  (refine goI ?_; repeat (intro gg; refine goI ?_))
  (refine .inl ⟨_, _, false, [], aI, Read_fun s, nobor, nI, ?_⟩)
  (refine goI ?_; repeat (intro gg; refine goI ?_))
  by_cases h3 : (rdP s).2 = 0
  ·obtain ⟨x, hx, he⟩ := rdP_zero h3
   rw [hx]
   have hxl := (rdP_bd s).2
   have hxs := (rdP_bd s).1
   rw [hx] at hxl hxs
   simp only at hxl hxs
   have hX := Write_fun x hxs (by omega)
   (refine goI ?_; repeat (intro gg; refine goI ?_))
   by_cases h4 : 512 < (msgB x).length
   ·obtain ⟨f1, f2⟩ := wr_long he h4
    rw [f1, f2] at hX
    (refine .inl ⟨_, _, false, [], aI, hX, nobor, nI, ?_⟩)
    (refine goI ?_; repeat (intro gg; refine goI ?_))
    (exact ⟨[], aI⟩)
   ·obtain ⟨f1, f2⟩ := wr_ok he h4
    rw [f1, f2] at hX
    have hY := Read_fun ⟨(msgB x).toArray⟩
    rw [rdP_back he h4] at hY
    simp only at hY
    (refine .inl ⟨_, _, false, [], aI, hX, nobor, nI, ?_⟩)
    (refine goI ?_; repeat (intro gg; refine goI ?_))
    (refine .inl ⟨_, _, false, [], aI, hY, nobor, nI, ?_⟩)
    (refine goI ?_; repeat (intro gg; refine goI ?_))
    (refine .inl ⟨_, _, false, [], aI, sameMsg_fun x (by omega), nobor, nI, ?_⟩)
    (refine goI ?_; repeat (intro gg; refine goI ?_))
    (exact ⟨[], aI⟩)
  ·rw [show ((rdP s).2 != 0) = true from bne_iff_ne.2 h3]
   (refine goI ?_; repeat (intro gg; refine goI ?_))
   (exact ⟨[], aI⟩)
theorem own : ownKnob Tryd.prog.godebug = none := by kernel_rfl
noncomputable def laidWorld (os : Os) : World :=
 let w0 := World.holding Tryd.prog os ⟨#[], #[], []⟩
 let put (h : Array Obj) (g : Nat) (cs : Array Value) : Array Obj := h.modify g fun
  | .cells _ t frozen => .cells cs t frozen
  | o => o
 let h1 := put w0.heap 1 (Lib.firstTab.map fun z => Value.int .u8 z).toArray
 let h2 := put h1 2 ((List.range 16).flatMap fun i => [Value.int .u8 (Lib.accLo i), Value.int .u8 (Lib.accHi i)]).toArray
 { w0 with heap := h2 }
set_option maxRecDepth 100000 in
theorem laid_met (os : Os) (args : Array Value) : laidMet Tryd.prog Rows.dnsBackUptoRow.laid ((laidWorld os).forCall (fun _ _ => 0) ⟨#[], args, []⟩).memory :=
 (LaidIn.of_run (l := [("unicode/utf8.acceptRanges", Rows.laid_unicode_utf8_acceptRanges), ("unicode/utf8.first", Rows.laid_unicode_utf8_first)]) [2, 1] 8 (by kernel_rfl) (by kernel_rfl) (by kernel_rfl) (by kernel_rfl)).met
set_option maxRecDepth 100000 in
theorem witness_row (os : Os) {H : Type} (enc : TypeId × Value → H) :
  (Rows.OpenSpec.upto Rows.dnsBackSpec).preRow enc Tryd.prog Tryd.f9 Rows.dnsBackUptoRow.domain false Rows.dnsBackUptoRow.laid ((laidWorld os).forCall (fun _ _ => 0) ⟨#[], #[.agg #[.int .i64 0, .bool false, .bool false, .int .i64 0, .string ⟨#[]⟩, .int .i64 0, .slice none 0 0], .string ⟨#[]⟩], []⟩).memory #[.agg #[.int .i64 0, .bool false, .bool false, .int .i64 0, .string ⟨#[]⟩, .int .i64 0, .slice none 0 0], .string ⟨#[]⟩] := by
 have hw : (DataW.whole enc Tryd.prog ((laidWorld os).forCall (fun _ _ => 0) ⟨#[], #[.agg #[.int .i64 0, .bool false, .bool false, .int .i64 0, .string ⟨#[]⟩, .int .i64 0, .slice none 0 0], .string ⟨#[]⟩], []⟩).memory Tryd.f9.params.toList Rows.dnsBackSpec.vars false (#[.agg #[.int .i64 0, .bool false, .bool false, .int .i64 0, .string ⟨#[]⟩, .int .i64 0, .slice none 0 0], .string ⟨#[]⟩] : Array Value).toList 8).map (fun x => (x.1, x.2.1)) =
   some ([.agg [.lit (.int .i64 0), .lit (.bool false), .lit (.bool false), .lit (.int .i64 0), .agg [.lit (.string []), .lit (.int .i64 0)], .nil], .lit (.string [])], []) := by kernel_rfl
 obtain ⟨⟨x1, x2, x3⟩, hx, hx1⟩ := Option.map_eq_some_iff.1 hw
 simp only [Prod.mk.injEq] at hx1
 obtain ⟨rfl, rfl⟩ := hx1
 exact OpenSpec.preRow_of_cond 8 hx (by kernel_rfl) (fun k hk => by cases hk; kernel_rfl) (by kernel_rfl) (laid_met os _)
set_option maxRecDepth 100000 in
theorem lifted (os : Os) (started : os.Started) (H : Type) (enc : TypeId × Value → H) (F : Stop.Interp) :
  ReturnsInHanded {} Tryd.checked os 9 .any ((Rows.OpenSpec.upto Rows.dnsBackSpec).preRow enc Tryd.prog Tryd.f9 Rows.dnsBackUptoRow.domain false Rows.dnsBackUptoRow.laid) (((Rows.OpenSpec.upto Rows.dnsBackSpec).at F).post enc Tryd.prog Tryd.f9 false true false false) := by
 refine returnsInHanded_of_row (C := Tryd.checked) (s := (Rows.OpenSpec.upto Rows.dnsBackSpec)) own started (by kernel_rfl) Tryd.func9
  (witness_row_atRef (enc := enc) (C := Tryd.checked) false (laidWorld os) #[.agg #[.int .i64 0, .bool false, .bool false, .int .i64 0, .string ⟨#[]⟩, .int .i64 0, .slice none 0 0], .string ⟨#[]⟩] rfl (by kernel_rfl) (by kernel_rfl) (by kernel_rfl) (witness_row os enc)) ?_
 intro W base args ds gs before hval0 hW _ hcond _ hL _ _
 have hval : ∀ (j : Nat) t v, Tryd.f9.params[j]? = some t → args[j]? = some v → Value.okWide Tryd.prog W .any base t v := hval0
 have hW' := hW
 obtain ⟨p, q, hA0, hV, rfl, hfz, hnd⟩ := hW
 have hA : DataW.TrodAll enc Tryd.prog W 0 (fun _ => true) true Tryd.f9.params.toList args.toList ds p := hA0
 rw [Tryd.params9] at hA hval
 obtain ⟨v0, vs0, d0, ds0, p0, q0, hargs, rfl, rfl, h0, r0⟩ := trodAll_cons hA
 obtain ⟨v1, vs1, d1, ds1, p1, q1, rfl, rfl, rfl, h1, r1⟩ := trodAll_cons r0
 obtain ⟨rfl, rfl, rfl⟩ := trodAll_nil r1
 obtain rfl : args = #[v0, v1] := by cases args; simp_all
 obtain ⟨rfl, rfl⟩ := trodVars_none hV
 have hb := of_decide_eq_true (hcond _ rfl)
 simp only [List.append_nil, Rows.uptoBulkAll] at hb
 obtain ⟨u0, f0, rv0, bd0⟩ := open_structB (dp := 5) upto_bulk Tryd.underlying40 (by kernel_rfl) (hval 0 40 v0 rfl rfl) h0 (show Rows.uptoBulk d0 ≤ 1048576 by omega)
 obtain ⟨m0, rfl, mw0⟩ := ms_dec (Nat.le_refl _) _ f0 bd0
 obtain ⟨a1, rfl, rfl, rfl, w1⟩ := Go.ChangeMaps.open_string Tryd.underlying9 (hval 1 9 v1 rfl rfl) h1
 simp only [Rows.uptoBulk] at hb
 clear hA0 hval0
 refine (tieL (us := [_, _]) (xs := [_, _]) (w := W) (law m0 a1 mw0 (by have e := Array.length_toList (xs := a1.data); have e2 : a1.size = a1.data.size := rfl; omega)) ⟨rv0, RV.v _, trivial⟩).mono fun e W' ⟨he, hg⟩ => ?_
 subst he
 exact ⟨_, rfl, law_post hW' (by kernel_rfl) (by rw [Tryd.params9]; exact of_decide_eq_true (by kernel_rfl)) rfl rfl (by kernel_rfl) Tryd.underlying4 hg⟩
theorem said : Rows.DnsBackUptoSaid :=
 OpenClaim.holds_of_cond 9 Tryd.f9 rfl rfl rfl rfl rfl rfl rfl ⟨rfl, rfl, rfl, rfl, rfl⟩ rfl rfl rfl rfl rfl (by kernel_rfl) Tryd.func9 (by kernel_rfl)
  (of_decide_eq_true (by kernel_rfl)) (by unfold Func.isWrapper; first | (rw [if_pos (by decide +kernel)]; kernel_rfl) | (rw [if_neg (by decide +kernel)]; exact ⟨rfl, rfl⟩))
  (fun os started H enc _ F => by rw [OpenClaim.pre_eq_preRow]; exact lifted os started H enc F)
theorem plain (f : FuncId) (fn : Func) (hf : Tryd.pinned.checked.prog.funcNamed "hearsay/hearsaylaw.DnsBack" = some f) (hfn : Tryd.pinned.checked.prog.funcs[f]? = some fn) :
  true = Tryd.pinned.checked.prog.looks [] ∧ ∀ (j : Nat) t, fn.params[j]? = some t → Tryd.pinned.checked.prog.wantsStandIn t = false := by
 obtain rfl : f = 9 := Option.some.inj ((show Tryd.prog.funcNamed "hearsay/hearsaylaw.DnsBack" = some 9 by kernel_rfl).symm.trans hf) |>.symm
 obtain rfl : fn = Tryd.f9 := (Option.some.inj (Tryd.func9.symm.trans hfn)).symm
 refine ⟨by kernel_rfl, fun j t ht => ?_⟩
 rw [Tryd.params9] at ht
 have hm : t = 40 ∨ t = 9 := by simpa using Array.mem_of_getElem? ht
 rcases hm with rfl | rfl
 ·exact (show Tryd.prog.wantsStandIn 40 = false by kernel_rfl)
 ·exact (show Tryd.prog.wantsStandIn 9 = false by kernel_rfl)
theorem proved : Rows.DnsBackUptoCardSaid :=
 Claim7.holds_tied_plain_at .later [] _ _ _ _ said (fun _ h => by cases h) (by kernel_rfl) (fun _ h => by cases h) dnsBackUpto_row_tie rfl ⟨rfl, rfl⟩ (by kernel_rfl) rfl plain (by kernel_rfl)
#print axioms proved
end Go.Proofs.YtjhdlcmecbngkaaDoor.dnsBack
