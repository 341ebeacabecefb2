/- Texts of this claim, joined. -/
import Derived.Test.YtjhdlcmecbngkaaDoorVa
import Derived.Test.YtjhdlcmecbngkaaDoorVb
import Derived.Test.YtjhdlcmecbngkaaDoorVc
set_option linter.unusedSimpArgs false
namespace Go.Proofs.YtjhdlcmecbngkaaDoor
open Go Go.RowKit Pl
set_option linter.unusedVariables false
namespace Pl
def cutM (m : Ms) (n : Nat) : Ms := ⟨m.id, m.an, m.ct || decide (n < m.rs.length), m.co, m.qn, m.qt, m.rs.take n⟩
theorem cutM_good {m : Ms} (h : m.Good) (n : Nat) : (cutM m n).Good := ⟨h.id, h.co, h.qn, h.qnz, h.qt, by show (m.rs.take n).length ≤ 20; have := h.len; rw [List.length_take]; omega, fun r hr => h.rs r (List.mem_of_mem_take hr)⟩
theorem cutM_all (m : Ms) : cutM m m.rs.length = m := by
 obtain ⟨id, an, ct, co, qn, qt, rs⟩ := m
 unfold cutM
 simp
def fitK (m : Ms) (z : Int) : Nat → ByteArray × Int
 | 0 => if ((msgB (cutM m 0)).length : Int) ≤ z then (bA (msgB (cutM m 0)), 0) else (⟨#[]⟩, 2)
 | n + 1 => if ((msgB (cutM m (n + 1))).length : Int) ≤ z then (bA (msgB (cutM m (n + 1))), 0) else fitK m z n
theorem fitK_yes {m : Ms} {z : Int} {n : Nat} (h : ((msgB (cutM m n)).length : Int) ≤ z) : fitK m z n = (bA (msgB (cutM m n)), 0) := by
 cases n with
 | zero => exact if_pos h
 | succ n => exact if_pos h
theorem fitK_no {m : Ms} {z : Int} {n : Nat} (h : ¬ ((msgB (cutM m (n + 1))).length : Int) ≤ z) : fitK m z (n + 1) = fitK m z n := if_neg h
theorem fitK_end {m : Ms} {z : Int} (h : ¬ ((msgB (cutM m 0)).length : Int) ≤ z) : fitK m z 0 = (⟨#[]⟩, 2) := if_neg h
theorem fitK_pred {m : Ms} {z : Int} {k : Nat} {R : ByteArray × Int} (h : ¬ ((msgB (cutM m k)).length : Int) ≤ z) (e : fitK m z k = R) : 0 < k → fitK m z (k - 1) = R := by
 intro h0
 rcases k with _ | k
 ·omega
 ·exact (fitK_no h).symm.trans e
theorem fitK_zero {m : Ms} {z : Int} {k : Nat} {R : ByteArray × Int} (h : ¬ ((msgB (cutM m k)).length : Int) ≤ z) (e : fitK m z k = R) : k = 0 → R = (⟨#[]⟩, 2) := by
 intro h0
 subst h0
 exact e.symm.trans (fitK_end h)
def fitP (m : Ms) (z : Int) : ByteArray × Int := bif !wIn z 12 512 then (⟨#[]⟩, 3) else if msgErr m ≠ 0 then (⟨#[]⟩, msgErr m) else fitK m z m.rs.length
end Pl
set_option maxHeartbeats 2000000 in
theorem Fit_fun (m : Ms) (z : Int) (hm : MsIn m) : Fun Tryd.prog 29 [.c (.agg m.row), .c (.v (.int .i64 z))] [.c (.v (.string (fitP m z).1)), .c (.v (.int .i64 (fitP m z).2))] := by
 have hl : m.rs.length ≤ 9223372036854775807 := by have := hm.ln; omega
 have hC := check_fun m hm.sz hl
 have e0 : fitP m z = bif !wIn z 12 512 then (⟨#[]⟩, 3) else if msgErr m ≠ 0 then (⟨#[]⟩, msgErr m) else fitK m z m.rs.length := rfl
 refine fun_x ck_dns_Fit rfl ?_
 (refine goI ?_; repeat (intro gg; refine goI ?_))
 revert gg; intro gz
 (refine .inl ⟨_, _, false, [], aI, within_fun z 12 512, nobor, nI, ?_⟩)
 (refine goI ?_; repeat (intro gg; refine goI ?_))
 refine bIf_of (fun k0 => ?_) (fun k0 => ?_) <;> rw [k0] <;> rw [k0] at e0
 ·(refine goI ?_; repeat (intro gg; refine goI ?_))
  rw [e0]
  (exact ⟨[], aI⟩)
 ·simp only [cond_false] at e0
  (refine goI ?_; repeat (intro gg; refine goI ?_))
  (refine .inl ⟨_, _, false, [], aI, hC, nobor, nI, ?_⟩)
  (refine goI ?_; repeat (intro gg; refine goI ?_))
  by_cases he : msgErr m = 0
  ·rw [if_neg (by simp [he])] at e0
   rw [show (msgErr m != 0) = false by simp [he]]
   have hg := (goodM_of he).1
   have hln := hg.len
   (refine goI ?_; repeat (intro gg; refine goI ?_))
   (refine ⟨[], none, {n : Nat // n ≤ m.rs.length ∧ fitK m z n = fitK m z m.rs.length}, [1, 2], fun ⟨n, hn, hf⟩ => [], [], fun ⟨n, hn, hf⟩ => [(32, ⟨gz, .b 40, 7, [(cutM m n).row]⟩)], fun ⟨n, hn, hf⟩ => n, trivial, fun _ => ⟨trivial, fun _ => ⟨⟨m.rs.length, Nat.le_refl _, rfl⟩, tI, keptE_refl _ _, ?_, keptH_refl _ _⟩⟩, fun ⟨n, hn, hf⟩ => ?_⟩; focus (exact ⟨congrArg (fun r => some (Ent.mk gz (.b 40) 7 [r])) (show m.row = (cutM m m.rs.length).row by rw [cutM_all]), trivial⟩))
   have hw : Fun Tryd.prog 44 [.c (.agg (cutM m n).row)] [.c (.v (.string (bA (msgB (cutM m n)))))] := write_fun _ (cutM_good hg n)
   (refine goI ?_; repeat (intro gg; refine goI ?_))
   (refine .inl ⟨_, _, false, [], aI, hw, nobor, nI, ?_⟩)
   (refine goI ?_; repeat (intro gg; refine goI ?_))
   rw [bA_size]
   by_cases h1 : ((msgB (cutM m n)).length : Int) ≤ z
   ·rw [show decide (((msgB (cutM m n)).length : Int) ≤ z) = true from decide_eq_true h1]
    rw [← hf, fitK_yes h1] at e0
    (refine goI ?_; repeat (intro gg; refine goI ?_))
    rw [e0]
    (exact ⟨[], aI⟩)
   ·rw [show decide (((msgB (cutM m n)).length : Int) ≤ z) = false from decide_eq_false h1]
    rcases n with _ | n
    ·rw [← hf, fitK_end h1] at e0
     (refine goI ?_; repeat (intro gg; refine goI ?_))
     rw [e0]
     (exact ⟨[], aI⟩)
    ·have hlen : ((cutM m (n + 1)).rs.map Rr.row).length = n + 1 := by
      show ((m.rs.take (n + 1)).map Rr.row).length = n + 1
      rw [List.length_map, List.length_take]; omega
     have hsb : (((cutM m (n + 1)).rs.map Rr.row).length : Int) - 1 = (n : Int) := by rw [hlen]; omega
     have hsl : ((((cutM m (n + 1)).rs.map Rr.row).drop 0).take (n - 0)) = (cutM m n).rs.map Rr.row := by
      show (((m.rs.take (n + 1)).map Rr.row).drop 0).take n = (m.rs.take n).map Rr.row
      rw [List.drop_zero, ← List.map_take, List.take_take, Nat.min_eq_left (by omega)]
     have hct : (m.ct || decide (n < m.rs.length)) = true := by rw [show decide (n < m.rs.length) = true from decide_eq_true (by omega), Bool.or_true]
     have hrow : ([.v (.int .i64 m.id), .v (.bool m.an), .v (.bool true), .v (.int .i64 m.co), .v (.string m.qn), .v (.int .i64 m.qt), .sl false ((cutM m n).rs.map Rr.row)] : List V) = (cutM m n).row := by
      unfold Ms.row cutM
      rw [hct]
     (refine goI ?_; repeat (intro gg; refine goI ?_))
     rw [show ((((cutM m (n + 1)).rs.map Rr.row).length : Int) == 0) = false by rw [hlen]; exact beq_eq_false_iff_ne.2 (by omega)]
     (refine goI ?_; repeat (intro gg; refine goI ?_))
     refine ⟨0, n, rfl, ⟨.i64, congrArg (fun x => V.v (.int .i64 x)) hsb⟩, Nat.zero_le _, by rw [hlen]; omega, .inr ⟨_, row_map (k := 0) (l := (cutM m (n + 1)).rs) (by show 0 < (m.rs.take (n + 1)).length; rw [List.length_take]; omega), rfl⟩, ?_⟩
     rw [hsl]
     (refine goI ?_; repeat (intro gg; refine goI ?_))
     (exact ⟨none, trivial, fun gr => ⟨⟨n, by omega, (fitK_no h1).symm.trans hf⟩, by show n < n + 1; omega, tI, tI, ⟨congrArg (fun r => some (Ent.mk gz (.b 40) 7 [r])) hrow, trivial⟩, tI⟩⟩)
  ·rw [if_pos he] at e0
   rw [show (msgErr m != 0) = true from bne_iff_ne.2 he]
   (refine goI ?_; repeat (intro gg; refine goI ?_))
   rw [e0]
   (exact ⟨[], aI⟩)
set_option maxHeartbeats 2000000 in
theorem FitOf_fun (m : Ms) (z : Int) (hm : MsIn m) : Fun Tryd.prog 30 [.c (.agg m.row), .c (.v (.int .i64 z))] [.c (.v (.string (fitP m z).1)), .c (.v (.int .i64 (fitP m z).2))] := by
 have hl : m.rs.length ≤ 9223372036854775807 := by have := hm.ln; omega
 have hC := rCheck_fun m hm.sz hl
 have e0 : fitP m z = bif !wIn z 12 512 then (⟨#[]⟩, 3) else if msgErr m ≠ 0 then (⟨#[]⟩, msgErr m) else fitK m z m.rs.length := rfl
 refine fun_x ck_hearsayref_FitOf rfl ?_
 (refine goI ?_; repeat (intro gg; refine goI ?_))
 (refine .inl ⟨_, _, false, [], aI, between_fun z 12 512, nobor, nI, ?_⟩)
 (refine goI ?_; repeat (intro gg; refine goI ?_))
 refine bIf_of (fun k0 => ?_) (fun k0 => ?_) <;> rw [k0] <;> rw [k0] at e0
 ·(refine goI ?_; repeat (intro gg; refine goI ?_))
  rw [e0]
  (exact ⟨[], aI⟩)
 ·simp only [cond_false] at e0
  (refine goI ?_; repeat (intro gg; refine goI ?_))
  (refine .inl ⟨_, _, false, [], aI, hC, nobor, nI, ?_⟩)
  (refine goI ?_; repeat (intro gg; refine goI ?_))
  by_cases he : msgErr m = 0
  ·rw [if_neg (by simp [he])] at e0
   rw [show (msgErr m != 0) = false by simp [he]]
   have hg := (goodM_of he).1
   have hln := hg.len
   (refine goI ?_; repeat (intro gg; refine goI ?_))
   obtain ⟨id, an, ct, co, qn, qt, rs⟩ := m
   simp only at hln
   have row0 : (rs.map Rr.row) = [] ∨ ∃ row, (rs.map Rr.row)[0]? = some row ∧ row.length = 7 := by
    rcases rs with _ | ⟨r, rs⟩
    ·exact .inl rfl
    ·exact .inr ⟨_, rfl, rfl⟩
   rw [List.length_map, show (rs.length : Int) = ((rs.length + 1 : Nat) : Int) - 1 by omega]
   (refine ⟨[], none, {k : Nat // k ≤ rs.length + 1 ∧ (0 < k → fitK ⟨id, an, ct, co, qn, qt, rs⟩ z (k - 1) = fitK ⟨id, an, ct, co, qn, qt, rs⟩ z rs.length) ∧ (k = 0 → fitK ⟨id, an, ct, co, qn, qt, rs⟩ z rs.length = (⟨#[]⟩, 2))}, [1, 2], fun ⟨k, hk, hf, hf0⟩ => [(7, .v (.int .i64 ((k : Int) - 1)))], [32], fun ⟨k, hk, hf, hf0⟩ => [], fun ⟨k, hk, hf, hf0⟩ => k, trivial, fun _ => ⟨trivial, fun _ => ⟨⟨rs.length + 1, Nat.le_refl _, fun _ => rfl, fun h => by omega⟩, tI, keptE_refl _ _, tI, keptH_refl _ _⟩⟩, fun ⟨k, hk, hf, hf0⟩ => ?_⟩)
   rcases k with _ | k
   ·(refine goI ?_; repeat (intro gg; refine goI ?_))
    rw [hf0 rfl] at e0
    rw [e0]
    (exact ⟨[], aI⟩)
   ·have hk1 : ((k + 1 : Nat) : Int) - 1 = (k : Int) := by omega
    have hfk : fitK ⟨id, an, ct, co, qn, qt, rs⟩ z k = fitK ⟨id, an, ct, co, qn, qt, rs⟩ z rs.length := hf (by omega)
    have hM := rMsgB_fun _ (cutM_good hg k)
    have hsl : ((rs.map Rr.row).drop 0).take (k - 0) = (rs.take k).map Rr.row := by rw [List.drop_zero, List.map_take, Nat.sub_zero]
    (refine goI ?_; repeat (intro gg; refine goI ?_))
    rw [show decide ((0 : Int) ≤ ((k + 1 : Nat) : Int) - 1) = true from decide_eq_true (by omega)]
    (refine goI ?_; repeat (intro gg; refine goI ?_))
    refine ⟨0, k, rfl, ⟨.i64, congrArg (fun x => V.v (.int .i64 x)) hk1⟩, Nat.zero_le _, by show k ≤ (rs.map Rr.row).length; rw [List.length_map]; omega, row0, ?_⟩
    rw [hsl]
    (refine goI ?_; repeat (intro gg; refine goI ?_))
    cases ct
    ·(refine goI ?_; repeat (intro gg; refine goI ?_))
     rw [show decide (((k + 1 : Nat) : Int) - 1 < ((rs.map Rr.row).length : Int)) = decide (k < rs.length) from by rw [List.length_map, hk1]; exact decide_eq_decide.2 (by omega)]
     (refine goI ?_; repeat (intro gg; refine goI ?_))
     (refine .inl ⟨_, _, false, [], aI, hM, nobor, nI, ?_⟩)
     (refine goI ?_; repeat (intro gg; refine goI ?_))
     rw [bA_size]
     by_cases h1 : ((msgB (cutM ⟨id, an, false, co, qn, qt, rs⟩ k)).length : Int) ≤ z
     ·rw [show decide (((msgB (cutM ⟨id, an, false, co, qn, qt, rs⟩ k)).length : Int) ≤ z) = true from decide_eq_true h1]
      have e1 : fitP ⟨id, an, false, co, qn, qt, rs⟩ z = (bA (msgB (cutM ⟨id, an, false, co, qn, qt, rs⟩ k)), 0) := e0.trans (hfk.symm.trans (fitK_yes h1))
      rw [e1]
      (refine goI ?_; repeat (intro gg; refine goI ?_))
      (exact ⟨[], aI⟩)
     ·rw [show decide (((msgB (cutM ⟨id, an, false, co, qn, qt, rs⟩ k)).length : Int) ≤ z) = false from decide_eq_false h1]
      (refine goI ?_; repeat (intro gg; refine goI ?_))
      rw [show ((k + 1 : Nat) : Int) - 1 - 1 = (k : Int) - 1 from by omega]
      (exact ⟨none, trivial, fun _ => ⟨⟨k, by omega, fitK_pred h1 hfk, fitK_zero h1 hfk⟩, by show k < k + 1; omega, tI, tI, tI, tI⟩⟩)
    ·(refine goI ?_; repeat (intro gg; refine goI ?_))
     (refine .inl ⟨_, _, false, [], aI, hM, nobor, nI, ?_⟩)
     (refine goI ?_; repeat (intro gg; refine goI ?_))
     rw [bA_size]
     by_cases h1 : ((msgB (cutM ⟨id, an, true, co, qn, qt, rs⟩ k)).length : Int) ≤ z
     ·rw [show decide (((msgB (cutM ⟨id, an, true, co, qn, qt, rs⟩ k)).length : Int) ≤ z) = true from decide_eq_true h1]
      have e1 : fitP ⟨id, an, true, co, qn, qt, rs⟩ z = (bA (msgB (cutM ⟨id, an, true, co, qn, qt, rs⟩ k)), 0) := e0.trans (hfk.symm.trans (fitK_yes h1))
      rw [e1]
      (refine goI ?_; repeat (intro gg; refine goI ?_))
      (exact ⟨[], aI⟩)
     ·rw [show decide (((msgB (cutM ⟨id, an, true, co, qn, qt, rs⟩ k)).length : Int) ≤ z) = false from decide_eq_false h1]
      (refine goI ?_; repeat (intro gg; refine goI ?_))
      rw [show ((k + 1 : Nat) : Int) - 1 - 1 = (k : Int) - 1 from by omega]
      (exact ⟨none, trivial, fun _ => ⟨⟨k, by omega, fitK_pred h1 hfk, fitK_zero h1 hfk⟩, by show k < k + 1; omega, tI, tI, tI, tI⟩⟩)
  ·rw [if_pos he] at e0
   rw [show (msgErr m != 0) = true from bne_iff_ne.2 he]
   (refine goI ?_; repeat (intro gg; refine goI ?_))
   rw [e0]
   (exact ⟨[], aI⟩)
end Go.Proofs.YtjhdlcmecbngkaaDoor
