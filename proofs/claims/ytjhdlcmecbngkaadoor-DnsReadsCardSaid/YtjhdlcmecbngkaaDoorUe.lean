/- Texts of this claim, joined. -/
import Derived.Test.YtjhdlcmecbngkaaDoorUa
import Derived.Test.YtjhdlcmecbngkaaDoorUb
import Derived.Test.YtjhdlcmecbngkaaDoorUc
import Derived.Test.YtjhdlcmecbngkaaDoorUd
set_option linter.unusedSimpArgs false
namespace Go.Proofs.YtjhdlcmecbngkaaDoor
open Go Go.RowKit Pl
set_option linter.unusedVariables false
def msR0 : List V := msgR 0 false false 0 ⟨#[]⟩ 0 (.v (.slice none 0 0))
def moO (s : ByteArray) (gz gb gs : Nat) (id : Int) (an ct : Bool) (co : Int) (qn : ByteArray) (qt : Int) (a : Nat) (b : Bool) (L : List Rr) (g : Nat) : List (Nat × Ent) :=
 match L with
 | [] => [(32, ⟨gz, .b 40, 7, [msR0]⟩), (80, ⟨gb, .b 40, 7, [msgR id an ct co qn qt (.v (.slice none 0 0))]⟩), (336, ⟨gs, .b scT, 3, [[.v (.string s), .v (.int .i64 (a : Int)), .v (.bool b)]]⟩)]
 | r :: L => [(32, ⟨gz, .b 40, 7, [msR0]⟩), (80, ⟨gb, .b 40, 7, [msgR id an ct co qn qt (.own 3840 g)]⟩), (3840, ⟨g, .t 64, 7, (r :: L).map Rr.row⟩), (336, ⟨gs, .b scT, 3, [[.v (.string s), .v (.int .i64 (a : Int)), .v (.bool b)]]⟩)]
theorem sized_of {m : Ms} (h1 : m.qn.size ≤ 1000000000000) (h2 : ∀ r ∈ m.rs, r.Sh) : m.Sized := ⟨h1, fun r hr => ⟨Nat.le_trans (h2 r hr).nm (by decide), Nat.le_trans (h2 r hr).tx (by decide), Nat.le_trans (h2 r hr).tg (by decide)⟩⟩
set_option maxHeartbeats 4000000 in
theorem msgOf_fun (s : ByteArray) : Fun Tryd.prog 27 [.c (.v (.string s))] [.c (.agg (msgS s).1.row), .c (.v (.int .i64 (msgS s).2))] := by
 refine fun_xcd (rcD := stageAt [true, true, true, true, true, true, true, true, true, true, true, false] rc_hearsayref_MessageOf) ck_hearsayref_MessageOf (by kernel_rfl) rfl ?_
 (refine goI ?_; repeat (intro gg; refine goI ?_))
 revert gg; intro gz
 by_cases c0 : 512 < s.size
 ·have e : msgS s = (zeroMs, 2) := if_pos c0
  rw [e, show decide ((512 : Int) < (s.size : Int)) = true from decide_eq_true (by omega)]
  (refine goI ?_; repeat (intro gg; refine goI ?_))
  exact retn2 (.cell1 rfl rfl rfl rfl rfl rfl (.tmp1 rfl .nil)) cBI (cl_b rfl)
 have hs : s.size ≤ 1000000 := by omega
 rw [show decide ((512 : Int) < (s.size : Int)) = false from decide_eq_false (by omega)]
 (refine goI ?_; repeat (intro gg; refine goI ?_))
 revert gg; intro gs
 (refine .inr (.inl ⟨_, _, false, 336 :: ([] ++ []), ?_, scan_number s 0 2 false hs (by omega) (by omega) (by omega), nobor, oI, dI, ?_⟩); focus (exact aM_mn (gone := []) (gone1 := []) rfl aI (by decide) (by decide) (by decide) rfl aM))
 obtain ⟨id, hid⟩ : ∃ x, x = numN s 2 0 := ⟨_, rfl⟩
 have bid := numN_le s 0 (show 2 ≤ 4 by omega)
 rw [← hid] at bid ⊢
 (refine goI ?_; repeat (intro gg; refine goI ?_))
 revert gg; intro gb
 (refine .inr (.inl ⟨_, _, false, 336 :: ([] ++ []), ?_, scan_number s (numA s 2 0) 1 (numB s 2 0 false) hs (numA_le (by omega) hs) (by omega) (by omega), nobor, oI, dI, ?_⟩); focus (exact aM_mn (gone := []) (gone1 := []) rfl aI (by decide) (by decide) (by decide) rfl aM))
 rw [show numA s 1 (numA s 2 0) = numA s 3 0 from numA_add s 2 1 0, show numB s 1 (numA s 2 0) (numB s 2 0 false) = numB s 3 0 false from numB_add s 2 1 0 false]
 obtain ⟨fl, hfl⟩ : ∃ x, x = numN s 1 (numA s 2 0) := ⟨_, rfl⟩
 have bfl := numN_le s (numA s 2 0) (show 1 ≤ 4 by omega)
 rw [← hfl] at bfl ⊢
 (refine goI ?_; repeat (intro gg; refine goI ?_))
 refine ⟨by omega, ((fl % 4 : Nat) : Int), by rw [Int.tmod_eq_emod_of_nonneg (by omega)]; omega, ?_⟩
 (refine goI ?_; repeat (intro gg; refine goI ?_))
 (refine .inr (.inl ⟨_, _, false, 336 :: ([] ++ []), ?_, scan_number s (numA s 3 0) 1 (numB s 3 0 false) hs (numA_le (by omega) hs) (by omega) (by omega), nobor, oI, dI, ?_⟩); focus (exact aM_mn (gone := []) (gone1 := []) rfl aI (by decide) (by decide) (by decide) rfl aM))
 rw [show numA s 1 (numA s 3 0) = numA s 4 0 from numA_add s 3 1 0, show numB s 1 (numA s 3 0) (numB s 3 0 false) = numB s 4 0 false from numB_add s 3 1 0 false]
 obtain ⟨co, hco⟩ : ∃ x, x = numN s 1 (numA s 3 0) := ⟨_, rfl⟩
 have bco := numN_le s (numA s 3 0) (show 1 ≤ 4 by omega)
 rw [← hco] at bco ⊢
 (refine goI ?_; repeat (intro gg; refine goI ?_))
 (refine .inr (.inl ⟨_, _, false, 336 :: ([] ++ []), ?_, scan_number s (numA s 4 0) 2 (numB s 4 0 false) hs (numA_le (by omega) hs) (by omega) (by omega), nobor, oI, dI, ?_⟩); focus (exact aM_mn (gone := []) (gone1 := []) rfl aI (by decide) (by decide) (by decide) rfl aM))
 rw [show numA s 2 (numA s 4 0) = numA s 6 0 from numA_add s 4 2 0, show numB s 2 (numA s 4 0) (numB s 4 0 false) = numB s 6 0 false from numB_add s 4 2 0 false]
 obtain ⟨one, hone⟩ : ∃ x, x = numN s 2 (numA s 4 0) := ⟨_, rfl⟩
 have bone := numN_le s (numA s 4 0) (show 2 ≤ 4 by omega)
 rw [← hone] at bone ⊢
 (refine goI ?_; repeat (intro gg; refine goI ?_))
 (refine .inr (.inl ⟨_, _, false, 336 :: ([] ++ []), ?_, scan_number s (numA s 6 0) 2 (numB s 6 0 false) hs (numA_le (by omega) hs) (by omega) (by omega), nobor, oI, dI, ?_⟩); focus (exact aM_mn (gone := []) (gone1 := []) rfl aI (by decide) (by decide) (by decide) rfl aM))
 rw [show numA s 2 (numA s 6 0) = numA s 8 0 from numA_add s 6 2 0, show numB s 2 (numA s 6 0) (numB s 6 0 false) = numB s 8 0 false from numB_add s 6 2 0 false]
 obtain ⟨n, hn⟩ : ∃ x, x = numN s 2 (numA s 6 0) := ⟨_, rfl⟩
 have bn := numN_le s (numA s 6 0) (show 2 ≤ 4 by omega)
 rw [← hn] at bn ⊢
 (refine goI ?_; repeat (intro gg; refine goI ?_))
 (refine .inr (.inl ⟨_, _, false, 336 :: ([] ++ []), ?_, scan_number s (numA s 8 0) 4 (numB s 8 0 false) hs (numA_le (by omega) hs) (by omega) (by omega), nobor, oI, dI, ?_⟩); focus (exact aM_mn (gone := []) (gone1 := []) rfl aI (by decide) (by decide) (by decide) rfl aM))
 rw [show numA s 4 (numA s 8 0) = numA s 12 0 from numA_add s 8 4 0, show numB s 4 (numA s 8 0) (numB s 8 0 false) = numB s 12 0 false from numB_add s 8 4 0 false]
 obtain ⟨z, hz⟩ : ∃ x, x = numN s 4 (numA s 8 0) := ⟨_, rfl⟩
 have bz := numN_le s (numA s 8 0) (show 4 ≤ 4 by omega)
 rw [← hz] at bz ⊢
 (refine goI ?_; repeat (intro gg; refine goI ?_))
 rw [show decide ((128 : Int) ≤ (fl : Int)) = decide (128 ≤ fl) from decide_eq_decide.2 (by omega), show decide ((2 : Int) ≤ ((fl % 4 : Nat) : Int)) = decide (2 ≤ fl % 4) from decide_eq_decide.2 (by omega)]
 have hH : hdS s = ⟨id, fl, co, one, n, z⟩ := by rw [hid, hfl, hco, hone, hn, hz]; rfl
 clear hid hfl hco hone hn hz
 obtain ⟨an, han⟩ : ∃ x, x = decide (128 ≤ fl) := ⟨_, rfl⟩
 obtain ⟨ct, hct⟩ : ∃ x, x = decide (2 ≤ fl % 4) := ⟨_, rfl⟩
 rw [← han, ← hct]
 refine ⟨PLift (12 ≤ s.size ∧ (hdS s).ok), [], fun _ => [(0, .v (.string s)), (2, .ptr 32 gz 0 0), (4, .ptr 336 gs 0 0), (5, .ptr 80 gb 0 0), (8, .v (.int .i64 (n : Int)))], [], fun _ => [(32, ⟨gz, .b 40, 7, [msR0]⟩), (80, ⟨gb, .b 40, 7, [msgR (id : Int) an ct (co : Int) ⟨#[]⟩ 0 (.v (.slice none 0 0))]⟩), (336, ⟨gs, .b scT, 3, [[.v (.string s), .v (.int .i64 ((numA s 12 0 : Nat) : Int)), .v (.bool (numB s 12 0 false))]]⟩)], ?_, fun hx => ?_⟩
 ·(refine goI ?_; repeat (intro gg; refine goI ?_))
  by_cases c12 : 12 ≤ s.size
  rotate_left
  ·have e3 := (num_no (s := s) (k := 12) (a := 0) (b := false) (by omega)).2.2
   rw [e3]
   have e : msgS s = (zeroMs, 1) := by unfold msgS; rw [if_neg c0, if_neg (fun q => c12 q.1)]
   rw [e]
   (refine goI ?_; repeat (intro gg; refine goI ?_))
   exact retn2 (.cell1 rfl rfl rfl rfl rfl rfl (.tmp1 rfl .nil)) cBI (cl_b rfl)
  obtain ⟨_, e2, e3⟩ := num_yes (s := s) (k := 12) (a := 0) (b := false) (by omega)
  rw [e3]
  (refine goI ?_; repeat (intro gg; refine goI ?_))
  by_cases f0 : fl = 0
  ·rw [show ((fl : Int) != 0) = false from by simp; omega]
   (refine goI ?_; repeat (intro gg; refine goI ?_))
   by_cases k1 : co ≤ 15
   rotate_left
   ·rw [show (decide ((15 : Int) < (co : Int))) = true from decide_eq_true (by omega)]
    have e : msgS s = (zeroMs, 1) := by unfold msgS; rw [if_neg c0, if_neg (fun q => by rw [hH] at q; exact k1 q.2.2.1)]
    rw [e]
    (refine goI ?_; repeat (intro gg; refine goI ?_))
    exact retn2 (.cell1 rfl rfl rfl rfl rfl rfl (.tmp1 rfl .nil)) cBI (cl_b rfl)
   rw [show (decide ((15 : Int) < (co : Int))) = false from decide_eq_false (by omega)]
   (refine goI ?_; repeat (intro gg; refine goI ?_))
   by_cases k2 : one = 1
   rotate_left
   ·rw [show ((one : Int) != 1) = true from bne_iff_ne.2 (by omega)]
    have e : msgS s = (zeroMs, 1) := by unfold msgS; rw [if_neg c0, if_neg (fun q => by rw [hH] at q; exact k2 q.2.2.2.1)]
    rw [e]
    (refine goI ?_; repeat (intro gg; refine goI ?_))
    exact retn2 (.cell1 rfl rfl rfl rfl rfl rfl (.tmp1 rfl .nil)) cBI (cl_b rfl)
   rw [show ((one : Int) != 1) = false from by simp; omega]
   (refine goI ?_; repeat (intro gg; refine goI ?_))
   by_cases k3 : n ≤ 20
   rotate_left
   ·rw [show (decide ((20 : Int) < (n : Int))) = true from decide_eq_true (by omega)]
    have e : msgS s = (zeroMs, 1) := by unfold msgS; rw [if_neg c0, if_neg (fun q => by rw [hH] at q; exact k3 q.2.2.2.2.1)]
    rw [e]
    (refine goI ?_; repeat (intro gg; refine goI ?_))
    exact retn2 (.cell1 rfl rfl rfl rfl rfl rfl (.tmp1 rfl .nil)) cBI (cl_b rfl)
   rw [show (decide ((20 : Int) < (n : Int))) = false from decide_eq_false (by omega)]
   (refine goI ?_; repeat (intro gg; refine goI ?_))
   by_cases k4 : z = 0
   rotate_left
   ·rw [show ((z : Int) != 0) = true from bne_iff_ne.2 (by omega)]
    have e : msgS s = (zeroMs, 1) := by unfold msgS; rw [if_neg c0, if_neg (fun q => by rw [hH] at q; exact k4 q.2.2.2.2.2)]
    rw [e]
    (refine goI ?_; repeat (intro gg; refine goI ?_))
    exact retn2 (.cell1 rfl rfl rfl rfl rfl rfl (.tmp1 rfl .nil)) cBI (cl_b rfl)
   rw [show ((z : Int) != 0) = false from by simp; omega]
   (refine goI ?_; repeat (intro gg; refine goI ?_))
   exact ⟨⟨c12, by rw [hH]; exact ⟨.inl f0, k1, k2, k3, k4⟩⟩, tI, tI, tI, tI⟩
  rw [show ((fl : Int) != 0) = true from bne_iff_ne.2 (by omega)]
  (refine goI ?_; repeat (intro gg; refine goI ?_))
  by_cases f2 : fl = 2
  ·rw [show ((fl : Int) != 2) = false from by simp; omega]
   (refine goI ?_; repeat (intro gg; refine goI ?_))
   by_cases k1 : co ≤ 15
   rotate_left
   ·rw [show (decide ((15 : Int) < (co : Int))) = true from decide_eq_true (by omega)]
    have e : msgS s = (zeroMs, 1) := by unfold msgS; rw [if_neg c0, if_neg (fun q => by rw [hH] at q; exact k1 q.2.2.1)]
    rw [e]
    (refine goI ?_; repeat (intro gg; refine goI ?_))
    exact retn2 (.cell1 rfl rfl rfl rfl rfl rfl (.tmp1 rfl .nil)) cBI (cl_b rfl)
   rw [show (decide ((15 : Int) < (co : Int))) = false from decide_eq_false (by omega)]
   (refine goI ?_; repeat (intro gg; refine goI ?_))
   by_cases k2 : one = 1
   rotate_left
   ·rw [show ((one : Int) != 1) = true from bne_iff_ne.2 (by omega)]
    have e : msgS s = (zeroMs, 1) := by unfold msgS; rw [if_neg c0, if_neg (fun q => by rw [hH] at q; exact k2 q.2.2.2.1)]
    rw [e]
    (refine goI ?_; repeat (intro gg; refine goI ?_))
    exact retn2 (.cell1 rfl rfl rfl rfl rfl rfl (.tmp1 rfl .nil)) cBI (cl_b rfl)
   rw [show ((one : Int) != 1) = false from by simp; omega]
   (refine goI ?_; repeat (intro gg; refine goI ?_))
   by_cases k3 : n ≤ 20
   rotate_left
   ·rw [show (decide ((20 : Int) < (n : Int))) = true from decide_eq_true (by omega)]
    have e : msgS s = (zeroMs, 1) := by unfold msgS; rw [if_neg c0, if_neg (fun q => by rw [hH] at q; exact k3 q.2.2.2.2.1)]
    rw [e]
    (refine goI ?_; repeat (intro gg; refine goI ?_))
    exact retn2 (.cell1 rfl rfl rfl rfl rfl rfl (.tmp1 rfl .nil)) cBI (cl_b rfl)
   rw [show (decide ((20 : Int) < (n : Int))) = false from decide_eq_false (by omega)]
   (refine goI ?_; repeat (intro gg; refine goI ?_))
   by_cases k4 : z = 0
   rotate_left
   ·rw [show ((z : Int) != 0) = true from bne_iff_ne.2 (by omega)]
    have e : msgS s = (zeroMs, 1) := by unfold msgS; rw [if_neg c0, if_neg (fun q => by rw [hH] at q; exact k4 q.2.2.2.2.2)]
    rw [e]
    (refine goI ?_; repeat (intro gg; refine goI ?_))
    exact retn2 (.cell1 rfl rfl rfl rfl rfl rfl (.tmp1 rfl .nil)) cBI (cl_b rfl)
   rw [show ((z : Int) != 0) = false from by simp; omega]
   (refine goI ?_; repeat (intro gg; refine goI ?_))
   exact ⟨⟨c12, by rw [hH]; exact ⟨.inr (.inl f2), k1, k2, k3, k4⟩⟩, tI, tI, tI, tI⟩
  rw [show ((fl : Int) != 2) = true from bne_iff_ne.2 (by omega)]
  (refine goI ?_; repeat (intro gg; refine goI ?_))
  by_cases f128 : fl = 128
  ·rw [show ((fl : Int) != 128) = false from by simp; omega]
   (refine goI ?_; repeat (intro gg; refine goI ?_))
   by_cases k1 : co ≤ 15
   rotate_left
   ·rw [show (decide ((15 : Int) < (co : Int))) = true from decide_eq_true (by omega)]
    have e : msgS s = (zeroMs, 1) := by unfold msgS; rw [if_neg c0, if_neg (fun q => by rw [hH] at q; exact k1 q.2.2.1)]
    rw [e]
    (refine goI ?_; repeat (intro gg; refine goI ?_))
    exact retn2 (.cell1 rfl rfl rfl rfl rfl rfl (.tmp1 rfl .nil)) cBI (cl_b rfl)
   rw [show (decide ((15 : Int) < (co : Int))) = false from decide_eq_false (by omega)]
   (refine goI ?_; repeat (intro gg; refine goI ?_))
   by_cases k2 : one = 1
   rotate_left
   ·rw [show ((one : Int) != 1) = true from bne_iff_ne.2 (by omega)]
    have e : msgS s = (zeroMs, 1) := by unfold msgS; rw [if_neg c0, if_neg (fun q => by rw [hH] at q; exact k2 q.2.2.2.1)]
    rw [e]
    (refine goI ?_; repeat (intro gg; refine goI ?_))
    exact retn2 (.cell1 rfl rfl rfl rfl rfl rfl (.tmp1 rfl .nil)) cBI (cl_b rfl)
   rw [show ((one : Int) != 1) = false from by simp; omega]
   (refine goI ?_; repeat (intro gg; refine goI ?_))
   by_cases k3 : n ≤ 20
   rotate_left
   ·rw [show (decide ((20 : Int) < (n : Int))) = true from decide_eq_true (by omega)]
    have e : msgS s = (zeroMs, 1) := by unfold msgS; rw [if_neg c0, if_neg (fun q => by rw [hH] at q; exact k3 q.2.2.2.2.1)]
    rw [e]
    (refine goI ?_; repeat (intro gg; refine goI ?_))
    exact retn2 (.cell1 rfl rfl rfl rfl rfl rfl (.tmp1 rfl .nil)) cBI (cl_b rfl)
   rw [show (decide ((20 : Int) < (n : Int))) = false from decide_eq_false (by omega)]
   (refine goI ?_; repeat (intro gg; refine goI ?_))
   by_cases k4 : z = 0
   rotate_left
   ·rw [show ((z : Int) != 0) = true from bne_iff_ne.2 (by omega)]
    have e : msgS s = (zeroMs, 1) := by unfold msgS; rw [if_neg c0, if_neg (fun q => by rw [hH] at q; exact k4 q.2.2.2.2.2)]
    rw [e]
    (refine goI ?_; repeat (intro gg; refine goI ?_))
    exact retn2 (.cell1 rfl rfl rfl rfl rfl rfl (.tmp1 rfl .nil)) cBI (cl_b rfl)
   rw [show ((z : Int) != 0) = false from by simp; omega]
   (refine goI ?_; repeat (intro gg; refine goI ?_))
   exact ⟨⟨c12, by rw [hH]; exact ⟨.inr (.inr (.inl f128)), k1, k2, k3, k4⟩⟩, tI, tI, tI, tI⟩
  rw [show ((fl : Int) != 128) = true from bne_iff_ne.2 (by omega)]
  (refine goI ?_; repeat (intro gg; refine goI ?_))
  by_cases f130 : fl = 130
  ·rw [show ((fl : Int) != 130) = false from by simp; omega]
   (refine goI ?_; repeat (intro gg; refine goI ?_))
   by_cases k1 : co ≤ 15
   rotate_left
   ·rw [show (decide ((15 : Int) < (co : Int))) = true from decide_eq_true (by omega)]
    have e : msgS s = (zeroMs, 1) := by unfold msgS; rw [if_neg c0, if_neg (fun q => by rw [hH] at q; exact k1 q.2.2.1)]
    rw [e]
    (refine goI ?_; repeat (intro gg; refine goI ?_))
    exact retn2 (.cell1 rfl rfl rfl rfl rfl rfl (.tmp1 rfl .nil)) cBI (cl_b rfl)
   rw [show (decide ((15 : Int) < (co : Int))) = false from decide_eq_false (by omega)]
   (refine goI ?_; repeat (intro gg; refine goI ?_))
   by_cases k2 : one = 1
   rotate_left
   ·rw [show ((one : Int) != 1) = true from bne_iff_ne.2 (by omega)]
    have e : msgS s = (zeroMs, 1) := by unfold msgS; rw [if_neg c0, if_neg (fun q => by rw [hH] at q; exact k2 q.2.2.2.1)]
    rw [e]
    (refine goI ?_; repeat (intro gg; refine goI ?_))
    exact retn2 (.cell1 rfl rfl rfl rfl rfl rfl (.tmp1 rfl .nil)) cBI (cl_b rfl)
   rw [show ((one : Int) != 1) = false from by simp; omega]
   (refine goI ?_; repeat (intro gg; refine goI ?_))
   by_cases k3 : n ≤ 20
   rotate_left
   ·rw [show (decide ((20 : Int) < (n : Int))) = true from decide_eq_true (by omega)]
    have e : msgS s = (zeroMs, 1) := by unfold msgS; rw [if_neg c0, if_neg (fun q => by rw [hH] at q; exact k3 q.2.2.2.2.1)]
    rw [e]
    (refine goI ?_; repeat (intro gg; refine goI ?_))
    exact retn2 (.cell1 rfl rfl rfl rfl rfl rfl (.tmp1 rfl .nil)) cBI (cl_b rfl)
   rw [show (decide ((20 : Int) < (n : Int))) = false from decide_eq_false (by omega)]
   (refine goI ?_; repeat (intro gg; refine goI ?_))
   by_cases k4 : z = 0
   rotate_left
   ·rw [show ((z : Int) != 0) = true from bne_iff_ne.2 (by omega)]
    have e : msgS s = (zeroMs, 1) := by unfold msgS; rw [if_neg c0, if_neg (fun q => by rw [hH] at q; exact k4 q.2.2.2.2.2)]
    rw [e]
    (refine goI ?_; repeat (intro gg; refine goI ?_))
    exact retn2 (.cell1 rfl rfl rfl rfl rfl rfl (.tmp1 rfl .nil)) cBI (cl_b rfl)
   rw [show ((z : Int) != 0) = false from by simp; omega]
   (refine goI ?_; repeat (intro gg; refine goI ?_))
   exact ⟨⟨c12, by rw [hH]; exact ⟨.inr (.inr (.inr f130)), k1, k2, k3, k4⟩⟩, tI, tI, tI, tI⟩
  rw [show ((fl : Int) != 130) = true from bne_iff_ne.2 (by omega)]
  have e : msgS s = (zeroMs, 1) := by unfold msgS; rw [if_neg c0, if_neg (fun q => by rw [hH] at q; have := q.2.1; simp only at this; omega)]
  rw [e]
  (refine goI ?_; repeat (intro gg; refine goI ?_))
  exact retn2 (.cell1 rfl rfl rfl rfl rfl rfl (.tmp1 rfl .nil)) cBI (cl_b rfl)
 obtain ⟨⟨c12, hok⟩⟩ := hx
 simp only [hdE_nil, hdH_nil, keptE_nil, keptH_nil]
 obtain ⟨_, e2, e3⟩ := num_yes (s := s) (k := 12) (a := 0) (b := false) (by omega)
 rw [e2, e3]
 have hnb := nameT_bd hs (show 12 ≤ 1000000 by omega) false
 obtain ⟨nm, a1, b1, hN⟩ : ∃ nm a1 b1, nameT s 12 false = (nm, a1, b1) := ⟨_, _, _, rfl⟩
 have hSN := scan_name s 12 false hs (by omega)
 rw [hN] at hSN hnb
 simp only at hSN hnb
 obtain ⟨ha1, hnz⟩ := hnb
 (refine goI ?_; repeat (intro gg; refine goI ?_))
 (refine .inr (.inl ⟨_, _, false, 336 :: ([] ++ []), ?_, hSN, nobor, oI, dI, ?_⟩); focus (exact aM_mn (gone := []) (gone1 := []) rfl aI (by decide) (by decide) (by decide) rfl aM))
 (refine goI ?_; repeat (intro gg; refine goI ?_))
 (refine .inr (.inl ⟨_, _, false, 336 :: ([] ++ []), ?_, scan_number s a1 2 b1 hs ha1 (by omega) (by omega), nobor, oI, dI, ?_⟩); focus (exact aM_mn (gone := []) (gone1 := []) rfl aI (by decide) (by decide) (by decide) rfl aM))
 obtain ⟨qt, hqt⟩ : ∃ x, x = numN s 2 a1 := ⟨_, rfl⟩
 have bqt := numN_le s a1 (show 2 ≤ 4 by omega)
 rw [← hqt] at bqt ⊢
 obtain ⟨a2, ha2⟩ : ∃ x, x = numA s 2 a1 := ⟨_, rfl⟩
 obtain ⟨b2, hb2⟩ : ∃ x, x = numB s 2 a1 b1 := ⟨_, rfl⟩
 have la2 : a2 ≤ 1000000 := by rw [ha2]; exact numA_le ha1 hs
 rw [← ha2, ← hb2]
 have hM : msgS s = match recsS s n (oneS s a2 b2).1 (oneS s a2 b2).2 [] with
   | none => (zeroMs, 1)
   | some (L, a, b) =>
    if b = false ∧ a = s.size ∧ msgErr ⟨id, an, ct, co, nm, qt, L⟩ = 0 then (⟨id, an, ct, co, nm, qt, L⟩, 0)
    else (zeroMs, 1) := by
  unfold msgS
  subst han hct hqt ha2 hb2
  rw [if_neg c0, if_pos ⟨c12, hok⟩, hN, hH]
  all_goals rfl
 clear hN hSN hH hqt ha2 hb2 han hct
 (refine goI ?_; repeat (intro gg; refine goI ?_))
 cases b2
 rotate_left
 ·have e : msgS s = (zeroMs, 1) := by
   rw [hM, show recsS s n (oneS s a2 true).1 (oneS s a2 true).2 [] = some ([], a2, true) from RsI.stop (k := 0) (R := recsS s n a2 true []) (RsI.start la2)]
   exact if_neg fun q => by cases q.1
  rw [e]
  (refine goI ?_; repeat (intro gg; refine goI ?_))
  (refine ⟨[], none, Unit, [], fun _ => [(0, .v (.string s)), (2, .ptr 32 gz 0 0), (4, .ptr 336 gs 0 0), (5, .ptr 80 gb 0 0), (8, .v (.int .i64 (n : Int))), (10, .v (.int .i64 (0 : Int)))], [], fun _ => [(32, ⟨gz, .b 40, 7, [msR0]⟩), (80, ⟨gb, .b 40, 7, [msgR (id : Int) an ct (co : Int) nm (qt : Int) (.v (.slice none 0 0))]⟩), (336, ⟨gs, .b scT, 3, [[.v (.string s), .v (.int .i64 (a2 : Int)), .v (.bool true)]]⟩)], fun _ => 0, trivial, fun _ => ⟨trivial, fun _ => ⟨(), tI, keptE_refl _ _, tI, keptH_refl _ _⟩⟩, fun _ => ?_⟩)
  simp only [hdE_nil, hdH_nil, keptE_nil, keptH_nil]
  (refine goI ?_; repeat (intro gg; refine goI ?_))
  by_cases c1 : 0 < n
  ·rw [show decide ((0 : Int) < (n : Int)) = true from decide_eq_true (by omega)]
   (refine goI ?_; repeat (intro gg; refine goI ?_))
   exact retn2 (.cell1 rfl rfl rfl rfl rfl rfl (.tmp1 rfl .nil)) cBI (cl_b rfl)
  ·rw [show decide ((0 : Int) < (n : Int)) = false from decide_eq_false (by omega)]
   (refine goI ?_; repeat (intro gg; refine goI ?_))
   exact retn2 (.cell1 rfl rfl rfl rfl rfl rfl (.tmp1 rfl .nil)) cBI (cl_b rfl)
 (refine goI ?_; repeat (intro gg; refine goI ?_))
 (refine .inr (.inl ⟨_, _, false, 336 :: ([] ++ []), ?_, scan_number s a2 2 false hs la2 (by omega) (by omega), nobor, oI, dI, ?_⟩); focus (exact aM_mn (gone := []) (gone1 := []) rfl aI (by decide) (by decide) (by decide) rfl aM))
 obtain ⟨R, hR⟩ : ∃ R, R = recsS s n (oneS s a2 false).1 (oneS s a2 false).2 [] := ⟨_, rfl⟩
 have hI0 : RsI s n R 0 (oneS s a2 false).1 (oneS s a2 false).2 [] := by rw [hR]; exact RsI.start (oneS_le hs la2 false)
 rw [← hR] at hM
 clear hR
 (refine goI ?_; repeat (intro gg; refine goI ?_))
 (refine ⟨[], none, {p : Nat × Nat × Bool × List Rr × Nat // RsI s n R p.1 p.2.1 p.2.2.1 p.2.2.2.1}, [], fun ⟨⟨k, a, b, L, g⟩, hp⟩ => [(0, .v (.string s)), (2, .ptr 32 gz 0 0), (4, .ptr 336 gs 0 0), (5, .ptr 80 gb 0 0), (8, .v (.int .i64 (n : Int))), (10, .v (.int .i64 (k : Int)))], [], fun ⟨⟨k, a, b, L, g⟩, hp⟩ => moO s gz gb gs (id : Int) an ct (co : Int) nm (qt : Int) a b L g, fun ⟨⟨k, a, b, L, g⟩, hp⟩ => n - k, trivial, fun _ => ⟨trivial, fun _ => ⟨⟨(0, (oneS s a2 false).1, (oneS s a2 false).2, [], 0), hI0⟩, tI, keptE_refl _ _, tI, keptH_refl _ _⟩⟩, fun ⟨⟨k, a, b, L, g⟩, hp⟩ => ?_⟩)
 simp only at hp
 simp only [hdE_nil, hdH_nil, keptE_nil, keptH_nil]
 have hla := hp.ha
 by_cases c11 : k < n
 rotate_left
 ·have hq := hp.end_ c11
  cases b
  rotate_left
  ·rcases L with _ | ⟨r0, L⟩
   ·(refine goI ?_; repeat (intro gg; refine goI ?_))
    rw [show decide ((k : Int) < (n : Int)) = false from decide_eq_false (by omega)]
    (refine goI ?_; repeat (intro gg; refine goI ?_))
    have e : msgS s = (zeroMs, 1) := by
     rw [hM, hq]
     exact if_neg fun q => by cases q.1
    rw [e]
    (refine goI ?_; repeat (intro gg; refine goI ?_))
    exact retn2 (.cell1 rfl rfl rfl rfl rfl rfl (.tmp1 rfl .nil)) cBI (cl_b rfl)
   ·(refine goI ?_; repeat (intro gg; refine goI ?_))
    rw [show decide ((k : Int) < (n : Int)) = false from decide_eq_false (by omega)]
    (refine goI ?_; repeat (intro gg; refine goI ?_))
    have e : msgS s = (zeroMs, 1) := by
     rw [hM, hq]
     exact if_neg fun q => by cases q.1
    rw [e]
    (refine goI ?_; repeat (intro gg; refine goI ?_))
    exact retn2 (.cell1 rfl rfl rfl rfl rfl rfl (.tmp1 rfl .nil)) cBI (cl_b rfl)
  ·rcases L with _ | ⟨r0, L⟩
   ·(refine goI ?_; repeat (intro gg; refine goI ?_))
    rw [show decide ((k : Int) < (n : Int)) = false from decide_eq_false (by omega)]
    (refine goI ?_; repeat (intro gg; refine goI ?_))
    by_cases f1 : a = s.size
    rotate_left
    ·rw [show ((a : Int) != (s.size : Int)) = true from bne_iff_ne.2 (by omega)]
     have e : msgS s = (zeroMs, 1) := by
      rw [hM, hq]
      exact if_neg fun q => f1 q.2.1
     rw [e]
     (refine goI ?_; repeat (intro gg; refine goI ?_))
     exact retn2 (.cell1 rfl rfl rfl rfl rfl rfl (.tmp1 rfl .nil)) cBI (cl_b rfl)
    rw [show ((a : Int) != (s.size : Int)) = false from by simp; omega]
    (refine goI ?_; repeat (intro gg; refine goI ?_))
    (refine .inl ⟨_, _, true, [], aI, rCheck_fun ⟨id, an, ct, co, nm, qt, []⟩ (sized_of (show nm.size ≤ _ by omega) hp.hz) (by have := hp.hl; have := hp.hk; show ([] : List Rr).length ≤ _; omega), (fun _ => fI), nI, ?_⟩)
    (refine goI ?_; repeat (intro gg; refine goI ?_))
    by_cases f2 : msgErr ⟨id, an, ct, co, nm, qt, []⟩ = 0
    rotate_left
    ·rw [show (msgErr ⟨id, an, ct, co, nm, qt, []⟩ != 0) = true from bne_iff_ne.2 f2]
     have e : msgS s = (zeroMs, 1) := by
      rw [hM, hq]
      exact if_neg fun q => f2 q.2.2
     rw [e]
     (refine goI ?_; repeat (intro gg; refine goI ?_))
     exact retn2 (.cell1 rfl rfl rfl rfl rfl rfl (.tmp1 rfl .nil)) cBI (cl_b rfl)
    rw [f2]
    (refine goI ?_; repeat (intro gg; refine goI ?_))
    have e : msgS s = (⟨id, an, ct, co, nm, qt, []⟩, 0) := by
     rw [hM, hq]
     exact if_pos ⟨rfl, f1, f2⟩
    rw [e]
    exact retn2 (.cell1 rfl rfl rfl rfl rfl rfl (.tmp1 rfl .nil)) cBI (cl_b rfl)
   ·(refine goI ?_; repeat (intro gg; refine goI ?_))
    rw [show decide ((k : Int) < (n : Int)) = false from decide_eq_false (by omega)]
    (refine goI ?_; repeat (intro gg; refine goI ?_))
    by_cases f1 : a = s.size
    rotate_left
    ·rw [show ((a : Int) != (s.size : Int)) = true from bne_iff_ne.2 (by omega)]
     have e : msgS s = (zeroMs, 1) := by
      rw [hM, hq]
      exact if_neg fun q => f1 q.2.1
     rw [e]
     (refine goI ?_; repeat (intro gg; refine goI ?_))
     exact retn2 (.cell1 rfl rfl rfl rfl rfl rfl (.tmp1 rfl .nil)) cBI (cl_b rfl)
    rw [show ((a : Int) != (s.size : Int)) = false from by simp; omega]
    (refine goI ?_; repeat (intro gg; refine goI ?_))
    (refine .inl ⟨_, _, true, [], aI, rCheck_fun ⟨id, an, ct, co, nm, qt, r0 :: L⟩ (sized_of (show nm.size ≤ _ by omega) hp.hz) (by have := hp.hl; have := hp.hk; show (r0 :: L : List Rr).length ≤ _; omega), (fun _ => fI), nI, ?_⟩)
    (refine goI ?_; repeat (intro gg; refine goI ?_))
    by_cases f2 : msgErr ⟨id, an, ct, co, nm, qt, r0 :: L⟩ = 0
    rotate_left
    ·rw [show (msgErr ⟨id, an, ct, co, nm, qt, r0 :: L⟩ != 0) = true from bne_iff_ne.2 f2]
     have e : msgS s = (zeroMs, 1) := by
      rw [hM, hq]
      exact if_neg fun q => f2 q.2.2
     rw [e]
     (refine goI ?_; repeat (intro gg; refine goI ?_))
     exact retn2 (.cell1 rfl rfl rfl rfl rfl rfl (.tmp1 rfl .nil)) cBI (cl_b rfl)
    rw [f2]
    (refine goI ?_; repeat (intro gg; refine goI ?_))
    have e : msgS s = (⟨id, an, ct, co, nm, qt, r0 :: L⟩, 0) := by
     rw [hM, hq]
     exact if_pos ⟨rfl, f1, f2⟩
    rw [e]
    exact retn2 (.cell1 rfl rfl rfl rfl rfl rfl (.tmp1 rfl .nil)) cBI (cl_b rfl)
 cases b
 rotate_left
 ·have hq := hp.stop
  rcases L with _ | ⟨r0, L⟩
  ·(refine goI ?_; repeat (intro gg; refine goI ?_))
   rw [show decide ((k : Int) < (n : Int)) = true from decide_eq_true (by omega)]
   (refine goI ?_; repeat (intro gg; refine goI ?_))
   have e : msgS s = (zeroMs, 1) := by
    rw [hM, hq]
    exact if_neg fun q => by cases q.1
   rw [e]
   (refine goI ?_; repeat (intro gg; refine goI ?_))
   exact retn2 (.cell1 rfl rfl rfl rfl rfl rfl (.tmp1 rfl .nil)) cBI (cl_b rfl)
  ·(refine goI ?_; repeat (intro gg; refine goI ?_))
   rw [show decide ((k : Int) < (n : Int)) = true from decide_eq_true (by omega)]
   (refine goI ?_; repeat (intro gg; refine goI ?_))
   have e : msgS s = (zeroMs, 1) := by
    rw [hM, hq]
    exact if_neg fun q => by cases q.1
   rw [e]
   (refine goI ?_; repeat (intro gg; refine goI ?_))
   exact retn2 (.cell1 rfl rfl rfl rfl rfl rfl (.tmp1 rfl .nil)) cBI (cl_b rfl)
 have hnb := nameT_bd hs hla false
 obtain ⟨nn, a1, b1, hN⟩ : ∃ nm a1 b1, nameT s a false = (nm, a1, b1) := ⟨_, _, _, rfl⟩
 have hSM := scan_name s a false hs hla
 have hrec : recS s a = restS s nn a1 b1 := by unfold recS; rw [hN]
 rw [hN] at hSM hnb
 simp only at hSM hnb
 obtain ⟨ha1, hnz2⟩ := hnb
 obtain ⟨t, ht⟩ : ∃ x, x = numN s 2 a1 := ⟨_, rfl⟩
 obtain ⟨a2, ha2⟩ : ∃ x, x = numA s 2 a1 := ⟨_, rfl⟩
 obtain ⟨b2, hb2⟩ : ∃ x, x = numB s 2 a1 b1 := ⟨_, rfl⟩
 have bt := numN_le s a1 (show 2 ≤ 4 by omega)
 rw [← ht] at bt
 have la2 : a2 ≤ 1000000 := by rw [ha2]; exact numA_le ha1 hs
 unfold restS at hrec
 simp only at hrec
 rw [← ht, ← ha2, ← hb2] at hrec
 rcases L with _ | ⟨r0, L⟩
 ·(refine goI ?_; repeat (intro gg; refine goI ?_))
  rw [show decide ((k : Int) < (n : Int)) = true from decide_eq_true (by omega)]
  (refine goI ?_; repeat (intro gg; refine goI ?_))
  (refine .inr (.inl ⟨_, _, false, 336 :: ([] ++ []), ?_, hSM, nobor, oI, dI, ?_⟩); focus (exact aM_mn (gone := []) (gone1 := []) rfl aI (by decide) (by decide) (by decide) rfl aM))
  (refine goI ?_; repeat (intro gg; refine goI ?_))
  (refine .inr (.inl ⟨_, _, false, 336 :: ([] ++ []), ?_, scan_number s a1 2 b1 hs ha1 (by omega) (by omega), nobor, oI, dI, ?_⟩); focus (exact aM_mn (gone := []) (gone1 := []) rfl aI (by decide) (by decide) (by decide) rfl aM))
  rw [← ht, ← ha2, ← hb2]
  (refine goI ?_; repeat (intro gg; refine goI ?_))
  cases b2
  rotate_left
  ·(refine goI ?_; repeat (intro gg; refine goI ?_))
   (refine .inr (.inl ⟨_, _, false, 336 :: ([] ++ []), ?_, scan_number s a2 4 true hs la2 (by omega) (by omega), nobor, oI, dI, ?_⟩); focus (exact aM_mn (gone := []) (gone1 := []) rfl aI (by decide) (by decide) (by decide) rfl aM))
   (refine goI ?_; repeat (intro gg; refine goI ?_))
   (refine .inr (.inl ⟨_, _, false, 336 :: ([] ++ []), ?_, scan_number s (numA s 4 a2) 2 (numB s 4 a2 true) hs (numA_le la2 hs) (by omega) (by omega), nobor, oI, dI, ?_⟩); focus (exact aM_mn (gone := []) (gone1 := []) rfl aI (by decide) (by decide) (by decide) rfl aM))
   have b9 := numN_le s (numA s 4 a2) (show 2 ≤ 4 by omega)
   have b8 : numA s 2 (numA s 4 a2) ≤ 1000000 := numA_le (numA_le la2 hs) hs
   (refine goI ?_; repeat (intro gg; refine goI ?_))
   have e : msgS s = (zeroMs, 1) := by rw [hM, hp.none c11 (hrec.trans (if_pos (.inl rfl)))]
   rw [e]
   (refine goI ?_; repeat (intro gg; refine goI ?_))
   exact retn2 (.cell1 rfl rfl rfl rfl rfl rfl (.tmp1 rfl .nil)) cBI (cl_b rfl)
  (refine goI ?_; repeat (intro gg; refine goI ?_))
  (refine .inr (.inl ⟨_, _, false, 336 :: ([] ++ []), ?_, scan_number s a2 2 false hs la2 (by omega) (by omega), nobor, oI, dI, ?_⟩); focus (exact aM_mn (gone := []) (gone1 := []) rfl aI (by decide) (by decide) (by decide) rfl aM))
  (refine goI ?_; repeat (intro gg; refine goI ?_))
  obtain ⟨a3, ha3⟩ : ∃ x, x = numA s 2 a2 := ⟨_, rfl⟩
  obtain ⟨b3, hb3⟩ : ∃ x, x = ((numN s 2 a2 : Int) != 1) := ⟨_, rfl⟩
  have la3 : a3 ≤ 1000000 := by rw [ha3]; exact numA_le la2 hs
  rw [show oneS s a2 false = (a3, b3) from by rw [ha3, hb3]; rfl] at hrec
  simp only at hrec
  rw [← ha3, ← hb3]
  clear ha3 hb3
  (refine goI ?_; repeat (intro gg; refine goI ?_))
  (refine .inr (.inl ⟨_, _, false, 336 :: ([] ++ []), ?_, scan_number s a3 4 b3 hs la3 (by omega) (by omega), nobor, oI, dI, ?_⟩); focus (exact aM_mn (gone := []) (gone1 := []) rfl aI (by decide) (by decide) (by decide) rfl aM))
  obtain ⟨ls, hls⟩ : ∃ x, x = numN s 4 a3 := ⟨_, rfl⟩
  have bls := numN_le s a3 (show 4 ≤ 4 by omega)
  rw [← hls] at bls hrec ⊢
  (refine goI ?_; repeat (intro gg; refine goI ?_))
  (refine .inr (.inl ⟨_, _, false, 336 :: ([] ++ []), ?_, scan_number s (numA s 4 a3) 2 (numB s 4 a3 b3) hs (numA_le la3 hs) (by omega) (by omega), nobor, oI, dI, ?_⟩); focus (exact aM_mn (gone := []) (gone1 := []) rfl aI (by decide) (by decide) (by decide) rfl aM))
  rw [show numA s 2 (numA s 4 a3) = numA s 6 a3 from numA_add s 4 2 a3, show numB s 2 (numA s 4 a3) (numB s 4 a3 b3) = numB s 6 a3 b3 from numB_add s 4 2 a3 b3]
  obtain ⟨kk, hkk⟩ : ∃ x, x = numN s 2 (numA s 4 a3) := ⟨_, rfl⟩
  have bkk := numN_le s (numA s 4 a3) (show 2 ≤ 4 by omega)
  rw [← hkk] at bkk hrec ⊢
  obtain ⟨a5, ha5⟩ : ∃ x, x = numA s 6 a3 := ⟨_, rfl⟩
  obtain ⟨b5, hb5⟩ : ∃ x, x = numB s 6 a3 b3 := ⟨_, rfl⟩
  have la5 : a5 ≤ 1000000 := by rw [ha5]; exact numA_le la3 hs
  rw [← ha5, ← hb5] at hrec ⊢
  clear hls hkk ha5 hb5
  (refine goI ?_; repeat (intro gg; refine goI ?_))
  rw [show (a5 : Int) + (kk : Int) = ((a5 + kk : Nat) : Int) from by omega]
  (refine goI ?_; repeat (intro gg; refine goI ?_))
  cases b5
  rotate_left
  ·(refine goI ?_; repeat (intro gg; refine goI ?_))
   have e : msgS s = (zeroMs, 1) := by rw [hM, hp.none c11 (hrec.trans (if_pos (.inl rfl)))]
   rw [e]
   (refine goI ?_; repeat (intro gg; refine goI ?_))
   exact retn2 (.cell1 rfl rfl rfl rfl rfl rfl (.tmp1 rfl .nil)) cBI (cl_b rfl)
  (refine goI ?_; repeat (intro gg; refine goI ?_))
  by_cases g1 : s.size < a5 + kk
  ·rw [show decide ((s.size : Int) < ((a5 + kk : Nat) : Int)) = true from decide_eq_true (by omega)]
   have e : msgS s = (zeroMs, 1) := by rw [hM, hp.none c11 (hrec.trans (if_pos (.inr g1)))]
   rw [e]
   (refine goI ?_; repeat (intro gg; refine goI ?_))
   exact retn2 (.cell1 rfl rfl rfl rfl rfl rfl (.tmp1 rfl .nil)) cBI (cl_b rfl)
  rw [show decide ((s.size : Int) < ((a5 + kk : Nat) : Int)) = false from decide_eq_false (by omega)]
  rw [if_neg (fun q => q.elim (fun q => by cases q) g1)] at hrec
  obtain ⟨en, hen⟩ : ∃ x, x = a5 + kk := ⟨_, rfl⟩
  rw [← hen] at hrec ⊢
  clear hen g1
  (refine goI ?_; repeat (intro gg; refine goI ?_))
  by_cases t1 : t = 1
  ·rw [show ((t : Int) == 1) = true from beq_iff_eq.2 (by omega)]
   have hbd : recS s a = some ((⟨nn, t, ls, numN s 4 a5, ⟨#[]⟩, 0, ⟨#[]⟩⟩ : Rr), numA s 4 a5, finS (numA s 4 a5) en (numB s 4 a5 false)) := hrec.trans (if_pos t1)
   (refine goI ?_; repeat (intro gg; refine goI ?_))
   (refine .inr (.inl ⟨_, _, false, 336 :: ([] ++ []), ?_, scan_number s a5 4 false hs la5 (by omega) (by omega), nobor, oI, dI, ?_⟩); focus (exact aM_mn (gone := []) (gone1 := []) rfl aI (by decide) (by decide) (by decide) rfl aM))
   obtain ⟨b6, hb6⟩ : ∃ x, x = numB s 4 a5 false := ⟨_, rfl⟩
   rw [← hb6] at hbd ⊢
   clear hb6
   (refine goI ?_; repeat (intro gg; refine goI ?_))
   cases b6
   rotate_left
   ·(refine goI ?_; repeat (intro gg; refine goI ?_))
    refine ⟨lI, lI, ?_⟩
    (refine goI ?_; repeat (intro gg; refine goI ?_))
    (exact ⟨none, trivial, fun gr => ⟨⟨(k + 1, numA s 4 a5, true, ([] : List Rr) ++ [(⟨nn, t, ls, numN s 4 a5, ⟨#[]⟩, 0, ⟨#[]⟩⟩ : Rr)], gg), hp.next hs c11 (hbd)⟩, by show n - (k + 1) < n - k; omega, tI, tI, ⟨rfl, ⟨rfl, ⟨rfl, ⟨rfl, trivial⟩⟩⟩⟩, tI⟩⟩)
   (refine goI ?_; repeat (intro gg; refine goI ?_))
   refine ⟨lI, lI, ?_⟩
   (refine goI ?_; repeat (intro gg; refine goI ?_))
   (exact ⟨none, trivial, fun gr => ⟨⟨(k + 1, numA s 4 a5, (numA s 4 a5 : Int) != (en : Int), ([] : List Rr) ++ [(⟨nn, t, ls, numN s 4 a5, ⟨#[]⟩, 0, ⟨#[]⟩⟩ : Rr)], gg), hp.next hs c11 (hbd)⟩, by show n - (k + 1) < n - k; omega, tI, tI, ⟨rfl, ⟨rfl, ⟨rfl, ⟨rfl, trivial⟩⟩⟩⟩, tI⟩⟩)
  by_cases t16 : t = 16
  ·rw [show ((t : Int) == 1) = false from beq_eq_false_iff_ne.2 (by omega)]
   have hb16 := hrec.trans ((if_neg t1).trans (if_pos t16))
   (refine goI ?_; repeat (intro gg; refine goI ?_))
   rw [show ((t : Int) == 16) = true from beq_iff_eq.2 (by omega)]
   (refine goI ?_; repeat (intro gg; refine goI ?_))
   (refine .inr (.inl ⟨_, _, false, 336 :: ([] ++ []), ?_, scan_number s a5 1 false hs la5 (by omega) (by omega), nobor, oI, dI, ?_⟩); focus (exact aM_mn (gone := []) (gone1 := []) rfl aI (by decide) (by decide) (by decide) rfl aM))
   obtain ⟨a6, ha6⟩ : ∃ x, x = numA s 1 a5 := ⟨_, rfl⟩
   obtain ⟨b6, hb6⟩ : ∃ x, x = numB s 1 a5 false := ⟨_, rfl⟩
   obtain ⟨k6, hk6⟩ : ∃ x, x = numN s 1 a5 := ⟨_, rfl⟩
   have bk6 := numN_le s a5 (show 1 ≤ 4 by omega)
   have la6 : a6 ≤ 1000000 := by rw [ha6]; exact numA_le la5 hs
   rw [← hk6] at bk6
   rw [← ha6, ← hb6, ← hk6] at hb16 ⊢
   clear ha6 hb6 hk6
   (refine goI ?_; repeat (intro gg; refine goI ?_))
   cases b6
   rotate_left
   ·(refine goI ?_; repeat (intro gg; refine goI ?_))
    have e : msgS s = (zeroMs, 1) := by rw [hM, hp.none c11 (hb16.trans (if_pos (.inl rfl)))]
    rw [e]
    (refine goI ?_; repeat (intro gg; refine goI ?_))
    exact retn2 (.cell1 rfl rfl rfl rfl rfl rfl (.tmp1 rfl .nil)) cBI (cl_b rfl)
   (refine goI ?_; repeat (intro gg; refine goI ?_))
   rw [show (a6 : Int) + (k6 : Int) = ((a6 + k6 : Nat) : Int) from by omega]
   by_cases g2 : s.size < a6 + k6
   ·rw [show decide ((s.size : Int) < ((a6 + k6 : Nat) : Int)) = true from decide_eq_true (by omega)]
    have e : msgS s = (zeroMs, 1) := by rw [hM, hp.none c11 (hb16.trans (if_pos (.inr g2)))]
    rw [e]
    (refine goI ?_; repeat (intro gg; refine goI ?_))
    exact retn2 (.cell1 rfl rfl rfl rfl rfl rfl (.tmp1 rfl .nil)) cBI (cl_b rfl)
   rw [show decide ((s.size : Int) < ((a6 + k6 : Nat) : Int)) = false from decide_eq_false (by omega)]
   have hbd : recS s a = some ((⟨nn, t, ls, 0, s.extract a6 (a6 + k6), 0, ⟨#[]⟩⟩ : Rr), a6 + k6, finS (a6 + k6) en false) := hb16.trans (if_neg (fun q => q.elim (fun q => by cases q) g2))
   (refine goI ?_; repeat (intro gg; refine goI ?_))
   refine ⟨a6, a6 + k6, ⟨_, rfl⟩, ⟨.i64, congrArg (fun x => V.v (.int .i64 x)) (show (a6 : Int) + (k6 : Int) = ((a6 + k6 : Nat) : Int) by omega)⟩, Nat.le_add_right _ _, by omega, ?_⟩
   (refine goI ?_; repeat (intro gg; refine goI ?_))
   rw [show (a6 : Int) + (k6 : Int) = ((a6 + k6 : Nat) : Int) from by omega]
   (refine goI ?_; repeat (intro gg; refine goI ?_))
   refine ⟨lI, lI, ?_⟩
   (refine goI ?_; repeat (intro gg; refine goI ?_))
   (exact ⟨none, trivial, fun gr => ⟨⟨(k + 1, a6 + k6, ((a6 + k6 : Nat) : Int) != (en : Int), ([] : List Rr) ++ [(⟨nn, t, ls, 0, s.extract a6 (a6 + k6), 0, ⟨#[]⟩⟩ : Rr)], gg), hp.next hs c11 (hbd)⟩, by show n - (k + 1) < n - k; omega, tI, tI, ⟨rfl, ⟨rfl, ⟨rfl, ⟨rfl, trivial⟩⟩⟩⟩, tI⟩⟩)
  by_cases t33 : t = 33
  ·rw [show ((t : Int) == 1) = false from beq_eq_false_iff_ne.2 (by omega)]
   have hbd := hrec.trans ((if_neg t1).trans ((if_neg t16).trans (if_pos t33)))
   (refine goI ?_; repeat (intro gg; refine goI ?_))
   rw [show ((t : Int) == 16) = false from beq_eq_false_iff_ne.2 (by omega)]
   (refine goI ?_; repeat (intro gg; refine goI ?_))
   rw [show ((t : Int) == 33) = true from beq_iff_eq.2 (by omega)]
   (refine goI ?_; repeat (intro gg; refine goI ?_))
   (refine .inr (.inl ⟨_, _, false, 336 :: ([] ++ []), ?_, scan_number s a5 4 false hs la5 (by omega) (by omega), nobor, oI, dI, ?_⟩); focus (exact aM_mn (gone := []) (gone1 := []) rfl aI (by decide) (by decide) (by decide) rfl aM))
   (refine goI ?_; repeat (intro gg; refine goI ?_))
   obtain ⟨a6, ha6⟩ : ∃ x, x = numA s 4 a5 := ⟨_, rfl⟩
   obtain ⟨b6, hb6⟩ : ∃ x, x = ((numN s 4 a5 : Int) != 0) := ⟨_, rfl⟩
   have la6 : a6 ≤ 1000000 := by rw [ha6]; exact numA_le la5 hs
   rw [← ha6, ← hb6] at hbd ⊢
   clear ha6 hb6
   (refine goI ?_; repeat (intro gg; refine goI ?_))
   (refine .inr (.inl ⟨_, _, false, 336 :: ([] ++ []), ?_, scan_number s a6 2 b6 hs la6 (by omega) (by omega), nobor, oI, dI, ?_⟩); focus (exact aM_mn (gone := []) (gone1 := []) rfl aI (by decide) (by decide) (by decide) rfl aM))
   obtain ⟨p6, hp6⟩ : ∃ x, x = numN s 2 a6 := ⟨_, rfl⟩
   obtain ⟨a7, ha7⟩ : ∃ x, x = numA s 2 a6 := ⟨_, rfl⟩
   obtain ⟨b7, hb7⟩ : ∃ x, x = numB s 2 a6 b6 := ⟨_, rfl⟩
   have la7 : a7 ≤ 1000000 := by rw [ha7]; exact numA_le la6 hs
   rw [← hp6, ← ha7, ← hb7] at hbd ⊢
   clear hp6 ha7 hb7
   have hSG := scan_name s a7 b7 hs la7
   obtain ⟨tg, a8, b8, hG⟩ : ∃ nm a1 b1, nameT s a7 b7 = (nm, a1, b1) := ⟨_, _, _, rfl⟩
   rw [hG] at hSG hbd
   simp only at hSG hbd
   (refine goI ?_; repeat (intro gg; refine goI ?_))
   (refine .inr (.inl ⟨_, _, false, 336 :: ([] ++ []), ?_, hSG, nobor, oI, dI, ?_⟩); focus (exact aM_mn (gone := []) (gone1 := []) rfl aI (by decide) (by decide) (by decide) rfl aM))
   (refine goI ?_; repeat (intro gg; refine goI ?_))
   cases b8
   rotate_left
   ·(refine goI ?_; repeat (intro gg; refine goI ?_))
    refine ⟨lI, lI, ?_⟩
    (refine goI ?_; repeat (intro gg; refine goI ?_))
    (exact ⟨none, trivial, fun gr => ⟨⟨(k + 1, a8, true, ([] : List Rr) ++ [(⟨nn, t, ls, 0, ⟨#[]⟩, p6, tg⟩ : Rr)], gg), hp.next hs c11 (hbd)⟩, by show n - (k + 1) < n - k; omega, tI, tI, ⟨rfl, ⟨rfl, ⟨rfl, ⟨rfl, trivial⟩⟩⟩⟩, tI⟩⟩)
   (refine goI ?_; repeat (intro gg; refine goI ?_))
   refine ⟨lI, lI, ?_⟩
   (refine goI ?_; repeat (intro gg; refine goI ?_))
   (exact ⟨none, trivial, fun gr => ⟨⟨(k + 1, a8, (a8 : Int) != (en : Int), ([] : List Rr) ++ [(⟨nn, t, ls, 0, ⟨#[]⟩, p6, tg⟩ : Rr)], gg), hp.next hs c11 (hbd)⟩, by show n - (k + 1) < n - k; omega, tI, tI, ⟨rfl, ⟨rfl, ⟨rfl, ⟨rfl, trivial⟩⟩⟩⟩, tI⟩⟩)
  rw [show ((t : Int) == 1) = false from beq_eq_false_iff_ne.2 (by omega)]
  have hbd : recS s a = some ((⟨nn, t, ls, 0, ⟨#[]⟩, 0, ⟨#[]⟩⟩ : Rr), a5, finS a5 en false) := hrec.trans ((if_neg t1).trans ((if_neg t16).trans (if_neg t33)))
  (refine goI ?_; repeat (intro gg; refine goI ?_))
  rw [show ((t : Int) == 16) = false from beq_eq_false_iff_ne.2 (by omega)]
  (refine goI ?_; repeat (intro gg; refine goI ?_))
  rw [show ((t : Int) == 33) = false from beq_eq_false_iff_ne.2 (by omega)]
  (refine goI ?_; repeat (intro gg; refine goI ?_))
  refine ⟨lI, lI, ?_⟩
  (refine goI ?_; repeat (intro gg; refine goI ?_))
  (exact ⟨none, trivial, fun gr => ⟨⟨(k + 1, a5, (a5 : Int) != (en : Int), ([] : List Rr) ++ [(⟨nn, t, ls, 0, ⟨#[]⟩, 0, ⟨#[]⟩⟩ : Rr)], gg), hp.next hs c11 (hbd)⟩, by show n - (k + 1) < n - k; omega, tI, tI, ⟨rfl, ⟨rfl, ⟨rfl, ⟨rfl, trivial⟩⟩⟩⟩, tI⟩⟩)
 ·have hll : L.length ≤ 4294967295 := by
   have q1 := hp.hl
   have q2 := hp.hk
   rw [List.length_cons] at q1
   omega
  (refine goI ?_; repeat (intro gg; refine goI ?_))
  rw [show decide ((k : Int) < (n : Int)) = true from decide_eq_true (by omega)]
  (refine goI ?_; repeat (intro gg; refine goI ?_))
  (refine .inr (.inl ⟨_, _, false, 336 :: ([] ++ []), ?_, hSM, nobor, oI, dI, ?_⟩); focus (exact aM_mn (gone := []) (gone1 := []) rfl aI (by decide) (by decide) (by decide) rfl aM))
  (refine goI ?_; repeat (intro gg; refine goI ?_))
  (refine .inr (.inl ⟨_, _, false, 336 :: ([] ++ []), ?_, scan_number s a1 2 b1 hs ha1 (by omega) (by omega), nobor, oI, dI, ?_⟩); focus (exact aM_mn (gone := []) (gone1 := []) rfl aI (by decide) (by decide) (by decide) rfl aM))
  rw [← ht, ← ha2, ← hb2]
  (refine goI ?_; repeat (intro gg; refine goI ?_))
  cases b2
  rotate_left
  ·(refine goI ?_; repeat (intro gg; refine goI ?_))
   (refine .inr (.inl ⟨_, _, false, 336 :: ([] ++ []), ?_, scan_number s a2 4 true hs la2 (by omega) (by omega), nobor, oI, dI, ?_⟩); focus (exact aM_mn (gone := []) (gone1 := []) rfl aI (by decide) (by decide) (by decide) rfl aM))
   (refine goI ?_; repeat (intro gg; refine goI ?_))
   (refine .inr (.inl ⟨_, _, false, 336 :: ([] ++ []), ?_, scan_number s (numA s 4 a2) 2 (numB s 4 a2 true) hs (numA_le la2 hs) (by omega) (by omega), nobor, oI, dI, ?_⟩); focus (exact aM_mn (gone := []) (gone1 := []) rfl aI (by decide) (by decide) (by decide) rfl aM))
   have b9 := numN_le s (numA s 4 a2) (show 2 ≤ 4 by omega)
   have b8 : numA s 2 (numA s 4 a2) ≤ 1000000 := numA_le (numA_le la2 hs) hs
   (refine goI ?_; repeat (intro gg; refine goI ?_))
   have e : msgS s = (zeroMs, 1) := by rw [hM, hp.none c11 (hrec.trans (if_pos (.inl rfl)))]
   rw [e]
   (refine goI ?_; repeat (intro gg; refine goI ?_))
   exact retn2 (.cell1 rfl rfl rfl rfl rfl rfl (.tmp1 rfl .nil)) cBI (cl_b rfl)
  (refine goI ?_; repeat (intro gg; refine goI ?_))
  (refine .inr (.inl ⟨_, _, false, 336 :: ([] ++ []), ?_, scan_number s a2 2 false hs la2 (by omega) (by omega), nobor, oI, dI, ?_⟩); focus (exact aM_mn (gone := []) (gone1 := []) rfl aI (by decide) (by decide) (by decide) rfl aM))
  (refine goI ?_; repeat (intro gg; refine goI ?_))
  obtain ⟨a3, ha3⟩ : ∃ x, x = numA s 2 a2 := ⟨_, rfl⟩
  obtain ⟨b3, hb3⟩ : ∃ x, x = ((numN s 2 a2 : Int) != 1) := ⟨_, rfl⟩
  have la3 : a3 ≤ 1000000 := by rw [ha3]; exact numA_le la2 hs
  rw [show oneS s a2 false = (a3, b3) from by rw [ha3, hb3]; rfl] at hrec
  simp only at hrec
  rw [← ha3, ← hb3]
  clear ha3 hb3
  (refine goI ?_; repeat (intro gg; refine goI ?_))
  (refine .inr (.inl ⟨_, _, false, 336 :: ([] ++ []), ?_, scan_number s a3 4 b3 hs la3 (by omega) (by omega), nobor, oI, dI, ?_⟩); focus (exact aM_mn (gone := []) (gone1 := []) rfl aI (by decide) (by decide) (by decide) rfl aM))
  obtain ⟨ls, hls⟩ : ∃ x, x = numN s 4 a3 := ⟨_, rfl⟩
  have bls := numN_le s a3 (show 4 ≤ 4 by omega)
  rw [← hls] at bls hrec ⊢
  (refine goI ?_; repeat (intro gg; refine goI ?_))
  (refine .inr (.inl ⟨_, _, false, 336 :: ([] ++ []), ?_, scan_number s (numA s 4 a3) 2 (numB s 4 a3 b3) hs (numA_le la3 hs) (by omega) (by omega), nobor, oI, dI, ?_⟩); focus (exact aM_mn (gone := []) (gone1 := []) rfl aI (by decide) (by decide) (by decide) rfl aM))
  rw [show numA s 2 (numA s 4 a3) = numA s 6 a3 from numA_add s 4 2 a3, show numB s 2 (numA s 4 a3) (numB s 4 a3 b3) = numB s 6 a3 b3 from numB_add s 4 2 a3 b3]
  obtain ⟨kk, hkk⟩ : ∃ x, x = numN s 2 (numA s 4 a3) := ⟨_, rfl⟩
  have bkk := numN_le s (numA s 4 a3) (show 2 ≤ 4 by omega)
  rw [← hkk] at bkk hrec ⊢
  obtain ⟨a5, ha5⟩ : ∃ x, x = numA s 6 a3 := ⟨_, rfl⟩
  obtain ⟨b5, hb5⟩ : ∃ x, x = numB s 6 a3 b3 := ⟨_, rfl⟩
  have la5 : a5 ≤ 1000000 := by rw [ha5]; exact numA_le la3 hs
  rw [← ha5, ← hb5] at hrec ⊢
  clear hls hkk ha5 hb5
  (refine goI ?_; repeat (intro gg; refine goI ?_))
  rw [show (a5 : Int) + (kk : Int) = ((a5 + kk : Nat) : Int) from by omega]
  (refine goI ?_; repeat (intro gg; refine goI ?_))
  cases b5
  rotate_left
  ·(refine goI ?_; repeat (intro gg; refine goI ?_))
   have e : msgS s = (zeroMs, 1) := by rw [hM, hp.none c11 (hrec.trans (if_pos (.inl rfl)))]
   rw [e]
   (refine goI ?_; repeat (intro gg; refine goI ?_))
   exact retn2 (.cell1 rfl rfl rfl rfl rfl rfl (.tmp1 rfl .nil)) cBI (cl_b rfl)
  (refine goI ?_; repeat (intro gg; refine goI ?_))
  by_cases g1 : s.size < a5 + kk
  ·rw [show decide ((s.size : Int) < ((a5 + kk : Nat) : Int)) = true from decide_eq_true (by omega)]
   have e : msgS s = (zeroMs, 1) := by rw [hM, hp.none c11 (hrec.trans (if_pos (.inr g1)))]
   rw [e]
   (refine goI ?_; repeat (intro gg; refine goI ?_))
   exact retn2 (.cell1 rfl rfl rfl rfl rfl rfl (.tmp1 rfl .nil)) cBI (cl_b rfl)
  rw [show decide ((s.size : Int) < ((a5 + kk : Nat) : Int)) = false from decide_eq_false (by omega)]
  rw [if_neg (fun q => q.elim (fun q => by cases q) g1)] at hrec
  obtain ⟨en, hen⟩ : ∃ x, x = a5 + kk := ⟨_, rfl⟩
  rw [← hen] at hrec ⊢
  clear hen g1
  (refine goI ?_; repeat (intro gg; refine goI ?_))
  by_cases t1 : t = 1
  ·rw [show ((t : Int) == 1) = true from beq_iff_eq.2 (by omega)]
   have hbd : recS s a = some ((⟨nn, t, ls, numN s 4 a5, ⟨#[]⟩, 0, ⟨#[]⟩⟩ : Rr), numA s 4 a5, finS (numA s 4 a5) en (numB s 4 a5 false)) := hrec.trans (if_pos t1)
   (refine goI ?_; repeat (intro gg; refine goI ?_))
   (refine .inr (.inl ⟨_, _, false, 336 :: ([] ++ []), ?_, scan_number s a5 4 false hs la5 (by omega) (by omega), nobor, oI, dI, ?_⟩); focus (exact aM_mn (gone := []) (gone1 := []) rfl aI (by decide) (by decide) (by decide) rfl aM))
   obtain ⟨b6, hb6⟩ : ∃ x, x = numB s 4 a5 false := ⟨_, rfl⟩
   rw [← hb6] at hbd ⊢
   clear hb6
   (refine goI ?_; repeat (intro gg; refine goI ?_))
   cases b6
   rotate_left
   ·(refine goI ?_; repeat (intro gg; refine goI ?_))
    refine ⟨lI, lI, ?_⟩
    (refine goI ?_; repeat (intro gg; refine goI ?_))
    (exact ⟨none, trivial, fun gr => ⟨⟨(k + 1, numA s 4 a5, true, (r0 :: L) ++ [(⟨nn, t, ls, numN s 4 a5, ⟨#[]⟩, 0, ⟨#[]⟩⟩ : Rr)], gg), hp.next hs c11 (hbd)⟩, by show n - (k + 1) < n - k; omega, tI, tI, ⟨rfl, ⟨rfl, ⟨congrArg (fun x => some (Ent.mk gg (.t 64) 7 x)) (show (r0 :: L).map Rr.row ++ [Rr.row ((⟨nn, t, ls, numN s 4 a5, ⟨#[]⟩, 0, ⟨#[]⟩⟩ : Rr))] = ((r0 :: L) ++ [((⟨nn, t, ls, numN s 4 a5, ⟨#[]⟩, 0, ⟨#[]⟩⟩ : Rr))]).map Rr.row by rw [List.map_append]; rfl), ⟨rfl, trivial⟩⟩⟩⟩, tI⟩⟩)
   (refine goI ?_; repeat (intro gg; refine goI ?_))
   refine ⟨lI, lI, ?_⟩
   (refine goI ?_; repeat (intro gg; refine goI ?_))
   (exact ⟨none, trivial, fun gr => ⟨⟨(k + 1, numA s 4 a5, (numA s 4 a5 : Int) != (en : Int), (r0 :: L) ++ [(⟨nn, t, ls, numN s 4 a5, ⟨#[]⟩, 0, ⟨#[]⟩⟩ : Rr)], gg), hp.next hs c11 (hbd)⟩, by show n - (k + 1) < n - k; omega, tI, tI, ⟨rfl, ⟨rfl, ⟨congrArg (fun x => some (Ent.mk gg (.t 64) 7 x)) (show (r0 :: L).map Rr.row ++ [Rr.row ((⟨nn, t, ls, numN s 4 a5, ⟨#[]⟩, 0, ⟨#[]⟩⟩ : Rr))] = ((r0 :: L) ++ [((⟨nn, t, ls, numN s 4 a5, ⟨#[]⟩, 0, ⟨#[]⟩⟩ : Rr))]).map Rr.row by rw [List.map_append]; rfl), ⟨rfl, trivial⟩⟩⟩⟩, tI⟩⟩)
  by_cases t16 : t = 16
  ·rw [show ((t : Int) == 1) = false from beq_eq_false_iff_ne.2 (by omega)]
   have hb16 := hrec.trans ((if_neg t1).trans (if_pos t16))
   (refine goI ?_; repeat (intro gg; refine goI ?_))
   rw [show ((t : Int) == 16) = true from beq_iff_eq.2 (by omega)]
   (refine goI ?_; repeat (intro gg; refine goI ?_))
   (refine .inr (.inl ⟨_, _, false, 336 :: ([] ++ []), ?_, scan_number s a5 1 false hs la5 (by omega) (by omega), nobor, oI, dI, ?_⟩); focus (exact aM_mn (gone := []) (gone1 := []) rfl aI (by decide) (by decide) (by decide) rfl aM))
   obtain ⟨a6, ha6⟩ : ∃ x, x = numA s 1 a5 := ⟨_, rfl⟩
   obtain ⟨b6, hb6⟩ : ∃ x, x = numB s 1 a5 false := ⟨_, rfl⟩
   obtain ⟨k6, hk6⟩ : ∃ x, x = numN s 1 a5 := ⟨_, rfl⟩
   have bk6 := numN_le s a5 (show 1 ≤ 4 by omega)
   have la6 : a6 ≤ 1000000 := by rw [ha6]; exact numA_le la5 hs
   rw [← hk6] at bk6
   rw [← ha6, ← hb6, ← hk6] at hb16 ⊢
   clear ha6 hb6 hk6
   (refine goI ?_; repeat (intro gg; refine goI ?_))
   cases b6
   rotate_left
   ·(refine goI ?_; repeat (intro gg; refine goI ?_))
    have e : msgS s = (zeroMs, 1) := by rw [hM, hp.none c11 (hb16.trans (if_pos (.inl rfl)))]
    rw [e]
    (refine goI ?_; repeat (intro gg; refine goI ?_))
    exact retn2 (.cell1 rfl rfl rfl rfl rfl rfl (.tmp1 rfl .nil)) cBI (cl_b rfl)
   (refine goI ?_; repeat (intro gg; refine goI ?_))
   rw [show (a6 : Int) + (k6 : Int) = ((a6 + k6 : Nat) : Int) from by omega]
   by_cases g2 : s.size < a6 + k6
   ·rw [show decide ((s.size : Int) < ((a6 + k6 : Nat) : Int)) = true from decide_eq_true (by omega)]
    have e : msgS s = (zeroMs, 1) := by rw [hM, hp.none c11 (hb16.trans (if_pos (.inr g2)))]
    rw [e]
    (refine goI ?_; repeat (intro gg; refine goI ?_))
    exact retn2 (.cell1 rfl rfl rfl rfl rfl rfl (.tmp1 rfl .nil)) cBI (cl_b rfl)
   rw [show decide ((s.size : Int) < ((a6 + k6 : Nat) : Int)) = false from decide_eq_false (by omega)]
   have hbd : recS s a = some ((⟨nn, t, ls, 0, s.extract a6 (a6 + k6), 0, ⟨#[]⟩⟩ : Rr), a6 + k6, finS (a6 + k6) en false) := hb16.trans (if_neg (fun q => q.elim (fun q => by cases q) g2))
   (refine goI ?_; repeat (intro gg; refine goI ?_))
   refine ⟨a6, a6 + k6, ⟨_, rfl⟩, ⟨.i64, congrArg (fun x => V.v (.int .i64 x)) (show (a6 : Int) + (k6 : Int) = ((a6 + k6 : Nat) : Int) by omega)⟩, Nat.le_add_right _ _, by omega, ?_⟩
   (refine goI ?_; repeat (intro gg; refine goI ?_))
   rw [show (a6 : Int) + (k6 : Int) = ((a6 + k6 : Nat) : Int) from by omega]
   (refine goI ?_; repeat (intro gg; refine goI ?_))
   refine ⟨lI, lI, ?_⟩
   (refine goI ?_; repeat (intro gg; refine goI ?_))
   (exact ⟨none, trivial, fun gr => ⟨⟨(k + 1, a6 + k6, ((a6 + k6 : Nat) : Int) != (en : Int), (r0 :: L) ++ [(⟨nn, t, ls, 0, s.extract a6 (a6 + k6), 0, ⟨#[]⟩⟩ : Rr)], gg), hp.next hs c11 (hbd)⟩, by show n - (k + 1) < n - k; omega, tI, tI, ⟨rfl, ⟨rfl, ⟨congrArg (fun x => some (Ent.mk gg (.t 64) 7 x)) (show (r0 :: L).map Rr.row ++ [Rr.row ((⟨nn, t, ls, 0, s.extract a6 (a6 + k6), 0, ⟨#[]⟩⟩ : Rr))] = ((r0 :: L) ++ [((⟨nn, t, ls, 0, s.extract a6 (a6 + k6), 0, ⟨#[]⟩⟩ : Rr))]).map Rr.row by rw [List.map_append]; rfl), ⟨rfl, trivial⟩⟩⟩⟩, tI⟩⟩)
  by_cases t33 : t = 33
  ·rw [show ((t : Int) == 1) = false from beq_eq_false_iff_ne.2 (by omega)]
   have hbd := hrec.trans ((if_neg t1).trans ((if_neg t16).trans (if_pos t33)))
   (refine goI ?_; repeat (intro gg; refine goI ?_))
   rw [show ((t : Int) == 16) = false from beq_eq_false_iff_ne.2 (by omega)]
   (refine goI ?_; repeat (intro gg; refine goI ?_))
   rw [show ((t : Int) == 33) = true from beq_iff_eq.2 (by omega)]
   (refine goI ?_; repeat (intro gg; refine goI ?_))
   (refine .inr (.inl ⟨_, _, false, 336 :: ([] ++ []), ?_, scan_number s a5 4 false hs la5 (by omega) (by omega), nobor, oI, dI, ?_⟩); focus (exact aM_mn (gone := []) (gone1 := []) rfl aI (by decide) (by decide) (by decide) rfl aM))
   (refine goI ?_; repeat (intro gg; refine goI ?_))
   obtain ⟨a6, ha6⟩ : ∃ x, x = numA s 4 a5 := ⟨_, rfl⟩
   obtain ⟨b6, hb6⟩ : ∃ x, x = ((numN s 4 a5 : Int) != 0) := ⟨_, rfl⟩
   have la6 : a6 ≤ 1000000 := by rw [ha6]; exact numA_le la5 hs
   rw [← ha6, ← hb6] at hbd ⊢
   clear ha6 hb6
   (refine goI ?_; repeat (intro gg; refine goI ?_))
   (refine .inr (.inl ⟨_, _, false, 336 :: ([] ++ []), ?_, scan_number s a6 2 b6 hs la6 (by omega) (by omega), nobor, oI, dI, ?_⟩); focus (exact aM_mn (gone := []) (gone1 := []) rfl aI (by decide) (by decide) (by decide) rfl aM))
   obtain ⟨p6, hp6⟩ : ∃ x, x = numN s 2 a6 := ⟨_, rfl⟩
   obtain ⟨a7, ha7⟩ : ∃ x, x = numA s 2 a6 := ⟨_, rfl⟩
   obtain ⟨b7, hb7⟩ : ∃ x, x = numB s 2 a6 b6 := ⟨_, rfl⟩
   have la7 : a7 ≤ 1000000 := by rw [ha7]; exact numA_le la6 hs
   rw [← hp6, ← ha7, ← hb7] at hbd ⊢
   clear hp6 ha7 hb7
   have hSG := scan_name s a7 b7 hs la7
   obtain ⟨tg, a8, b8, hG⟩ : ∃ nm a1 b1, nameT s a7 b7 = (nm, a1, b1) := ⟨_, _, _, rfl⟩
   rw [hG] at hSG hbd
   simp only at hSG hbd
   (refine goI ?_; repeat (intro gg; refine goI ?_))
   (refine .inr (.inl ⟨_, _, false, 336 :: ([] ++ []), ?_, hSG, nobor, oI, dI, ?_⟩); focus (exact aM_mn (gone := []) (gone1 := []) rfl aI (by decide) (by decide) (by decide) rfl aM))
   (refine goI ?_; repeat (intro gg; refine goI ?_))
   cases b8
   rotate_left
   ·(refine goI ?_; repeat (intro gg; refine goI ?_))
    refine ⟨lI, lI, ?_⟩
    (refine goI ?_; repeat (intro gg; refine goI ?_))
    (exact ⟨none, trivial, fun gr => ⟨⟨(k + 1, a8, true, (r0 :: L) ++ [(⟨nn, t, ls, 0, ⟨#[]⟩, p6, tg⟩ : Rr)], gg), hp.next hs c11 (hbd)⟩, by show n - (k + 1) < n - k; omega, tI, tI, ⟨rfl, ⟨rfl, ⟨congrArg (fun x => some (Ent.mk gg (.t 64) 7 x)) (show (r0 :: L).map Rr.row ++ [Rr.row ((⟨nn, t, ls, 0, ⟨#[]⟩, p6, tg⟩ : Rr))] = ((r0 :: L) ++ [((⟨nn, t, ls, 0, ⟨#[]⟩, p6, tg⟩ : Rr))]).map Rr.row by rw [List.map_append]; rfl), ⟨rfl, trivial⟩⟩⟩⟩, tI⟩⟩)
   (refine goI ?_; repeat (intro gg; refine goI ?_))
   refine ⟨lI, lI, ?_⟩
   (refine goI ?_; repeat (intro gg; refine goI ?_))
   (exact ⟨none, trivial, fun gr => ⟨⟨(k + 1, a8, (a8 : Int) != (en : Int), (r0 :: L) ++ [(⟨nn, t, ls, 0, ⟨#[]⟩, p6, tg⟩ : Rr)], gg), hp.next hs c11 (hbd)⟩, by show n - (k + 1) < n - k; omega, tI, tI, ⟨rfl, ⟨rfl, ⟨congrArg (fun x => some (Ent.mk gg (.t 64) 7 x)) (show (r0 :: L).map Rr.row ++ [Rr.row ((⟨nn, t, ls, 0, ⟨#[]⟩, p6, tg⟩ : Rr))] = ((r0 :: L) ++ [((⟨nn, t, ls, 0, ⟨#[]⟩, p6, tg⟩ : Rr))]).map Rr.row by rw [List.map_append]; rfl), ⟨rfl, trivial⟩⟩⟩⟩, tI⟩⟩)
  rw [show ((t : Int) == 1) = false from beq_eq_false_iff_ne.2 (by omega)]
  have hbd : recS s a = some ((⟨nn, t, ls, 0, ⟨#[]⟩, 0, ⟨#[]⟩⟩ : Rr), a5, finS a5 en false) := hrec.trans ((if_neg t1).trans ((if_neg t16).trans (if_neg t33)))
  (refine goI ?_; repeat (intro gg; refine goI ?_))
  rw [show ((t : Int) == 16) = false from beq_eq_false_iff_ne.2 (by omega)]
  (refine goI ?_; repeat (intro gg; refine goI ?_))
  rw [show ((t : Int) == 33) = false from beq_eq_false_iff_ne.2 (by omega)]
  (refine goI ?_; repeat (intro gg; refine goI ?_))
  refine ⟨lI, lI, ?_⟩
  (refine goI ?_; repeat (intro gg; refine goI ?_))
  (exact ⟨none, trivial, fun gr => ⟨⟨(k + 1, a5, (a5 : Int) != (en : Int), (r0 :: L) ++ [(⟨nn, t, ls, 0, ⟨#[]⟩, 0, ⟨#[]⟩⟩ : Rr)], gg), hp.next hs c11 (hbd)⟩, by show n - (k + 1) < n - k; omega, tI, tI, ⟨rfl, ⟨rfl, ⟨congrArg (fun x => some (Ent.mk gg (.t 64) 7 x)) (show (r0 :: L).map Rr.row ++ [Rr.row ((⟨nn, t, ls, 0, ⟨#[]⟩, 0, ⟨#[]⟩⟩ : Rr))] = ((r0 :: L) ++ [((⟨nn, t, ls, 0, ⟨#[]⟩, 0, ⟨#[]⟩⟩ : Rr))]).map Rr.row by rw [List.map_append]; rfl), ⟨rfl, trivial⟩⟩⟩⟩, tI⟩⟩)
end Go.Proofs.YtjhdlcmecbngkaaDoor
