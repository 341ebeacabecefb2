/- The walks of centre.Next, centre.Check and of the laws' helpers on gateways. -/
import Derived.Test.YtjgibmaadmkkgaaGwOpenRef
namespace Go.Proofs.Ytjgibmaadmkkgaa
open Go.RowKit Pl
set_option linter.unusedVariables false

theorem cCheck_any (A : Option Addr) (c : Nat) (l : List Gw) (w : World) (hl : RL Gw.enc 3 w A l) (hn : l.length ≤ 9223372036854775807) (hw : ∀ g ∈ l, g.c.size ≤ 9223372036854775807) :
    Calls Try.prog 25 #[.slice A l.length c] w fun e w' => e = .returned (.int .i64 (ckGw l)) ∧ Below w.heap.size w w' := by
  have hB0 : Below w.heap.size w (w.alloc (.cells #[.slice A l.length c] 22)) := (by repeat (first | exact Below.refl _ _ | assumption | refine Below.drew ?_ | refine below_drewN ?_ _ | refine Below.alloc ?_ (by simp; try omega) _ | refine Below.setCell ?_ (by simp; try omega) _))
  have HB0 := hid hB0
  have HL := hid hl
  have HW := hid hw
  clear hB0 hl hw
  go_enter Try.func25, Try.ntmps25
  go_wp2_with fail
  refine (ccheck1_any A c l w.heap.size _ (Blk.new _ _ _) (HL.out.below HB0.out (Nat.le_refl _)) hn HW.out).mono ?_
  rintro e w1 ⟨rfl, hb⟩
  have HB1 := hid (HB0.out.trans (hb.mono HB0.out.size))
  clear hb HB0
  go_wp2
  go_ret
  exact ⟨rfl, HB1.out⟩

/-- what Next gives: an address, and what is wrong -/
def nextG (l : List Gw) (here to : ByteArray) : Int × Int :=
  if ckGw l ≠ 0 then (0, ckGw l)
  else if lab here.data.toList = false then (0, 1)
  else if lab to.data.toList = false then (0, 1)
  else if here.toList == to.toList then (0, 6)
  else if hit (Gw.cf to) l = true then (match l[low (Gw.cf to) l]? with | some g => g.a | none => 0, 0) else (0, 5)

set_option maxHeartbeats 2000000 in
set_option maxRecDepth 100000 in
theorem Next_any (A : Option Addr) (c : Nat) (l : List Gw) (here to : ByteArray) (w : World) (hl : RL Gw.enc 3 w A l) (hn : l.length ≤ 9223372036854775807) (hw : ∀ g ∈ l, g.c.size ≤ 9223372036854775807)
    (hh : here.size ≤ 9223372036854775807) (ht : to.size ≤ 9223372036854775807) :
    Calls Try.prog 28 #[.slice A l.length c, .string here, .string to] w fun e w' => e = .returned (.tuple #[.int .i64 (nextG l here to).1, .int .i64 (nextG l here to).2]) ∧ Below w.heap.size w w' := by
  have hB0 : Below w.heap.size w (w.alloc (.cells #[.slice A l.length c] 22)) := (by repeat (first | exact Below.refl _ _ | assumption | refine Below.drew ?_ | refine below_drewN ?_ _ | refine Below.alloc ?_ (by simp; try omega) _ | refine Below.setCell ?_ (by simp; try omega) _))
  have HB0 := hid hB0
  have HL := hid hl
  have HW := hid hw
  clear hB0 hl hw
  by_cases hck : ckGw l = 0
  · have HCK := hid hck
    have HI := hid (ckGw_inv hck)
    have hl6 := HI.out.1
    rcases Bool.eq_false_or_eq_true (lab here.data.toList) with q1 | q1
    · rcases Bool.eq_false_or_eq_true (lab to.data.toList) with q2 | q2
      · rcases Bool.eq_false_or_eq_true (here.toList == to.toList) with q3 | q3
        · have HX : Hid (nextG l here to = (0, 6)) := hid (by simp [nextG, hck, q1, q2, q3])
          generalize nextG l here to = r at *
          clear hck
          go_enter Try.func28, Try.ntmps28
          go_wp2_with fail
          refine (ccheck1_any A c l w.heap.size _ (Blk.new _ _ _) (HL.out.below HB0.out (Nat.le_refl _)) hn HW.out).mono ?_
          rintro e w1 ⟨rfl, hb⟩
          rw [HCK.out]
          have HB1 := hid (HB0.out.trans (hb.mono HB0.out.size))
          clear hb HB0
          go_wp2_with fail
          refine (IsLabel_any _ _ hh).mono ?_
          rintro e w2 ⟨rfl, hb⟩
          have HB2 := hid (HB1.out.trans (hb.mono HB1.out.size))
          clear hb
          go_wp2_with fail
          refine (IsLabel_any _ _ ht).mono ?_
          rintro e w3 ⟨rfl, hb⟩
          have HB3 := hid (HB2.out.trans (hb.mono HB2.out.size))
          clear hb
          go_wp2
          go_ret2
          exact ⟨by rw [HX.out]; rfl, HB3.out⟩
        · obtain ⟨lo, hlo⟩ : ∃ lo, low (Gw.cf to) l = lo := ⟨_, rfl⟩
          have hX : nextG l here to = if hit (Gw.cf to) l = true then (match l[lo]? with | some g => g.a | none => 0, 0) else (0, 5) := by simp [nextG, hck, q1, q2, q3, hlo]
          have HX := hid hX
          have HLO := hid hlo
          generalize nextG l here to = r at *
          clear hck hX hlo
          go_enter Try.func28, Try.ntmps28
          go_wp2_with fail
          refine (ccheck1_any A c l w.heap.size _ (Blk.new _ _ _) (HL.out.below HB0.out (Nat.le_refl _)) hn HW.out).mono ?_
          rintro e w1 ⟨rfl, hb⟩
          rw [HCK.out]
          have HB1 := hid (HB0.out.trans (hb.mono HB0.out.size))
          clear hb HB0
          go_wp2_with fail
          refine (IsLabel_any _ _ hh).mono ?_
          rintro e w2 ⟨rfl, hb⟩
          have HB2 := hid (HB1.out.trans (hb.mono HB1.out.size))
          clear hb
          go_wp2_with fail
          refine (IsLabel_any _ _ ht).mono ?_
          rintro e w3 ⟨rfl, hb⟩
          have HB3 := hid (HB2.out.trans (hb.mono HB2.out.size))
          clear hb
          go_wp2_with fail
          refine (findGw_any A c l to _ (HL.out.below HB3.out (Nat.le_refl _)) (by omega) (ckGw_smono HCK.out to).mono).mono ?_
          rintro e w4 ⟨rfl, hb⟩
          have HB4 := hid (HB3.out.trans (hb.mono HB3.out.size))
          have HL4 := hid (HL.out.below HB4.out (Nat.le_refl _))
          clear hb
          rw [HLO.out]
          rcases Bool.eq_false_or_eq_true (hit (Gw.cf to) l) with hi | hi
          · have hlt : lo < l.length := by rw [← HLO.out]; exact hit_lt hi
            have HX2 : Hid (r = ((l[lo]).a, 0)) := hid (by rw [HX.out, if_pos hi, List.getElem?_eq_getElem hlt])
            rw [hi]
            clear hi
            obtain ⟨b, off, rfl, hb, hc⟩ := HL4.out.at_ hlt
            have f1 : w4.cell? ⟨b, off + lo * 3 + 1, none⟩ = some (.int .i64 (l[lo]).a) := hc 1 _ rfl
            clear hc
            have hi0 : (0 : Int) ≤ (lo : Int) := by omega
            have hi1 : (lo : Int) < (l.length : Int) := by omega
            go_wp2
            go_ret2
            exact ⟨by rw [HX2.out]; rfl, HB4.out⟩
          · have HX2 : Hid (r = (0, 5)) := hid (by rw [HX.out, hi]; rfl)
            rw [hi]
            clear hi
            go_wp2
            go_ret2
            exact ⟨by rw [HX2.out]; rfl, HB4.out⟩
      · have HX : Hid (nextG l here to = (0, 1)) := hid (by simp [nextG, hck, q1, q2])
        generalize nextG l here to = r at *
        clear hck
        go_enter Try.func28, Try.ntmps28
        go_wp2_with fail
        refine (ccheck1_any A c l w.heap.size _ (Blk.new _ _ _) (HL.out.below HB0.out (Nat.le_refl _)) hn HW.out).mono ?_
        rintro e w1 ⟨rfl, hb⟩
        rw [HCK.out]
        have HB1 := hid (HB0.out.trans (hb.mono HB0.out.size))
        clear hb HB0
        go_wp2_with fail
        refine (IsLabel_any _ _ hh).mono ?_
        rintro e w2 ⟨rfl, hb⟩
        have HB2 := hid (HB1.out.trans (hb.mono HB1.out.size))
        clear hb
        go_wp2_with fail
        refine (IsLabel_any _ _ ht).mono ?_
        rintro e w3 ⟨rfl, hb⟩
        have HB3 := hid (HB2.out.trans (hb.mono HB2.out.size))
        clear hb
        go_wp2
        go_ret2
        exact ⟨by rw [HX.out]; rfl, HB3.out⟩
    · have HX : Hid (nextG l here to = (0, 1)) := hid (by simp [nextG, hck, q1])
      generalize nextG l here to = r at *
      clear hck
      go_enter Try.func28, Try.ntmps28
      go_wp2_with fail
      refine (ccheck1_any A c l w.heap.size _ (Blk.new _ _ _) (HL.out.below HB0.out (Nat.le_refl _)) hn HW.out).mono ?_
      rintro e w1 ⟨rfl, hb⟩
      rw [HCK.out]
      have HB1 := hid (HB0.out.trans (hb.mono HB0.out.size))
      clear hb HB0
      go_wp2_with fail
      refine (IsLabel_any _ _ hh).mono ?_
      rintro e w2 ⟨rfl, hb⟩
      have HB2 := hid (HB1.out.trans (hb.mono HB1.out.size))
      clear hb
      go_wp2
      go_ret2
      exact ⟨by rw [HX.out]; rfl, HB2.out⟩
  · have HX : Hid (nextG l here to = (0, ckGw l)) := hid (by simp [nextG, hck])
    have hne : (ckGw l == 0) = false := by simpa using hck
    generalize nextG l here to = r at *
    clear hck
    go_enter Try.func28, Try.ntmps28
    go_wp2_with fail
    refine (ccheck1_any A c l w.heap.size _ (Blk.new _ _ _) (HL.out.below HB0.out (Nat.le_refl _)) hn HW.out).mono ?_
    rintro e w1 ⟨rfl, hb⟩
    have HB1 := hid (HB0.out.trans (hb.mono HB0.out.size))
    clear hb HB0
    generalize ckGw l = k at *
    go_wp2
    go_ret2
    exact ⟨by rw [HX.out]; rfl, HB1.out⟩

theorem sameL_refl {α : Type} {e : α → α → Bool} (h : ∀ x, e x x = true) (l : List α) : sameL e l l = true := sameL_yes rfl fun k h1 h2 => h _
theorem Gw.same_refl (g : Gw) : Gw.same g g = true := by simp [Gw.same]

/-- two lists that are the same, beside one errno -/
theorem gatewaysAre_yes (A B : Option Addr) (c d : Nat) (l : List Gw) (k : Int) (w : World) (ha : RL Gw.enc 3 w A l) (hb : RL Gw.enc 3 w B l) (hn : l.length ≤ 9223372036854775807) (hk : k ≠ 0 → l = []) :
    Calls Try.prog 26 #[.slice A l.length c, .int .i64 k, .int .i64 k, .slice B l.length d] w fun e w' => e = .returned (.bool true) ∧ Below w.heap.size w w' := by
  by_cases h0 : k = 0
  · subst h0
    have HS := hid (sameL_refl Gw.same_refl l)
    go_enter Try.func26, Try.ntmps26
    go_wp2_with fail
    refine (SameGateways_any A B c d l l _ ha hb hn hn).mono ?_
    rintro e w1 ⟨rfl, hb1⟩
    rw [HS.out]
    go_wp2
    go_ret
    exact ⟨rfl, hb1⟩
  · obtain rfl := hk h0
    have hne : (k == 0) = false := by simpa using h0
    have HS := hid (sameL_refl Gw.same_refl ([] : List Gw))
    clear h0 hk
    go_enter Try.func26, Try.ntmps26
    go_wp2_with fail
    refine (SameGateways_any A none c 0 [] [] _ ha RL.nil hn hn).mono ?_
    rintro e w1 ⟨rfl, hb1⟩
    rw [HS.out]
    go_wp2
    go_ret
    exact ⟨rfl, hb1⟩
end Go.Proofs.Ytjgibmaadmkkgaa
