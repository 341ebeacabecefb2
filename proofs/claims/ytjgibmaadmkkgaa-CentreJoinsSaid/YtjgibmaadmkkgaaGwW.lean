/- The walks of what checks gateways. -/
import Derived.Test.YtjgibmaadmkkgaaRows
import Derived.Test.YtjgibmaadmkkgaaList
import Derived.Test.YtjgibmaadmkkgaaLabelW
import Derived.Test.YtjgibmaadmkkgaaGwPlain
import Derived.BigQuiet
import Derived.Deep.QuietTactic
import Derived.WalkLawsBesides
namespace Go.Proofs.Ytjgibmaadmkkgaa
open Go.RowKit Pl
set_option linter.unusedVariables false

theorem refBetween_any (n a b : Int) (w : World) :
    Calls Try.prog 75 #[.int .i64 n, .int .i64 a, .int .i64 b] w fun e w' => e = .returned (.bool (wi n a b)) ∧ w = w' := by
  by_cases h1 : a ≤ n
  · by_cases h2 : n ≤ b
    · go_enter Try.func75, Try.ntmps75
      go_wp2
      go_ret
      exact ⟨ret_bool (by rw [wi_iff.2 ⟨h1, h2⟩]), rfl⟩
    · go_enter Try.func75, Try.ntmps75
      go_wp2
      go_ret
      exact ⟨ret_bool (by rw [wi_no.2 (by omega)]), rfl⟩
  · go_enter Try.func75, Try.ntmps75
    go_wp2
    go_ret
    exact ⟨ret_bool (by rw [wi_no.2 (by omega)]), rfl⟩
theorem refIsAddress_any (n : Int) (w : World) :
    Calls Try.prog 74 #[.int .i64 n] w fun e w' => e = .returned (.bool (wi n 0 4294967295)) ∧ w = w' := by
  go_enter Try.func74, Try.ntmps74
  go_wp2_with (go_at_call 75; refine (refBetween_any _ _ _ _).mono ?_; rintro e w' ⟨rfl, rfl⟩)
  go_ret
  exact ⟨rfl, rfl⟩

/-- the relation of the loop over the elements -/
def Done1 {α : Type} (e : α → Int) (l : List α) (w wr : World) (i : Value) : Prop := ∃ k : Nat, k ≤ l.length ∧ i = .int .i64 k ∧ (∀ i, (h : i < l.length) → i < k → e l[i] = 0) ∧ Below w.heap.size w wr
/-- the relation of the loop over the order -/
def Done2 {α : Type} (lt : α → α → Bool) (l : List α) (w wr : World) (i : Value) : Prop := ∃ k : Nat, (k < l.length ∨ k = 0) ∧ i = .int .i64 ((k : Int) + 1) ∧ (∀ i, (h : i + 1 < l.length) → i < k → lt l[i] l[i + 1] = true) ∧ Below w.heap.size w wr
theorem Done1.next {α : Type} {e : α → Int} {l : List α} {k : Nat} (h : ∀ i, (h : i < l.length) → i < k → e l[i] = 0) (hk : k < l.length) (h0 : e l[k] = 0) : ∀ i, (h : i < l.length) → i < k + 1 → e l[i] = 0 := by
  intro i hi hik
  rcases (by omega : i < k ∨ i = k) with g | rfl
  · exact h i hi g
  · exact h0
theorem Done2.next {α : Type} {lt : α → α → Bool} {l : List α} {k : Nat} (h : ∀ i, (h : i + 1 < l.length) → i < k → lt l[i] l[i + 1] = true) (hk : k + 1 < l.length) (h0 : lt l[k] l[k + 1] = true) : ∀ i, (h : i + 1 < l.length) → i < k + 1 → lt l[i] l[i + 1] = true := by
  intro i hi hik
  rcases (by omega : i < k ∨ i = k) with g | rfl
  · exact h i hi g
  · exact h0

set_option maxHeartbeats 1000000 in
theorem CheckGateways_any (A : Option Addr) (c : Nat) (l : List Gw) (w : World) (hl : RL Gw.enc 3 w A l) (hn : l.length ≤ 9223372036854775807) (hw : ∀ g ∈ l, g.c.size ≤ 9223372036854775807) :
    Calls Try.prog 22 #[.slice A l.length c] w fun e w' => e = .returned (.int .i64 (ckGw l)) ∧ Below w.heap.size w w' := by
  by_cases h6 : 6 < l.length
  · go_enter Try.func22, Try.ntmps22
    go_wp2
    go_ret
    exact ⟨ret_int (ckL_long h6).symm, Below.refl _ _⟩
  · go_enter Try.func22, Try.ntmps22
    go_wp2
    go_loopw [3] (fun i wr => Done1 Gw.err l w wr i) (fun i _ => l.length - (intOf i).toNat)
    case atStart => exact ⟨0, Nat.zero_le _, rfl, fun i _ h => absurd h (by omega), Below.refl _ _⟩
    case round =>
      obtain ⟨k, hk, rfl, hd, hB⟩ := hrel
      have HD := hid hd
      have HB := hid hB
      have HL := hid (hl.below' hB)
      clear hd hB
      by_cases hlt : k < l.length
      · obtain ⟨b, off, rfl, hb, hc⟩ := HL.out.at_ hlt
        have HW := hw l[k] (List.getElem_mem hlt)
        have h0 : wr.cell? ⟨b, off + k * 3, none⟩ = some (.string (l[k]).c) := hc 0 _ rfl
        have h1 : wr.cell? ⟨b, off + k * 3 + 1, none⟩ = some (.int .i64 (l[k]).a) := hc 1 _ rfl
        have h2 : wr.cell? ⟨b, off + k * 3 + 2, none⟩ = some (.int .i64 (l[k]).v) := hc 2 _ rfl
        clear hc
        have HN := hid (fun h => Done1.next HD.out hlt h)
        have HX := hid (fun h => ckL_err (mx := 6) (lt := Gw.lt) (by omega) hlt HD.out h)
        generalize l[k] = g at *
        clear hw
        rcases Bool.eq_false_or_eq_true (lab g.c.data.toList) with q0 | q0
        · rcases Bool.eq_false_or_eq_true (wi g.a 0 4294967295) with q1 | q1
          · rcases Bool.eq_false_or_eq_true (wi g.v 1 1000000) with q2 | q2
            · have HE := hid (Gw.err_ok q0 q1 q2)
              go_wp2_with (first | (go_at_call 29; refine (refIsLabel_any _ _ HW).mono ?_; rintro e w' ⟨rfl, rfl⟩) | (go_at_call 74; refine (refIsAddress_any _ _).mono ?_; rintro e w' ⟨rfl, rfl⟩) | (go_at_call 75; refine (refBetween_any _ _ _ _).mono ?_; rintro e w' ⟨rfl, rfl⟩))
              go_roundw
              case rel => exact ⟨k + 1, by omega, by go_num, HN.out HE.out, HB.out⟩
              case measure => simp [intOf]; omega
            · have HE := hid (Gw.err_v q0 q2)
              go_wp2_with (first | (go_at_call 29; refine (refIsLabel_any _ _ HW).mono ?_; rintro e w' ⟨rfl, rfl⟩) | (go_at_call 74; refine (refIsAddress_any _ _).mono ?_; rintro e w' ⟨rfl, rfl⟩) | (go_at_call 75; refine (refBetween_any _ _ _ _).mono ?_; rintro e w' ⟨rfl, rfl⟩))
              go_ret
              exact ⟨ret_int ((HX.out (by rw [HE.out]; decide)).trans HE.out).symm, HB.out⟩
          · have HE := hid (Gw.err_a q0 q1)
            go_wp2_with (first | (go_at_call 29; refine (refIsLabel_any _ _ HW).mono ?_; rintro e w' ⟨rfl, rfl⟩) | (go_at_call 74; refine (refIsAddress_any _ _).mono ?_; rintro e w' ⟨rfl, rfl⟩) | (go_at_call 75; refine (refBetween_any _ _ _ _).mono ?_; rintro e w' ⟨rfl, rfl⟩))
            go_ret
            exact ⟨ret_int ((HX.out (by rw [HE.out]; decide)).trans HE.out).symm, HB.out⟩
        · have HE := hid (Gw.err_form q0)
          go_wp2_with (first | (go_at_call 29; refine (refIsLabel_any _ _ HW).mono ?_; rintro e w' ⟨rfl, rfl⟩) | (go_at_call 74; refine (refIsAddress_any _ _).mono ?_; rintro e w' ⟨rfl, rfl⟩) | (go_at_call 75; refine (refBetween_any _ _ _ _).mono ?_; rintro e w' ⟨rfl, rfl⟩))
          go_ret
          exact ⟨ret_int ((HX.out (by rw [HE.out]; decide)).trans HE.out).symm, HB.out⟩
      · have HD2 := hid (fun i (h : i < l.length) => HD.out i h (by omega))
        clear HD HL
        go_wp2
        go_loopw [4] (fun i wr => Done2 Gw.lt l w wr i) (fun i _ => l.length - (intOf i).toNat)
        case atStart => exact ⟨0, .inr rfl, rfl, fun i _ h => absurd h (by omega), HB.out⟩
        case round =>
          clear HB hlt hk
          obtain ⟨m, hk, rfl, hd, hB⟩ := hrel
          have HD := hid hd
          have HB := hid hB
          have HL := hid (hl.below' hB)
          clear hd hB
          by_cases hlt : m + 1 < l.length
          · obtain ⟨b, off, rfl, hb, hc, hc'⟩ := HL.out.at2 hlt
            have h0 : wr.cell? ⟨b, off + m * 3, none⟩ = some (.string (l[m]).c) := hc 0 _ rfl
            have h1 : wr.cell? ⟨b, off + (m + 1) * 3, none⟩ = some (.string (l[m + 1]).c) := hc' 0 _ rfl
            clear hc hc'
            have HN := hid (fun h => Done2.next HD.out hlt h)
            have HX := hid (fun h => ckL_unsorted (mx := 6) (lt := Gw.lt) (by omega) HD2.out hlt h)
            generalize l[m] = g at *
            generalize l[m + 1] = g' at *
            have hw1 : IntKind.i64.wrap ((m : Int) + 1 - 1) = (m : Int) := by rw [IntWalk.i64_in _ (by omega)]; omega
            have hw2 : ((m : Int) + 1).toNat = m + 1 := by omega
            have hi0 : (0 : Int) ≤ (m : Int) := by omega
            have hi1 : (m : Int) < (l.length : Int) := by omega
            have hi2 : (m : Int) + 1 < (l.length : Int) := by omega
            rcases Bool.eq_false_or_eq_true (slt g.c g'.c) with q | q
            · have hs : (Op.bytesLess g'.c.toList g.c.toList || g'.c.toList == g.c.toList) = false := by rw [sle_eq, q]; rfl
              have Q := hid q
              clear q
              go_wp2_with fail
              go_quiet (fail)
              go_wp2
              go_roundw
              case rel => exact ⟨m + 1, .inl (by omega), by go_num, HN.out Q.out, below_drewN HB.out _⟩
              case measure => simp [intOf]; omega
            · have hs : (Op.bytesLess g'.c.toList g.c.toList || g'.c.toList == g.c.toList) = true := by rw [sle_eq, q]; rfl
              have Q := hid q
              clear q
              go_wp2_with fail
              go_quiet (fail)
              go_wp2
              go_ret
              exact ⟨ret_int (HX.out Q.out).symm, below_drewN HB.out _⟩
          · have HE := hid (ckL_ok (mx := 6) (lt := Gw.lt) (by omega) HD2.out (fun i h => HD.out i h (by omega)))
            clear HD HD2 HL
            go_wp2
            go_ret
            exact ⟨ret_int HE.out.symm, HB.out⟩

theorem cwithin_any (n a b : Int) (w : World) :
    Calls Try.prog 98 #[.int .i64 n, .int .i64 a, .int .i64 b] w fun e w' => e = .returned (.bool (wi n a b)) ∧ w = w' := by
  by_cases h1 : a ≤ n
  · by_cases h2 : n ≤ b
    · go_enter Try.func98, Try.ntmps98
      go_wp2
      go_ret
      exact ⟨ret_bool (by rw [wi_iff.2 ⟨h1, h2⟩]), rfl⟩
    · go_enter Try.func98, Try.ntmps98
      go_wp2
      go_ret
      exact ⟨ret_bool (by rw [wi_no.2 (by omega)]), rfl⟩
  · go_enter Try.func98, Try.ntmps98
    go_wp2
    go_ret
    exact ⟨ret_bool (by rw [wi_no.2 (by omega)]), rfl⟩

theorem cone_any (g : Gw) (w : World) (hw : g.c.size ≤ 9223372036854775807) :
    Calls Try.prog 70 #[.agg #[.string g.c, .int .i64 g.a, .int .i64 g.v]] w fun e w' => e = .returned (.int .i64 g.err) ∧ Below w.heap.size w w' := by
  have hB0 : Below w.heap.size w (w.alloc (.cells #[.string g.c, .int .i64 g.a, .int .i64 g.v] 37)) := (by repeat (first | exact Below.refl _ _ | assumption | refine Below.drew ?_ | refine below_drewN ?_ _ | refine Below.alloc ?_ (by simp; try omega) _ | refine Below.setCell ?_ (by simp; try omega) _))
  have B1 := Blk.new w 37 #[.string g.c, .int .i64 g.a, .int .i64 g.v]
  have HB0 := hid hB0
  clear hB0
  rcases Bool.eq_false_or_eq_true (lab g.c.data.toList) with q0 | q0
  · rcases Bool.eq_false_or_eq_true (wi g.a 0 4294967295) with q1 | q1
    · rcases Bool.eq_false_or_eq_true (wi g.v 1 1000000) with q2 | q2
      · have HE := hid (Gw.err_ok q0 q1 q2)
        go_enter Try.func70, Try.ntmps70
        go_wp2_with fail
        refine (IsLabel_any _ _ hw).mono ?_
        rintro e w1 ⟨rfl, hb⟩
        have c1 := (B1.below' hb).cell
        have HB := hid (HB0.out.trans (hb.mono HB0.out.size))
        clear hb B1
        go_wp2_with (go_at_call 98; refine (cwithin_any _ _ _ _).mono ?_; rintro e w' ⟨rfl, rfl⟩)
        go_ret
        exact ⟨ret_int HE.out.symm, HB.out⟩
      · have HE := hid (Gw.err_v q0 q2)
        go_enter Try.func70, Try.ntmps70
        go_wp2_with fail
        refine (IsLabel_any _ _ hw).mono ?_
        rintro e w1 ⟨rfl, hb⟩
        have c1 := (B1.below' hb).cell
        have HB := hid (HB0.out.trans (hb.mono HB0.out.size))
        clear hb B1
        go_wp2_with (go_at_call 98; refine (cwithin_any _ _ _ _).mono ?_; rintro e w' ⟨rfl, rfl⟩)
        go_ret
        exact ⟨ret_int HE.out.symm, HB.out⟩
    · have HE := hid (Gw.err_a q0 q1)
      go_enter Try.func70, Try.ntmps70
      go_wp2_with fail
      refine (IsLabel_any _ _ hw).mono ?_
      rintro e w1 ⟨rfl, hb⟩
      have c1 := (B1.below' hb).cell
      have HB := hid (HB0.out.trans (hb.mono HB0.out.size))
      clear hb B1
      go_wp2_with (go_at_call 98; refine (cwithin_any _ _ _ _).mono ?_; rintro e w' ⟨rfl, rfl⟩)
      go_ret
      exact ⟨ret_int HE.out.symm, HB.out⟩
  · have HE := hid (Gw.err_form q0)
    go_enter Try.func70, Try.ntmps70
    go_wp2_with fail
    refine (IsLabel_any _ _ hw).mono ?_
    rintro e w1 ⟨rfl, hb⟩
    have HB := hid (HB0.out.trans (hb.mono HB0.out.size))
    clear hb B1
    go_wp2
    go_ret
    exact ⟨ret_int HE.out.symm, HB.out⟩
end Go.Proofs.Ytjgibmaadmkkgaa
