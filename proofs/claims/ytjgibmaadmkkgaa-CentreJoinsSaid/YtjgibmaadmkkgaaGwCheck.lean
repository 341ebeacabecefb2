/- The walk of centre.check: lists of gateways, one behind the other. -/
import Derived.Test.YtjgibmaadmkkgaaGwW
namespace Go.Proofs.Ytjgibmaadmkkgaa
open Go.RowKit Pl
set_option linter.unusedVariables false

/-- a slice in a slice: where it lies, its capacity, what it reads as -/
def encS {α : Type} (x : Option Addr × Nat × List α) : List Value := [.slice x.1 x.2.2.length x.2.1]

/-- what is wrong with the list behind one of the slices -/
def ckSGw (x : Option Addr × Nat × List Gw) : Int := ckGw x.2.2

set_option maxHeartbeats 2000000 in
set_option maxRecDepth 100000 in
theorem ccheck_any (A0 : Option Addr) (c0 : Nat) (LS : List (Option Addr × Nat × List Gw)) (w : World) (h0 : RL encS 1 w A0 LS) (hn0 : LS.length ≤ 9223372036854775807)
    (hall : ∀ x ∈ LS, RL Gw.enc 3 w x.1 x.2.2 ∧ x.2.2.length ≤ 9223372036854775807 ∧ ∀ g ∈ x.2.2, g.c.size ≤ 9223372036854775807) :
    Calls Try.prog 69 #[.slice A0 LS.length c0] w fun e w' => e = .returned (.int .i64 (firstErr ckSGw LS)) ∧ Below w.heap.size w w' := by
  have HALL := hid hall
  clear hall
  go_enter Try.func69, Try.ntmps69
  go_wp2
  go_loopw [11] (fun i wr => Done1 ckSGw LS w wr i) (fun i _ => LS.length - (intOf i).toNat)
  case atStart => exact ⟨0, Nat.zero_le _, rfl, fun i _ h => absurd h (by omega), Below.refl _ _⟩
  case round =>
    obtain ⟨k, hk, rfl, hd, hB⟩ := hrel
    have HD := hid hd
    have HB := hid hB
    have HL := hid (h0.below' hB)
    clear hd hB
    by_cases hlt : k < LS.length
    · obtain ⟨b, off, rfl, hb, hc⟩ := HL.out.at_ hlt
      have HA := hid (HALL.out LS[k] (List.getElem_mem hlt))
      have HN := hid (fun h => Done1.next HD.out hlt h)
      have HX := hid (fun h => firstErr_at hlt HD.out h)
      have g0 : wr.cell? ⟨b, off + k, none⟩ = some (.slice (LS[k]).1 (LS[k]).2.2.length (LS[k]).2.1) := by simpa [encS] using hc 0 _ rfl
      clear hc HL HALL h0
      generalize LS[k] = x at *
      obtain ⟨A, c, l⟩ := x
      dsimp only at *
      obtain ⟨hrl, hn, hw⟩ := HA.out
      have HRL := hid (hrl.below' HB.out)
      have HW := hid hw
      have HRL0 := hid hrl
      clear HA hrl hw
      by_cases h6 : 6 < l.length
      · have HE := hid (ckL_long (e := Gw.err) (lt := Gw.lt) h6)
        go_wp2
        go_ret
        exact ⟨ret_int ((HX.out (by rw [ckSGw, ckGw, HE.out]; decide)).trans (by rw [ckSGw, ckGw, HE.out])).symm, HB.out⟩
      · go_wp2
        go_loopw [20] (fun i wr => Done1 Gw.err l w wr i) (fun i _ => l.length - (intOf i).toNat)
        case atStart => exact ⟨0, Nat.zero_le _, rfl, fun i _ h => absurd h (by omega), HB.out⟩
        case round =>
          clear HB HRL g0
          obtain ⟨k1, hk1, rfl, hd, hB⟩ := hrel
          have HD1 := hid hd
          have HB := hid hB
          have HL := hid (HRL0.out.below' hB)
          clear hd hB
          by_cases hlt1 : k1 < l.length
          · obtain ⟨b1, off1, rfl, hb1, hc⟩ := HL.out.at_ hlt1
            have hw1 := HW.out l[k1] (List.getElem_mem hlt1)
            have g0 : wr.cell? ⟨b1, off1 + k1 * 3, none⟩ = some (.string (l[k1]).c) := hc 0 _ rfl
            have g1 : wr.cell? ⟨b1, off1 + k1 * 3 + 1, none⟩ = some (.int .i64 (l[k1]).a) := hc 1 _ rfl
            have g2 : wr.cell? ⟨b1, off1 + k1 * 3 + 2, none⟩ = some (.int .i64 (l[k1]).v) := hc 2 _ rfl
            have HN1 := hid (fun h => Done1.next HD1.out hlt1 h)
            have HX1 := hid (fun h => ckL_err (mx := 6) (lt := Gw.lt) (by omega) hlt1 HD1.out h)
            clear hc HL HD1
            generalize l[k1] = g at *
            by_cases he : g.err = 0
            · have HE := hid he
              clear he
              go_wp2_with fail
              refine (cone_any g _ hw1).mono ?_
              rintro e w1 ⟨rfl, hb⟩
              rw [HE.out]
              have HB1 := hid ((HB.out.alloc HB.out.size _).trans (hb.mono (by have := HB.out.size; simp; omega)))
              clear hb
              go_wp2
              go_roundw
              case rel => exact ⟨k1 + 1, by omega, by go_num, HN1.out HE.out, HB1.out⟩
              case measure => simp [intOf]; omega
            · have he' : (g.err == 0) = false := by simpa using he
              have HE := hid he
              clear he
              go_wp2_with fail
              refine (cone_any g _ hw1).mono ?_
              rintro e w1 ⟨rfl, hb⟩
              have HB1 := hid ((HB.out.alloc HB.out.size _).trans (hb.mono (by have := HB.out.size; simp; omega)))
              clear hb
              go_wp2
              go_ret
              exact ⟨ret_int ((HX.out (by rw [ckSGw, ckGw, HX1.out HE.out]; exact HE.out)).trans (by rw [ckSGw, ckGw, HX1.out HE.out])).symm, HB1.out⟩
          · have HD2 := hid (fun i (h : i < l.length) => HD1.out i h (by omega))
            clear HD1 HL
            go_wp2
            go_loopw [8] (fun i wr => Done2 Gw.lt l w wr i) (fun i _ => l.length - (intOf i).toNat)
            case atStart => exact ⟨0, .inr rfl, rfl, fun i _ h => absurd h (by omega), HB.out⟩
            case round =>
              clear HB
              obtain ⟨m, hm, rfl, hd, hB⟩ := hrel
              have HD3 := hid hd
              have HB := hid hB
              have HL := hid (HRL0.out.below' hB)
              clear hd hB
              by_cases hlt2 : m + 1 < l.length
              · obtain ⟨b1, off1, rfl, hb1, hc, hc'⟩ := HL.out.at2 hlt2
                have g0 : wr.cell? ⟨b1, off1 + m * 3, none⟩ = some (.string (l[m]).c) := hc 0 _ rfl
                have g1 : wr.cell? ⟨b1, off1 + (m + 1) * 3, none⟩ = some (.string (l[m + 1]).c) := hc' 0 _ rfl
                clear hc hc'
                have HN3 := hid (fun h => Done2.next HD3.out hlt2 h)
                have HX3 := hid (fun h => ckL_unsorted (mx := 6) (lt := Gw.lt) (by omega) HD2.out hlt2 h)
                clear HD3 HL
                generalize l[m] = g at *
                generalize l[m + 1] = g' at *
                have hw1 : IntKind.i64.wrap ((m : Int) + 1 - 1) = (m : Int) := by rw [IntWalk.i64_in _ (by omega)]; omega
                have hw2 : ((m : Int) + 1).toNat = m + 1 := by omega
                have hi0 : (0 : Int) ≤ (m : Int) := by omega
                have hi1 : (m : Int) < (l.length : Int) := by omega
                have hi2 : (m : Int) + 1 < (l.length : Int) := by omega
                rcases Bool.eq_false_or_eq_true (slt g.c g'.c) with q | q
                · have hs : (Op.bytesLess g'.c.toList g.c.toList || g'.c.toList == g.c.toList) = false := by rw [sle_eq, q]; rfl
                  have Q := hid q
                  clear q
                  go_wp2_with fail
                  go_quiet (fail)
                  go_wp2
                  go_roundw
                  case rel => exact ⟨m + 1, .inl (by omega), by go_num, HN3.out Q.out, below_drewN HB.out _⟩
                  case measure => simp [intOf]; omega
                · have hs : (Op.bytesLess g'.c.toList g.c.toList || g'.c.toList == g.c.toList) = true := by rw [sle_eq, q]; rfl
                  have Q := hid q
                  clear q
                  go_wp2_with fail
                  go_quiet (fail)
                  go_wp2
                  go_ret
                  exact ⟨ret_int ((HX.out (by rw [ckSGw, ckGw, HX3.out Q.out]; decide)).trans (by rw [ckSGw, ckGw, HX3.out Q.out])).symm, below_drewN HB.out _⟩
              · have HE := hid (ckL_ok (mx := 6) (lt := Gw.lt) (by omega) HD2.out (fun i h => HD3.out i h (by omega)))
                clear HD3 HD2 HL
                go_wp2
                go_roundw
                case rel => exact ⟨k + 1, by omega, by go_num, HN.out (by rw [ckSGw, ckGw, HE.out]), HB.out⟩
                case measure => simp [intOf]; omega
    · have HE := hid (firstErr_zero (fun i (h : i < LS.length) => HD.out i h (by omega)))
      clear HD HL HALL h0
      go_wp2
      go_ret
      exact ⟨ret_int HE.out.symm, HB.out⟩
end Go.Proofs.Ytjgibmaadmkkgaa
