/- The walks of centre.find and of the library's binary search under it. -/
import Derived.Test.YtjgibmaadmkkgaaCmpW
import Derived.Test.YtjgibmaadmkkgaaGwW
namespace Go.Proofs.Ytjgibmaadmkkgaa
open Go.RowKit Pl
set_option linter.unusedVariables false

theorem cmpGw_any (g : Gw) (name : ByteArray) (w : World) :
    Calls Try.prog 100 #[.agg #[.string g.c, .int .i64 g.a, .int .i64 g.v], .string name] w fun e w' => e = .returned (.int .i64 (Gw.cf name g)) ∧ Below w.heap.size w w' := by
  go_enter Try.func100, Try.ntmps100
  go_wp2_with (go_at_call 101; refine (cmps_any _ _ _).mono ?_; rintro e w' ⟨rfl, rfl⟩)
  go_ret
  exact ⟨rfl, (by repeat (first | exact Below.refl _ _ | assumption | refine Below.drew ?_ | refine below_drewN ?_ _ | refine Below.alloc ?_ (by simp; try omega) _ | refine Below.setCell ?_ (by simp; try omega) _))⟩

/-- the relation of the search -/
def Bs {α : Type} (cf : α → Int) (l : List α) (w wr : World) (i j : Value) : Prop :=
  ∃ a b : Nat, a ≤ b ∧ b ≤ l.length ∧ i = .int .i64 a ∧ j = .int .i64 b ∧ (∀ k, (h : k < l.length) → k < a → cf l[k] < 0) ∧ (∀ k, (h : k < l.length) → b ≤ k → 0 ≤ cf l[k]) ∧ Below w.heap.size w wr

set_option maxHeartbeats 1000000 in
set_option maxRecDepth 100000 in
theorem bsGw_any (A : Option Addr) (c : Nat) (l : List Gw) (name : ByteArray) (w : World) (hl : RL Gw.enc 3 w A l) (hn : l.length ≤ 1000) (hm : Mono (Gw.cf name) l) :
    Calls Try.prog 99 #[.slice A l.length c, .string name, .func (.func 100) #[] #[]] w
      fun e w' => e = .returned (.tuple #[.int .i64 (low (Gw.cf name) l), .bool (hit (Gw.cf name) l)]) ∧ Below w.heap.size w w' := by
  have HM := hid hm
  clear hm
  go_enter Try.func99, Try.ntmps99
  go_wp2
  go_loopw [9, 10] (fun i j wr => Bs (Gw.cf name) l w wr i j) (fun i j _ => (intOf j - intOf i).toNat)
  case atStart => exact ⟨0, l.length, by omega, by omega, rfl, rfl, fun k _ h => absurd h (by omega), fun k h h' => absurd h (by omega), Below.refl _ _⟩
  case round =>
    obtain ⟨a, b, hab, hbn, rfl, rfl, h1, h2, hB⟩ := hrel
    have H1 := hid h1
    have H2 := hid h2
    have HB := hid hB
    have HL := hid (hl.below' hB)
    clear h1 h2 hB
    by_cases hlt : a < b
    · have hk : (a + b) / 2 < l.length := by omega
      obtain ⟨bk, off, rfl, hbk, hc⟩ := HL.out.at_ hk
      have g0 : wr.cell? ⟨bk, off + (a + b) / 2 * 3, none⟩ = some (.string (l[(a + b) / 2]).c) := hc 0 _ rfl
      have g1 : wr.cell? ⟨bk, off + (a + b) / 2 * 3 + 1, none⟩ = some (.int .i64 (l[(a + b) / 2]).a) := hc 1 _ rfl
      have g2 : wr.cell? ⟨bk, off + (a + b) / 2 * 3 + 2, none⟩ = some (.int .i64 (l[(a + b) / 2]).v) := hc 2 _ rfl
      have HLo := hid (fun (h : Gw.cf name l[(a + b) / 2] < 0) k (hk' : k < l.length) (hka : k < (a + b) / 2 + 1) => HM.out k ((a + b) / 2) hk' hk (by omega) h)
      have HHi := hid (fun (h : ¬ Gw.cf name l[(a + b) / 2] < 0) k (hk' : k < l.length) (hka : (a + b) / 2 ≤ k) => Int.not_lt.1 (fun h' => h (HM.out ((a + b) / 2) k hk hk' hka h')))
      clear hc HL
      generalize l[(a + b) / 2] = g at *
      by_cases hneg : Gw.cf name g < 0
      · go_wp2_with fail
        refine (cmpGw_any g name _).mono ?_
        rintro e w1 ⟨rfl, hb⟩
        have HB1 := hid (HB.out.trans (hb.mono HB.out.size))
        clear hb
        go_wp2
        go_roundw
        case rel => exact ⟨(a + b) / 2 + 1, b, by omega, by omega, by go_num, rfl, HLo.out hneg, H2.out, HB1.out⟩
        case measure => simp [intOf]; omega
      · go_wp2_with fail
        refine (cmpGw_any g name _).mono ?_
        rintro e w1 ⟨rfl, hb⟩
        have HB1 := hid (HB.out.trans (hb.mono HB.out.size))
        clear hb
        go_wp2
        go_roundw
        case rel => exact ⟨a, (a + b) / 2, by omega, by omega, rfl, by go_num, H1.out, HHi.out hneg, HB1.out⟩
        case measure => simp [intOf]; omega
    · obtain rfl : a = b := by omega
      have HE := hid (low_uniq (cf := Gw.cf name) hbn H1.out H2.out)
      clear H1 H2
      by_cases hin : a < l.length
      · obtain ⟨bk, off, rfl, hbk, hc⟩ := HL.out.at_ hin
        have g0 : wr.cell? ⟨bk, off + a * 3, none⟩ = some (.string (l[a]).c) := hc 0 _ rfl
        have g1 : wr.cell? ⟨bk, off + a * 3 + 1, none⟩ = some (.int .i64 (l[a]).a) := hc 1 _ rfl
        have g2 : wr.cell? ⟨bk, off + a * 3 + 2, none⟩ = some (.int .i64 (l[a]).v) := hc 2 _ rfl
        have HH : Hid (hit (Gw.cf name) l = decide (Gw.cf name l[a] = 0)) := by
          refine hid ?_
          have hin' : low (Gw.cf name) l < l.length := by rw [← HE.out]; exact hin
          rw [hit_in hin']
          simp only [← HE.out]
        clear hc HL HM
        generalize l[a] = g at *
        go_wp2_with fail
        refine (cmpGw_any g name _).mono ?_
        rintro e w1 ⟨rfl, hb⟩
        have HB1 := hid (HB.out.trans (hb.mono HB.out.size))
        clear hb
        go_wp2
        go_ret2
        refine ⟨?_, HB1.out⟩
        rw [← HE.out, HH.out]
        rfl
      · have HH : Hid (hit (Gw.cf name) l = false) := hid (hit_out (by rw [← HE.out]; exact hin))
        clear HL HM
        go_wp2
        go_ret2
        refine ⟨?_, HB.out⟩
        rw [← HE.out, HH.out]
        rfl

theorem findGw_any (A : Option Addr) (c : Nat) (l : List Gw) (name : ByteArray) (w : World) (hl : RL Gw.enc 3 w A l) (hn : l.length ≤ 1000) (hm : Mono (Gw.cf name) l) :
    Calls Try.prog 72 #[.slice A l.length c, .string name] w
      fun e w' => e = .returned (.tuple #[.int .i64 (low (Gw.cf name) l), .bool (hit (Gw.cf name) l)]) ∧ Below w.heap.size w w' := by
  have HM := hid hm
  clear hm
  go_enter Try.func72, Try.ntmps72
  go_wp2_with fail
  refine (bsGw_any A c l name _ hl hn HM.out).mono ?_
  rintro e w1 ⟨rfl, hb⟩
  go_wp2
  go_ret2
  exact ⟨rfl, hb⟩
end Go.Proofs.Ytjgibmaadmkkgaa
