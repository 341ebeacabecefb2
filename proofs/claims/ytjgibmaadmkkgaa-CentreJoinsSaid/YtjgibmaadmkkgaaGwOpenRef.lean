/- The walk of the reference's OpenOf, of gateways that are right. -/
import Derived.Test.YtjgibmaadmkkgaaGwRef
import Derived.Test.YtjgibmaadmkkgaaGwOpenW
namespace Go.Proofs.Ytjgibmaadmkkgaa
open Go.RowKit Pl
set_option linter.unusedVariables false

theorem Gw.is_eq (name : ByteArray) : Gw.is name = fun g => decide (Gw.cf name g = 0) := by
  funext g
  unfold Gw.is Gw.cf
  rw [Bool.eq_iff_iff, seq_iff, decide_eq_true_eq, scmp_zero]
theorem Gw.ge_eq (x : Gw) : Gw.ge x = fun g => decide (0 ≤ Gw.cf x.c g) := by
  funext g
  unfold Gw.ge Gw.cf
  have := scmp_neg (a := g.c) (b := x.c)
  rcases Bool.eq_false_or_eq_true (slt g.c x.c) with h | h
  · rw [h] at this ⊢
    have h2 : scmp g.c x.c < 0 := this.2 rfl
    simp; omega
  · rw [h] at this ⊢
    have h2 : ¬ scmp g.c x.c < 0 := fun h => by have := this.1 h; cases this
    simp; omega
theorem Gw.ne_eq (x : Gw) : Gw.ne x = fun g => decide (Gw.cf x.c g ≠ 0) := by
  funext g
  unfold Gw.ne Gw.cf
  rw [Bool.eq_iff_iff, Bool.not_eq_true', decide_eq_true_eq, Ne, scmp_zero]
  constructor
  · intro h e
    rw [e] at h
    simp at h
  · exact seq_no
/-- what is put by the reference is put in its place -/
theorem putGw {l : List Gw} (h : ckGw l = 0) (x : Gw) : putL (Gw.ge x) (Gw.ne x) x l = putAt (Gw.cf x.c) x l := by
  rw [Gw.ge_eq, Gw.ne_eq]
  exact putL_sorted (ckGw_smono h x.c) x
theorem atGw {l : List Gw} (h : ckGw l = 0) (name : ByteArray) : at_ (Gw.is name) l = if hit (Gw.cf name) l = true then (low (Gw.cf name) l : Int) else -1 := by
  rw [Gw.is_eq]
  exact at_sorted (ckGw_smono h name)

set_option maxHeartbeats 2000000 in
set_option maxRecDepth 100000 in
theorem OpenOf_any (A : Option Addr) (c : Nat) (l : List Gw) (name : ByteArray) (a : Int) (w : World) (hl : RL Gw.enc 3 w A l) (hck : ckGw l = 0) (hname : name.size ≤ 9223372036854775807) :
    Calls Try.prog 23 #[.slice A l.length c, .string name, .int .i64 a] w (Got Gw.enc 3 37 (openG l name a) w) := by
  have HCK := hid hck
  have HI := hid (ckGw_inv hck)
  have HL := hid hl
  have hl6 := HI.out.1
  clear hck hl
  rcases Bool.eq_false_or_eq_true (lab name.data.toList) with q0 | q0
  · have hB1 : Below w.heap.size w (w.alloc (.cells #[.string name, .int .i64 a, .int .i64 1] 37)) := (by repeat (first | exact Below.refl _ _ | assumption | refine Below.drew ?_ | refine below_drewN ?_ _ | refine Below.alloc ?_ (by simp; try omega) _ | refine Below.setCell ?_ (by simp; try omega) _))
    have B1 := hid (Blk.new w 37 #[.string name, .int .i64 a, .int .i64 1])
    have HB1 := hid hB1
    have HL1 := hid (HL.out.below hB1 (Nat.le_refl _))
    clear hB1
    have hone : wi a 0 4294967295 = true → (Gw.mk name a 1).err = 0 := fun h => Gw.err_ok (g := Gw.mk name a 1) q0 h (show wi 1 1 1000000 = true from by decide)
    have hone3 : wi a 0 4294967295 = false → (Gw.mk name a 1).err = 3 := fun h => Gw.err_a (g := Gw.mk name a 1) q0 h
    have HONE := hid hone
    have HONE3 := hid hone3
    have HE3 : Hid (wi a 0 4294967295 = false → openG l name a = (3, [])) := hid (fun h => by
      rw [openG_one HCK.out (by rw [hone3 h]; decide), hone3 h])
    have HAT := hid (atGw HCK.out name)
    clear hone hone3
    obtain ⟨lo, hlo⟩ : ∃ lo, low (Gw.cf name) l = lo := ⟨_, rfl⟩
    have hlole : lo ≤ l.length := by rw [← hlo]; exact low_le _
    have HLO := hid hlo
    clear hlo
    rcases Bool.eq_false_or_eq_true (hit (Gw.cf name) l) with hh | hh
    · have hlt : lo < l.length := by rw [← HLO.out]; exact hit_lt hh
      have hat : at_ (Gw.is name) l = (lo : Int) := by rw [HAT.out, hh, HLO.out]; rfl
      have HX3 := hid (fun h1 h => openG_max (a := a) HCK.out h1 hh HLO.out hlt h)
      have HX4 := hid (fun h1 h => openG_set (a := a) HCK.out h1 hh HLO.out hlt h)
      have HP := hid (fun (x : Gw) (e : x.c = name) => (show putL (Gw.ge x) (Gw.ne x) x l = l.set lo x from by rw [putGw HCK.out, e, putAt, hh, HLO.out]; rfl))
      have hv4 := wi_iff.1 (Gw.err_inv (HI.out.2.1 lo hlt)).2.2
      obtain ⟨b, off, rfl, hb, hc⟩ := HL1.out.at_ hlt
      have f2 : (w.alloc (.cells #[.string name, .int .i64 a, .int .i64 1] 37)).cell? ⟨b, off + lo * 3 + 2, none⟩ = some (.int .i64 (l[lo]).v) := hc 2 _ rfl
      have hbw : b < w.heap.size := by
        obtain ⟨b', off', hA', hb', _⟩ := HL.out.at_ hlt
        injection hA' with hA'
        injection hA' with e1 e2
        omega
      have hi0 : (0 : Int) ≤ (lo : Int) := by omega
      have hi1 : (lo : Int) < (l.length : Int) := by omega
      clear hc hh
      rcases Bool.eq_false_or_eq_true (wi a 0 4294967295) with qa | qa
      · by_cases hv : (l[lo]).v = 1000000
        · have HX := hid (HX3.out (HONE.out qa) hv)
          rw [hv] at f2
          clear HX3 HX4 HP hv
          go_enter Try.func23, Try.ntmps23
          go_wp2_with (first | (go_at_call 29; refine (refIsLabel_any _ _ hname).mono ?_; rintro e w' ⟨rfl, rfl⟩) | (go_at_call 30; refine (GatewayAt_any _ c l name _ HL1.out (by omega)).mono ?_; rw [hat]; rintro e w' ⟨rfl, rfl⟩) | (go_at_call 74; refine (refIsAddress_any _ _).mono ?_; rintro e w' ⟨rfl, rfl⟩))
          go_ret2
          exact Got.nil HX.out rfl ((Below.refl _ _).alloc (Nat.le_refl _) _)
        · have HX := hid (HX4.out (HONE.out qa) hv)
          have hv5 : (l[lo]).v + 1 ≤ 1000000 := by omega
          clear HX3 HX4 hv
          go_enter Try.func23, Try.ntmps23
          go_wp2_with (first | (first | (go_at_call 29; refine (refIsLabel_any _ _ hname).mono ?_; rintro e w' ⟨rfl, rfl⟩) | (go_at_call 30; refine (GatewayAt_any _ c l name _ HL1.out (by omega)).mono ?_; rw [hat]; rintro e w' ⟨rfl, rfl⟩) | (go_at_call 74; refine (refIsAddress_any _ _).mono ?_; rintro e w' ⟨rfl, rfl⟩)) | (go_at_call 76; fail))
          refine (PutGateway_any _ c l (Gw.mk name a ((l[lo]).v + 1)) _ (HL.out.below ((Below.refl _ _).alloc (Nat.le_refl _) _) (Nat.le_refl _)) (by omega)).mono ?_
          rintro e w1 ⟨A1, c1, rfl, hown, hb⟩
          rw [HP.out (Gw.mk name a ((l[lo]).v + 1)) rfl, List.length_set] at *
          have HOWN := hid hown
          have HB := hid (((Below.refl w.heap.size w).alloc (Nat.le_refl _) (.cells #[.string name, .int .i64 a, .int .i64 ((l[lo]).v + 1)] 37)).trans (hb.mono (by simp)))
          clear hown hb
          go_wp2
          go_ret2
          refine ⟨A1, c1, ?_, ?_, HB.out⟩
          · rw [HX.out]
            simp only [List.length_set]
            rfl
          · rw [HX.out]
            simp only [List.length_set]
            exact own_mono HOWN.out (by simp; omega)
      · have HX := hid (HE3.out qa)
        clear HX3 HX4 HP
        go_enter Try.func23, Try.ntmps23
        go_wp2_with (first | (go_at_call 29; refine (refIsLabel_any _ _ hname).mono ?_; rintro e w' ⟨rfl, rfl⟩) | (go_at_call 30; refine (GatewayAt_any _ c l name _ HL1.out (by omega)).mono ?_; rw [hat]; rintro e w' ⟨rfl, rfl⟩) | (go_at_call 74; refine (refIsAddress_any _ _).mono ?_; rintro e w' ⟨rfl, rfl⟩))
        go_ret2
        exact Got.nil HX.out rfl ((Below.refl _ _).alloc (Nat.le_refl _) _)
    · have hat : at_ (Gw.is name) l = -1 := by rw [HAT.out, hh]; rfl
      have HX2 := hid (fun h1 h => openG_many (a := a) HCK.out h1 hh h)
      have HX5 := hid (fun h1 h => openG_new (a := a) HCK.out h1 hh h HLO.out)
      have HP := hid (fun (x : Gw) (e : x.c = name) => (show putL (Gw.ge x) (Gw.ne x) x l = l.take lo ++ [x] ++ l.drop lo from by rw [putGw HCK.out, e, putAt, hh, HLO.out]; rfl))
      clear hh
      rcases Bool.eq_false_or_eq_true (wi a 0 4294967295) with qa | qa
      · go_enter Try.func23, Try.ntmps23
        go_wp2_with (first | (first | (go_at_call 29; refine (refIsLabel_any _ _ hname).mono ?_; rintro e w' ⟨rfl, rfl⟩) | (go_at_call 30; refine (GatewayAt_any _ c l name _ HL1.out (by omega)).mono ?_; rw [hat]; rintro e w' ⟨rfl, rfl⟩) | (go_at_call 74; refine (refIsAddress_any _ _).mono ?_; rintro e w' ⟨rfl, rfl⟩)) | (go_at_call 76; fail))
        refine (PutGateway_any _ c l (Gw.mk name a 1) _ (HL.out.below ((Below.refl _ _).alloc (Nat.le_refl _) _) (Nat.le_refl _)) (by omega)).mono ?_
        rintro e w1 ⟨A1, c1, rfl, hown, hb⟩
        rw [HP.out (Gw.mk name a 1) rfl, ins_len hlole] at *
        have HOWN := hid hown
        have HB := hid (((Below.refl w.heap.size w).alloc (Nat.le_refl _) (.cells #[.string name, .int .i64 a, .int .i64 1] 37)).trans (hb.mono (by simp)))
        clear hown hb
        by_cases h6 : l.length = 6
        · have HX := hid (HX2.out (HONE.out qa) h6)
          have h6' : (6 : Int) < (l.length : Int) + 1 := by omega
          clear HX2 HX5 h6
          go_wp2
          go_ret2
          exact Got.nil HX.out rfl HB.out
        · have HX := hid (HX5.out (HONE.out qa) h6)
          have h6' : ¬ (6 : Int) < (l.length : Int) + 1 := by omega
          clear HX2 HX5 h6
          go_wp2
          go_ret2
          refine ⟨A1, c1, ?_, ?_, HB.out⟩
          · rw [HX.out]
            simp only [ins_len hlole]
            rfl
          · rw [HX.out]
            simp only [ins_len hlole]
            exact own_mono HOWN.out (by simp; omega)
      · have HX := hid (HE3.out qa)
        clear HX2 HX5 HP
        go_enter Try.func23, Try.ntmps23
        go_wp2_with (first | (go_at_call 29; refine (refIsLabel_any _ _ hname).mono ?_; rintro e w' ⟨rfl, rfl⟩) | (go_at_call 30; refine (GatewayAt_any _ c l name _ HL1.out (by omega)).mono ?_; rw [hat]; rintro e w' ⟨rfl, rfl⟩) | (go_at_call 74; refine (refIsAddress_any _ _).mono ?_; rintro e w' ⟨rfl, rfl⟩))
        go_ret2
        exact Got.nil HX.out rfl ((Below.refl _ _).alloc (Nat.le_refl _) _)
  · have HX := hid (openG_one (a := a) HCK.out (show (Gw.mk name a 1).err ≠ 0 from by rw [Gw.err_form (g := Gw.mk name a 1) q0]; decide))
    have HE := hid (Gw.err_form (g := Gw.mk name a 1) q0)
    go_enter Try.func23, Try.ntmps23
    go_wp2_with (go_at_call 29; refine (refIsLabel_any _ _ hname).mono ?_; rintro e w' ⟨rfl, rfl⟩)
    go_ret2
    exact Got.nil (HX.out.trans (by rw [HE.out])) rfl (Below.refl _ _)
end Go.Proofs.Ytjgibmaadmkkgaa
