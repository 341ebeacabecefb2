/- The walk of the reference's JoinGateways, of gateways that are right. -/
import Derived.Test.YtjgibmaadmkkgaaGwJoinW
namespace Go.Proofs.Ytjgibmaadmkkgaa
open Go.RowKit Pl
set_option linter.unusedVariables false

/-- the relation of the reference's loop that joins -/
def JoinRefRel {α : Type} (enc : α → List Value) (sz : Nat) (L : Nat → List α) (n : Nat) (w wr : World) (out i : Value) : Prop :=
  ∃ (k : Nat) (A' : Option Addr) (c' : Nat), k ≤ n ∧ i = .int .i64 k ∧ out = .slice A' (L k).length c' ∧ RL enc sz wr A' (L k) ∧ Below w.heap.size w wr
theorem smono_at {l : List Gw} (h : sorted Gw.lt l = true) (name : ByteArray) : at_ (Gw.is name) l = if hit (Gw.cf name) l = true then (low (Gw.cf name) l : Int) else -1 := by
  rw [Gw.is_eq]
  exact at_sorted (smono_of Gw.lt_trans (Gw.lt_cf name) h)
theorem smono_put {l : List Gw} (h : sorted Gw.lt l = true) (x : Gw) : putL (Gw.ge x) (Gw.ne x) x l = putAt (Gw.cf x.c) x l := by
  rw [Gw.ge_eq, Gw.ne_eq]
  exact putL_sorted (smono_of Gw.lt_trans (Gw.lt_cf x.c) h) x

set_option maxHeartbeats 40000000 in
set_option maxRecDepth 100000 in
theorem JoinGateways_any (A B : Option Addr) (c d : Nat) (a b : List Gw) (w : World) (ha : RL Gw.enc 3 w A a) (hb : RL Gw.enc 3 w B b) (hca : ckGw a = 0) (hcb : ckGw b = 0) :
    Calls Try.prog 38 #[.slice A a.length c, .slice B b.length d] w fun e w' => ∃ A' c', e = .returned (.slice A' (joinL Gw.kf Gw.nw a b).length c') ∧ RL Gw.enc 3 w' A' (joinL Gw.kf Gw.nw a b) ∧ Below w.heap.size w w' := by
  have HLa := hid ha
  have HLb := hid hb
  have HCA := hid hca
  have HCB := hid hcb
  have hb6 := (ckGw_inv hcb).1
  clear ha hb hca hcb
  go_enter Try.func38, Try.ntmps38
  go_wp2
  go_loopw [0, 5] (fun out i wr => JoinRefRel Gw.enc 3 (fun k => joinL Gw.kf Gw.nw a (b.take k)) b.length w wr out i) (fun _ i _ => b.length - (intOf i).toNat)
  case atStart => exact ⟨0, A, c, Nat.zero_le _, rfl, rfl, HLa.out, Below.refl _ _⟩
  case round =>
    obtain ⟨k, A', c', hk, rfl, rfl, hrl, hB⟩ := hrel
    by_cases hlt : k < b.length
    · have HNEXT := hid (joinL_next (cf := Gw.kf) (nw := Gw.nw) (a := a) hlt)
      have HS := hid (joinG_sorted (b := b) HCA.out k)
      have hlen := joinG_len HCA.out HCB.out k
      have HLB := hid (HLb.out.below hB (Nat.le_refl _))
      dsimp only at hrl ⊢
      generalize joinL Gw.kf Gw.nw a (b.take k) = L at *
      have HRL := hid hrl
      have HB := hid hB
      have hzr := hB.size
      clear hrl hB
      obtain ⟨bb, off, rfl, hbb, hc⟩ := HLB.out.at_ hlt
      have g0 : wr.cell? ⟨bb, off + k * 3, none⟩ = some (.string (b[k]).c) := hc 0 _ rfl
      have g1 : wr.cell? ⟨bb, off + k * 3 + 1, none⟩ = some (.int .i64 (b[k]).a) := hc 1 _ rfl
      have g2 : wr.cell? ⟨bb, off + k * 3 + 2, none⟩ = some (.int .i64 (b[k]).v) := hc 2 _ rfl
      clear hc HLB
      generalize b[k] = g at *
      have HAT := hid (smono_at HS.out g.c)
      have HPUT : Hid (putL (Gw.ge g) (Gw.ne g) g L = putAt (Gw.kf g) g L) := hid (smono_put HS.out g)
      obtain ⟨lo, hlo⟩ : ∃ lo, low (Gw.cf g.c) L = lo := ⟨_, rfl⟩
      have hlole : lo ≤ L.length := by rw [← hlo]; exact low_le _
      go_wp2_with fail
      refine (GatewayAt_any A' c' L g.c _ HRL.out (by omega)).mono ?_
      rintro e w1 ⟨rfl, rfl⟩
      rw [HAT.out]
      rcases Bool.eq_false_or_eq_true (hit (Gw.cf g.c) L) with hh | hh
      · have hltL : lo < L.length := by rw [← hlo]; exact hit_lt hh
        rw [if_pos hh, hlo]
        obtain ⟨b4, off4, hAe, hb4, hc⟩ := HRL.out.at_ hltL
        subst hAe
        have f1 : wr.cell? ⟨b4, off4 + lo * 3 + 1, none⟩ = some (.int .i64 (L[lo]).a) := hc 1 _ rfl
        have f2 : wr.cell? ⟨b4, off4 + lo * 3 + 2, none⟩ = some (.int .i64 (L[lo]).v) := hc 2 _ rfl
        have hi0 : (0 : Int) ≤ (lo : Int) := by omega
        have hi1 : (lo : Int) < (L.length : Int) := by omega
        clear hc
        have HU1 := hid (fun (q : Gw.nw g L[lo] = true) => upd_set (cf := Gw.kf) hlo hltL q)
        have HU2 := hid (fun (q : Gw.nw g L[lo] = false) => upd_old (cf := Gw.kf) hh hlo hltL q)
        generalize L[lo] = x at *
        clear HAT HS hh hlo
        have hi2 : (0 : Int) ≤ (k : Int) := by omega
        have hi3 : (k : Int) < (b.length : Int) := by omega
        have hln : decide ((lo : Int) < 0) = false := by simp
        have hz0 : ((lo : Int) < 0) = False := by simp
        rcases Int.lt_trichotomy x.v g.v with hv | hv | hv
        · have HU := hid (HU1.out (by simp [Gw.nw, hv]))
          have HP := HPUT
          have hgt : decide (x.v < g.v) = true := by simpa using hv
          clear HU1 HU2 HPUT
          go_wp2_with fail
          go_quiet (fail)
          go_wp2_with fail
          refine (PutGateway_any _ c' L g _ (show RL Gw.enc 3 (World.drewN wr _) _ L from HRL.out) (by omega)).mono ?_
          rintro e w2 ⟨A1, c1, rfl, hown, hb⟩
          rw [HP.out] at *
          have HB2 := hid ((below_drewN HB.out _).trans (hb.mono (show w.heap.size ≤ (World.drewN wr _).heap.size from hzr)))
          have HRL2 := hid (RL.of_own hown Gw.enc_len)
          clear hown hb
          go_wp2
          go_roundw
          case rel =>
            refine ⟨k + 1, A1, c1, by omega, by go_num, ?_, ?_, HB2.out⟩
            · show _ = Value.slice _ (joinL Gw.kf Gw.nw a (b.take (k + 1))).length _
              rw [HNEXT.out, HU.out]
            · show RL _ _ _ _ (joinL Gw.kf Gw.nw a (b.take (k + 1)))
              rw [HNEXT.out, HU.out]
              exact HRL2.out
          case measure => simp [intOf]; omega
        · have hv1 : ¬ x.v < g.v := by omega
          have hgt : decide (x.v < g.v) = false := by simp; omega
          have hv2 : (g.v == x.v) = true := by simp [hv]
          by_cases hu : x.a < g.a
          · have HU := hid (HU1.out (by simp [Gw.nw, hv, hu]))
            have HP := HPUT
            have hga : decide (x.a < g.a) = true := by simpa using hu
            clear HU1 HU2 HPUT hv
            go_wp2_with fail
            go_quiet (fail)
            go_wp2_with fail
            refine (PutGateway_any _ c' L g _ (show RL Gw.enc 3 (World.drewN wr _) _ L from HRL.out) (by omega)).mono ?_
            rintro e w2 ⟨A1, c1, rfl, hown, hb⟩
            rw [HP.out] at *
            have HB2 := hid ((below_drewN HB.out _).trans (hb.mono (show w.heap.size ≤ (World.drewN wr _).heap.size from hzr)))
            have HRL2 := hid (RL.of_own hown Gw.enc_len)
            clear hown hb
            go_wp2
            go_roundw
            case rel =>
              refine ⟨k + 1, A1, c1, by omega, by go_num, ?_, ?_, HB2.out⟩
              · show _ = Value.slice _ (joinL Gw.kf Gw.nw a (b.take (k + 1))).length _
                rw [HNEXT.out, HU.out]
              · show RL _ _ _ _ (joinL Gw.kf Gw.nw a (b.take (k + 1)))
                rw [HNEXT.out, HU.out]
                exact HRL2.out
            case measure => simp [intOf]; omega
          · have HU := hid (HU2.out (by simp [Gw.nw, hv, hu]))
            have hga : decide (x.a < g.a) = false := by simp; omega
            clear HU1 HU2 HPUT hv
            go_wp2_with fail
            go_quiet (fail)
            go_wp2
            go_roundw
            case rel =>
              refine ⟨k + 1, some ⟨b4, off4, none⟩, c', by omega, by go_num, ?_, ?_, below_drewN HB.out _⟩
              · show _ = Value.slice _ (joinL Gw.kf Gw.nw a (b.take (k + 1))).length _
                rw [HNEXT.out, HU.out]
              · show RL _ _ _ _ (joinL Gw.kf Gw.nw a (b.take (k + 1)))
                rw [HNEXT.out, HU.out]
                exact HRL.out
            case measure => simp [intOf]; omega
        · have hv1 : ¬ x.v < g.v := by omega
          have hgt : decide (x.v < g.v) = false := by simp; omega
          have hv2 : (g.v == x.v) = false := by simp; omega
          have HU := hid (HU2.out (by simp [Gw.nw, hv1]; omega))
          clear HU1 HU2 HPUT hv
          go_wp2_with fail
          go_quiet (fail)
          go_wp2
          go_roundw
          case rel =>
            refine ⟨k + 1, some ⟨b4, off4, none⟩, c', by omega, by go_num, ?_, ?_, below_drewN HB.out _⟩
            · show _ = Value.slice _ (joinL Gw.kf Gw.nw a (b.take (k + 1))).length _
              rw [HNEXT.out, HU.out]
            · show RL _ _ _ _ (joinL Gw.kf Gw.nw a (b.take (k + 1)))
              rw [HNEXT.out, HU.out]
              exact HRL.out
          case measure => simp [intOf]; omega
      · have HU := hid (upd_new (cf := Gw.kf) (nw := Gw.nw) (l := L) (g := g) hh)
        rw [if_neg (by rw [hh]; decide)]
        have HP := HPUT
        have hi2 : (0 : Int) ≤ (k : Int) := by omega
        have hi3 : (k : Int) < (b.length : Int) := by omega
        clear HPUT HAT HS hh hlo
        go_wp2_with fail
        go_quiet (fail)
        go_wp2_with fail
        refine (PutGateway_any _ c' L g _ (show RL Gw.enc 3 (World.drewN wr _) _ L from HRL.out) (by omega)).mono ?_
        rintro e w2 ⟨A1, c1, rfl, hown, hb⟩
        rw [HP.out] at *
        have HB2 := hid ((below_drewN HB.out _).trans (hb.mono (show w.heap.size ≤ (World.drewN wr _).heap.size from hzr)))
        have HRL2 := hid (RL.of_own hown Gw.enc_len)
        clear hown hb
        go_wp2
        go_roundw
        case rel =>
          refine ⟨k + 1, A1, c1, by omega, by go_num, ?_, ?_, HB2.out⟩
          · show _ = Value.slice _ (joinL Gw.kf Gw.nw a (b.take (k + 1))).length _
            rw [HNEXT.out, HU.out]
          · show RL _ _ _ _ (joinL Gw.kf Gw.nw a (b.take (k + 1)))
            rw [HNEXT.out, HU.out]
            exact HRL2.out
        case measure => simp [intOf]; omega
    · have hk' : k = b.length := by omega
      subst hk'
      dsimp only at hrl ⊢
      rw [List.take_length] at hrl ⊢
      have HRL := hid hrl
      have HB := hid hB
      clear hrl hB
      go_wp2
      go_ret
      exact ⟨A', c', rfl, HRL.out, HB.out⟩
end Go.Proofs.Ytjgibmaadmkkgaa
