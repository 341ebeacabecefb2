/- The walk of centre.Join. -/
import Derived.Test.YtjgibmaadmkkgaaGwNext
import Derived.Test.YtjgibmaadmkkgaaGwJoinPlain
import Derived.StillTailTactics
namespace Go.Proofs.Ytjgibmaadmkkgaa
open Go.RowKit Pl
set_option linter.unusedVariables false

/-- the relation of the loop that joins -/
def JoinRel {α : Type} (enc : α → List Value) (sz : Nat) (T : TypeId) (L : Nat → List α) (n : Nat) (w wr : World) (out i : Value) : Prop :=
  ∃ (k : Nat) (A' : Option Addr) (c' : Nat), k ≤ n ∧ i = .int .i64 k ∧ out = .slice A' (L k).length c' ∧ wr.ownsRow w.heap.size T sz (.slice A' (L k).length c') (L k).length ((L k).flatMap enc) ∧ Below w.heap.size w wr
/-- what the comparison of two gateways of one centre comes to -/
theorem Gw.nw_cmp (g x : Gw) : decide (0 < firstNZ [icmp g.v x.v, icmp g.a x.a]) = Gw.nw g x := by
  unfold Gw.nw firstNZ firstNZ firstNZ icmp
  rcases Int.lt_trichotomy g.v x.v with h | h | h
  · simp [h]; omega
  · rw [h]
    rcases Int.lt_trichotomy g.a x.a with q | q | q
    · simp [q]; omega
    · simp [q]
    · have : ¬ g.a < x.a := by omega
      simp [q, this]
  · have : ¬ g.v < x.v := by omega
    simp [h, this]

set_option maxHeartbeats 4000000 in
set_option maxRecDepth 100000 in
theorem Join_any (A B : Option Addr) (c d : Nat) (a b : List Gw) (w : World) (ha : RL Gw.enc 3 w A a) (hb : RL Gw.enc 3 w B b) (hn : a.length ≤ 9223372036854775807) (hn' : b.length ≤ 9223372036854775807)
    (hw : ∀ g ∈ a, g.c.size ≤ 9223372036854775807) (hw' : ∀ g ∈ b, g.c.size ≤ 9223372036854775807) :
    Calls Try.prog 37 #[.slice A a.length c, .slice B b.length d] w (Got Gw.enc 3 37 (joinG a b) w) := by
  have hB0 : Below w.heap.size w (w.alloc (.cells #[.slice A a.length c, .slice B b.length d] 22)) := (by repeat (first | exact Below.refl _ _ | assumption | refine Below.drew ?_ | refine below_drewN ?_ _ | refine Below.alloc ?_ (by simp; try omega) _ | refine Below.setCell ?_ (by simp; try omega) _))
  have HB0 := hid hB0
  have HLa := hid ha
  have HLb := hid hb
  have HWa := hid hw
  have HWb := hid hw'
  clear hB0 ha hb hw hw'
  by_cases hck : ckGw a = 0 ∧ ckGw b = 0
  · have HCA := hid hck.1
    have HCB := hid hck.2
    have HX : Hid (joinG a b = if 6 < (joinL Gw.kf Gw.nw a b).length then (2, []) else (0, joinL Gw.kf Gw.nw a b)) := hid (by simp [joinG, hck.1, hck.2])
    have ha6 := (ckGw_inv hck.1).1
    have hb6 := (ckGw_inv hck.2).1
    generalize joinG a b = res at *
    clear hck
    go_enter Try.func37, Try.ntmps37
    go_wp2_with fail
    refine (ccheck2_any A B c d a b w.heap.size _ (Blk.new _ _ _) (HLa.out.below HB0.out (Nat.le_refl _)) hn HWa.out (HLb.out.below HB0.out (Nat.le_refl _)) hn' HWb.out).mono ?_
    rintro e w1 ⟨rfl, hb⟩
    rw [if_pos HCA.out, HCB.out]
    have HB1 := hid (HB0.out.trans (hb.mono HB0.out.size))
    clear hb HB0
    go_wp2_with fail
    refine (clnGwL A c a _ (HLa.out.below HB1.out (Nat.le_refl _)) (by omega)).mono ?_
    rintro e w2 ⟨A2, c2, rfl, hown, hb⟩
    have HB2 := hid (HB1.out.trans (hb.mono HB1.out.size))
    have HOWN2 := hid (own_mono hown HB1.out.size)
    clear hown hb HB1
    go_wp2
    go_loopw [7, 23] (fun out i wr => JoinRel Gw.enc 3 37 (fun k => joinL Gw.kf Gw.nw a (b.take k)) b.length w wr out i) (fun _ i _ => b.length - (intOf i).toNat)
    case atStart => exact ⟨0, A2, c2, Nat.zero_le _, rfl, rfl, HOWN2.out, HB2.out⟩
    case round =>
      clear HOWN2 HB2
      obtain ⟨k, A', c', hk, rfl, rfl, hown, hB⟩ := hrel
      by_cases hlt : k < b.length
      · have HNEXT := hid (joinL_next (cf := Gw.kf) (nw := Gw.nw) (a := a) hlt)
        have HM := hid (joinG_smono (b := b) HCA.out k)
        have hlen := joinG_len HCA.out HCB.out k
        have HLB := hid (HLb.out.below hB (Nat.le_refl _))
        have hwg := HWb.out b[k] (List.getElem_mem hlt)
        dsimp only at hown ⊢
        generalize joinL Gw.kf Gw.nw a (b.take k) = L at *
        have HOWN := hid hown
        have HB := hid hB
        have hzr := hB.size
        clear hown hB
        obtain ⟨bb, off, rfl, hbb, hc⟩ := HLB.out.at_ hlt
        have g0 : wr.cell? ⟨bb, off + k * 3, none⟩ = some (.string (b[k]).c) := hc 0 _ rfl
        have g1 : wr.cell? ⟨bb, off + k * 3 + 1, none⟩ = some (.int .i64 (b[k]).a) := hc 1 _ rfl
        have g2 : wr.cell? ⟨bb, off + k * 3 + 2, none⟩ = some (.int .i64 (b[k]).v) := hc 2 _ rfl
        clear hc HLB
        generalize b[k] = g at *
        go_wp2_with fail
        refine (findGw_any A' c' L g.c _ ((RL.of_own HOWN.out Gw.enc_len).below ((Below.refl _ _).alloc (Nat.le_refl _) _) (Nat.le_refl _)) (by omega) (HM.out g.c).mono).mono ?_
        rintro e w3 ⟨rfl, hb⟩
        have BX := hid ((Blk.new wr 37 #[.string g.c, .int .i64 g.a, .int .i64 g.v]).below' hb)
        have HOWN3 := hid (own_below (HOWN.out.alloc (.cells #[.string g.c, .int .i64 g.a, .int .i64 g.v] 37)) hb)
        have HB3 := hid ((HB.out.alloc hzr _).trans (hb.mono (by simp; omega)))
        have hz3 : wr.heap.size + 1 ≤ w3.heap.size := by have := hb.size; simpa using this
        have HNB : Hid ((Value.slice A' L.length c').ownBlock ≠ some wr.heap.size) := hid (fun e => by have := HOWN.out.lt _ e; omega)
        clear hb HOWN HB
        obtain ⟨lo, hlo⟩ : ∃ lo, low (Gw.cf g.c) L = lo := ⟨_, rfl⟩
        have hlole : lo ≤ L.length := by rw [← hlo]; exact low_le _
        rw [hlo]
        rcases Bool.eq_false_or_eq_true (hit (Gw.cf g.c) L) with hh | hh
        · have hltL : lo < L.length := by rw [← hlo]; exact hit_lt hh
          have HU1 := hid (fun (q : Gw.nw g L[lo] = true) => (show upd Gw.kf Gw.nw L g = L.set lo g from by
            rw [upd_set (cf := Gw.kf) hlo hltL q]
            unfold putAt
            rw [if_pos (show hit (Gw.kf g) L = true from hh), show low (Gw.kf g) L = lo from hlo]))
          have HU2 := hid (fun (q : Gw.nw g L[lo] = false) => upd_old (cf := Gw.kf) hh hlo hltL q)
          rw [hh]
          clear hh hlo
          obtain ⟨g3, hA3⟩ := own_block HOWN3.out (by omega)
          subst hA3
          obtain ⟨b4, off4, hAe, hb4, hc⟩ := (RL.of_own HOWN3.out Gw.enc_len).at_ hltL
          injection hAe with hAe
          injection hAe with e1 e2
          subst e1 e2
          have f0 : w3.cell? ⟨g3, lo * 3, none⟩ = some (.string (L[lo]).c) := by simpa using hc 0 _ rfl
          have f1 : w3.cell? ⟨g3, lo * 3 + 1, none⟩ = some (.int .i64 (L[lo]).a) := by simpa using hc 1 _ rfl
          have f2 : w3.cell? ⟨g3, lo * 3 + 2, none⟩ = some (.int .i64 (L[lo]).v) := by simpa using hc 2 _ rfl
          have hgb : w.heap.size ≤ g3 := own_base HOWN3.out g3 rfl
          have hne1 : ¬ g3 = wr.heap.size := fun e => HNB.out (by rw [e]; rfl)
          have hi0 : (0 : Int) ≤ (lo : Int) := by omega
          have hi1 : (lo : Int) < (L.length : Int) := by omega
          have hcmp := Gw.nw_cmp g L[lo]
          have HCMP := hid hcmp
          clear hc hcmp
          generalize L[lo] = x at *
          have cx : ∀ i, w3.cell? ⟨wr.heap.size, i, none⟩ = (#[.string g.c, .int .i64 g.a, .int .i64 g.v])[i]? := BX.out.cell
          go_wp2_with fail
          have ca : w3.cell? ⟨wr.heap.size, 1, none⟩ = some (.int .i64 g.a) := cx 1
          have cv : w3.cell? ⟨wr.heap.size, 2, none⟩ = some (.int .i64 g.v) := cx 2
          have hBB : Below w3.heap.size w3 w3 := Below.refl _ _
          have keepc : ∀ {o : Obj} {p : Addr} {v : Value}, w3.cell? p = some v → (w3.alloc o).drew.cell? p = some v := fun h => (World.cell?_alloc_lt _ _ _ (World.block_lt_of_cell? _ _ h)).trans h
          go_region_held3 (fun w' => w'.cell? ⟨wr.heap.size, 1, none⟩ = some (.int .i64 g.a) ∧ w'.cell? ⟨wr.heap.size, 2, none⟩ = some (.int .i64 g.v) ∧ w'.cell? ⟨g3, lo * 3 + 1, none⟩ = some (.int .i64 x.a) ∧ w'.cell? ⟨g3, lo * 3 + 2, none⟩ = some (.int .i64 x.v) ∧ Below w3.heap.size w3 w' ∧ wr.heap.size + 1 ≤ w'.heap.size) (first | exact ⟨ca, cv, f1, f2, Below.drew (Below.refl _ _), hz3⟩ | exact ⟨keepc ca, keepc cv, keepc f1, keepc f2, Below.drew (Below.alloc (Below.refl _ _) (Nat.le_refl _) _), by simp; omega⟩ | (go_keep; done)) ((first | (go_at_call 82; refine (cmpi_any _ _ _).mono ?_; rintro e w' ⟨rfl, rfl⟩) | (go_at_call 81; refine (or_any _ [_, _] _ (Blk.new _ _ _).drew (by simp)).mono ?_; rintro e w' ⟨rfl, rfl⟩)))
          clear hBB keepc
          rename_i hHeld
          have HX4 := hid hHeld
          clear hHeld ca cv cx
          have HB4 := hid ((HB3.out.alloc HB3.out.size (.cells #[.int .i64 (icmp g.v x.v), .int .i64 (icmp g.a x.a)] 3)).drew)
          have HOWN4 := hid (show World.ownsRow (w3.alloc (.cells #[.int .i64 (icmp g.v x.v), .int .i64 (icmp g.a x.a)] 3)).drew w.heap.size 37 3 (.slice (some ⟨g3, 0, none⟩) L.length c') L.length (L.flatMap Gw.enc) from HOWN3.out.alloc _)
          have BX4 := hid ((BX.out.alloc (.cells #[.int .i64 (icmp g.v x.v), .int .i64 (icmp g.a x.a)] 3)).drew)
          have HF := hid (show (w3.alloc (.cells #[.int .i64 (icmp g.v x.v), .int .i64 (icmp g.a x.a)] 3)).drew.cell? ⟨g3, lo * 3, none⟩ = some (.string x.c) from (World.cell?_alloc_lt _ _ _ (World.block_lt_of_cell? _ _ f0)).trans f0)
          rw [HCMP.out]
          generalize (w3.alloc (.cells #[.int .i64 (icmp g.v x.v), .int .i64 (icmp g.a x.a)] 3)).drew = w4 at *
          clear f0 f1 f2 HB3 HOWN3 BX HCMP
          obtain ⟨ca, cv, f1, f2, hBB4, hz4⟩ := HX4.out
          have f0 := HF.out
          clear HX4 HF hBB4
          rcases Bool.eq_false_or_eq_true (Gw.nw g x) with hq | hq
          · have HU := hid (HU1.out hq)
            rw [hq]
            clear HU1 HU2 hq
            have cx : ∀ i, w4.cell? ⟨wr.heap.size, i, none⟩ = (#[.string g.c, .int .i64 g.a, .int .i64 g.v])[i]? := BX4.out.cell
            have of := fun j => HOWN4.out.frozenAt j
            go_wp2
            go_roundw
            case rel =>
              refine ⟨k + 1, some ⟨g3, 0, none⟩, c', by omega, by go_num, ?_, ?_, ?_⟩
              · show _ = Value.slice _ (joinL Gw.kf Gw.nw a (b.take (k + 1))).length _
                rw [HNEXT.out, HU.out, List.length_set]
              · show World.ownsRow _ _ _ _ (.slice _ (joinL Gw.kf Gw.nw a (b.take (k + 1))).length _) (joinL Gw.kf Gw.nw a (b.take (k + 1))).length ((joinL Gw.kf Gw.nw a (b.take (k + 1))).flatMap Gw.enc)
                rw [HNEXT.out, HU.out, List.length_set]
                have h := ((((HOWN4.out.stored (lo * 3) (.string g.c)).1.stored (lo * 3 + 1) (.int .i64 g.a)).1).stored (lo * 3 + 2) (.int .i64 g.v)).1
                rw [← flat_set Gw.enc_len (by decide) hltL]
                exact h
              · exact (((HB4.out).setCell (p := ⟨g3, lo * 3, none⟩) hgb _).setCell (p := ⟨g3, lo * 3 + 1, none⟩) hgb _).setCell (p := ⟨g3, lo * 3 + 2, none⟩) hgb _
            case measure => simp [intOf]; omega
          · have HU := hid (HU2.out hq)
            rw [hq]
            clear HU1 HU2 hq
            go_wp2
            go_roundw
            case rel =>
              refine ⟨k + 1, some ⟨g3, 0, none⟩, c', by omega, by go_num, ?_, ?_, HB4.out⟩
              · show _ = Value.slice _ (joinL Gw.kf Gw.nw a (b.take (k + 1))).length _
                rw [HNEXT.out, HU.out]
              · show World.ownsRow _ _ _ _ (.slice _ (joinL Gw.kf Gw.nw a (b.take (k + 1))).length _) (joinL Gw.kf Gw.nw a (b.take (k + 1))).length ((joinL Gw.kf Gw.nw a (b.take (k + 1))).flatMap Gw.enc)
                rw [HNEXT.out, HU.out]
                exact HOWN4.out
            case measure => simp [intOf]; omega
        · have HU := hid ((upd_new (cf := Gw.kf) (nw := Gw.nw) (l := L) (g := g) hh).trans (show putAt (Gw.kf g) g L = L.take lo ++ [g] ++ L.drop lo from by
            unfold putAt
            rw [if_neg (show ¬ hit (Gw.kf g) L = true from by rw [show hit (Gw.kf g) L = false from hh]; decide), show low (Gw.kf g) L = lo from hlo]))
          rw [hh]
          clear hh hlo
          have cx : ∀ i, w3.cell? ⟨wr.heap.size, i, none⟩ = (#[.string g.c, .int .i64 g.a, .int .i64 g.v])[i]? := BX.out.cell
          have HOWN5 := hid (HOWN3.out.alloc (.cells #[.string g.c, .int .i64 g.a, .int .i64 g.v] 37))
          have HNB5 : Hid ((Value.slice A' L.length c').ownBlock ≠ some w3.heap.size) := hid (fun e => by have := HOWN3.out.lt _ e; omega)
          go_wp2_with fail
          refine (insGw_any w.heap.size A' L.length c' lo _ w3.heap.size [.string g.c, .int .i64 g.a, .int .i64 g.v] _ HOWN5.out (by have := HB3.out.size; simp; omega) hlole (by omega) (Blk.new w3 _ _) HNB5.out rfl (Gw.enc_one g) (flat_one Gw.enc_one L)).mono ?_
          rintro e w5 ⟨A5, c5, rfl, hown5, hb⟩
          have HB5 := hid ((HB3.out.alloc HB3.out.size _).trans hb)
          have HOWN6 := hid hown5
          clear hown5 hb
          go_wp2
          go_roundw
          case rel =>
            refine ⟨k + 1, A5, c5, by omega, by go_num, ?_, ?_, HB5.out⟩
            · show _ = Value.slice _ (joinL Gw.kf Gw.nw a (b.take (k + 1))).length _
              rw [HNEXT.out, HU.out, ins_len hlole]
            · show World.ownsRow _ _ _ _ (.slice _ (joinL Gw.kf Gw.nw a (b.take (k + 1))).length _) (joinL Gw.kf Gw.nw a (b.take (k + 1))).length ((joinL Gw.kf Gw.nw a (b.take (k + 1))).flatMap Gw.enc)
              rw [HNEXT.out, HU.out, ins_len hlole, ins_flat Gw.enc_len]
              exact HOWN6.out
          case measure => simp [intOf]; omega
      · have hk' : k = b.length := by omega
        subst hk'
        dsimp only at hown ⊢
        rw [List.take_length] at hown ⊢
        have HOWN := hid hown
        have HB := hid hB
        clear hown hB
        have hlen : (joinL Gw.kf Gw.nw a b).length ≤ 12 := by
          have := joinG_len HCA.out HCB.out b.length
          rwa [List.take_length] at this
        generalize joinL Gw.kf Gw.nw a b = L at *
        by_cases h6 : 6 < L.length
        · have HR : Hid (res = (2, [])) := hid (by rw [HX.out, if_pos h6])
          have h6' : (6 : Int) < (L.length : Int) := by omega
          clear h6 HX
          go_wp2
          go_ret2
          exact Got.nil HR.out rfl HB.out
        · have HR : Hid (res = (0, L)) := hid (by rw [HX.out, if_neg h6])
          have h6' : ¬ (6 : Int) < (L.length : Int) := by omega
          clear h6 HX
          go_wp2
          go_ret2
          refine ⟨A', c', ?_, ?_, HB.out⟩
          · rw [HR.out]; rfl
          · rw [HR.out]; exact HOWN.out
  · have HX : Hid (joinG a b = (if ckGw a = 0 then ckGw b else ckGw a, [])) := hid (by
      unfold joinG
      by_cases h1 : ckGw a = 0
      · have h2 : ckGw b ≠ 0 := fun e => hck ⟨h1, e⟩
        simp [h1, h2]
      · simp [h1])
    have hk : (if ckGw a = 0 then ckGw b else ckGw a) ≠ 0 := by
      by_cases h1 : ckGw a = 0
      · rw [if_pos h1]; exact fun e => hck ⟨h1, e⟩
      · rw [if_neg h1]; exact h1
    have hkb : ((if ckGw a = 0 then ckGw b else ckGw a) == 0) = false := by simpa using hk
    clear hck hk
    generalize joinG a b = res at *
    go_enter Try.func37, Try.ntmps37
    go_wp2_with fail
    refine (ccheck2_any A B c d a b w.heap.size _ (Blk.new _ _ _) (HLa.out.below HB0.out (Nat.le_refl _)) hn HWa.out (HLb.out.below HB0.out (Nat.le_refl _)) hn' HWb.out).mono ?_
    rintro e w1 ⟨rfl, hb⟩
    have HB1 := hid (HB0.out.trans (hb.mono HB0.out.size))
    clear hb HB0
    generalize (if ckGw a = 0 then ckGw b else ckGw a) = kk at *
    go_wp2
    go_ret2
    exact Got.nil HX.out rfl HB1.out
end Go.Proofs.Ytjgibmaadmkkgaa
