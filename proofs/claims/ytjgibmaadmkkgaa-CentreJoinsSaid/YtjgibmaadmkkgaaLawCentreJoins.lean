/- CentreJoins: whatever gateways come in, Join answers what the reference answers; no condition. -/
import Derived.Test.YtjgibmaadmkkgaaGwJoinRef
import Derived.Test.YtjgibmaadmkkgaaGwArg
import Derived.Test.YtjgibmaadmkkgaaLawCentreOpens
namespace Go.Proofs.Ytjgibmaadmkkgaa.centreJoins
open Go.ChangeShapes Go.WideShapes Go.ChangeAt Go.RowKit Pl
set_option linter.unusedVariables false
/-- one answer that failed, whatever is wanted -/
theorem gatewaysAre_bad (A B : Option Addr) (c d : Nat) (l : List Gw) (k : Int) (w : World) (ha : RL Gw.enc 3 w A []) (hk : k ≠ 0) :
    Calls Try.prog 26 #[.slice A 0 c, .int .i64 k, .int .i64 k, .slice B l.length d] w fun e w' => e = .returned (.bool true) ∧ Below w.heap.size w w' := by
  have hne : (k == 0) = false := by simpa using hk
  have HS := hid (sameL_refl Gw.same_refl ([] : List Gw))
  clear hk
  go_enter Try.func26, Try.ntmps26
  go_wp2_with fail
  refine (SameGateways_any A none c 0 [] [] _ ha RL.nil (by simp) (by simp)).mono ?_
  rintro e w1 ⟨rfl, hb1⟩
  rw [HS.out]
  go_wp2
  go_ret
  exact ⟨rfl, hb1⟩

set_option maxHeartbeats 4000000 in
theorem walk (A : Option Addr) (c : Nat) (a : List Gw) (B : Option Addr) (d : Nat) (b : List Gw) (w : World) (ha : RL Gw.enc 3 w A a) (hna : a.length ≤ 9223372036854775807) (hwa : ∀ g ∈ a, g.c.size ≤ 9223372036854775807) (hb : RL Gw.enc 3 w B b) (hnb : b.length ≤ 9223372036854775807) (hwb : ∀ g ∈ b, g.c.size ≤ 9223372036854775807) :
    Calls Try.prog 7 #[.slice A a.length c, .slice B b.length d] w fun e w' => e = .returned (.bool true) ∧ Below w.heap.size w w' := by
  have HLA := hid ha
  have HLB := hid hb
  have HWA := hid hwa
  have HWB := hid hwb
  clear ha hb hwa hwb
  go_enter Try.func7, Try.ntmps7
  go_wp2_with fail
  refine (Join_any A B c d a b _ HLA.out HLB.out hna hnb HWA.out HWB.out).mono ?_
  rintro e w1 ⟨A1, c1, rfl, hown, hb⟩
  have HR := hid (RL.of_own hown Gw.enc_len)
  have HB := hid hb
  clear hown hb
  go_wp2_with fail
  refine (CheckGateways_any A c a _ (HLA.out.below HB.out (Nat.le_refl _)) hna HWA.out).mono ?_
  rintro e w2 ⟨rfl, hb⟩
  have HB2 := hid (HB.out.trans (hb.mono HB.out.size))
  have HR2 := hid (HR.out.below' hb)
  clear hb HR
  by_cases hca : ckGw a = 0
  · have HCA := hid hca
    rw [hca]
    clear hca
    go_wp2_with fail
    refine (CheckGateways_any B d b _ (HLB.out.below HB2.out (Nat.le_refl _)) hnb HWB.out).mono ?_
    rintro e w3 ⟨rfl, hb⟩
    have HB3 := hid (HB2.out.trans (hb.mono HB2.out.size))
    have HR3 := hid (HR2.out.below' hb)
    clear hb HR2
    by_cases hcb : ckGw b = 0
    · have HCB := hid hcb
      rw [hcb]
      clear hcb
      go_wp2_with fail
      refine (JoinGateways_any A B c d a b _ (HLA.out.below HB3.out (Nat.le_refl _)) (HLB.out.below HB3.out (Nat.le_refl _)) HCA.out HCB.out).mono ?_
      rintro e w4 ⟨A4, c4, rfl, hrl, hb⟩
      have HB4 := hid (HB3.out.trans (hb.mono HB3.out.size))
      have HR4 := hid (HR3.out.below' hb)
      have HJ := hid hrl
      have hlen : (joinL Gw.kf Gw.nw a b).length ≤ 12 := by
        have := joinG_len HCA.out HCB.out b.length
        rwa [List.take_length] at this
      clear hb hrl HR3
      have hX : joinG a b = if 6 < (joinL Gw.kf Gw.nw a b).length then (2, []) else (0, joinL Gw.kf Gw.nw a b) := by simp [joinG, HCA.out, HCB.out]
      rw [hX] at HR4 ⊢
      clear hX
      generalize joinL Gw.kf Gw.nw a b = L at *
      by_cases h6 : 6 < L.length
      · rw [if_pos h6] at HR4 ⊢
        dsimp only at *
        have h6' : (6 : Int) < (L.length : Int) := by omega
        clear h6
        go_wp2_with fail
        refine (centreBegun_any _).mono ?_
        rintro e w5 ⟨rfl, hb⟩
        have HB5 := hid (HB4.out.trans (hb.mono HB4.out.size))
        have HR5 := hid (HR4.out.below' hb)
        clear hb HR4
        go_wp2_with fail
        refine (gatewaysAre_bad A1 A4 c1 c4 L 2 _ HR5.out (by decide)).mono ?_
        rintro e w6 ⟨rfl, hb⟩
        have HB6 := hid (HB5.out.trans (hb.mono HB5.out.size))
        clear hb
        go_wp2
        go_ret
        exact ⟨rfl, HB6.out⟩
      · rw [if_neg h6] at HR4 ⊢
        dsimp only at *
        have h6' : ¬ (6 : Int) < (L.length : Int) := by omega
        clear h6
        go_wp2_with fail
        refine (centreBegun_any _).mono ?_
        rintro e w5 ⟨rfl, hb⟩
        have HB5 := hid (HB4.out.trans (hb.mono HB4.out.size))
        have HR5 := hid (HR4.out.below' hb)
        have HJ5 := hid (HJ.out.below' hb)
        clear hb HR4 HJ
        go_wp2_with fail
        refine (gatewaysAre_yes A1 A4 c1 c4 L 0 _ HR5.out HJ5.out (by omega) (fun h => absurd rfl h)).mono ?_
        rintro e w6 ⟨rfl, hb⟩
        have HB6 := hid (HB5.out.trans (hb.mono HB5.out.size))
        clear hb
        go_wp2
        go_ret
        exact ⟨rfl, HB6.out⟩
    · have hX : joinG a b = (ckGw b, []) := by simp [joinG, HCA.out, hcb]
      rw [hX] at HR3 ⊢
      clear hX
      dsimp only at *
      have hne : (ckGw b == 0) = false := by simpa using hcb
      go_wp2_with fail
      refine (centreBegun_any _).mono ?_
      rintro e w5 ⟨rfl, hb⟩
      have HB5 := hid (HB3.out.trans (hb.mono HB3.out.size))
      have HR5 := hid (HR3.out.below' hb)
      clear hb HR3
      go_wp2_with fail
      refine (gatewaysAre_bad A1 none c1 0 [] (ckGw b) _ HR5.out hcb).mono ?_
      rintro e w6 ⟨rfl, hb⟩
      have HB6 := hid (HB5.out.trans (hb.mono HB5.out.size))
      clear hb
      go_wp2
      go_ret
      exact ⟨rfl, HB6.out⟩
  · have hX : joinG a b = (ckGw a, []) := by simp [joinG, hca]
    rw [hX] at HR2 ⊢
    clear hX
    dsimp only at *
    have hne : (ckGw a == 0) = false := by simpa using hca
    go_wp2_with fail
    refine (centreBegun_any _).mono ?_
    rintro e w5 ⟨rfl, hb⟩
    have HB5 := hid (HB2.out.trans (hb.mono HB2.out.size))
    have HR5 := hid (HR2.out.below' hb)
    clear hb HR2
    go_wp2_with fail
    refine (gatewaysAre_bad A1 none c1 0 [] (ckGw a) _ HR5.out hca).mono ?_
    rintro e w6 ⟨rfl, hb⟩
    have HB6 := hid (HB5.out.trans (hb.mono HB5.out.size))
    clear hb
    go_wp2
    go_ret
    exact ⟨rfl, HB6.out⟩

--FRAME
theorem own : ownKnob Try.prog.godebug = none := by kernel_rfl

set_option maxHeartbeats 4000000 in
set_option maxRecDepth 100000 in
theorem lifted (os : Os) (started : os.Started) (H : Type) (enc : TypeId × Value → H) :
    ReturnsInHanded {} Try.checked os 7 .any (Rows.centreJoinsSpec.pre6 enc Try.prog Try.f7 Rows.centreJoinsRow.domain false) (Rows.centreJoinsSpec.post enc Try.prog Try.f7 false true false false) := by
  refine returnsInHanded_of_change (C := Try.checked) own started (by kernel_rfl) Try.func7
    (ChangeSpec.witness6 (enc := enc) (C := Try.checked) false ⟨#[], #[.slice none 0 0, .slice none 0 0], []⟩ 8 (by kernel_rfl) (by kernel_rfl) (by kernel_rfl) (by kernel_rfl)) ?_
  intro W base args ds gs before hval0 hW hcnd hsz
  have hval : ∀ (j : Nat) t v, Try.f7.params[j]? = some t → args[j]? = some v → Value.okWide Try.prog W .any base t v := hval0
  have hW' := hW
  obtain ⟨p, q, hA0, hV, rfl, hfz, hnd⟩ := hW
  have hA : DataW.TrodAll enc Try.prog W 0 (fun _ => true) true Try.f7.params.toList args.toList ds p := hA0
  rw [Try.params7] at hA hval
  obtain ⟨v0, vs0, d0, ds0, p0, q0, hargs, rfl, rfl, h0, r0⟩ := trodAll_cons hA
  obtain ⟨v1, vs1, d1, ds1, p1, q1, rfl, rfl, rfl, h1, r1⟩ := trodAll_cons r0
  obtain ⟨rfl, rfl, rfl⟩ := trodAll_nil r1
  obtain rfl : args = #[v0, v1] := by cases args; simp_all
  obtain ⟨rfl, rfl⟩ := trodVars_none hV
  obtain ⟨A0, c0, l0, rfl, rl0, ln0, lw0⟩ := open_gws (hval 0 22 v0 rfl rfl) h0
  obtain ⟨A1, c1, l1, rfl, rl1, ln1, lw1⟩ := open_gws (hval 1 22 v1 rfl rfl) h1
  clear hA0 hval0
  refine (walk A0 c0 l0 A1 c1 l1 W rl0 ln0 lw0 rl1 ln1 lw1).mono fun e W' ⟨he, hg⟩ => ?_
  subst he
  exact ⟨_, rfl, law_post hW' (by kernel_rfl) (by rw [Try.params7]; exact of_decide_eq_true (by kernel_rfl)) rfl rfl (by kernel_rfl) Try.underlying4 hg⟩

theorem over : Rows.centreJoinsRow.holds Try.pinned (OpenSpec.ofChange Rows.centreJoinsSpec) :=
  OpenClaim.holds_of_wide 7 Try.f7 rfl rfl rfl rfl rfl rfl rfl ⟨rfl, rfl, rfl, rfl, rfl⟩ rfl rfl rfl rfl rfl (by kernel_rfl) Try.func7 (by kernel_rfl)
    (of_decide_eq_true (by kernel_rfl)) (by unfold Func.isWrapper; first | (rw [if_pos (by decide +kernel)]; kernel_rfl) | (rw [if_neg (by decide +kernel)]; exact ⟨rfl, rfl⟩))
    (fun os started H enc _ => lifted os started H enc)

/-- the statement -/
theorem proved : Rows.CentreJoinsSaid := over
#print axioms proved

end Go.Proofs.Ytjgibmaadmkkgaa.centreJoins
