/- CentreOpens: whatever gateways, name and address come in, Check and Open answer what the reference answers; no condition. -/
import Derived.Test.YtjgibmaadmkkgaaGwNext
import Derived.Test.YtjgibmaadmkkgaaGwArg
import Derived.Test.YtjgibmaadmkkgaaLaw
namespace Go.Proofs.Ytjgibmaadmkkgaa
open Go.ChangeShapes Go.WideShapes Go.ChangeAt Go.RowKit Pl
set_option linter.unusedVariables false

theorem centreBegun_any (w : World) : Calls Try.prog 24 #[] w fun e w' => e = .returned (.bool true) ∧ Below w.heap.size w w' := by
  have h1 : openG [] ⟨#[99]⟩ 7 = (0, [Gw.mk ⟨#[99]⟩ 7 1]) := by kernel_rfl
  have h2 : nextG [Gw.mk ⟨#[99]⟩ 7 1] ⟨#[104]⟩ ⟨#[99]⟩ = (7, 0) := by kernel_rfl
  have H1 := hid h1
  have H2 := hid h2
  clear h1 h2
  go_enter Try.func24, Try.ntmps24
  go_wp2_with fail
  refine (Open_any none 0 [] ⟨#[99]⟩ 7 _ RL.nil (by simp) (fun g hg => by simp at hg) (by decide)).mono ?_
  rintro e w1 ⟨A1, c1, rfl, hown, hb⟩
  rw [H1.out] at *
  have HR := hid (RL.of_own hown Gw.enc_len)
  have HB := hid hb
  clear hown hb
  dsimp only
  go_wp2_with fail
  refine (Next_any A1 c1 [Gw.mk ⟨#[99]⟩ 7 1] ⟨#[104]⟩ ⟨#[99]⟩ _ HR.out (by simp) (fun g hg => by simp at hg; subst hg; decide) (by decide) (by decide)).mono ?_
  rintro e w2 ⟨rfl, hb⟩
  rw [H2.out]
  dsimp only
  go_wp2
  go_ret
  exact ⟨rfl, HB.out.trans (hb.mono HB.out.size)⟩
end Go.Proofs.Ytjgibmaadmkkgaa
namespace Go.Proofs.Ytjgibmaadmkkgaa.centreOpens
open Go.ChangeShapes Go.WideShapes Go.ChangeAt Go.RowKit Pl
set_option linter.unusedVariables false

theorem openG_nil {l : List Gw} {name : ByteArray} {a : Int} (h : (openG l name a).1 ≠ 0) : (openG l name a).2 = [] := by
  unfold openG at h ⊢
  split at h
  · simp_all
  · split at h
    · simp_all
    · split at h
      · split at h
        · split at h <;> simp_all
        · split at h <;> simp_all
      · split at h <;> simp_all

theorem openG_len {l : List Gw} {name : ByteArray} {a : Int} (hck : ckGw l = 0) : (openG l name a).2.length ≤ 9223372036854775807 := by
  have h6 := (ckGw_inv hck).1
  unfold openG
  split
  · simp
  · split
    · simp
    · split
      · split
        · split <;> simp <;> omega
        · split <;> simp <;> omega
      · split <;> simp <;> omega
set_option maxHeartbeats 1000000 in
theorem walk (A : Option Addr) (c : Nat) (l : List Gw) (name : ByteArray) (a : Int) (w : World) (hl : RL Gw.enc 3 w A l) (hn : l.length ≤ 9223372036854775807) (hw : ∀ g ∈ l, g.c.size ≤ 9223372036854775807) (hname : name.size ≤ 9223372036854775807)
    (wa : (Lit.int .i64 a).wf = true) : Calls Try.prog 3 #[.slice A l.length c, .string name, .int .i64 a] w fun e w' => e = .returned (.bool true) ∧ Below w.heap.size w w' := by
  have HL := hid hl
  have HW := hid hw
  have HK := hid (openG_nil (l := l) (name := name) (a := a))
  clear hl hw wa
  go_enter Try.func3, Try.ntmps3
  go_wp2_with fail
  refine (Open_any A c l name a _ HL.out hn HW.out hname).mono ?_
  rintro e w1 ⟨A1, c1, rfl, hown, hb⟩
  have HR := hid (RL.of_own hown Gw.enc_len)
  have HB := hid hb
  clear hown hb
  go_wp2_with fail
  refine (CheckGateways_any A c l _ (HL.out.below HB.out (Nat.le_refl _)) hn HW.out).mono ?_
  rintro e w2 ⟨rfl, hb⟩
  have HB2 := hid (HB.out.trans (hb.mono HB.out.size))
  have HR2 := hid (HR.out.below' hb)
  clear hb HR
  by_cases hck : ckGw l = 0
  · have HCK := hid hck
    rw [hck]
    clear hck
    go_wp2_with fail
    refine (OpenOf_any A c l name a _ (HL.out.below HB2.out (Nat.le_refl _)) HCK.out hname).mono ?_
    rintro e w3 ⟨A3, c3, rfl, hown, hb⟩
    have HR3 := hid (RL.of_own hown Gw.enc_len)
    have HR2' := hid (HR2.out.below' hb)
    have HB3 := hid (HB2.out.trans (hb.mono HB2.out.size))
    clear hb hown HR2
    have HLN := hid (openG_len (name := name) (a := a) HCK.out)
    generalize openG l name a = r at *
    obtain ⟨k, res⟩ := r
    dsimp only at *
    go_wp2_with fail
    refine (centreBegun_any _).mono ?_
    rintro e w4 ⟨rfl, hb⟩
    have HB4 := hid (HB3.out.trans (hb.mono HB3.out.size))
    have HR4 := hid (HR3.out.below' hb)
    have HR4' := hid (HR2'.out.below' hb)
    clear hb HR3 HR2'
    go_wp2_with fail
    refine (cCheck_any A c l _ (HL.out.below HB4.out (Nat.le_refl _)) hn HW.out).mono ?_
    rintro e w5 ⟨rfl, hb⟩
    rw [HCK.out]
    have HB5 := hid (HB4.out.trans (hb.mono HB4.out.size))
    have HR5 := hid (HR4.out.below' hb)
    have HR5' := hid (HR4'.out.below' hb)
    clear hb HR4 HR4'
    go_wp2_with fail
    refine (gatewaysAre_yes A1 A3 c1 c3 res k _ HR5'.out HR5.out HLN.out HK.out).mono ?_
    rintro e w6 ⟨rfl, hb⟩
    have HB6 := hid (HB5.out.trans (hb.mono HB5.out.size))
    clear hb
    go_wp2
    go_ret
    exact ⟨rfl, HB6.out⟩
  · have hX := openG_ck (name := name) (a := a) hck
    rw [hX] at HR2 ⊢
    clear hX HK
    dsimp only at *
    have hne : (ckGw l == 0) = false := by simpa using hck
    go_wp2_with fail
    refine (centreBegun_any _).mono ?_
    rintro e w4 ⟨rfl, hb⟩
    have HB4 := hid (HB2.out.trans (hb.mono HB2.out.size))
    have HR4' := hid (HR2.out.below' hb)
    clear hb HR2
    go_wp2_with fail
    refine (cCheck_any A c l _ (HL.out.below HB4.out (Nat.le_refl _)) hn HW.out).mono ?_
    rintro e w5 ⟨rfl, hb⟩
    have HB5 := hid (HB4.out.trans (hb.mono HB4.out.size))
    have HR5' := hid (HR4'.out.below' hb)
    clear hb HR4'
    go_wp2_with fail
    refine (gatewaysAre_yes A1 none c1 0 [] (ckGw l) _ HR5'.out RL.nil (by simp) (fun _ => rfl)).mono ?_
    rintro e w6 ⟨rfl, hb⟩
    have HB6 := hid (HB5.out.trans (hb.mono HB5.out.size))
    clear hb
    go_wp2
    go_ret
    exact ⟨rfl, HB6.out⟩

--FRAME
theorem own : ownKnob Try.prog.godebug = none := by kernel_rfl

set_option maxRecDepth 100000 in
theorem lifted (os : Os) (started : os.Started) (H : Type) (enc : TypeId × Value → H) :
    ReturnsInHanded {} Try.checked os 3 .any (Rows.centreOpensSpec.pre6 enc Try.prog Try.f3 Rows.centreOpensRow.domain false) (Rows.centreOpensSpec.post enc Try.prog Try.f3 false true false false) := by
  refine returnsInHanded_of_change (C := Try.checked) own started (by kernel_rfl) Try.func3
    (ChangeSpec.witness6 (enc := enc) (C := Try.checked) false ⟨#[], #[.slice none 0 0, .string ⟨#[]⟩, .int .i64 0], []⟩ 8 (by kernel_rfl) (by kernel_rfl) (by kernel_rfl) (by kernel_rfl)) ?_
  intro W base args ds gs before hval0 hW hcnd hsz
  have hval : ∀ (j : Nat) t v, Try.f3.params[j]? = some t → args[j]? = some v → Value.okWide Try.prog W .any base t v := hval0
  have hW' := hW
  obtain ⟨p, q, hA0, hV, rfl, hfz, hnd⟩ := hW
  have hA : DataW.TrodAll enc Try.prog W 0 (fun _ => true) true Try.f3.params.toList args.toList ds p := hA0
  rw [Try.params3] at hA hval
  obtain ⟨v0, vs0, d0, ds0, p0, q0, hargs, rfl, rfl, h0, r0⟩ := trodAll_cons hA
  obtain ⟨v1, vs1, d1, ds1, p1, q1, rfl, rfl, rfl, h1, r1⟩ := trodAll_cons r0
  obtain ⟨v2, vs2, d2, ds2, p2, q2, rfl, rfl, rfl, h2, r2⟩ := trodAll_cons r1
  obtain ⟨rfl, rfl, rfl⟩ := trodAll_nil r2
  obtain rfl : args = #[v0, v1, v2] := by cases args; simp_all
  obtain ⟨rfl, rfl⟩ := trodVars_none hV
  obtain ⟨A0, c0, l0, rfl, rl0, ln0, lw0⟩ := open_gws (hval 0 22 v0 rfl rfl) h0
  obtain ⟨a1, rfl, rfl, rfl, w1⟩ := Go.ChangeMaps.open_string Try.underlying9 (hval 1 9 v1 rfl rfl) h1
  obtain ⟨a2, rfl, rfl, rfl, w2⟩ := open_int Try.underlying3 (hval 2 3 v2 rfl rfl) h2
  clear hA0 hval0
  refine (walk A0 c0 l0 a1 a2 W rl0 ln0 lw0 (by simpa [maxLen] using w1) w2).mono fun e W' ⟨he, hg⟩ => ?_
  subst he
  exact ⟨_, rfl, law_post hW' (by kernel_rfl) (by rw [Try.params3]; exact of_decide_eq_true (by kernel_rfl)) rfl rfl (by kernel_rfl) Try.underlying4 hg⟩

theorem over : Rows.centreOpensRow.holds Try.pinned (OpenSpec.ofChange Rows.centreOpensSpec) :=
  OpenClaim.holds_of_wide 3 Try.f3 rfl rfl rfl rfl rfl rfl rfl ⟨rfl, rfl, rfl, rfl, rfl⟩ rfl rfl rfl rfl rfl (by kernel_rfl) Try.func3 (by kernel_rfl)
    (of_decide_eq_true (by kernel_rfl)) (by unfold Func.isWrapper; first | (rw [if_pos (by decide +kernel)]; kernel_rfl) | (rw [if_neg (by decide +kernel)]; exact ⟨rfl, rfl⟩))
    (fun os started H enc _ => lifted os started H enc)

/-- the statement -/
theorem proved : Rows.CentreOpensSaid := over
#print axioms proved

end Go.Proofs.Ytjgibmaadmkkgaa.centreOpens
