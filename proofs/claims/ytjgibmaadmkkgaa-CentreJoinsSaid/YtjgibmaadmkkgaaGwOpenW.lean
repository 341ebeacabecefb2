/- The walk of centre.Open. -/
import Derived.Test.YtjgibmaadmkkgaaGwCheck
import Derived.Test.YtjgibmaadmkkgaaFindGw
import Derived.Test.YtjgibmaadmkkgaaLibGw
import Derived.Test.YtjgibmaadmkkgaaGwOpenPlain
import Derived.Deep.RegionHeld3
namespace Go.Proofs.Ytjgibmaadmkkgaa
open Go.RowKit Pl
set_option linter.unusedVariables false

/-- what is handed back: what is wrong, and a list in memory of the call's own -/
def Got {α : Type} (enc : α → List Value) (sz : Nat) (T : TypeId) (r : Int × List α) (w : World) (e : Ending) (w' : World) : Prop :=
  ∃ A' c', e = .returned (.tuple #[.slice A' r.2.length c', .int .i64 r.1]) ∧ w'.ownsRow w.heap.size T sz (.slice A' r.2.length c') r.2.length (r.2.flatMap enc) ∧ Below w.heap.size w w'
theorem Got.nil {α : Type} {enc : α → List Value} {sz : Nat} {T : TypeId} {r : Int × List α} {w w' : World} {e : Ending} {k : Int} (hr : r = (k, [])) (he : e = .returned (.tuple #[.slice none 0 0, .int .i64 k])) (hb : Below w.heap.size w w') : Got enc sz T r w e w' := by
  subst hr
  exact ⟨none, 0, he, World.ownsRow_nil _ _ _ _, hb⟩

/-- the check of one list, as 'check(l)' hands it over -/
theorem ccheck1_any (A : Option Addr) (c : Nat) (l : List Gw) (g : Nat) (w : World) (hg : Blk w g 22 #[.slice A l.length c]) (hl : RL Gw.enc 3 w A l) (hn : l.length ≤ 9223372036854775807) (hw : ∀ g ∈ l, g.c.size ≤ 9223372036854775807) :
    Calls Try.prog 69 #[.slice (some ⟨g, 0, none⟩) 1 1] w fun e w' => e = .returned (.int .i64 (ckGw l)) ∧ Below w.heap.size w w' := by
  refine (ccheck_any (some ⟨g, 0, none⟩) 1 [(A, c, l)] w ?_ (by simp) ?_).mono ?_
  · intro _
    refine ⟨g, 0, rfl, hg.lt, fun i hi j u hu => ?_⟩
    obtain rfl : i = 0 := by simpa using hi
    rw [hg.cell]
    cases j with
    | zero => simpa [encS] using hu
    | succ j => simp [encS] at hu
  · intro x hx
    obtain rfl : x = (A, c, l) := by simpa using hx
    exact ⟨hl, hn, hw⟩
  · rintro e w' ⟨rfl, hb⟩
    refine ⟨ret_int ?_, hb⟩
    by_cases h : ckGw l = 0 <;> simp [firstErr, ckSGw, h]
theorem ccheck2_any (A A' : Option Addr) (c c' : Nat) (l l' : List Gw) (g : Nat) (w : World) (hg : Blk w g 22 #[.slice A l.length c, .slice A' l'.length c']) (hl : RL Gw.enc 3 w A l) (hn : l.length ≤ 9223372036854775807) (hw : ∀ g ∈ l, g.c.size ≤ 9223372036854775807)
    (hl' : RL Gw.enc 3 w A' l') (hn' : l'.length ≤ 9223372036854775807) (hw' : ∀ g ∈ l', g.c.size ≤ 9223372036854775807) :
    Calls Try.prog 69 #[.slice (some ⟨g, 0, none⟩) 2 2] w fun e w' => e = .returned (.int .i64 (if ckGw l = 0 then ckGw l' else ckGw l)) ∧ Below w.heap.size w w' := by
  refine (ccheck_any (some ⟨g, 0, none⟩) 2 [(A, c, l), (A', c', l')] w ?_ (by simp) ?_).mono ?_
  · intro _
    refine ⟨g, 0, rfl, hg.lt, fun i hi j u hu => ?_⟩
    rw [hg.cell]
    simp only [List.length_cons, List.length_nil] at hi
    rcases (by omega : i = 0 ∨ i = 1) with rfl | rfl
    · cases j with
      | zero => simpa [encS] using hu
      | succ j => simp [encS] at hu
    · cases j with
      | zero => simpa [encS] using hu
      | succ j => simp [encS] at hu
  · intro x hx
    simp only [List.mem_cons, List.not_mem_nil, or_false] at hx
    rcases hx with rfl | rfl
    · exact ⟨hl, hn, hw⟩
    · exact ⟨hl', hn', hw'⟩
  · rintro e w' ⟨rfl, hb⟩
    refine ⟨ret_int ?_, hb⟩
    by_cases h : ckGw l = 0 <;> by_cases h' : ckGw l' = 0 <;> simp [firstErr, ckSGw, h, h']

theorem flat_one {α : Type} {enc : α → List Value} (h : ∀ x, ∀ u ∈ enc x, u.oneCell' = true) (l : List α) : ∀ v ∈ l.flatMap enc, v.oneCell' = true := fun v hv => by
  obtain ⟨g, _, hg⟩ := List.mem_flatMap.1 hv
  exact h g v hg
theorem ins_len {α : Type} {l : List α} {k : Nat} {x : α} (hk : k ≤ l.length) : (l.take k ++ [x] ++ l.drop k).length = l.length + 1 := by simp; omega
theorem ins_flat {α : Type} {enc : α → List Value} {sz : Nat} (hs : ∀ x, (enc x).length = sz) {l : List α} {k : Nat} {x : α} : (l.take k ++ [x] ++ l.drop k).flatMap enc = (l.flatMap enc).take (k * sz) ++ enc x ++ (l.flatMap enc).drop (k * sz) := by
  have h1 : (l.flatMap enc).take (k * sz) = (l.take k).flatMap enc := by
    conv => lhs; rw [← List.take_append_drop k l, List.flatMap_append]
    rcases Nat.le_total k l.length with h | h
    · rw [List.take_append_of_le_length (by rw [flat_len hs, List.length_take]; exact Nat.le_of_eq (by rw [Nat.min_eq_left h]))]
      exact List.take_of_length_le (by rw [flat_len hs, List.length_take, Nat.min_eq_left h]; exact Nat.le_refl _)
    · rw [List.drop_of_length_le h, List.flatMap_nil, List.append_nil]
      exact List.take_of_length_le (by rw [flat_len hs, List.length_take]; exact Nat.mul_le_mul_right _ (by omega))
  have h2 : (l.flatMap enc).drop (k * sz) = (l.drop k).flatMap enc := by
    have e : l.flatMap enc = (l.flatMap enc).take (k * sz) ++ (l.drop k).flatMap enc := by
      rw [h1, ← List.flatMap_append, List.take_append_drop]
    rcases Nat.le_total k l.length with h | h
    · conv => lhs; rw [e]
      have hl : ((l.flatMap enc).take (k * sz)).length = k * sz := by
        rw [List.length_take, flat_len hs]
        exact Nat.min_eq_left (Nat.mul_le_mul_right _ h)
      conv => lhs; arg 1; rw [← hl]
      rw [List.drop_left]
    · rw [List.drop_of_length_le h, List.flatMap_nil]
      exact List.drop_of_length_le (by rw [flat_len hs]; exact Nat.mul_le_mul_right _ h)
  rw [h1, h2]
  simp
/-- Clone of a list -/
theorem clnGwL (A : Option Addr) (c : Nat) (l : List Gw) (w : World) (hl : RL Gw.enc 3 w A l) (hn : l.length ≤ 1000) :
    Calls Try.prog 71 #[.slice A l.length c] w (ClnGw w.heap.size l.length (l.flatMap Gw.enc) w) := by
  have hone : ∀ v ∈ l.flatMap Gw.enc, v.oneCell' = true := fun v hv => by
    obtain ⟨g, _, hg⟩ := List.mem_flatMap.1 hv
    exact Gw.enc_one g v hg
  rcases Nat.eq_zero_or_pos l.length with h0 | h0
  · obtain rfl := List.eq_nil_of_length_eq_zero h0
    exact clnGw_any A 0 c [] w (fun _ => rfl) (by omega) rfl (fun ad _ j u hu => by simp at hu) (fun v hv => by simp at hv)
  · obtain ⟨b, off, rfl, hb, hc⟩ := hl h0
    refine clnGw_any _ l.length c _ w (fun h => by cases h) hn (flat_len Gw.enc_len l) (fun ad had j u hu => ?_) hone
    injection had with had
    subst had
    have e : (⟨b, off, none⟩ : Addr).add j = ⟨b, off + j, none⟩ := by unfold Addr.add; split <;> simp_all
    rw [e]
    have hj : j < l.length * 3 := by
      have := (List.getElem?_eq_some_iff.1 hu).1
      rwa [flat_len Gw.enc_len] at this
    have hd : j / 3 < l.length := by omega
    have e2 : j = j / 3 * 3 + j % 3 := by omega
    rw [e2, flat_get Gw.enc_len (j / 3) (j % 3) hd (by omega)] at hu
    have := hc (j / 3) hd (j % 3) u hu
    rw [show off + j = off + j / 3 * 3 + j % 3 by omega]
    exact this

set_option maxHeartbeats 2000000 in
set_option maxRecDepth 100000 in
theorem Open_any (A : Option Addr) (c : Nat) (l : List Gw) (name : ByteArray) (a : Int) (w : World) (hl : RL Gw.enc 3 w A l) (hn : l.length ≤ 9223372036854775807) (hw : ∀ g ∈ l, g.c.size ≤ 9223372036854775807) (hname : name.size ≤ 9223372036854775807) :
    Calls Try.prog 21 #[.slice A l.length c, .string name, .int .i64 a] w (Got Gw.enc 3 37 (openG l name a) w) := by
  have hB0 : Below w.heap.size w (w.alloc (.cells #[.slice A l.length c] 22)) := (by repeat (first | exact Below.refl _ _ | assumption | refine Below.drew ?_ | refine below_drewN ?_ _ | refine Below.alloc ?_ (by simp; try omega) _ | refine Below.setCell ?_ (by simp; try omega) _))
  have HB0 := hid hB0
  have HL := hid hl
  have HW := hid hw
  clear hB0 hl hw
  go_enter Try.func21, Try.ntmps21
  go_wp2_with fail
  refine (ccheck1_any A c l w.heap.size _ (Blk.new _ _ _) (HL.out.below HB0.out (Nat.le_refl _)) hn HW.out).mono ?_
  rintro e w1 ⟨rfl, hb⟩
  have HB1 := hid (HB0.out.trans (hb.mono HB0.out.size))
  clear hb HB0
  by_cases hck : ckGw l = 0
  · have HCK := hid hck
    rw [hck]
    clear hck
    have HI := hid (ckGw_inv HCK.out)
    have hl6 := HI.out.1
    have hz1 := HB1.out.size
    go_wp2_with fail
    refine (cone_any (Gw.mk name a 1) _ hname).mono ?_
    rintro e w2 ⟨rfl, hb⟩
    have hB2 := hb
    have hz2 := hb.size
    simp at hz2
    have BX := hid ((Blk.new_ w1 37 #[.string name, .int .i64 a, .int .i64 1] rfl).below' hb)
    have HB2 := hid ((HB1.out.alloc hz1 _).trans (hb.mono (by simp; omega)))
    clear hb hB2
    by_cases hone : (Gw.mk name a 1).err = 0
    · rw [hone]
      have HONE := hid hone
      clear hone
      go_wp2_with fail
      refine (clnGwL A c l _ (HL.out.below HB2.out (Nat.le_refl _)) (by omega)).mono ?_
      rintro e w3 ⟨A3, c3, rfl, hown, hb⟩
      have hz3 := hb.size
      have BX3 := hid (BX.out.below' hb)
      have HB3 := hid (HB2.out.trans (hb.mono HB2.out.size))
      have HOWN := hid hown
      have HL3 := hid (RL.of_own hown Gw.enc_len)
      clear hb hown BX
      go_wp2_with fail
      refine (findGw_any A3 c3 l name _ HL3.out (by omega) (ckGw_smono HCK.out name).mono).mono ?_
      rintro e w4 ⟨rfl, hb⟩
      have hz4 := hb.size
      have BX4 := hid (BX3.out.below' hb)
      have HB4 := hid (HB3.out.trans (hb.mono HB3.out.size))
      have HOWN4 := hid (own_below HOWN.out hb)
      have HL4 := hid (HL3.out.below' hb)
      clear hb BX3 HOWN HL3
      obtain ⟨lo, hlo⟩ : ∃ lo, low (Gw.cf name) l = lo := ⟨_, rfl⟩
      have hlole : lo ≤ l.length := by rw [← hlo]; exact low_le _
      rw [hlo]
      rcases Bool.eq_false_or_eq_true (hit (Gw.cf name) l) with hh | hh
      · have hlt : lo < l.length := by rw [← hlo]; exact hit_lt hh
        have HX3 := hid (fun h => openG_max (a := a) HCK.out HONE.out hh hlo hlt h)
        have HX4 := hid (fun h => openG_set (a := a) HCK.out HONE.out hh hlo hlt h)
        have hv3 := Gw.err_inv (HI.out.2.1 lo hlt)
        have hv4 := wi_iff.1 hv3.2.2
        rw [hh]
        clear hh hlo hv3
        obtain ⟨g3, hA3⟩ := own_block HOWN4.out (by omega)
        subst hA3
        obtain ⟨b4, off4, hAe, hb4, hc⟩ := HL4.out.at_ hlt
        injection hAe with hAe
        injection hAe with e1 e2
        subst e1 e2
        have f2 : w4.cell? ⟨g3, 0 + lo * 3 + 2, none⟩ = some (.int .i64 (l[lo]).v) := hc 2 _ rfl
        rw [Nat.zero_add] at f2
        have hi0 : (0 : Int) ≤ (lo : Int) := by omega
        have hi1 : (lo : Int) < (l.length : Int) := by omega
        have f0 : w4.cell? ⟨g3, lo * 3, none⟩ = some (.string (l[lo]).c) := by simpa using hc 0 _ rfl
        have f1 : w4.cell? ⟨g3, lo * 3 + 1, none⟩ = some (.int .i64 (l[lo]).a) := by simpa using hc 1 _ rfl
        have hgb : w2.heap.size ≤ g3 := own_base HOWN4.out g3 rfl
        have hne1 : ¬ g3 = w1.heap.size := by omega
        have hne2 : ¬ w1.heap.size = g3 := by omega
        clear hc HL4
        have cx : ∀ i, w4.cell? ⟨w1.heap.size, i, none⟩ = (#[.string name, .int .i64 a, .int .i64 1])[i]? := BX4.out.cell
        have cf : ∀ i, w4.frozen? ⟨w1.heap.size, i, none⟩ = false := BX4.out.frozen
        have of := fun j => HOWN4.out.frozenAt j
        by_cases hv : (l[lo]).v = 1000000
        · have HX := hid (HX3.out hv)
          have hvb : ((l[lo]).v == 1000000) = true := by simpa using hv
          clear HX3 HX4 hv
          go_wp2
          go_ret2
          exact Got.nil HX.out rfl HB4.out
        · have HX := hid (HX4.out hv)
          have hvb : ((l[lo]).v == 1000000) = false := by simpa using hv
          clear HX3 HX4 hv
          go_wp2
          go_ret2
          have hw2 : w.heap.size ≤ w2.heap.size := HB2.out.size
          refine ⟨some ⟨g3, 0, none⟩, c3, ?_, ?_, ?_⟩
          · rw [HX.out]
            simp only [List.length_set]
            rfl
          · rw [HX.out]
            simp only [List.length_set]
            have h1 := own_far (own_mono HOWN4.out hw2) (p := ⟨w1.heap.size, 2, none⟩) (fun e => hne1 (by injection e)) (.int .i64 ((l[lo]).v + 1))
            have h := ((((h1.stored (lo * 3) (.string name)).1.stored (lo * 3 + 1) (.int .i64 a)).1).stored (lo * 3 + 2) (.int .i64 ((l[lo]).v + 1))).1
            rw [← flat_set Gw.enc_len (by decide) hlt]
            exact h
          · exact (((HB4.out.setCell (p := ⟨w1.heap.size, 2, none⟩) hz1 _).setCell (p := ⟨g3, lo * 3, none⟩) (by show w.heap.size ≤ g3; omega) _).setCell (p := ⟨g3, lo * 3 + 1, none⟩) (by show w.heap.size ≤ g3; omega) _).setCell (p := ⟨g3, lo * 3 + 2, none⟩) (by show w.heap.size ≤ g3; omega) _
      · have HX2 := hid (fun h => openG_many (a := a) HCK.out HONE.out hh h)
        have HX5 := hid (fun h => openG_new (a := a) HCK.out HONE.out hh h hlo)
        rw [hh]
        clear hh hlo
        by_cases h6 : l.length = 6
        · have HX := hid (HX2.out h6)
          have h6' : ((l.length : Int) == 6) = true := by simp; omega
          clear HX2 HX5 h6
          go_wp2
          go_ret2
          exact Got.nil HX.out rfl HB4.out
        · have HX := hid (HX5.out h6)
          have h6' : ((l.length : Int) == 6) = false := by simp; omega
          clear HX2 HX5 h6
          have cx : ∀ i, w4.cell? ⟨w1.heap.size, i, none⟩ = (#[.string name, .int .i64 a, .int .i64 1])[i]? := BX4.out.cell
          have HOWN5 := hid (own_mono (HOWN4.out.alloc (.cells #[.string name, .int .i64 a, .int .i64 1] 37)) (show w.heap.size ≤ w2.heap.size from HB2.out.size))
          have hnb : (Value.slice A3 l.length c3).ownBlock ≠ some w4.heap.size := fun e => by have := HOWN4.out.lt _ e; omega
          have HNB := hid hnb
          clear hnb
          go_wp2_with fail
          refine (insGw_any w.heap.size A3 l.length c3 lo _ w4.heap.size [.string name, .int .i64 a, .int .i64 1] _ HOWN5.out (by have := HB4.out.size; simp; omega) hlole (by omega) (Blk.new w4 _ _) HNB.out rfl (Gw.enc_one (Gw.mk name a 1)) (flat_one Gw.enc_one l)).mono ?_
          rintro e w5 ⟨A5, c5, rfl, hown5, hb⟩
          have hB5 := (HB4.out.alloc HB4.out.size _).trans hb
          go_wp2
          go_ret2
          refine ⟨A5, c5, ?_, ?_, hB5⟩
          · rw [HX.out]
            simp only [ins_len hlole]
            rfl
          · rw [HX.out]
            simp only [ins_len hlole]
            rw [ins_flat Gw.enc_len]
            exact hown5
    · have HX := hid (openG_one (a := a) HCK.out hone)
      have hne : ((Gw.mk name a 1).err == 0) = false := by simpa using hone
      clear hone
      generalize (Gw.mk name a 1).err = k at *
      go_wp2
      go_ret2
      exact Got.nil HX.out rfl HB2.out
  · have HX := hid (openG_ck (name := name) (a := a) hck)
    have hne : (ckGw l == 0) = false := by simpa using hck
    clear hck
    generalize ckGw l = k at *
    go_wp2
    go_ret2
    exact Got.nil HX.out rfl HB1.out
end Go.Proofs.Ytjgibmaadmkkgaa
