/- Plain: what was registered is found; what was dropped is not. -/
import Derived.Test.YtckkeeicngblgaaSvO
import Derived.Test.YtckkeeicngblgaaSvQ
namespace Go.Proofs.Ytckkeeicngblgaa.PlS
open Go.Proofs.Ytckkeeicngblgaa Pl
set_option linter.unusedVariables false
def pass (s : Sv) : Sv := ⟨s.nd, s.id, s.nm, s.tg, s.ad, s.pt, true, s.vs, s.gn⟩
theorem err_at {t : Sv} {v : Int} (h : t.err = 0) (h1 : 1 ≤ v) (h2 : v ≤ 1000000) : (t.at_ v).err = 0 := by
  have hv : wi v 1 1000000 = true := wi_iff.2 ⟨h1, h2⟩
  have ht := wi_iff.2 (Sv.err_inv h)
  unfold Sv.err at h ⊢
  simp only [Sv.at_, hv, if_true]
  simp only [ht, if_true] at h
  exact h
theorem err_away {t : Sv} (h : t.err = 0) : t.away.err = 0 := h
theorem err_labs {t : Sv} (h : t.err = 0) : lab t.nd.data.toList = true ∧ lab t.id.data.toList = true ∧ lab t.nm.data.toList = true ∧ mayb t.tg = true := by
  unfold Sv.err at h
  split at h
  · rename_i h1
    split at h
    · rename_i h2
      split at h
      · rename_i h3
        split at h
        · rename_i h4; exact ⟨h1, h2, h3, h4⟩
        · omega
      · omega
    · omega
  · omega
theorem regM_e {l : List Sv} {s : Sv} (h : (regM l s).1 ≠ 0) : (regM l s).2 = [] := by
  unfold regM at h ⊢
  split
  · rfl
  · rename_i h1
    rw [if_neg h1] at h
    unfold regR at h ⊢
    split
    · rfl
    · rename_i h2
      rw [if_neg h2] at h
      rcases Bool.eq_false_or_eq_true (hit (Sv.kf s.fresh) l) with q | q
      · rw [setR_hit q] at h ⊢
        split at h
        · rename_i h3; rw [if_pos h3]
        · exact absurd rfl h
      · rw [setR_miss q] at h ⊢
        split at h
        · rename_i h3; rw [if_pos h3]
        · exact absurd rfl h
theorem put_mem_self {l : List Sv} {t : Sv} : t ∈ putAt (Sv.kf t) t l := by
  unfold putAt
  split
  · rename_i h; exact List.mem_set (hit_lt h) t
  · simp
theorem put_mem_other {l : List Sv} {t y : Sv} (hs : sorted Sv.lt l = true) (hy : y ∈ l) (h : Sv.kf t y ≠ 0) : y ∈ putAt (Sv.kf t) t l := by
  unfold putAt
  split
  · rename_i hh
    obtain ⟨i, hi, rfl⟩ := List.getElem_of_mem hy
    have hne : i ≠ low (Sv.kf t) l := fun e => h (by subst e; exact hit_zero hh)
    rw [List.mem_iff_getElem]
    exact ⟨i, by simpa using hi, by rw [List.getElem_set_ne (fun e => hne e.symm)]⟩
  · have e := List.take_append_drop (low (Sv.kf t) l) l
    rw [← e, List.mem_append] at hy
    simp only [List.mem_append, List.mem_cons, List.not_mem_nil, or_false]
    rcases hy with h | h
    · exact .inl (.inl h)
    · exact .inr h
/-- what Register leaves, if it does -/
theorem reg_inv {l : List Sv} {s : Sv} (h : (regM l (pass s)).1 = 0) : ∃ (v : Int), 1 ≤ v ∧ v ≤ 1000000 ∧ ckSv l = 0 ∧ ((pass s).fresh.at_ v).err = 0 ∧ ckSv (putAt (Sv.kf ((pass s).fresh.at_ v)) ((pass s).fresh.at_ v) l) = 0 ∧
    regM l (pass s) = (0, putAt (Sv.kf ((pass s).fresh.at_ v)) ((pass s).fresh.at_ v) l) := by
  by_cases hc : ckSv l = 0
  · have hi := ckSv_inv hc
    by_cases hf : (pass s).fresh.err = 0
    · have e0 : regM l (pass s) = setR l (pass s).fresh := by simp [regM, regR, hc, hf]
      rw [e0] at h ⊢
      have fin : ∀ v, 1 ≤ v → v ≤ 1000000 → setR l (pass s).fresh = (0, putAt (Sv.kf ((pass s).fresh.at_ v)) ((pass s).fresh.at_ v) l) → (putAt (Sv.kf ((pass s).fresh.at_ v)) ((pass s).fresh.at_ v) l).length ≤ 40 → ∃ (v : Int), 1 ≤ v ∧ v ≤ 1000000 ∧ ckSv l = 0 ∧ ((pass s).fresh.at_ v).err = 0 ∧ ckSv (putAt (Sv.kf ((pass s).fresh.at_ v)) ((pass s).fresh.at_ v) l) = 0 ∧
          setR l (pass s).fresh = (0, putAt (Sv.kf ((pass s).fresh.at_ v)) ((pass s).fresh.at_ v) l) := fun v h1 h2 h3 h4 => by
        have he := err_at hf h1 h2
        refine ⟨v, h1, h2, hc, he, ckL_ok h4 (fun i hi' => ?_) (sorted_get (Sv.ord.put hi.2.2 _)), h3⟩
        rcases putAt_mem (List.getElem_mem hi') with e | e
        · rw [e]; exact he
        · obtain ⟨j, hj, e⟩ := List.getElem_of_mem e
          rw [← e]; exact hi.2.1 j hj
      rcases Bool.eq_false_or_eq_true (hit (Sv.kf (pass s).fresh) l) with q | q
      · have hR := setR_hit q
        have hb := Sv.err_inv (hi.2.1 _ (hit_lt q))
        split at hR
        · rw [hR] at h; cases h
        · rename_i hv
          refine fin ((l[low (Sv.kf (pass s).fresh) l]'(hit_lt q)).vs + 1) (by omega) (by omega) (hR.trans ?_) ?_
          · show (0, _) = (0, putAt (Sv.kf (pass s).fresh) _ l)
            unfold putAt; rw [if_pos q]
          · show (putAt (Sv.kf (pass s).fresh) _ l).length ≤ 40
            unfold putAt; rw [if_pos q, List.length_set]; exact hi.1
      · have hR := setR_miss q
        split at hR
        · rw [hR] at h; cases h
        · rename_i hv
          have hl := low_le (cf := Sv.kf (pass s).fresh) l
          refine fin 1 (by omega) (by omega) (hR.trans ?_) ?_
          · show (0, _) = (0, putAt (Sv.kf (pass s).fresh) _ l)
            unfold putAt; rw [if_neg (by rw [q]; decide)]
          · show (putAt (Sv.kf (pass s).fresh) _ l).length ≤ 40
            unfold putAt; rw [if_neg (by rw [q]; decide)]
            simp; have := hi.1; omega
    · rw [show regM l (pass s) = ((pass s).fresh.err, []) by simp [regM, regR, hc, hf]] at h
      exact absurd h hf
  · rw [show regM l (pass s) = (ckSv l, []) by simp [regM, hc]] at h
    exact absurd h hc
theorem filter_sorted {l : List Sv} (h : sorted Sv.lt l = true) (p : Sv → Bool) : sorted Sv.lt (l.filter p) = true := by
  rw [sorted_iff Sv.lt_trans] at h ⊢
  exact h.filter p
/-- where a member of a sorted list is found -/
theorem found_at {l : List Sv} (hs : sorted Sv.lt l = true) {t : Sv} (ht : t ∈ l) : ∃ h : hit (Sv.cf t.nd t.id) l = true, l[low (Sv.cf t.nd t.id) l]'(hit_lt h) = t := by
  have hh := hit_of (Sv.smono hs t.nd t.id) ht (kf_self t)
  refine ⟨hh, ?_⟩
  have h0 : Sv.kf t (l[low (Sv.cf t.nd t.id) l]'(hit_lt hh)) = 0 := hit_zero hh
  exact sorted_uniq Sv.ord kf_self hs (List.getElem_mem _) ht (kf_sym _ _ h0)
theorem find_ok {l : List Sv} {nm tg : ByteArray} (hc : ckSv l = 0) (h1 : lab nm.data.toList = true) (h2 : mayb tg = true) : findM l nm tg = (0, findR l nm tg) := by simp [findM, hc, h1, h2]
theorem sought_self {t : Sv} (h1 : t.ps = true) (h2 : t.gn = false) : Sv.sought t.nm t.tg t = true := by unfold Sv.sought; simp [h1, h2]
theorem sought_gone {nm tg : ByteArray} {t : Sv} (h : t.gn = true) : Sv.sought nm tg t = false := by unfold Sv.sought; simp [h]
/-- what Drop leaves of what is there, if it does -/
theorem drop_there {X : List Sv} {t : Sv} (hc : ckSv X = 0) (ht : t ∈ X) (he : t.err = 0) (hg : t.gn = false) :
    dropM X t.nd t.id = if 1000000 < t.vs + 1 then (3, []) else (0, X.set (low (Sv.cf t.nd t.id) X) (t.away.at_ (t.vs + 1))) := by
  have hs := (ckSv_inv hc).2.2
  obtain ⟨hh, hx⟩ := found_at hs ht
  obtain ⟨l1, l2, _, _⟩ := err_labs he
  rw [show dropM X t.nd t.id = dropR X t.nd t.id by simp [dropM, hc], dropR_hit l1 l2 hh]
  simp only [hx, hg]
  have hk : Sv.kf t.away = Sv.cf t.nd t.id := rfl
  have hh' : hit (Sv.kf t.away) X = true := hh
  rw [if_neg (by decide), setR_hit hh']
  have hx' : X[low (Sv.kf t.away) X]'(hit_lt hh') = t := hx
  rw [hx']
  rfl
/-- who hears of what was dropped -/
theorem drop_join {X : List Sv} {t u : Sv} (hc : ckSv X = 0) (ht : t ∈ X) (hk : Sv.kf t u = 0) (hn : Sv.nw u t = true) (hu : u.err = 0) :
    ckSv (X.set (low (Sv.cf t.nd t.id) X) u) = 0 ∧ joinL Sv.kf Sv.nw X (X.set (low (Sv.cf t.nd t.id) X) u) = X.set (low (Sv.cf t.nd t.id) X) u := by
  have hi := ckSv_inv hc
  obtain ⟨hh, hx⟩ := found_at hi.2.2 ht
  obtain ⟨e1, e2⟩ := Sv.cf_zero.1 hk
  have ekf : Sv.kf u = Sv.cf t.nd t.id := by unfold Sv.kf; rw [e1, e2]
  have hput : X.set (low (Sv.cf t.nd t.id) X) u = putAt (Sv.kf u) u X := by unfold putAt; rw [ekf, if_pos hh]
  have hsY : sorted Sv.lt (X.set (low (Sv.cf t.nd t.id) X) u) = true := by rw [hput]; exact Sv.ord.put hi.2.2 u
  have hcY : ckSv (X.set (low (Sv.cf t.nd t.id) X) u) = 0 := by
    refine ckL_ok (by rw [List.length_set]; exact hi.1) (fun i hi' => ?_) (sorted_get hsY)
    have hm := List.getElem_mem hi'
    rcases List.mem_or_eq_of_mem_set hm with e | e
    · obtain ⟨j, hj, e⟩ := List.getElem_of_mem e
      rw [← e]; exact hi.2.1 j hj
    · rw [e]; exact hu
  refine ⟨hcY, ?_⟩
  have huY : u ∈ X.set (low (Sv.cf t.nd t.id) X) u := List.mem_set (hit_lt hh) u
  have hback : Sv.nw t u = false := by
    cases hb : Sv.nw t u with
    | false => rfl
    | true => have := newest.trans _ _ _ hn hb; rw [newest.irr] at this; cases this
  refine repU (rep2 (rep0 hc) (rep0 hcY)) ⟨hsY, fun x hx => .inr hx, fun y hy => ?_⟩
  rcases hy with hy | hy
  · by_cases hyt : Sv.kf u y = 0
    · have : y = t := sorted_uniq Sv.ord kf_self hi.2.2 hy ht (kf_tr _ _ _ (kf_sym _ _ hyt) (kf_sym _ _ hk))
      subst this
      exact ⟨u, huY, hyt, hback⟩
    · exact ⟨y, by rw [hput]; exact put_mem_other hi.2.2 hy hyt, kf_self y, newest.irr y⟩
  · exact ⟨y, hy, kf_self y, newest.irr y⟩
theorem nw_away {t : Sv} : Sv.nw (t.away.at_ (t.vs + 1)) t = true := by
  unfold Sv.nw Sv.cmp
  have h : ((t.away.at_ (t.vs + 1)).vs != t.vs) = true := by
    have : (t.away.at_ (t.vs + 1)).vs ≠ t.vs := by show t.vs + 1 ≠ t.vs; omega
    simpa using this
  rw [nz_ne h]
  exact decide_eq_true (by show t.vs < t.vs + 1; omega)
end Go.Proofs.Ytckkeeicngblgaa.PlS
