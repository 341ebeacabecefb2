/- Plain: gateways, in whatever order they are joined; routes. -/
import Derived.Test.YtjgibmaadmkkgaaGwP
import Derived.Test.YtjgibmaadmkkgaaPlainRep
namespace Go.Proofs.Ytjgibmaadmkkgaa.PlG
open Go.Proofs.Ytjgibmaadmkkgaa Pl
set_option linter.unusedVariables false
theorem kf_self (x : Gw) : Gw.kf x x = 0 := scmp_eq _
theorem kf_sym (x y : Gw) (h : Gw.kf x y = 0) : Gw.kf y x = 0 := by have := scmp_zero.1 h; exact scmp_zero.2 this.symm
theorem kf_tr (x y z : Gw) (h : Gw.kf x y = 0) (k : Gw.kf y z = 0) : Gw.kf x z = 0 := by have h1 := scmp_zero.1 h; have h2 := scmp_zero.1 k; exact scmp_zero.2 (h2.trans h1)
theorem newest : Newest Gw.kf Gw.nw := newest_of (c := Gw.cmp) (good_list [fun (g x : Gw) => icmp g.v x.v, fun (g x : Gw) => icmp g.a x.a] (by
    intro c hc
    simp only [List.mem_cons, List.not_mem_nil, or_false] at hc
    rcases hc with rfl | rfl
    · exact good_int (fun m : Gw => m.v)
    · exact good_int (fun m : Gw => m.a))) (by
    intro x y h1 h2
    have hz := nz_zero (l := [icmp x.v y.v, icmp x.a y.a]) h2
    have e1 := icmp_zero.1 (hz _ (by simp : icmp x.v y.v ∈ _))
    have e2 := icmp_zero.1 (hz _ (by simp : icmp x.a y.a ∈ _))
    have e0 : y.c = x.c := scmp_zero.1 h1
    obtain ⟨a, b, c⟩ := x
    obtain ⟨a', b', c'⟩ := y
    simp only at e0 e1 e2
    subst e0 e1 e2
    rfl)
theorem ck_upd {l : List Gw} {g : Gw} (h : ckGw l = 0) (hg : g.err = 0) (hn : (Pl.upd Gw.kf Gw.nw l g).length ≤ 6) : ckGw (Pl.upd Gw.kf Gw.nw l g) = 0 := by
  have hi := ckGw_inv h
  refine ckL_ok hn (fun i hi' => ?_) (sorted_get (Gw.ord.upd Gw.nw hi.2.2 g))
  rcases upd_mem (List.getElem_mem hi') with e | e
  · rw [e]; exact hg
  · obtain ⟨j, hj, e⟩ := List.getElem_of_mem e
    rw [← e]; exact hi.2.1 j hj
theorem ck_join {a b : List Gw} (ha : ckGw a = 0) (hb : ckGw b = 0) (hn : (joinL Gw.kf Gw.nw a b).length ≤ 6) : ckGw (joinL Gw.kf Gw.nw a b) = 0 := by
  have hia := ckGw_inv ha
  have hib := ckGw_inv hb
  refine ckL_ok hn (fun i hi' => ?_) (sorted_get (Gw.ord.join Gw.nw b hia.2.2))
  rcases joinL_mem (List.getElem_mem hi') with e | e
  · obtain ⟨j, hj, e⟩ := List.getElem_of_mem e
    rw [← e]; exact hia.2.1 j hj
  · obtain ⟨j, hj, e⟩ := List.getElem_of_mem e
    rw [← e]; exact hib.2.1 j hj
theorem rep0 {l : List Gw} (h : ckGw l = 0) : Rep Gw.lt Gw.kf Gw.nw l (· ∈ l) := rep_self newest kf_self (ckGw_inv h).2.2
theorem rep1 {l : List Gw} {S : Gw → Prop} (h : Rep Gw.lt Gw.kf Gw.nw l S) (g : Gw) : Rep Gw.lt Gw.kf Gw.nw (Pl.upd Gw.kf Gw.nw l g) (fun x => S x ∨ x = g) := rep_upd Gw.ord newest kf_self kf_sym kf_tr h g
theorem rep2 {l s : List Gw} {S T : Gw → Prop} (h : Rep Gw.lt Gw.kf Gw.nw l S) (k : Rep Gw.lt Gw.kf Gw.nw s T) : Rep Gw.lt Gw.kf Gw.nw (joinL Gw.kf Gw.nw l s) (fun x => S x ∨ T x) := rep_of_join Gw.ord newest kf_self kf_sym kf_tr h k
theorem repU {a b : List Gw} {S : Gw → Prop} (h : Rep Gw.lt Gw.kf Gw.nw a S) (k : Rep Gw.lt Gw.kf Gw.nw b S) : a = b := rep_uniq Gw.ord newest kf_self kf_sym kf_tr h k
theorem join_comm {a b : List Gw} (ha : ckGw a = 0) (hb : ckGw b = 0) : joinL Gw.kf Gw.nw a b = joinL Gw.kf Gw.nw b a :=
  repU (rep2 (rep0 ha) (rep0 hb)) ((rep2 (rep0 hb) (rep0 ha)).congr fun x => Or.comm)
theorem join_assoc {a b c : List Gw} (ha : ckGw a = 0) (hb : ckGw b = 0) (hc : ckGw c = 0) : joinL Gw.kf Gw.nw (joinL Gw.kf Gw.nw a b) c = joinL Gw.kf Gw.nw a (joinL Gw.kf Gw.nw b c) :=
  repU (rep2 (rep2 (rep0 ha) (rep0 hb)) (rep0 hc)) ((rep2 (rep0 ha) (rep2 (rep0 hb) (rep0 hc))).congr fun x => or_assoc.symm)
theorem join_inv {a b : List Gw} (h : (joinG a b).1 = 0) : ckGw a = 0 ∧ ckGw b = 0 ∧ ¬ 6 < (joinL Gw.kf Gw.nw a b).length ∧ joinG a b = (0, joinL Gw.kf Gw.nw a b) := by
  by_cases h1 : ckGw a = 0
  · by_cases h2 : ckGw b = 0
    · by_cases h3 : 6 < (joinL Gw.kf Gw.nw a b).length
      · rw [joinG_many h1 h2 h3] at h; cases h
      · exact ⟨h1, h2, h3, joinG_ok h1 h2 h3⟩
    · rw [show joinG a b = (ckGw b, []) by simp [joinG, h1, h2]] at h; exact absurd h h2
  · rw [show joinG a b = (ckGw a, []) by simp [joinG, h1]] at h; exact absurd h h1
theorem join_mem {a b : List Gw} {x : Gw} (h : x ∈ (joinG a b).2) : x ∈ a ∨ x ∈ b := by
  unfold joinG at h
  split at h
  · cases h
  · split at h
    · cases h
    · split at h
      · cases h
      · exact joinL_mem h
theorem join_len {a b : List Gw} : (joinG a b).2.length ≤ 6 := by
  unfold joinG
  split
  · simp
  · split
    · simp
    · split
      · simp
      · rename_i h; exact Nat.not_lt.1 h
theorem join_sym {a b : List Gw} : (joinG b a).2 = (joinG a b).2 ∧ ((joinG b a).1 == 0) = ((joinG a b).1 == 0) := by
  by_cases ha : ckGw a = 0
  · by_cases hb : ckGw b = 0
    · have e := join_comm ha hb
      have : joinG b a = joinG a b := by
        simp only [joinG, ha, hb, ne_eq, not_true_eq_false, if_false, e]
      rw [this]; exact ⟨rfl, rfl⟩
    · have h1 : joinG b a = (ckGw b, []) := by simp [joinG, hb]
      have h2 : joinG a b = (ckGw b, []) := by simp [joinG, ha, hb]
      rw [h1, h2]; exact ⟨rfl, rfl⟩
  · have h2 : joinG a b = (ckGw a, []) := by simp [joinG, ha]
    by_cases hb : ckGw b = 0
    · have h1 : joinG b a = (ckGw a, []) := by simp [joinG, ha, hb]
      rw [h1, h2]; exact ⟨rfl, rfl⟩
    · have h1 : joinG b a = (ckGw b, []) := by simp [joinG, hb]
      rw [h1, h2]
      exact ⟨rfl, by rw [beq_eq_false_iff_ne.2 ha, beq_eq_false_iff_ne.2 hb]⟩
/-- who stands in the table is found by Next -/
theorem next_tab {P : List Gw} {here : ByteArray} (h : ckGw P = 0) {r : Rt} (hr : r ∈ (tabG P here).2) : nextG P here r.c = (0, r.a) ∧ ∃ g ∈ P, r.c = g.c := by
  cases hb : lab here.data.toList with
  | false => rw [tabG_lab h hb] at hr; cases hr
  | true =>
    rw [tabG_ok h hb] at hr
    obtain ⟨g, hg, rfl, hne⟩ := tabS_mem hr
    have hi := ckGw_inv h
    obtain ⟨j, hj, e⟩ := List.getElem_of_mem hg
    have he : g.err = 0 := by rw [← e]; exact hi.2.1 j hj
    have hl := (Gw.err_inv he).1
    have hh := hit_of (Gw.smono hi.2.2 g.c) hg (scmp_eq _)
    have h0 : Gw.kf g (P[low (Gw.cf g.c) P]'(hit_lt hh)) = 0 := hit_zero hh
    have eu : P[low (Gw.cf g.c) P]'(hit_lt hh) = g := sorted_uniq Gw.ord kf_self hi.2.2 (List.getElem_mem _) hg (kf_sym _ _ h0)
    refine ⟨?_, g, hg, rfl⟩
    show nextG P here g.c = (0, g.a)
    rw [nextG_hit h hb hl (by
      cases q : (here.toList == g.c.toList) with
      | false => rfl
      | true => exact absurd (toList_inj (by simpa using q)).symm hne) hh, eu]
end Go.Proofs.Ytjgibmaadmkkgaa.PlG
