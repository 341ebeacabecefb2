/- Plain: services, in whatever order they are joined. -/
import Derived.Test.YtckkeeicngblgaaSvQ
import Derived.Test.YtckkeeicngblgaaPlainRep
namespace Go.Proofs.Ytckkeeicngblgaa.PlS
open Go.Proofs.Ytckkeeicngblgaa Pl
set_option linter.unusedVariables false
/-! plain -/
theorem kf_self (x : Sv) : Sv.kf x x = 0 := Sv.cf_zero.2 ⟨rfl, rfl⟩
theorem kf_sym (x y : Sv) (h : Sv.kf x y = 0) : Sv.kf y x = 0 := by have := Sv.cf_zero.1 h; exact Sv.cf_zero.2 ⟨this.1.symm, this.2.symm⟩
theorem kf_tr (x y z : Sv) (h : Sv.kf x y = 0) (k : Sv.kf y z = 0) : Sv.kf x z = 0 := by have h1 := Sv.cf_zero.1 h; have h2 := Sv.cf_zero.1 k; exact Sv.cf_zero.2 ⟨h2.1.trans h1.1, h2.2.trans h1.2⟩
theorem newest : Newest Sv.kf Sv.nw := newest_of (c := Sv.cmp) (good_list [fun (g x : Sv) => icmp g.vs x.vs, fun (g x : Sv) => icmp (b2i g.gn) (b2i x.gn), fun (g x : Sv) => scmp g.nm x.nm, fun (g x : Sv) => scmp g.tg x.tg, fun (g x : Sv) => icmp g.ad x.ad, fun (g x : Sv) => icmp g.pt x.pt, fun (g x : Sv) => icmp (b2i g.ps) (b2i x.ps)] (by
    intro c hc
    simp only [List.mem_cons, List.not_mem_nil, or_false] at hc
    rcases hc with rfl | rfl | rfl | rfl | rfl | rfl | rfl
    · exact good_int (fun m : Sv => m.vs)
    · exact good_int (fun m : Sv => b2i m.gn)
    · exact good_str (fun m : Sv => m.nm)
    · exact good_str (fun m : Sv => m.tg)
    · exact good_int (fun m : Sv => m.ad)
    · exact good_int (fun m : Sv => m.pt)
    · exact good_int (fun m : Sv => b2i m.ps))) (by
    intro x y h1 h2
    have hz := nz_zero (l := [icmp x.vs y.vs, icmp (b2i x.gn) (b2i y.gn), scmp x.nm y.nm, scmp x.tg y.tg, icmp x.ad y.ad, icmp x.pt y.pt, icmp (b2i x.ps) (b2i y.ps)]) h2
    have e1 := icmp_zero.1 (hz _ (by simp : icmp x.vs y.vs ∈ _))
    have e2 := icmp_zero.1 (hz _ (by simp : icmp (b2i x.gn) (b2i y.gn) ∈ _))
    have e3 := scmp_zero.1 (hz _ (by simp : scmp x.nm y.nm ∈ _))
    have e4 := scmp_zero.1 (hz _ (by simp : scmp x.tg y.tg ∈ _))
    have e5 := icmp_zero.1 (hz _ (by simp : icmp x.ad y.ad ∈ _))
    have e6 := icmp_zero.1 (hz _ (by simp : icmp x.pt y.pt ∈ _))
    have e7 := icmp_zero.1 (hz _ (by simp : icmp (b2i x.ps) (b2i y.ps) ∈ _))
    have e0 := Sv.cf_zero.1 h1
    obtain ⟨a, b, c, d, e, f, i, j, k⟩ := x
    obtain ⟨a', b', c', d', e', f', i', j', k'⟩ := y
    simp only at e0 e1 e2 e3 e4 e5 e6 e7
    obtain ⟨e0, e0'⟩ := e0
    subst e0 e0' e1 e3 e4 e5 e6
    have q1 : k = k' := by cases k <;> cases k' <;> first | rfl | (simp [b2i] at e2)
    have q2 : i = i' := by cases i <;> cases i' <;> first | rfl | (simp [b2i] at e7)
    rw [q1, q2])
theorem ck_upd {l : List Sv} {g : Sv} (h : ckSv l = 0) (hg : g.err = 0) (hn : (Pl.upd Sv.kf Sv.nw l g).length ≤ 40) : ckSv (Pl.upd Sv.kf Sv.nw l g) = 0 := by
  have hi := ckSv_inv h
  refine ckL_ok hn (fun i hi' => ?_) (sorted_get (Sv.ord.upd Sv.nw hi.2.2 g))
  rcases upd_mem (List.getElem_mem hi') with e | e
  · rw [e]; exact hg
  · obtain ⟨j, hj, e⟩ := List.getElem_of_mem e
    rw [← e]; exact hi.2.1 j hj
theorem ck_join {a b : List Sv} (ha : ckSv a = 0) (hb : ckSv b = 0) (hn : (joinL Sv.kf Sv.nw a b).length ≤ 40) : ckSv (joinL Sv.kf Sv.nw a b) = 0 := by
  have hia := ckSv_inv ha
  have hib := ckSv_inv hb
  refine ckL_ok hn (fun i hi' => ?_) (sorted_get (Sv.ord.join Sv.nw b hia.2.2))
  rcases joinL_mem (List.getElem_mem hi') with e | e
  · obtain ⟨j, hj, e⟩ := List.getElem_of_mem e
    rw [← e]; exact hia.2.1 j hj
  · obtain ⟨j, hj, e⟩ := List.getElem_of_mem e
    rw [← e]; exact hib.2.1 j hj
theorem rep0 {l : List Sv} (h : ckSv l = 0) : Rep Sv.lt Sv.kf Sv.nw l (· ∈ l) := rep_self newest kf_self (ckSv_inv h).2.2
theorem rep1 {l : List Sv} {S : Sv → Prop} (h : Rep Sv.lt Sv.kf Sv.nw l S) (g : Sv) : Rep Sv.lt Sv.kf Sv.nw (Pl.upd Sv.kf Sv.nw l g) (fun x => S x ∨ x = g) := rep_upd Sv.ord newest kf_self kf_sym kf_tr h g
theorem rep2 {l s : List Sv} {S T : Sv → Prop} (h : Rep Sv.lt Sv.kf Sv.nw l S) (k : Rep Sv.lt Sv.kf Sv.nw s T) : Rep Sv.lt Sv.kf Sv.nw (joinL Sv.kf Sv.nw l s) (fun x => S x ∨ T x) := rep_of_join Sv.ord newest kf_self kf_sym kf_tr h k
theorem repU {a b : List Sv} {S : Sv → Prop} (h : Rep Sv.lt Sv.kf Sv.nw a S) (k : Rep Sv.lt Sv.kf Sv.nw b S) : a = b := rep_uniq Sv.ord newest kf_self kf_sym kf_tr h k
theorem join_comm {a b : List Sv} (ha : ckSv a = 0) (hb : ckSv b = 0) : joinL Sv.kf Sv.nw a b = joinL Sv.kf Sv.nw b a :=
  repU (rep2 (rep0 ha) (rep0 hb)) ((rep2 (rep0 hb) (rep0 ha)).congr fun x => Or.comm)
theorem join_assoc {a b c : List Sv} (ha : ckSv a = 0) (hb : ckSv b = 0) (hc : ckSv c = 0) : joinL Sv.kf Sv.nw (joinL Sv.kf Sv.nw a b) c = joinL Sv.kf Sv.nw a (joinL Sv.kf Sv.nw b c) :=
  repU (rep2 (rep2 (rep0 ha) (rep0 hb)) (rep0 hc)) ((rep2 (rep0 ha) (rep2 (rep0 hb) (rep0 hc))).congr fun x => or_assoc.symm)
theorem join_inv {a b : List Sv} (h : (joinS a b).1 = 0) : ckSv a = 0 ∧ ckSv b = 0 ∧ ¬ 40 < (joinL Sv.kf Sv.nw a b).length ∧ joinS a b = (0, joinL Sv.kf Sv.nw a b) := by
  by_cases h1 : ckSv a = 0
  · by_cases h2 : ckSv b = 0
    · by_cases h3 : 40 < (joinL Sv.kf Sv.nw a b).length
      · rw [joinS_many h1 h2 h3] at h; cases h
      · exact ⟨h1, h2, h3, joinS_ok h1 h2 h3⟩
    · rw [show joinS a b = (ckSv b, []) by simp [joinS, h1, h2]] at h; exact absurd h h2
  · rw [show joinS a b = (ckSv a, []) by simp [joinS, h1]] at h; exact absurd h h1
theorem join_mem {a b : List Sv} {x : Sv} (h : x ∈ (joinS a b).2) : x ∈ a ∨ x ∈ b := by
  unfold joinS at h
  split at h
  · cases h
  · split at h
    · cases h
    · split at h
      · cases h
      · exact joinL_mem h
theorem join_len {a b : List Sv} : (joinS a b).2.length ≤ 40 := by
  unfold joinS
  split
  · simp
  · split
    · simp
    · split
      · simp
      · rename_i h; exact Nat.not_lt.1 h
theorem join_sym {a b : List Sv} : (joinS b a).2 = (joinS a b).2 ∧ ((joinS b a).1 == 0) = ((joinS a b).1 == 0) := by
  by_cases ha : ckSv a = 0
  · by_cases hb : ckSv b = 0
    · have e := join_comm ha hb
      have : joinS b a = joinS a b := by
        simp only [joinS, ha, hb, ne_eq, not_true_eq_false, if_false, e]
      rw [this]; exact ⟨rfl, rfl⟩
    · have h1 : joinS b a = (ckSv b, []) := by simp [joinS, hb]
      have h2 : joinS a b = (ckSv b, []) := by simp [joinS, ha, hb]
      rw [h1, h2]; exact ⟨rfl, rfl⟩
  · have h2 : joinS a b = (ckSv a, []) := by simp [joinS, ha]
    by_cases hb : ckSv b = 0
    · have h1 : joinS b a = (ckSv a, []) := by simp [joinS, ha, hb]
      rw [h1, h2]; exact ⟨rfl, rfl⟩
    · have h1 : joinS b a = (ckSv b, []) := by simp [joinS, hb]
      rw [h1, h2]
      exact ⟨rfl, by rw [beq_eq_false_iff_ne.2 ha, beq_eq_false_iff_ne.2 hb]⟩
theorem join_assocS {l o t : List Sv} (h1 : (joinS l o).1 = 0) (h2 : (joinS (joinS l o).2 t).1 = 0) (h3 : (joinS o t).1 = 0) :
    (joinS l (joinS o t).2).1 = 0 ∧ (joinS l (joinS o t).2).2 = (joinS (joinS l o).2 t).2 := by
  obtain ⟨hl, ho, n1, e1⟩ := join_inv h1
  rw [e1] at h2 ⊢
  obtain ⟨hp, ht, n2, e2⟩ := join_inv h2
  obtain ⟨_, _, n3, e3⟩ := join_inv h3
  simp only at hp n2 e2 ⊢
  rw [e2, e3]
  simp only
  have ea := join_assoc hl ho ht
  have e4 := joinS_ok hl (ck_join ho ht (by omega)) (by rw [← ea]; exact n2)
  rw [e4]
  exact ⟨rfl, ea.symm⟩
theorem join_again {a b : List Sv} (h1 : (joinS a b).1 = 0) : (joinS (joinS a b).2 a).1 = 0 ∧ (joinS (joinS a b).2 a).2 = (joinS a b).2 := by
  obtain ⟨ha, hb, n1, e1⟩ := join_inv h1
  rw [e1]
  simp only
  have ea : joinL Sv.kf Sv.nw (joinL Sv.kf Sv.nw a b) a = joinL Sv.kf Sv.nw a b :=
    repU (rep2 (rep2 (rep0 ha) (rep0 hb)) (rep0 ha)) ((rep2 (rep0 ha) (rep0 hb)).congr fun x => ⟨fun h => .inl h, fun h => by rcases h with h | h; exact h; exact .inl h⟩)
  have e4 := joinS_ok (ck_join ha hb (by omega)) ha (by rw [ea]; exact n1)
  rw [e4]
  exact ⟨rfl, ea⟩
end Go.Proofs.Ytckkeeicngblgaa.PlS
