/- Plain: members, in whatever order they are heard. -/
import Derived.Test.YtjgibmaadmkkgaaMbP
import Derived.Test.YtjgibmaadmkkgaaPlainRep
namespace Go.Proofs.Ytjgibmaadmkkgaa.PlM
open Go.Proofs.Ytjgibmaadmkkgaa Pl
set_option linter.unusedVariables false
/-! plain -/
theorem kf_self (x : Mb) : Mb.kf x x = 0 := scmp_eq _
theorem kf_sym (x y : Mb) (h : Mb.kf x y = 0) : Mb.kf y x = 0 := by have := scmp_zero.1 h; exact scmp_zero.2 this.symm
theorem kf_tr (x y z : Mb) (h : Mb.kf x y = 0) (k : Mb.kf y z = 0) : Mb.kf x z = 0 := by have h1 := scmp_zero.1 h; have h2 := scmp_zero.1 k; exact scmp_zero.2 (h2.trans h1)
theorem newest : Newest Mb.kf Mb.nw := newest_of (c := Mb.cmp) (good_list [fun (g x : Mb) => icmp g.lf x.lf, fun (g x : Mb) => icmp g.st x.st, fun (g x : Mb) => icmp g.ad x.ad, fun (g x : Mb) => icmp (b2i g.sv) (b2i x.sv)] (by
    intro c hc
    simp only [List.mem_cons, List.not_mem_nil, or_false] at hc
    rcases hc with rfl | rfl | rfl | rfl
    · exact good_int (fun m : Mb => m.lf)
    · exact good_int (fun m : Mb => m.st)
    · exact good_int (fun m : Mb => m.ad)
    · exact good_int (fun m : Mb => b2i m.sv))) (by
    intro x y h1 h2
    have hz := nz_zero (l := [icmp x.lf y.lf, icmp x.st y.st, icmp x.ad y.ad, icmp (b2i x.sv) (b2i y.sv)]) h2
    have e1 := icmp_zero.1 (hz _ (by simp : icmp x.lf y.lf ∈ _))
    have e2 := icmp_zero.1 (hz _ (by simp : icmp x.st y.st ∈ _))
    have e3 := icmp_zero.1 (hz _ (by simp : icmp x.ad y.ad ∈ _))
    have e4 := icmp_zero.1 (hz _ (by simp : icmp (b2i x.sv) (b2i y.sv) ∈ _))
    have e0 : y.n = x.n := scmp_zero.1 h1
    obtain ⟨a, b, c, d, e⟩ := x
    obtain ⟨a', b', c', d', e'⟩ := y
    simp only at e0 e1 e2 e3 e4
    subst e0 e1 e2 e3
    have : e = e' := by cases e <;> cases e' <;> first | rfl | (simp [b2i] at e4)
    rw [this])
theorem ck_upd {l : List Mb} {g : Mb} (h : ckMb l = 0) (hg : g.err = 0) (hn : (Pl.upd Mb.kf Mb.nw l g).length ≤ 20) : ckMb (Pl.upd Mb.kf Mb.nw l g) = 0 := by
  have hi := ckMb_inv h
  refine ckL_ok hn (fun i hi' => ?_) (sorted_get (Mb.ord.upd Mb.nw hi.2.2 g))
  rcases upd_mem (List.getElem_mem hi') with e | e
  · rw [e]; exact hg
  · obtain ⟨j, hj, e⟩ := List.getElem_of_mem e
    rw [← e]; exact hi.2.1 j hj
theorem ck_join {a b : List Mb} (ha : ckMb a = 0) (hb : ckMb b = 0) (hn : (joinL Mb.kf Mb.nw a b).length ≤ 20) : ckMb (joinL Mb.kf Mb.nw a b) = 0 := by
  have hia := ckMb_inv ha
  have hib := ckMb_inv hb
  refine ckL_ok hn (fun i hi' => ?_) (sorted_get (Mb.ord.join Mb.nw b hia.2.2))
  rcases joinL_mem (List.getElem_mem hi') with e | e
  · obtain ⟨j, hj, e⟩ := List.getElem_of_mem e
    rw [← e]; exact hia.2.1 j hj
  · obtain ⟨j, hj, e⟩ := List.getElem_of_mem e
    rw [← e]; exact hib.2.1 j hj
theorem rep0 {l : List Mb} (h : ckMb l = 0) : Rep Mb.lt Mb.kf Mb.nw l (· ∈ l) := rep_self newest kf_self (ckMb_inv h).2.2
theorem rep1 {l : List Mb} {S : Mb → Prop} (h : Rep Mb.lt Mb.kf Mb.nw l S) (g : Mb) : Rep Mb.lt Mb.kf Mb.nw (Pl.upd Mb.kf Mb.nw l g) (fun x => S x ∨ x = g) := rep_upd Mb.ord newest kf_self kf_sym kf_tr h g
theorem rep2 {l s : List Mb} {S T : Mb → Prop} (h : Rep Mb.lt Mb.kf Mb.nw l S) (k : Rep Mb.lt Mb.kf Mb.nw s T) : Rep Mb.lt Mb.kf Mb.nw (joinL Mb.kf Mb.nw l s) (fun x => S x ∨ T x) := rep_of_join Mb.ord newest kf_self kf_sym kf_tr h k
theorem repU {a b : List Mb} {S : Mb → Prop} (h : Rep Mb.lt Mb.kf Mb.nw a S) (k : Rep Mb.lt Mb.kf Mb.nw b S) : a = b := rep_uniq Mb.ord newest kf_self kf_sym kf_tr h k
theorem join_comm {a b : List Mb} (ha : ckMb a = 0) (hb : ckMb b = 0) : joinL Mb.kf Mb.nw a b = joinL Mb.kf Mb.nw b a :=
  repU (rep2 (rep0 ha) (rep0 hb)) ((rep2 (rep0 hb) (rep0 ha)).congr fun x => Or.comm)
theorem join_assoc {a b c : List Mb} (ha : ckMb a = 0) (hb : ckMb b = 0) (hc : ckMb c = 0) : joinL Mb.kf Mb.nw (joinL Mb.kf Mb.nw a b) c = joinL Mb.kf Mb.nw a (joinL Mb.kf Mb.nw b c) :=
  repU (rep2 (rep2 (rep0 ha) (rep0 hb)) (rep0 hc)) ((rep2 (rep0 ha) (rep2 (rep0 hb) (rep0 hc))).congr fun x => or_assoc.symm)
theorem hear_inv {l : List Mb} {m : Mb} (h : (hearM l m).1 = 0) : ckMb l = 0 ∧ m.err = 0 ∧ ¬ 20 < (Pl.upd Mb.kf Mb.nw l m).length ∧ hearM l m = (0, Pl.upd Mb.kf Mb.nw l m, hearF Mb.kf Mb.nw l m) := by
  by_cases h1 : ckMb l = 0
  · by_cases h2 : m.err = 0
    · by_cases h3 : 20 < (Pl.upd Mb.kf Mb.nw l m).length
      · rw [hearM_many h1 h2 h3] at h; cases h
      · exact ⟨h1, h2, h3, hearM_ok h1 h2 h3⟩
    · rw [hearM_one h1 h2] at h; exact absurd h h2
  · rw [hearM_ck h1] at h; exact absurd h h1
theorem hear_mem {l : List Mb} {m x : Mb} (h : x ∈ (hearM l m).2.1) : x = m ∨ x ∈ l := by
  unfold hearM at h
  split at h
  · cases h
  · split at h
    · cases h
    · split at h
      · cases h
      · exact upd_mem h
theorem hear_len {l : List Mb} {m : Mb} : (hearM l m).2.1.length ≤ 20 := by
  unfold hearM
  split
  · simp
  · split
    · simp
    · split
      · simp
      · rename_i h; exact Nat.not_lt.1 h
theorem join_inv {a b : List Mb} (h : (joinM a b).1 = 0) : ckMb a = 0 ∧ ckMb b = 0 ∧ ¬ 20 < (joinL Mb.kf Mb.nw a b).length ∧ joinM a b = (0, joinL Mb.kf Mb.nw a b) := by
  by_cases h1 : ckMb a = 0
  · by_cases h2 : ckMb b = 0
    · by_cases h3 : 20 < (joinL Mb.kf Mb.nw a b).length
      · rw [joinM_many h1 h2 h3] at h; cases h
      · exact ⟨h1, h2, h3, joinM_ok h1 h2 h3⟩
    · rw [show joinM a b = (ckMb b, []) by simp [joinM, h1, h2]] at h; exact absurd h h2
  · rw [show joinM a b = (ckMb a, []) by simp [joinM, h1]] at h; exact absurd h h1
theorem join_mem {a b : List Mb} {x : Mb} (h : x ∈ (joinM a b).2) : x ∈ a ∨ x ∈ b := by
  unfold joinM at h
  split at h
  · cases h
  · split at h
    · cases h
    · split at h
      · cases h
      · exact joinL_mem h
theorem join_len {a b : List Mb} : (joinM a b).2.length ≤ 20 := by
  unfold joinM
  split
  · simp
  · split
    · simp
    · split
      · simp
      · rename_i h; exact Nat.not_lt.1 h
theorem hear_orders {l : List Mb} {a b : Mb} (h1 : (hearM l a).1 = 0) (h2 : (hearM (hearM l a).2.1 b).1 = 0) :
    (hearM l b).1 = 0 ∧ (hearM (hearM l b).2.1 a).1 = 0 ∧ (hearM (hearM l b).2.1 a).2.1 = (hearM (hearM l a).2.1 b).2.1 ∧
      (hearM (hearM (hearM l a).2.1 b).2.1 a).1 = 0 ∧ (hearM (hearM (hearM l a).2.1 b).2.1 a).2.2 = false ∧ (hearM (hearM (hearM l a).2.1 b).2.1 a).2.1 = (hearM (hearM l a).2.1 b).2.1 := by
  obtain ⟨hl, ha, n1, e1⟩ := hear_inv h1
  rw [e1] at h2 ⊢
  obtain ⟨hx1, hb, n2, e2⟩ := hear_inv h2
  simp only at hx1 n2 e2 ⊢
  rw [e2]
  simp only
  have r0 := rep0 hl
  have exy : Pl.upd Mb.kf Mb.nw (Pl.upd Mb.kf Mb.nw l b) a = Pl.upd Mb.kf Mb.nw (Pl.upd Mb.kf Mb.nw l a) b :=
    repU (rep1 (rep1 r0 b) a) ((rep1 (rep1 r0 a) b).congr fun x => by constructor <;> (rintro ((h | h) | h) <;> simp [h]))
  have exx : Pl.upd Mb.kf Mb.nw (Pl.upd Mb.kf Mb.nw (Pl.upd Mb.kf Mb.nw l a) b) a = Pl.upd Mb.kf Mb.nw (Pl.upd Mb.kf Mb.nw l a) b :=
    repU (rep1 (rep1 (rep1 r0 a) b) a) ((rep1 (rep1 r0 a) b).congr fun x => ⟨fun h => .inl h, fun h => by rcases h with h | h; exact h; exact .inl (.inr h)⟩)
  have l1 := (upd_len (cf := Mb.kf) (l := Pl.upd Mb.kf Mb.nw l b) Mb.nw a).1
  rw [exy] at l1
  have n3 : ¬ 20 < (Pl.upd Mb.kf Mb.nw l b).length := by omega
  have e3 := hearM_ok hl hb n3
  have c3 : ckMb (Pl.upd Mb.kf Mb.nw l b) = 0 := ck_upd hl hb (by omega)
  have e4 := hearM_ok c3 ha (by rw [exy]; exact n2)
  have c4 : ckMb (Pl.upd Mb.kf Mb.nw (Pl.upd Mb.kf Mb.nw l a) b) = 0 := ck_upd hx1 hb (by omega)
  have e5 := hearM_ok c4 ha (by rw [exx]; exact n2)
  have e3' : (hearM l b).2.1 = Pl.upd Mb.kf Mb.nw l b := by rw [e3]
  exact ⟨by rw [e3], by rw [e3', e4], by rw [e3', e4]; exact exy, by rw [e5], by rw [e5]; exact hear_old newest kf_self Mb.ord (ckMb_inv c4).2.2 exx, by rw [e5]; exact exx⟩
theorem join_sym {a b : List Mb} : (joinM b a).2 = (joinM a b).2 ∧ ((joinM b a).1 == 0) = ((joinM a b).1 == 0) := by
  by_cases ha : ckMb a = 0
  · by_cases hb : ckMb b = 0
    · have e := join_comm ha hb
      have : joinM b a = joinM a b := by
        simp only [joinM, ha, hb, ne_eq, not_true_eq_false, if_false, e]
      rw [this]; exact ⟨rfl, rfl⟩
    · have h1 : joinM b a = (ckMb b, []) := by simp [joinM, hb]
      have h2 : joinM a b = (ckMb b, []) := by simp [joinM, ha, hb]
      rw [h1, h2]; exact ⟨rfl, rfl⟩
  · have h2 : joinM a b = (ckMb a, []) := by simp [joinM, ha]
    by_cases hb : ckMb b = 0
    · have h1 : joinM b a = (ckMb a, []) := by simp [joinM, ha, hb]
      rw [h1, h2]; exact ⟨rfl, rfl⟩
    · have h1 : joinM b a = (ckMb b, []) := by simp [joinM, hb]
      rw [h1, h2]
      exact ⟨rfl, by rw [beq_eq_false_iff_ne.2 ha, beq_eq_false_iff_ne.2 hb]⟩
theorem join_assocM {l o t : List Mb} (h1 : (joinM l o).1 = 0) (h2 : (joinM (joinM l o).2 t).1 = 0) (h3 : (joinM o t).1 = 0) :
    (joinM l (joinM o t).2).1 = 0 ∧ (joinM l (joinM o t).2).2 = (joinM (joinM l o).2 t).2 := by
  obtain ⟨hl, ho, n1, e1⟩ := join_inv h1
  rw [e1] at h2 ⊢
  obtain ⟨hp, ht, n2, e2⟩ := join_inv h2
  obtain ⟨_, _, n3, e3⟩ := join_inv h3
  simp only at hp n2 e2 ⊢
  rw [e2, e3]
  simp only
  have ea := join_assoc hl ho ht
  have e4 := joinM_ok hl (ck_join ho ht (by omega)) (by rw [← ea]; exact n2)
  rw [e4]
  exact ⟨rfl, ea.symm⟩
theorem hear_e {l : List Mb} {m : Mb} (h : (hearM l m).1 ≠ 0) : (hearM l m).2.1 = [] ∧ (hearM l m).2.2 = false := by
  unfold hearM at h ⊢
  split
  · exact ⟨rfl, rfl⟩
  · rename_i h1
    rw [if_neg h1] at h
    split
    · exact ⟨rfl, rfl⟩
    · rename_i h2
      rw [if_neg h2] at h
      split
      · exact ⟨rfl, rfl⟩
      · rename_i h3; rw [if_neg h3] at h; exact absurd rfl h
theorem hear_same {l : List Mb} {m : Mb} (hl : ckMb l = 0) : (hearF Mb.kf Mb.nw l m == sameL Mb.same (Pl.upd Mb.kf Mb.nw l m) l) = false := by
  have hs := (ckMb_inv hl).2.2
  cases hF : hearF Mb.kf Mb.nw l m with
  | true =>
    cases hS : sameL Mb.same (Pl.upd Mb.kf Mb.nw l m) l with
    | false => rfl
    | true =>
      have e := (sameL_iff (fun x y => Mb.same_iff (g := x) (h := y))).1 hS
      rw [hear_old newest kf_self Mb.ord hs e] at hF; cases hF
  | false =>
    have e : Pl.upd Mb.kf Mb.nw l m = l := by
      rcases Bool.eq_false_or_eq_true (hit (Mb.kf m) l) with q | q
      · rw [hearF_hit q] at hF; exact upd_older q hF
      · rw [hearF_miss q] at hF; cases hF
    rw [e, sameL_refl (fun x => Mb.same_iff.2 rfl)]; rfl
/-- whoever was known is known, or somebody newer is -/
theorem grows_at {l : List Mb} {m : Mb} (hl : ckMb l = 0) {y : Mb} (hy : y ∈ l) : ∃ h : hit (Mb.cf y.n) (Pl.upd Mb.kf Mb.nw l m) = true,
    (Pl.upd Mb.kf Mb.nw l m)[low (Mb.cf y.n) (Pl.upd Mb.kf Mb.nw l m)]'(hit_lt h) = y ∨ Mb.nw ((Pl.upd Mb.kf Mb.nw l m)[low (Mb.cf y.n) (Pl.upd Mb.kf Mb.nw l m)]'(hit_lt h)) y = true := by
  have hs := Mb.ord.upd Mb.nw (ckMb_inv hl).2.2 m
  obtain ⟨z, hz, h1, h2⟩ := (rep1 (rep0 hl) m).top y (.inl hy)
  have hzc : Mb.cf y.n z = 0 := kf_sym z y h1
  have hh := hit_of (Mb.smono hs y.n) hz hzc
  refine ⟨hh, ?_⟩
  have h0 : Mb.kf y ((Pl.upd Mb.kf Mb.nw l m)[low (Mb.cf y.n) (Pl.upd Mb.kf Mb.nw l m)]'(hit_lt hh)) = 0 := hit_zero hh
  have e : (Pl.upd Mb.kf Mb.nw l m)[low (Mb.cf y.n) (Pl.upd Mb.kf Mb.nw l m)]'(hit_lt hh) = z := sorted_uniq Mb.ord kf_self hs (List.getElem_mem _) hz (kf_tr _ _ _ (kf_sym _ _ h0) hzc)
  rw [e]
  rcases Bool.eq_false_or_eq_true (Mb.nw z y) with q | q
  · exact .inr q
  · exact .inl (newest.tot z y h1 q h2)
theorem ref_inv {l : List Mb} {me : ByteArray} (h1 : (refM l me).1 = 0) (h2 : (refM l me).2.2 = true) : ∃ h : hit (Mb.cf me) l = true, (refM l me).2.1 = l.set (low (Mb.cf me) l) (l[low (Mb.cf me) l]'(hit_lt h)).up := by
  by_cases hc : ckMb l = 0
  · cases hb : lab me.data.toList with
    | false => rw [refM_lab hc hb] at h2; cases h2
    | true =>
      rw [refM_ok hc hb] at h1 h2 ⊢
      rcases Bool.eq_false_or_eq_true (hit (Mb.cf me) l) with q | q
      · refine ⟨q, ?_⟩
        rw [refR_hit q] at h2 ⊢
        split at h2
        · cases h2
        · rename_i g1
          rw [if_neg g1]
          split at h2
          · cases h2
          · rename_i g2
            rw [if_neg g2]
            split at h2
            · cases h2
            · rename_i g3; rw [if_neg g3]
      · rw [refR_miss q] at h2; cases h2
  · rw [refM_ck hc] at h2; cases h2
theorem up_sorted {l : List Mb} {me : ByteArray} (hs : sorted Mb.lt l = true) (h : hit (Mb.cf me) l = true) : sorted Mb.lt (l.set (low (Mb.cf me) l) (l[low (Mb.cf me) l]'(hit_lt h)).up) = true := by
  rw [← Mb.up_upd h]; exact Mb.ord.upd Mb.nw hs _
theorem up_cf {l : List Mb} {me : ByteArray} (h : hit (Mb.cf me) l = true) : Mb.cf me (l[low (Mb.cf me) l]'(hit_lt h)).up = 0 := hit_zero h
end Go.Proofs.Ytjgibmaadmkkgaa.PlM
