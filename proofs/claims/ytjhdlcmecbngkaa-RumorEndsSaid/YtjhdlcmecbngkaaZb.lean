/- Texts of this claim, joined. -/
import Derived.Shelf.SlSortCmp.NoneTotal
import Derived.Shelf.SlGeneric
import Derived.Test.YtjhdlcmecbngkaaProg
import Derived.Test.YtjhdlcmecbngkaaZa
/- Plain: rumors. No program in sight (but for the order of texts). -/
namespace Go.Proofs.Ytjhdlcmecbngkaa.Pl
set_option linter.unusedVariables false
def Ru.err (r : Ru) : Int := r.m.err
def Ru.bad (r : Ru) : Bool := !(wi r.t 0 100)
def Ru.nm (r : Ru) : ByteArray := r.m.n
def Ru.is (n : ByteArray) (r : Ru) : Bool := r.m.n.toList == n.toList
open Classical in
/-- what is wrong with rumors -/
noncomputable def ckRu (l : List Ru) : Int := if 20 < l.length then 2 else if firstErr Ru.err l ≠ 0 then firstErr Ru.err l else if l.any Ru.bad = true then 3 else if (l.map Ru.nm).Nodup then 0 else 6
theorem ckRu_many {l : List Ru} (h : 20 < l.length) : ckRu l = 2 := by simp [ckRu, h]
theorem ckRu_each {l : List Ru} (h : ¬ 20 < l.length) (h2 : firstErr Ru.err l ≠ 0) : ckRu l = firstErr Ru.err l := by simp [ckRu, h, h2]
theorem ckRu_rng {l : List Ru} (h : ¬ 20 < l.length) (h2 : firstErr Ru.err l = 0) (h3 : l.any Ru.bad = true) : ckRu l = 3 := by simp only [ckRu, h, h2, h3, if_false, if_true, ne_eq, not_true]
theorem ckRu_two {l : List Ru} (h : ¬ 20 < l.length) (h2 : firstErr Ru.err l = 0) (h3 : l.any Ru.bad = false) (h4 : ¬ (l.map Ru.nm).Nodup) : ckRu l = 6 := by simp only [ckRu, h, h2, h3, h4, if_false, ne_eq, not_true, Bool.false_eq_true]
theorem ckRu_ok {l : List Ru} (h : ¬ 20 < l.length) (h2 : firstErr Ru.err l = 0) (h3 : l.any Ru.bad = false) (h4 : (l.map Ru.nm).Nodup) : ckRu l = 0 := by simp only [ckRu, h, h2, h3, h4, if_false, if_true, ne_eq, not_true, Bool.false_eq_true]
structure RuOk (l : List Ru) : Prop where
  len : l.length ≤ 20
  each : firstErr Ru.err l = 0
  rng : ∀ i, (h : i < l.length) → 0 ≤ l[i].t ∧ l[i].t ≤ 100
  nd : (l.map Ru.nm).Nodup
theorem Ru.bad_iff (r : Ru) : r.bad = false ↔ 0 ≤ r.t ∧ r.t ≤ 100 := by simp [Ru.bad, wi]
theorem ckRu_inv {l : List Ru} (h : ckRu l = 0) : RuOk l := by
  unfold ckRu at h
  split at h
  · omega
  · split at h
    · rename_i h2; exact absurd h h2
    · split at h
      · omega
      · split at h
        · rename_i h1 h2 h3 h4
          refine ⟨by omega, Classical.byContradiction h2, fun i hi => ?_, h4⟩
          rw [← Ru.bad_iff]
          cases q : l[i].bad with
          | false => rfl
          | true => exact absurd (List.any_eq_true.2 ⟨_, List.getElem_mem hi, q⟩) h3
        · omega
/-! ### Put -/
def putFin (l : List Ru) (m : Mb) : Int × List Ru := if l.length = 20 then (2, []) else (0, l ++ [⟨m, 0⟩])
def putR (l : List Ru) (m : Mb) : Int × List Ru := match l[(at_ (Ru.is m.n) l).toNat]? with
  | some r => if 0 ≤ at_ (Ru.is m.n) l then (if Mb.cmp m r.m ≤ 0 then (0, l) else putFin (l.eraseIdx (at_ (Ru.is m.n) l).toNat) m) else putFin l m
  | none => putFin l m
noncomputable def putRu (l : List Ru) (m : Mb) : Int × List Ru := if ckRu l ≠ 0 then (ckRu l, []) else if m.err ≠ 0 then (m.err, []) else putR l m
theorem putRu_ck {l : List Ru} {m : Mb} (h : ckRu l ≠ 0) : putRu l m = (ckRu l, []) := by simp [putRu, h]
theorem putRu_one {l : List Ru} {m : Mb} (h : ckRu l = 0) (h1 : m.err ≠ 0) : putRu l m = (m.err, []) := by simp [putRu, h, h1]
theorem putRu_ok {l : List Ru} {m : Mb} (h : ckRu l = 0) (h1 : m.err = 0) : putRu l m = putR l m := by simp [putRu, h, h1]
theorem putR_no {l : List Ru} {m : Mb} (h : ¬ 0 ≤ at_ (Ru.is m.n) l) : putR l m = putFin l m := by
  unfold putR
  split
  · rw [if_neg h]
  · rfl
theorem putR_old {l : List Ru} {m : Mb} {r : Ru} (h : 0 ≤ at_ (Ru.is m.n) l) (hr : l[(at_ (Ru.is m.n) l).toNat]? = some r) (hc : Mb.cmp m r.m ≤ 0) : putR l m = (0, l) := by
  unfold putR; rw [hr]; simp only [if_pos h, if_pos hc]
theorem putR_new {l : List Ru} {m : Mb} {r : Ru} (h : 0 ≤ at_ (Ru.is m.n) l) (hr : l[(at_ (Ru.is m.n) l).toNat]? = some r) (hc : ¬ Mb.cmp m r.m ≤ 0) : putR l m = putFin (l.eraseIdx (at_ (Ru.is m.n) l).toNat) m := by
  unfold putR; rw [hr]; simp only [if_pos h, if_neg hc]
theorem Ru.is_iff {n : ByteArray} {r : Ru} : Ru.is n r = true ↔ r.nm = n := by
  unfold Ru.is Ru.nm
  constructor
  · intro h; exact toList_inj (by simpa using h)
  · intro h; rw [h]; simp
theorem nd_inj {α : Type} {l : List α} (h : l.Nodup) {i j : Nat} (hi : i < l.length) (hj : j < l.length) (e : l[i] = l[j]) : i = j := by
  have := List.pairwise_iff_getElem.1 h
  rcases (by omega : i < j ∨ i = j ∨ j < i) with q | q | q
  · exact absurd e (this i j hi hj q)
  · exact q
  · exact absurd e.symm (this j i hj hi q)
theorem nd_get {l : List Ru} (h : (l.map Ru.nm).Nodup) {i j : Nat} (hi : i < l.length) (hj : j < l.length) (e : l[i].nm = l[j].nm) : i = j :=
  nd_inj h (by simpa using hi) (by simpa using hj) (by simpa using e)
/-- those of other names -/
def others (n : ByteArray) (l : List Ru) : List Ru := l.filter fun r => !(Ru.is n r)
theorem others_none {n : ByteArray} {l : List Ru} (h : ∀ r ∈ l, Ru.is n r = false) : others n l = l := by
  unfold others; rw [List.filter_eq_self]; intro r hr; simp [h r hr]
theorem others_erase {n : ByteArray} : ∀ {l : List Ru} (i : Nat) (hi : i < l.length), (l.map Ru.nm).Nodup → Ru.is n l[i] = true → others n l = l.eraseIdx i
  | r :: l, 0, hi, hn, h => by
    have h : Ru.is n r = true := h
    have : ∀ x ∈ l, Ru.is n x = false := fun x hx => by
      cases q : Ru.is n x with
      | false => rfl
      | true =>
        have e1 := Ru.is_iff.1 h
        have e2 := Ru.is_iff.1 q
        rw [List.map_cons, List.nodup_cons] at hn
        exact absurd (List.mem_map.2 ⟨x, hx, e2.trans e1.symm⟩) hn.1
    have e := others_none this
    unfold others at e ⊢
    simp only [List.filter_cons, h, Bool.not_true, Bool.false_eq_true, if_false, List.eraseIdx_cons_zero]
    exact e
  | r :: l, i + 1, hi, hn, h => by
    rw [List.map_cons, List.nodup_cons] at hn
    have hi' : i < l.length := by simpa using hi
    have h : Ru.is n l[i] = true := h
    have hr : Ru.is n r = false := by
      cases q : Ru.is n r with
      | false => rfl
      | true => exact absurd (List.mem_map.2 ⟨l[i], List.getElem_mem _, (Ru.is_iff.1 h).trans (Ru.is_iff.1 q).symm⟩) hn.1
    have e := others_erase i hi' hn.2 h
    unfold others at e ⊢
    simp only [List.filter_cons, hr, Bool.not_false, if_true, List.eraseIdx_cons_succ]
    rw [e]
theorem others_take {n : ByteArray} {l : List Ru} {k : Nat} (h : k < l.length) : others n (l.take (k + 1)) = if Ru.is n l[k] = true then others n (l.take k) else others n (l.take k) ++ [l[k]] := by
  unfold others
  rw [List.take_add_one, List.getElem?_eq_getElem h, List.filter_append]
  cases q : Ru.is n l[k] <;> simp [q]
/-! ### Take -/
def tt (l : List Ru) (i : Nat) : Int := (l[i]?.map Ru.t).getD 0
theorem tt_at {l : List Ru} {i : Nat} (h : i < l.length) : tt l i = l[i].t := by simp [tt, h]
def befB (l : List Ru) (i k : Nat) : Bool := decide (tt l i < tt l k) || (tt l i == tt l k && decide (k < i))
theorem befB_iff {l : List Ru} {i k : Nat} : befB l i k = true ↔ tt l i < tt l k ∨ (tt l i = tt l k ∧ k < i) := by simp [befB]
structure Ordd (l : List Ru) (o : List Nat) : Prop where
  len : o.length = l.length
  nd : o.Nodup
  mem : ∀ i, i ∈ o ↔ i < l.length
  pw : ∀ (i j : Nat) (hi : i < o.length) (hj : j < o.length), i < j → befB l o[i] o[j] = true
/-- told once more, those of these places -/
def bumpS (l : List Ru) (s : List Nat) : List Ru := l.mapIdx fun i r => if i ∈ s then ⟨r.m, r.t + 1⟩ else r
theorem bumpS_len (l : List Ru) (s : List Nat) : (bumpS l s).length = l.length := by simp [bumpS]
theorem bumpS_nil (l : List Ru) : bumpS l [] = l := by
  apply List.ext_getElem?; intro i; simp [bumpS]
theorem bumpS_at {l : List Ru} {s : List Nat} {i : Nat} (h : i < l.length) : (bumpS l s)[i]'(by rw [bumpS_len]; exact h) = if i ∈ s then ⟨l[i].m, l[i].t + 1⟩ else l[i] := by simp [bumpS]
theorem bumpS_set {l : List Ru} {s : List Nat} {i : Nat} (h : i < l.length) : (bumpS l s).set i ⟨l[i].m, l[i].t + 1⟩ = bumpS l (s ++ [i]) := by
  apply List.ext_getElem
  · simp [bumpS]
  · intro j h1 h2
    have hj : j < l.length := by simpa [bumpS] using h1
    rw [List.getElem_set, bumpS_at hj, bumpS_at hj]
    by_cases e : i = j
    · subst e; simp
    · have e' : ¬ j = i := fun q => e q.symm
      simp [e, e']
def toldL (l : List Ru) (s : List Nat) : List Mb := s.filterMap fun i => l[i]?.map Ru.m
theorem toldL_snoc {l : List Ru} {s : List Nat} {i : Nat} (h : i < l.length) : toldL l (s ++ [i]) = toldL l s ++ [l[i].m] := by simp [toldL, List.filterMap_append, h]
def restL (l : List Ru) (times : Int) : List Ru := l.filter fun r => decide (r.t < times)
def takeR (l : List Ru) (o : List Nat) (most times : Int) : List Mb × List Ru :=
  (toldL l (o.take (min most.toNat l.length)), restL (bumpS l (o.take (min most.toNat l.length))) times)
/-- what is told first: the first of the order that was not yet taken -/
theorem first_of {l : List Ru} {o : List Nat} (h : Ordd l o) {k b : Nat} (hk : k < o.length) (hb : b < l.length) (hn : b ∉ o.take k)
    (hall : ∀ j, j < l.length → j ∉ o.take k → j = b ∨ befB l b j = true) : b = o[k] := by
  obtain ⟨m, hm, rfl⟩ := List.mem_iff_getElem.1 ((h.mem b).2 hb)
  have hmk : k ≤ m := Classical.byContradiction fun q => hn (by
    rw [List.mem_iff_getElem]
    exact ⟨m, by simp; omega, by simp⟩)
  have hok : o[k] < l.length := (h.mem _).1 (List.getElem_mem hk)
  have hnk : o[k] ∉ o.take k := fun q => by
    obtain ⟨j, hj, e⟩ := List.mem_iff_getElem.1 q
    simp only [List.getElem_take] at e
    have hj' : j < k := by simp at hj; omega
    have := nd_inj h.nd (by omega) hk e
    omega
  rcases hall _ hok hnk with e | e
  · exact e.symm
  · rcases (by omega : k = m ∨ k < m) with q | q
    · subst q; rfl
    · have := h.pw k m hk hm q
      rw [befB_iff] at e this
      omega
theorem take_snoc {o : List Nat} {k : Nat} (h : k < o.length) : o.take (k + 1) = o.take k ++ [o[k]] := by
  rw [List.take_add_one, List.getElem?_eq_getElem h]; rfl
theorem not_took {o : List Nat} (hn : o.Nodup) {k : Nat} (hk : k < o.length) : o[k] ∉ o.take k := fun q => by
  obtain ⟨j, hj, e⟩ := List.mem_iff_getElem.1 q
  simp only [List.getElem_take] at e
  have hj' : j < k := by simp at hj; omega
  have := nd_inj hn (by omega) hk e
  omega
/-- thrice the bits of a number -/
def timesL (n : Int) : Int := if n < 1 then 0 else if n < 2 then 3 else if n < 4 then 6 else if n < 8 then 9 else if n < 16 then 12 else 15
end Go.Proofs.Ytjhdlcmecbngkaa.Pl
/- Contracts of the functions of members: one by itself, two of one name. -/
namespace Go.Proofs.Ytjhdlcmecbngkaa
open Go.RowKit Pl
set_option linter.unusedVariables false
theorem mwithin_fun (n a b : Int) : Fun Try.prog 78 [.c (.v (.int .i64 n)), .c (.v (.int .i64 a)), .c (.v (.int .i64 b))] [.c (.v (.bool (wi n a b)))] := by
  refine fun_x ck_member_within rfl ?_
  ((conv => whnf); repeat' ((first | refine ⟨rfl, ?_⟩ | refine ⟨_, row_map (by assumption), ?_⟩ | refine ⟨_, (by exact some_rfl), ?_⟩ | refine ⟨_, wrap_ok (by omega) (by omega), ?_⟩ | refine ⟨_, wrap_u64 (by omega) (by omega), ?_⟩ | refine ⟨by decide, _, fdiv_half (by omega), ?_⟩ | (intro gg)); (conv => whnf)))
  (refine bIf_of (fun h => ?_) (fun h => ?_) <;> rw [h])
  · ((conv => whnf); repeat' ((first | refine ⟨rfl, ?_⟩ | refine ⟨_, row_map (by assumption), ?_⟩ | refine ⟨_, (by exact some_rfl), ?_⟩ | refine ⟨_, wrap_ok (by omega) (by omega), ?_⟩ | refine ⟨_, wrap_u64 (by omega) (by omega), ?_⟩ | refine ⟨by decide, _, fdiv_half (by omega), ?_⟩ | (intro gg)); (conv => whnf)))
    rw [wi_t h]
    (exact ⟨[], by (repeat' (first | exact ArgsOk.nil _ | exact argsOk_cells (by assumption) | refine ArgsOk.same (by first | exact cl_b rfl | exact cl_list | exact cl_nil | exact cl_one | exact cl_ll1 | exact cl_ll2 | exact cl_clo (by assumption)) ?_ | refine ArgsOk.nilsl _ ?_ | refine ArgsOk.nilown _ _ (by decide) ?_ | refine ArgsOk.borp rfl rfl rfl (cl_row rfl) (by decide) ?_ | refine ArgsOk.borc (by %caps) ?_ | refine ArgsOk.bor rfl rfl (deref_flat (by first | exact cl_rs rfl | exact cl_rows | exact cl_setB rfl | exact cl_setG (cl_setB rfl) rfl | exact cl_appB cl_rows (cl_rs rfl) | exact cl_rl1 | exact cl_rl2)) (by decide) ?_ | refine give' rfl (by first | exact cl_rs rfl | exact cl_rows | exact cl_setB rfl | exact cl_setG (cl_setB rfl) rfl | exact cl_appB cl_rows (cl_rs rfl) | exact cl_rl1 | exact cl_rl2) (by decide) (by decide) ?_))⟩)
  · ((conv => whnf); repeat' ((first | refine ⟨rfl, ?_⟩ | refine ⟨_, row_map (by assumption), ?_⟩ | refine ⟨_, (by exact some_rfl), ?_⟩ | refine ⟨_, wrap_ok (by omega) (by omega), ?_⟩ | refine ⟨_, wrap_u64 (by omega) (by omega), ?_⟩ | refine ⟨by decide, _, fdiv_half (by omega), ?_⟩ | (intro gg)); (conv => whnf)))
    rw [wi_f h]
    (exact ⟨[], by (repeat' (first | exact ArgsOk.nil _ | exact argsOk_cells (by assumption) | refine ArgsOk.same (by first | exact cl_b rfl | exact cl_list | exact cl_nil | exact cl_one | exact cl_ll1 | exact cl_ll2 | exact cl_clo (by assumption)) ?_ | refine ArgsOk.nilsl _ ?_ | refine ArgsOk.nilown _ _ (by decide) ?_ | refine ArgsOk.borp rfl rfl rfl (cl_row rfl) (by decide) ?_ | refine ArgsOk.borc (by %caps) ?_ | refine ArgsOk.bor rfl rfl (deref_flat (by first | exact cl_rs rfl | exact cl_rows | exact cl_setB rfl | exact cl_setG (cl_setB rfl) rfl | exact cl_appB cl_rows (cl_rs rfl) | exact cl_rl1 | exact cl_rl2)) (by decide) ?_ | refine give' rfl (by first | exact cl_rs rfl | exact cl_rows | exact cl_setB rfl | exact cl_setG (cl_setB rfl) rfl | exact cl_appB cl_rows (cl_rs rfl) | exact cl_rl1 | exact cl_rl2) (by decide) (by decide) ?_))⟩)
theorem mone_fun (m : Mb) (hm : m.ok) : Fun Try.prog 63 [.c (.agg m.row)] [.c (.v (.int .i64 m.err))] := by
  refine fun_x ck_member_one rfl ?_
  ((conv => whnf); repeat' ((first | refine ⟨rfl, ?_⟩ | refine ⟨_, row_map (by assumption), ?_⟩ | refine ⟨_, (by exact some_rfl), ?_⟩ | refine ⟨_, wrap_ok (by omega) (by omega), ?_⟩ | refine ⟨_, wrap_u64 (by omega) (by omega), ?_⟩ | refine ⟨by decide, _, fdiv_half (by omega), ?_⟩ | (intro gg)); (conv => whnf)))
  (refine .inl ⟨_, _, false, [], (by (repeat' (first | exact ArgsOk.nil _ | exact argsOk_cells (by assumption) | refine ArgsOk.same (by first | exact cl_b rfl | exact cl_list | exact cl_nil | exact cl_one | exact cl_ll1 | exact cl_ll2 | exact cl_clo (by assumption)) ?_ | refine ArgsOk.nilsl _ ?_ | refine ArgsOk.nilown _ _ (by decide) ?_ | refine ArgsOk.borp rfl rfl rfl (cl_row rfl) (by decide) ?_ | refine ArgsOk.borc (by (repeat' (first | exact cap_n | refine cap_p rfl rfl rfl (by first | exact cl_row rfl | exact cl_r1 rfl | exact cl_r1b) ?_ ?_ | refine cap_m rfl (by decide) ?_ | refine cap_c (by first | exact cl_b rfl | exact cl_list | exact cl_nil | exact cl_one | exact cl_ll1 | exact cl_ll2 | exact cl_clo (by assumption)) ?_ | decide))) ?_ | refine ArgsOk.bor rfl rfl (deref_flat (by first | exact cl_rs rfl | exact cl_rows | exact cl_setB rfl | exact cl_setG (cl_setB rfl) rfl | exact cl_appB cl_rows (cl_rs rfl) | exact cl_rl1 | exact cl_rl2)) (by decide) ?_ | refine give' rfl (by first | exact cl_rs rfl | exact cl_rows | exact cl_setB rfl | exact cl_setG (cl_setB rfl) rfl | exact cl_appB cl_rows (cl_rs rfl) | exact cl_rl1 | exact cl_rl2) (by decide) (by decide) ?_))), label_fun _ hm, nobor, (by exact Nat.le_of_ble_eq_true rfl), ?_⟩)
  ((conv => whnf); repeat' ((first | refine ⟨rfl, ?_⟩ | refine ⟨_, row_map (by assumption), ?_⟩ | refine ⟨_, (by exact some_rfl), ?_⟩ | refine ⟨_, wrap_ok (by omega) (by omega), ?_⟩ | refine ⟨_, wrap_u64 (by omega) (by omega), ?_⟩ | refine ⟨by decide, _, fdiv_half (by omega), ?_⟩ | (intro gg)); (conv => whnf)))
  (refine bIf_of (fun h1 => ?_) (fun h1 => ?_) <;> rw [h1])
  · ((conv => whnf); repeat' ((first | refine ⟨rfl, ?_⟩ | refine ⟨_, row_map (by assumption), ?_⟩ | refine ⟨_, (by exact some_rfl), ?_⟩ | refine ⟨_, wrap_ok (by omega) (by omega), ?_⟩ | refine ⟨_, wrap_u64 (by omega) (by omega), ?_⟩ | refine ⟨by decide, _, fdiv_half (by omega), ?_⟩ | (intro gg)); (conv => whnf)))
    (rw [show m.err = 1 from by (first | (simp_all ; done) | (unfold Mb.err; simp_all))]; (exact ⟨[], by (repeat' (first | exact ArgsOk.nil _ | exact argsOk_cells (by assumption) | refine ArgsOk.same (by first | exact cl_b rfl | exact cl_list | exact cl_nil | exact cl_one | exact cl_ll1 | exact cl_ll2 | exact cl_clo (by assumption)) ?_ | refine ArgsOk.nilsl _ ?_ | refine ArgsOk.nilown _ _ (by decide) ?_ | refine ArgsOk.borp rfl rfl rfl (cl_row rfl) (by decide) ?_ | refine ArgsOk.borc (by %caps) ?_ | refine ArgsOk.bor rfl rfl (deref_flat (by first | exact cl_rs rfl | exact cl_rows | exact cl_setB rfl | exact cl_setG (cl_setB rfl) rfl | exact cl_appB cl_rows (cl_rs rfl) | exact cl_rl1 | exact cl_rl2)) (by decide) ?_ | refine give' rfl (by first | exact cl_rs rfl | exact cl_rows | exact cl_setB rfl | exact cl_setG (cl_setB rfl) rfl | exact cl_appB cl_rows (cl_rs rfl) | exact cl_rl1 | exact cl_rl2) (by decide) (by decide) ?_))⟩))
  · ((conv => whnf); repeat' ((first | refine ⟨rfl, ?_⟩ | refine ⟨_, row_map (by assumption), ?_⟩ | refine ⟨_, (by exact some_rfl), ?_⟩ | refine ⟨_, wrap_ok (by omega) (by omega), ?_⟩ | refine ⟨_, wrap_u64 (by omega) (by omega), ?_⟩ | refine ⟨by decide, _, fdiv_half (by omega), ?_⟩ | (intro gg)); (conv => whnf)))
    (refine .inl ⟨_, _, false, [], (by (repeat' (first | exact ArgsOk.nil _ | exact argsOk_cells (by assumption) | refine ArgsOk.same (by first | exact cl_b rfl | exact cl_list | exact cl_nil | exact cl_one | exact cl_ll1 | exact cl_ll2 | exact cl_clo (by assumption)) ?_ | refine ArgsOk.nilsl _ ?_ | refine ArgsOk.nilown _ _ (by decide) ?_ | refine ArgsOk.borp rfl rfl rfl (cl_row rfl) (by decide) ?_ | refine ArgsOk.borc (by (repeat' (first | exact cap_n | refine cap_p rfl rfl rfl (by first | exact cl_row rfl | exact cl_r1 rfl | exact cl_r1b) ?_ ?_ | refine cap_m rfl (by decide) ?_ | refine cap_c (by first | exact cl_b rfl | exact cl_list | exact cl_nil | exact cl_one | exact cl_ll1 | exact cl_ll2 | exact cl_clo (by assumption)) ?_ | decide))) ?_ | refine ArgsOk.bor rfl rfl (deref_flat (by first | exact cl_rs rfl | exact cl_rows | exact cl_setB rfl | exact cl_setG (cl_setB rfl) rfl | exact cl_appB cl_rows (cl_rs rfl) | exact cl_rl1 | exact cl_rl2)) (by decide) ?_ | refine give' rfl (by first | exact cl_rs rfl | exact cl_rows | exact cl_setB rfl | exact cl_setG (cl_setB rfl) rfl | exact cl_appB cl_rows (cl_rs rfl) | exact cl_rl1 | exact cl_rl2) (by decide) (by decide) ?_))), mwithin_fun _ _ _, nobor, (by exact Nat.le_of_ble_eq_true rfl), ?_⟩)
    ((conv => whnf); repeat' ((first | refine ⟨rfl, ?_⟩ | refine ⟨_, row_map (by assumption), ?_⟩ | refine ⟨_, (by exact some_rfl), ?_⟩ | refine ⟨_, wrap_ok (by omega) (by omega), ?_⟩ | refine ⟨_, wrap_u64 (by omega) (by omega), ?_⟩ | refine ⟨by decide, _, fdiv_half (by omega), ?_⟩ | (intro gg)); (conv => whnf)))
    (refine bIf_of (fun h2 => ?_) (fun h2 => ?_) <;> rw [h2])
    · ((conv => whnf); repeat' ((first | refine ⟨rfl, ?_⟩ | refine ⟨_, row_map (by assumption), ?_⟩ | refine ⟨_, (by exact some_rfl), ?_⟩ | refine ⟨_, wrap_ok (by omega) (by omega), ?_⟩ | refine ⟨_, wrap_u64 (by omega) (by omega), ?_⟩ | refine ⟨by decide, _, fdiv_half (by omega), ?_⟩ | (intro gg)); (conv => whnf)))
      (rw [show m.err = 7 from by (first | (simp_all ; done) | (unfold Mb.err; simp_all))]; (exact ⟨[], by (repeat' (first | exact ArgsOk.nil _ | exact argsOk_cells (by assumption) | refine ArgsOk.same (by first | exact cl_b rfl | exact cl_list | exact cl_nil | exact cl_one | exact cl_ll1 | exact cl_ll2 | exact cl_clo (by assumption)) ?_ | refine ArgsOk.nilsl _ ?_ | refine ArgsOk.nilown _ _ (by decide) ?_ | refine ArgsOk.borp rfl rfl rfl (cl_row rfl) (by decide) ?_ | refine ArgsOk.borc (by %caps) ?_ | refine ArgsOk.bor rfl rfl (deref_flat (by first | exact cl_rs rfl | exact cl_rows | exact cl_setB rfl | exact cl_setG (cl_setB rfl) rfl | exact cl_appB cl_rows (cl_rs rfl) | exact cl_rl1 | exact cl_rl2)) (by decide) ?_ | refine give' rfl (by first | exact cl_rs rfl | exact cl_rows | exact cl_setB rfl | exact cl_setG (cl_setB rfl) rfl | exact cl_appB cl_rows (cl_rs rfl) | exact cl_rl1 | exact cl_rl2) (by decide) (by decide) ?_))⟩))
    · ((conv => whnf); repeat' ((first | refine ⟨rfl, ?_⟩ | refine ⟨_, row_map (by assumption), ?_⟩ | refine ⟨_, (by exact some_rfl), ?_⟩ | refine ⟨_, wrap_ok (by omega) (by omega), ?_⟩ | refine ⟨_, wrap_u64 (by omega) (by omega), ?_⟩ | refine ⟨by decide, _, fdiv_half (by omega), ?_⟩ | (intro gg)); (conv => whnf)))
      (refine .inl ⟨_, _, false, [], (by (repeat' (first | exact ArgsOk.nil _ | exact argsOk_cells (by assumption) | refine ArgsOk.same (by first | exact cl_b rfl | exact cl_list | exact cl_nil | exact cl_one | exact cl_ll1 | exact cl_ll2 | exact cl_clo (by assumption)) ?_ | refine ArgsOk.nilsl _ ?_ | refine ArgsOk.nilown _ _ (by decide) ?_ | refine ArgsOk.borp rfl rfl rfl (cl_row rfl) (by decide) ?_ | refine ArgsOk.borc (by (repeat' (first | exact cap_n | refine cap_p rfl rfl rfl (by first | exact cl_row rfl | exact cl_r1 rfl | exact cl_r1b) ?_ ?_ | refine cap_m rfl (by decide) ?_ | refine cap_c (by first | exact cl_b rfl | exact cl_list | exact cl_nil | exact cl_one | exact cl_ll1 | exact cl_ll2 | exact cl_clo (by assumption)) ?_ | decide))) ?_ | refine ArgsOk.bor rfl rfl (deref_flat (by first | exact cl_rs rfl | exact cl_rows | exact cl_setB rfl | exact cl_setG (cl_setB rfl) rfl | exact cl_appB cl_rows (cl_rs rfl) | exact cl_rl1 | exact cl_rl2)) (by decide) ?_ | refine give' rfl (by first | exact cl_rs rfl | exact cl_rows | exact cl_setB rfl | exact cl_setG (cl_setB rfl) rfl | exact cl_appB cl_rows (cl_rs rfl) | exact cl_rl1 | exact cl_rl2) (by decide) (by decide) ?_))), mwithin_fun _ _ _, nobor, (by exact Nat.le_of_ble_eq_true rfl), ?_⟩)
      ((conv => whnf); repeat' ((first | refine ⟨rfl, ?_⟩ | refine ⟨_, row_map (by assumption), ?_⟩ | refine ⟨_, (by exact some_rfl), ?_⟩ | refine ⟨_, wrap_ok (by omega) (by omega), ?_⟩ | refine ⟨_, wrap_u64 (by omega) (by omega), ?_⟩ | refine ⟨by decide, _, fdiv_half (by omega), ?_⟩ | (intro gg)); (conv => whnf)))
      (refine bIf_of (fun h3 => ?_) (fun h3 => ?_) <;> rw [h3])
      · ((conv => whnf); repeat' ((first | refine ⟨rfl, ?_⟩ | refine ⟨_, row_map (by assumption), ?_⟩ | refine ⟨_, (by exact some_rfl), ?_⟩ | refine ⟨_, wrap_ok (by omega) (by omega), ?_⟩ | refine ⟨_, wrap_u64 (by omega) (by omega), ?_⟩ | refine ⟨by decide, _, fdiv_half (by omega), ?_⟩ | (intro gg)); (conv => whnf)))
        (rw [show m.err = 3 from by (first | (simp_all ; done) | (unfold Mb.err; simp_all))]; (exact ⟨[], by (repeat' (first | exact ArgsOk.nil _ | exact argsOk_cells (by assumption) | refine ArgsOk.same (by first | exact cl_b rfl | exact cl_list | exact cl_nil | exact cl_one | exact cl_ll1 | exact cl_ll2 | exact cl_clo (by assumption)) ?_ | refine ArgsOk.nilsl _ ?_ | refine ArgsOk.nilown _ _ (by decide) ?_ | refine ArgsOk.borp rfl rfl rfl (cl_row rfl) (by decide) ?_ | refine ArgsOk.borc (by %caps) ?_ | refine ArgsOk.bor rfl rfl (deref_flat (by first | exact cl_rs rfl | exact cl_rows | exact cl_setB rfl | exact cl_setG (cl_setB rfl) rfl | exact cl_appB cl_rows (cl_rs rfl) | exact cl_rl1 | exact cl_rl2)) (by decide) ?_ | refine give' rfl (by first | exact cl_rs rfl | exact cl_rows | exact cl_setB rfl | exact cl_setG (cl_setB rfl) rfl | exact cl_appB cl_rows (cl_rs rfl) | exact cl_rl1 | exact cl_rl2) (by decide) (by decide) ?_))⟩))
      · ((conv => whnf); repeat' ((first | refine ⟨rfl, ?_⟩ | refine ⟨_, row_map (by assumption), ?_⟩ | refine ⟨_, (by exact some_rfl), ?_⟩ | refine ⟨_, wrap_ok (by omega) (by omega), ?_⟩ | refine ⟨_, wrap_u64 (by omega) (by omega), ?_⟩ | refine ⟨by decide, _, fdiv_half (by omega), ?_⟩ | (intro gg)); (conv => whnf)))
        (refine .inl ⟨_, _, false, [], (by (repeat' (first | exact ArgsOk.nil _ | exact argsOk_cells (by assumption) | refine ArgsOk.same (by first | exact cl_b rfl | exact cl_list | exact cl_nil | exact cl_one | exact cl_ll1 | exact cl_ll2 | exact cl_clo (by assumption)) ?_ | refine ArgsOk.nilsl _ ?_ | refine ArgsOk.nilown _ _ (by decide) ?_ | refine ArgsOk.borp rfl rfl rfl (cl_row rfl) (by decide) ?_ | refine ArgsOk.borc (by (repeat' (first | exact cap_n | refine cap_p rfl rfl rfl (by first | exact cl_row rfl | exact cl_r1 rfl | exact cl_r1b) ?_ ?_ | refine cap_m rfl (by decide) ?_ | refine cap_c (by first | exact cl_b rfl | exact cl_list | exact cl_nil | exact cl_one | exact cl_ll1 | exact cl_ll2 | exact cl_clo (by assumption)) ?_ | decide))) ?_ | refine ArgsOk.bor rfl rfl (deref_flat (by first | exact cl_rs rfl | exact cl_rows | exact cl_setB rfl | exact cl_setG (cl_setB rfl) rfl | exact cl_appB cl_rows (cl_rs rfl) | exact cl_rl1 | exact cl_rl2)) (by decide) ?_ | refine give' rfl (by first | exact cl_rs rfl | exact cl_rows | exact cl_setB rfl | exact cl_setG (cl_setB rfl) rfl | exact cl_appB cl_rows (cl_rs rfl) | exact cl_rl1 | exact cl_rl2) (by decide) (by decide) ?_))), mwithin_fun _ _ _, nobor, (by exact Nat.le_of_ble_eq_true rfl), ?_⟩)
        ((conv => whnf); repeat' ((first | refine ⟨rfl, ?_⟩ | refine ⟨_, row_map (by assumption), ?_⟩ | refine ⟨_, (by exact some_rfl), ?_⟩ | refine ⟨_, wrap_ok (by omega) (by omega), ?_⟩ | refine ⟨_, wrap_u64 (by omega) (by omega), ?_⟩ | refine ⟨by decide, _, fdiv_half (by omega), ?_⟩ | (intro gg)); (conv => whnf)))
        (refine bIf_of (fun h4 => ?_) (fun h4 => ?_) <;> rw [h4])
        · ((conv => whnf); repeat' ((first | refine ⟨rfl, ?_⟩ | refine ⟨_, row_map (by assumption), ?_⟩ | refine ⟨_, (by exact some_rfl), ?_⟩ | refine ⟨_, wrap_ok (by omega) (by omega), ?_⟩ | refine ⟨_, wrap_u64 (by omega) (by omega), ?_⟩ | refine ⟨by decide, _, fdiv_half (by omega), ?_⟩ | (intro gg)); (conv => whnf)))
          (rw [show m.err = 3 from by (first | (simp_all ; done) | (unfold Mb.err; simp_all))]; (exact ⟨[], by (repeat' (first | exact ArgsOk.nil _ | exact argsOk_cells (by assumption) | refine ArgsOk.same (by first | exact cl_b rfl | exact cl_list | exact cl_nil | exact cl_one | exact cl_ll1 | exact cl_ll2 | exact cl_clo (by assumption)) ?_ | refine ArgsOk.nilsl _ ?_ | refine ArgsOk.nilown _ _ (by decide) ?_ | refine ArgsOk.borp rfl rfl rfl (cl_row rfl) (by decide) ?_ | refine ArgsOk.borc (by %caps) ?_ | refine ArgsOk.bor rfl rfl (deref_flat (by first | exact cl_rs rfl | exact cl_rows | exact cl_setB rfl | exact cl_setG (cl_setB rfl) rfl | exact cl_appB cl_rows (cl_rs rfl) | exact cl_rl1 | exact cl_rl2)) (by decide) ?_ | refine give' rfl (by first | exact cl_rs rfl | exact cl_rows | exact cl_setB rfl | exact cl_setG (cl_setB rfl) rfl | exact cl_appB cl_rows (cl_rs rfl) | exact cl_rl1 | exact cl_rl2) (by decide) (by decide) ?_))⟩))
        · ((conv => whnf); repeat' ((first | refine ⟨rfl, ?_⟩ | refine ⟨_, row_map (by assumption), ?_⟩ | refine ⟨_, (by exact some_rfl), ?_⟩ | refine ⟨_, wrap_ok (by omega) (by omega), ?_⟩ | refine ⟨_, wrap_u64 (by omega) (by omega), ?_⟩ | refine ⟨by decide, _, fdiv_half (by omega), ?_⟩ | (intro gg)); (conv => whnf)))
          (rw [show m.err = 0 from by (first | (simp_all ; done) | (unfold Mb.err; simp_all))]; (exact ⟨[], by (repeat' (first | exact ArgsOk.nil _ | exact argsOk_cells (by assumption) | refine ArgsOk.same (by first | exact cl_b rfl | exact cl_list | exact cl_nil | exact cl_one | exact cl_ll1 | exact cl_ll2 | exact cl_clo (by assumption)) ?_ | refine ArgsOk.nilsl _ ?_ | refine ArgsOk.nilown _ _ (by decide) ?_ | refine ArgsOk.borp rfl rfl rfl (cl_row rfl) (by decide) ?_ | refine ArgsOk.borc (by %caps) ?_ | refine ArgsOk.bor rfl rfl (deref_flat (by first | exact cl_rs rfl | exact cl_rows | exact cl_setB rfl | exact cl_setG (cl_setB rfl) rfl | exact cl_appB cl_rows (cl_rs rfl) | exact cl_rl1 | exact cl_rl2)) (by decide) ?_ | refine give' rfl (by first | exact cl_rs rfl | exact cl_rows | exact cl_setB rfl | exact cl_setG (cl_setB rfl) rfl | exact cl_appB cl_rows (cl_rs rfl) | exact cl_rl1 | exact cl_rl2) (by decide) (by decide) ?_))⟩))
theorem rone_fun (m : Mb) (hm : m.ok) : Fun Try.prog 15 [.c (.agg m.row)] [.c (.v (.int .i64 m.err))] := by
  refine fun_x ck_hearsayref_OneMember rfl ?_
  ((conv => whnf); repeat' ((first | refine ⟨rfl, ?_⟩ | refine ⟨_, row_map (by assumption), ?_⟩ | refine ⟨_, (by exact some_rfl), ?_⟩ | refine ⟨_, wrap_ok (by omega) (by omega), ?_⟩ | refine ⟨_, wrap_u64 (by omega) (by omega), ?_⟩ | refine ⟨by decide, _, fdiv_half (by omega), ?_⟩ | (intro gg)); (conv => whnf)))
  (refine .inl ⟨_, _, false, [], (by (repeat' (first | exact ArgsOk.nil _ | exact argsOk_cells (by assumption) | refine ArgsOk.same (by first | exact cl_b rfl | exact cl_list | exact cl_nil | exact cl_one | exact cl_ll1 | exact cl_ll2 | exact cl_clo (by assumption)) ?_ | refine ArgsOk.nilsl _ ?_ | refine ArgsOk.nilown _ _ (by decide) ?_ | refine ArgsOk.borp rfl rfl rfl (cl_row rfl) (by decide) ?_ | refine ArgsOk.borc (by (repeat' (first | exact cap_n | refine cap_p rfl rfl rfl (by first | exact cl_row rfl | exact cl_r1 rfl | exact cl_r1b) ?_ ?_ | refine cap_m rfl (by decide) ?_ | refine cap_c (by first | exact cl_b rfl | exact cl_list | exact cl_nil | exact cl_one | exact cl_ll1 | exact cl_ll2 | exact cl_clo (by assumption)) ?_ | decide))) ?_ | refine ArgsOk.bor rfl rfl (deref_flat (by first | exact cl_rs rfl | exact cl_rows | exact cl_setB rfl | exact cl_setG (cl_setB rfl) rfl | exact cl_appB cl_rows (cl_rs rfl) | exact cl_rl1 | exact cl_rl2)) (by decide) ?_ | refine give' rfl (by first | exact cl_rs rfl | exact cl_rows | exact cl_setB rfl | exact cl_setG (cl_setB rfl) rfl | exact cl_appB cl_rows (cl_rs rfl) | exact cl_rl1 | exact cl_rl2) (by decide) (by decide) ?_))), rlabel_fun _ hm, nobor, (by exact Nat.le_of_ble_eq_true rfl), ?_⟩)
  ((conv => whnf); repeat' ((first | refine ⟨rfl, ?_⟩ | refine ⟨_, row_map (by assumption), ?_⟩ | refine ⟨_, (by exact some_rfl), ?_⟩ | refine ⟨_, wrap_ok (by omega) (by omega), ?_⟩ | refine ⟨_, wrap_u64 (by omega) (by omega), ?_⟩ | refine ⟨by decide, _, fdiv_half (by omega), ?_⟩ | (intro gg)); (conv => whnf)))
  (refine bIf_of (fun h1 => ?_) (fun h1 => ?_) <;> rw [h1])
  · ((conv => whnf); repeat' ((first | refine ⟨rfl, ?_⟩ | refine ⟨_, row_map (by assumption), ?_⟩ | refine ⟨_, (by exact some_rfl), ?_⟩ | refine ⟨_, wrap_ok (by omega) (by omega), ?_⟩ | refine ⟨_, wrap_u64 (by omega) (by omega), ?_⟩ | refine ⟨by decide, _, fdiv_half (by omega), ?_⟩ | (intro gg)); (conv => whnf)))
    (rw [show m.err = 1 from by (first | (simp_all ; done) | (unfold Mb.err; simp_all))]; (exact ⟨[], by (repeat' (first | exact ArgsOk.nil _ | exact argsOk_cells (by assumption) | refine ArgsOk.same (by first | exact cl_b rfl | exact cl_list | exact cl_nil | exact cl_one | exact cl_ll1 | exact cl_ll2 | exact cl_clo (by assumption)) ?_ | refine ArgsOk.nilsl _ ?_ | refine ArgsOk.nilown _ _ (by decide) ?_ | refine ArgsOk.borp rfl rfl rfl (cl_row rfl) (by decide) ?_ | refine ArgsOk.borc (by %caps) ?_ | refine ArgsOk.bor rfl rfl (deref_flat (by first | exact cl_rs rfl | exact cl_rows | exact cl_setB rfl | exact cl_setG (cl_setB rfl) rfl | exact cl_appB cl_rows (cl_rs rfl) | exact cl_rl1 | exact cl_rl2)) (by decide) ?_ | refine give' rfl (by first | exact cl_rs rfl | exact cl_rows | exact cl_setB rfl | exact cl_setG (cl_setB rfl) rfl | exact cl_appB cl_rows (cl_rs rfl) | exact cl_rl1 | exact cl_rl2) (by decide) (by decide) ?_))⟩))
  · ((conv => whnf); repeat' ((first | refine ⟨rfl, ?_⟩ | refine ⟨_, row_map (by assumption), ?_⟩ | refine ⟨_, (by exact some_rfl), ?_⟩ | refine ⟨_, wrap_ok (by omega) (by omega), ?_⟩ | refine ⟨_, wrap_u64 (by omega) (by omega), ?_⟩ | refine ⟨by decide, _, fdiv_half (by omega), ?_⟩ | (intro gg)); (conv => whnf)))
    (refine .inl ⟨_, _, false, [], (by (repeat' (first | exact ArgsOk.nil _ | exact argsOk_cells (by assumption) | refine ArgsOk.same (by first | exact cl_b rfl | exact cl_list | exact cl_nil | exact cl_one | exact cl_ll1 | exact cl_ll2 | exact cl_clo (by assumption)) ?_ | refine ArgsOk.nilsl _ ?_ | refine ArgsOk.nilown _ _ (by decide) ?_ | refine ArgsOk.borp rfl rfl rfl (cl_row rfl) (by decide) ?_ | refine ArgsOk.borc (by (repeat' (first | exact cap_n | refine cap_p rfl rfl rfl (by first | exact cl_row rfl | exact cl_r1 rfl | exact cl_r1b) ?_ ?_ | refine cap_m rfl (by decide) ?_ | refine cap_c (by first | exact cl_b rfl | exact cl_list | exact cl_nil | exact cl_one | exact cl_ll1 | exact cl_ll2 | exact cl_clo (by assumption)) ?_ | decide))) ?_ | refine ArgsOk.bor rfl rfl (deref_flat (by first | exact cl_rs rfl | exact cl_rows | exact cl_setB rfl | exact cl_setG (cl_setB rfl) rfl | exact cl_appB cl_rows (cl_rs rfl) | exact cl_rl1 | exact cl_rl2)) (by decide) ?_ | refine give' rfl (by first | exact cl_rs rfl | exact cl_rows | exact cl_setB rfl | exact cl_setG (cl_setB rfl) rfl | exact cl_appB cl_rows (cl_rs rfl) | exact cl_rl1 | exact cl_rl2) (by decide) (by decide) ?_))), between_fun _ _ _, nobor, (by exact Nat.le_of_ble_eq_true rfl), ?_⟩)
    ((conv => whnf); repeat' ((first | refine ⟨rfl, ?_⟩ | refine ⟨_, row_map (by assumption), ?_⟩ | refine ⟨_, (by exact some_rfl), ?_⟩ | refine ⟨_, wrap_ok (by omega) (by omega), ?_⟩ | refine ⟨_, wrap_u64 (by omega) (by omega), ?_⟩ | refine ⟨by decide, _, fdiv_half (by omega), ?_⟩ | (intro gg)); (conv => whnf)))
    (refine bIf_of (fun h2 => ?_) (fun h2 => ?_) <;> rw [h2])
    · ((conv => whnf); repeat' ((first | refine ⟨rfl, ?_⟩ | refine ⟨_, row_map (by assumption), ?_⟩ | refine ⟨_, (by exact some_rfl), ?_⟩ | refine ⟨_, wrap_ok (by omega) (by omega), ?_⟩ | refine ⟨_, wrap_u64 (by omega) (by omega), ?_⟩ | refine ⟨by decide, _, fdiv_half (by omega), ?_⟩ | (intro gg)); (conv => whnf)))
      (rw [show m.err = 7 from by (first | (simp_all ; done) | (unfold Mb.err; simp_all))]; (exact ⟨[], by (repeat' (first | exact ArgsOk.nil _ | exact argsOk_cells (by assumption) | refine ArgsOk.same (by first | exact cl_b rfl | exact cl_list | exact cl_nil | exact cl_one | exact cl_ll1 | exact cl_ll2 | exact cl_clo (by assumption)) ?_ | refine ArgsOk.nilsl _ ?_ | refine ArgsOk.nilown _ _ (by decide) ?_ | refine ArgsOk.borp rfl rfl rfl (cl_row rfl) (by decide) ?_ | refine ArgsOk.borc (by %caps) ?_ | refine ArgsOk.bor rfl rfl (deref_flat (by first | exact cl_rs rfl | exact cl_rows | exact cl_setB rfl | exact cl_setG (cl_setB rfl) rfl | exact cl_appB cl_rows (cl_rs rfl) | exact cl_rl1 | exact cl_rl2)) (by decide) ?_ | refine give' rfl (by first | exact cl_rs rfl | exact cl_rows | exact cl_setB rfl | exact cl_setG (cl_setB rfl) rfl | exact cl_appB cl_rows (cl_rs rfl) | exact cl_rl1 | exact cl_rl2) (by decide) (by decide) ?_))⟩))
    · ((conv => whnf); repeat' ((first | refine ⟨rfl, ?_⟩ | refine ⟨_, row_map (by assumption), ?_⟩ | refine ⟨_, (by exact some_rfl), ?_⟩ | refine ⟨_, wrap_ok (by omega) (by omega), ?_⟩ | refine ⟨_, wrap_u64 (by omega) (by omega), ?_⟩ | refine ⟨by decide, _, fdiv_half (by omega), ?_⟩ | (intro gg)); (conv => whnf)))
      (refine .inl ⟨_, _, false, [], (by (repeat' (first | exact ArgsOk.nil _ | exact argsOk_cells (by assumption) | refine ArgsOk.same (by first | exact cl_b rfl | exact cl_list | exact cl_nil | exact cl_one | exact cl_ll1 | exact cl_ll2 | exact cl_clo (by assumption)) ?_ | refine ArgsOk.nilsl _ ?_ | refine ArgsOk.nilown _ _ (by decide) ?_ | refine ArgsOk.borp rfl rfl rfl (cl_row rfl) (by decide) ?_ | refine ArgsOk.borc (by (repeat' (first | exact cap_n | refine cap_p rfl rfl rfl (by first | exact cl_row rfl | exact cl_r1 rfl | exact cl_r1b) ?_ ?_ | refine cap_m rfl (by decide) ?_ | refine cap_c (by first | exact cl_b rfl | exact cl_list | exact cl_nil | exact cl_one | exact cl_ll1 | exact cl_ll2 | exact cl_clo (by assumption)) ?_ | decide))) ?_ | refine ArgsOk.bor rfl rfl (deref_flat (by first | exact cl_rs rfl | exact cl_rows | exact cl_setB rfl | exact cl_setG (cl_setB rfl) rfl | exact cl_appB cl_rows (cl_rs rfl) | exact cl_rl1 | exact cl_rl2)) (by decide) ?_ | refine give' rfl (by first | exact cl_rs rfl | exact cl_rows | exact cl_setB rfl | exact cl_setG (cl_setB rfl) rfl | exact cl_appB cl_rows (cl_rs rfl) | exact cl_rl1 | exact cl_rl2) (by decide) (by decide) ?_))), between_fun _ _ _, nobor, (by exact Nat.le_of_ble_eq_true rfl), ?_⟩)
      ((conv => whnf); repeat' ((first | refine ⟨rfl, ?_⟩ | refine ⟨_, row_map (by assumption), ?_⟩ | refine ⟨_, (by exact some_rfl), ?_⟩ | refine ⟨_, wrap_ok (by omega) (by omega), ?_⟩ | refine ⟨_, wrap_u64 (by omega) (by omega), ?_⟩ | refine ⟨by decide, _, fdiv_half (by omega), ?_⟩ | (intro gg)); (conv => whnf)))
      (refine bIf_of (fun h3 => ?_) (fun h3 => ?_) <;> rw [h3])
      · ((conv => whnf); repeat' ((first | refine ⟨rfl, ?_⟩ | refine ⟨_, row_map (by assumption), ?_⟩ | refine ⟨_, (by exact some_rfl), ?_⟩ | refine ⟨_, wrap_ok (by omega) (by omega), ?_⟩ | refine ⟨_, wrap_u64 (by omega) (by omega), ?_⟩ | refine ⟨by decide, _, fdiv_half (by omega), ?_⟩ | (intro gg)); (conv => whnf)))
        (rw [show m.err = 3 from by (first | (simp_all ; done) | (unfold Mb.err; simp_all))]; (exact ⟨[], by (repeat' (first | exact ArgsOk.nil _ | exact argsOk_cells (by assumption) | refine ArgsOk.same (by first | exact cl_b rfl | exact cl_list | exact cl_nil | exact cl_one | exact cl_ll1 | exact cl_ll2 | exact cl_clo (by assumption)) ?_ | refine ArgsOk.nilsl _ ?_ | refine ArgsOk.nilown _ _ (by decide) ?_ | refine ArgsOk.borp rfl rfl rfl (cl_row rfl) (by decide) ?_ | refine ArgsOk.borc (by %caps) ?_ | refine ArgsOk.bor rfl rfl (deref_flat (by first | exact cl_rs rfl | exact cl_rows | exact cl_setB rfl | exact cl_setG (cl_setB rfl) rfl | exact cl_appB cl_rows (cl_rs rfl) | exact cl_rl1 | exact cl_rl2)) (by decide) ?_ | refine give' rfl (by first | exact cl_rs rfl | exact cl_rows | exact cl_setB rfl | exact cl_setG (cl_setB rfl) rfl | exact cl_appB cl_rows (cl_rs rfl) | exact cl_rl1 | exact cl_rl2) (by decide) (by decide) ?_))⟩))
      · ((conv => whnf); repeat' ((first | refine ⟨rfl, ?_⟩ | refine ⟨_, row_map (by assumption), ?_⟩ | refine ⟨_, (by exact some_rfl), ?_⟩ | refine ⟨_, wrap_ok (by omega) (by omega), ?_⟩ | refine ⟨_, wrap_u64 (by omega) (by omega), ?_⟩ | refine ⟨by decide, _, fdiv_half (by omega), ?_⟩ | (intro gg)); (conv => whnf)))
        (refine .inl ⟨_, _, false, [], (by (repeat' (first | exact ArgsOk.nil _ | exact argsOk_cells (by assumption) | refine ArgsOk.same (by first | exact cl_b rfl | exact cl_list | exact cl_nil | exact cl_one | exact cl_ll1 | exact cl_ll2 | exact cl_clo (by assumption)) ?_ | refine ArgsOk.nilsl _ ?_ | refine ArgsOk.nilown _ _ (by decide) ?_ | refine ArgsOk.borp rfl rfl rfl (cl_row rfl) (by decide) ?_ | refine ArgsOk.borc (by (repeat' (first | exact cap_n | refine cap_p rfl rfl rfl (by first | exact cl_row rfl | exact cl_r1 rfl | exact cl_r1b) ?_ ?_ | refine cap_m rfl (by decide) ?_ | refine cap_c (by first | exact cl_b rfl | exact cl_list | exact cl_nil | exact cl_one | exact cl_ll1 | exact cl_ll2 | exact cl_clo (by assumption)) ?_ | decide))) ?_ | refine ArgsOk.bor rfl rfl (deref_flat (by first | exact cl_rs rfl | exact cl_rows | exact cl_setB rfl | exact cl_setG (cl_setB rfl) rfl | exact cl_appB cl_rows (cl_rs rfl) | exact cl_rl1 | exact cl_rl2)) (by decide) ?_ | refine give' rfl (by first | exact cl_rs rfl | exact cl_rows | exact cl_setB rfl | exact cl_setG (cl_setB rfl) rfl | exact cl_appB cl_rows (cl_rs rfl) | exact cl_rl1 | exact cl_rl2) (by decide) (by decide) ?_))), address_fun _, nobor, (by exact Nat.le_of_ble_eq_true rfl), ?_⟩)
        ((conv => whnf); repeat' ((first | refine ⟨rfl, ?_⟩ | refine ⟨_, row_map (by assumption), ?_⟩ | refine ⟨_, (by exact some_rfl), ?_⟩ | refine ⟨_, wrap_ok (by omega) (by omega), ?_⟩ | refine ⟨_, wrap_u64 (by omega) (by omega), ?_⟩ | refine ⟨by decide, _, fdiv_half (by omega), ?_⟩ | (intro gg)); (conv => whnf)))
        (refine bIf_of (fun h4 => ?_) (fun h4 => ?_) <;> rw [h4])
        · ((conv => whnf); repeat' ((first | refine ⟨rfl, ?_⟩ | refine ⟨_, row_map (by assumption), ?_⟩ | refine ⟨_, (by exact some_rfl), ?_⟩ | refine ⟨_, wrap_ok (by omega) (by omega), ?_⟩ | refine ⟨_, wrap_u64 (by omega) (by omega), ?_⟩ | refine ⟨by decide, _, fdiv_half (by omega), ?_⟩ | (intro gg)); (conv => whnf)))
          (rw [show m.err = 3 from by (first | (simp_all ; done) | (unfold Mb.err; simp_all))]; (exact ⟨[], by (repeat' (first | exact ArgsOk.nil _ | exact argsOk_cells (by assumption) | refine ArgsOk.same (by first | exact cl_b rfl | exact cl_list | exact cl_nil | exact cl_one | exact cl_ll1 | exact cl_ll2 | exact cl_clo (by assumption)) ?_ | refine ArgsOk.nilsl _ ?_ | refine ArgsOk.nilown _ _ (by decide) ?_ | refine ArgsOk.borp rfl rfl rfl (cl_row rfl) (by decide) ?_ | refine ArgsOk.borc (by %caps) ?_ | refine ArgsOk.bor rfl rfl (deref_flat (by first | exact cl_rs rfl | exact cl_rows | exact cl_setB rfl | exact cl_setG (cl_setB rfl) rfl | exact cl_appB cl_rows (cl_rs rfl) | exact cl_rl1 | exact cl_rl2)) (by decide) ?_ | refine give' rfl (by first | exact cl_rs rfl | exact cl_rows | exact cl_setB rfl | exact cl_setG (cl_setB rfl) rfl | exact cl_appB cl_rows (cl_rs rfl) | exact cl_rl1 | exact cl_rl2) (by decide) (by decide) ?_))⟩))
        · ((conv => whnf); repeat' ((first | refine ⟨rfl, ?_⟩ | refine ⟨_, row_map (by assumption), ?_⟩ | refine ⟨_, (by exact some_rfl), ?_⟩ | refine ⟨_, wrap_ok (by omega) (by omega), ?_⟩ | refine ⟨_, wrap_u64 (by omega) (by omega), ?_⟩ | refine ⟨by decide, _, fdiv_half (by omega), ?_⟩ | (intro gg)); (conv => whnf)))
          (rw [show m.err = 0 from by (first | (simp_all ; done) | (unfold Mb.err; simp_all))]; (exact ⟨[], by (repeat' (first | exact ArgsOk.nil _ | exact argsOk_cells (by assumption) | refine ArgsOk.same (by first | exact cl_b rfl | exact cl_list | exact cl_nil | exact cl_one | exact cl_ll1 | exact cl_ll2 | exact cl_clo (by assumption)) ?_ | refine ArgsOk.nilsl _ ?_ | refine ArgsOk.nilown _ _ (by decide) ?_ | refine ArgsOk.borp rfl rfl rfl (cl_row rfl) (by decide) ?_ | refine ArgsOk.borc (by %caps) ?_ | refine ArgsOk.bor rfl rfl (deref_flat (by first | exact cl_rs rfl | exact cl_rows | exact cl_setB rfl | exact cl_setG (cl_setB rfl) rfl | exact cl_appB cl_rows (cl_rs rfl) | exact cl_rl1 | exact cl_rl2)) (by decide) ?_ | refine give' rfl (by first | exact cl_rs rfl | exact cl_rows | exact cl_setB rfl | exact cl_setG (cl_setB rfl) rfl | exact cl_appB cl_rows (cl_rs rfl) | exact cl_rl1 | exact cl_rl2) (by decide) (by decide) ?_))⟩))
theorem mnumber_fun (b : Bool) : Fun Try.prog 64 [.c (.v (.bool b))] [.c (.v (.int .i64 (b2i b)))] := by
  refine fun_x ck_member_number rfl ?_
  ((conv => whnf); repeat' ((first | refine ⟨rfl, ?_⟩ | refine ⟨_, row_map (by assumption), ?_⟩ | refine ⟨_, (by exact some_rfl), ?_⟩ | refine ⟨_, wrap_ok (by omega) (by omega), ?_⟩ | refine ⟨_, wrap_u64 (by omega) (by omega), ?_⟩ | refine ⟨by decide, _, fdiv_half (by omega), ?_⟩ | (intro gg)); (conv => whnf)))
  (refine bIf_of (fun h => ?_) (fun h => ?_) <;> rw [h])
  · ((conv => whnf); repeat' ((first | refine ⟨rfl, ?_⟩ | refine ⟨_, row_map (by assumption), ?_⟩ | refine ⟨_, (by exact some_rfl), ?_⟩ | refine ⟨_, wrap_ok (by omega) (by omega), ?_⟩ | refine ⟨_, wrap_u64 (by omega) (by omega), ?_⟩ | refine ⟨by decide, _, fdiv_half (by omega), ?_⟩ | (intro gg)); (conv => whnf)))
    (exact ⟨[], by (repeat' (first | exact ArgsOk.nil _ | exact argsOk_cells (by assumption) | refine ArgsOk.same (by first | exact cl_b rfl | exact cl_list | exact cl_nil | exact cl_one | exact cl_ll1 | exact cl_ll2 | exact cl_clo (by assumption)) ?_ | refine ArgsOk.nilsl _ ?_ | refine ArgsOk.nilown _ _ (by decide) ?_ | refine ArgsOk.borp rfl rfl rfl (cl_row rfl) (by decide) ?_ | refine ArgsOk.borc (by %caps) ?_ | refine ArgsOk.bor rfl rfl (deref_flat (by first | exact cl_rs rfl | exact cl_rows | exact cl_setB rfl | exact cl_setG (cl_setB rfl) rfl | exact cl_appB cl_rows (cl_rs rfl) | exact cl_rl1 | exact cl_rl2)) (by decide) ?_ | refine give' rfl (by first | exact cl_rs rfl | exact cl_rows | exact cl_setB rfl | exact cl_setG (cl_setB rfl) rfl | exact cl_appB cl_rows (cl_rs rfl) | exact cl_rl1 | exact cl_rl2) (by decide) (by decide) ?_))⟩)
  · ((conv => whnf); repeat' ((first | refine ⟨rfl, ?_⟩ | refine ⟨_, row_map (by assumption), ?_⟩ | refine ⟨_, (by exact some_rfl), ?_⟩ | refine ⟨_, wrap_ok (by omega) (by omega), ?_⟩ | refine ⟨_, wrap_u64 (by omega) (by omega), ?_⟩ | refine ⟨by decide, _, fdiv_half (by omega), ?_⟩ | (intro gg)); (conv => whnf)))
    (exact ⟨[], by (repeat' (first | exact ArgsOk.nil _ | exact argsOk_cells (by assumption) | refine ArgsOk.same (by first | exact cl_b rfl | exact cl_list | exact cl_nil | exact cl_one | exact cl_ll1 | exact cl_ll2 | exact cl_clo (by assumption)) ?_ | refine ArgsOk.nilsl _ ?_ | refine ArgsOk.nilown _ _ (by decide) ?_ | refine ArgsOk.borp rfl rfl rfl (cl_row rfl) (by decide) ?_ | refine ArgsOk.borc (by %caps) ?_ | refine ArgsOk.bor rfl rfl (deref_flat (by first | exact cl_rs rfl | exact cl_rows | exact cl_setB rfl | exact cl_setG (cl_setB rfl) rfl | exact cl_appB cl_rows (cl_rs rfl) | exact cl_rl1 | exact cl_rl2)) (by decide) ?_ | refine give' rfl (by first | exact cl_rs rfl | exact cl_rows | exact cl_setB rfl | exact cl_setG (cl_setB rfl) rfl | exact cl_appB cl_rows (cl_rs rfl) | exact cl_rl1 | exact cl_rl2) (by decide) (by decide) ?_))⟩)
theorem mcmp_fun (g x : Mb) : Fun Try.prog 42 [.c (.agg g.row), .c (.agg x.row)] [.c (.v (.int .i64 (Mb.cmp g x)))] := by
  refine fun_x ck_member_Compare rfl ?_
  ((conv => whnf); repeat' ((first | refine ⟨rfl, ?_⟩ | refine ⟨_, row_map (by assumption), ?_⟩ | refine ⟨_, (by exact some_rfl), ?_⟩ | refine ⟨_, wrap_ok (by omega) (by omega), ?_⟩ | refine ⟨_, wrap_u64 (by omega) (by omega), ?_⟩ | refine ⟨by decide, _, fdiv_half (by omega), ?_⟩ | (intro gg)); (conv => whnf)))
  (refine ⟨_, _, false, (by (repeat' (first | exact ArgsOk.nil _ | exact argsOk_cells (by assumption) | refine ArgsOk.same (by first | exact cl_b rfl | exact cl_list | exact cl_nil | exact cl_one | exact cl_ll1 | exact cl_ll2 | exact cl_clo (by assumption)) ?_ | refine ArgsOk.nilsl _ ?_ | refine ArgsOk.nilown _ _ (by decide) ?_ | refine ArgsOk.borp rfl rfl rfl (cl_row rfl) (by decide) ?_ | refine ArgsOk.borc (by (repeat' (first | exact cap_n | refine cap_p rfl rfl rfl (by first | exact cl_row rfl | exact cl_r1 rfl | exact cl_r1b) ?_ ?_ | refine cap_m rfl (by decide) ?_ | refine cap_c (by first | exact cl_b rfl | exact cl_list | exact cl_nil | exact cl_one | exact cl_ll1 | exact cl_ll2 | exact cl_clo (by assumption)) ?_ | decide))) ?_ | refine ArgsOk.bor rfl rfl (deref_flat (by first | exact cl_rs rfl | exact cl_rows | exact cl_setB rfl | exact cl_setG (cl_setB rfl) rfl | exact cl_appB cl_rows (cl_rs rfl) | exact cl_rl1 | exact cl_rl2)) (by decide) ?_ | refine give' rfl (by first | exact cl_rs rfl | exact cl_rows | exact cl_setB rfl | exact cl_setG (cl_setB rfl) rfl | exact cl_appB cl_rows (cl_rs rfl) | exact cl_rl1 | exact cl_rl2) (by decide) (by decide) ?_))), cmpi_fun _ _, nobor, (by exact Nat.le_of_ble_eq_true rfl), ?_⟩)
  ((conv => whnf); repeat' ((first | refine ⟨rfl, ?_⟩ | refine ⟨_, row_map (by assumption), ?_⟩ | refine ⟨_, (by exact some_rfl), ?_⟩ | refine ⟨_, wrap_ok (by omega) (by omega), ?_⟩ | refine ⟨_, wrap_u64 (by omega) (by omega), ?_⟩ | refine ⟨by decide, _, fdiv_half (by omega), ?_⟩ | (intro gg)); (conv => whnf)))
  (refine ⟨_, _, false, (by (repeat' (first | exact ArgsOk.nil _ | exact argsOk_cells (by assumption) | refine ArgsOk.same (by first | exact cl_b rfl | exact cl_list | exact cl_nil | exact cl_one | exact cl_ll1 | exact cl_ll2 | exact cl_clo (by assumption)) ?_ | refine ArgsOk.nilsl _ ?_ | refine ArgsOk.nilown _ _ (by decide) ?_ | refine ArgsOk.borp rfl rfl rfl (cl_row rfl) (by decide) ?_ | refine ArgsOk.borc (by (repeat' (first | exact cap_n | refine cap_p rfl rfl rfl (by first | exact cl_row rfl | exact cl_r1 rfl | exact cl_r1b) ?_ ?_ | refine cap_m rfl (by decide) ?_ | refine cap_c (by first | exact cl_b rfl | exact cl_list | exact cl_nil | exact cl_one | exact cl_ll1 | exact cl_ll2 | exact cl_clo (by assumption)) ?_ | decide))) ?_ | refine ArgsOk.bor rfl rfl (deref_flat (by first | exact cl_rs rfl | exact cl_rows | exact cl_setB rfl | exact cl_setG (cl_setB rfl) rfl | exact cl_appB cl_rows (cl_rs rfl) | exact cl_rl1 | exact cl_rl2)) (by decide) ?_ | refine give' rfl (by first | exact cl_rs rfl | exact cl_rows | exact cl_setB rfl | exact cl_setG (cl_setB rfl) rfl | exact cl_appB cl_rows (cl_rs rfl) | exact cl_rl1 | exact cl_rl2) (by decide) (by decide) ?_))), cmpi_fun _ _, nobor, (by exact Nat.le_of_ble_eq_true rfl), ?_⟩)
  ((conv => whnf); repeat' ((first | refine ⟨rfl, ?_⟩ | refine ⟨_, row_map (by assumption), ?_⟩ | refine ⟨_, (by exact some_rfl), ?_⟩ | refine ⟨_, wrap_ok (by omega) (by omega), ?_⟩ | refine ⟨_, wrap_u64 (by omega) (by omega), ?_⟩ | refine ⟨by decide, _, fdiv_half (by omega), ?_⟩ | (intro gg)); (conv => whnf)))
  (refine ⟨_, _, false, (by (repeat' (first | exact ArgsOk.nil _ | exact argsOk_cells (by assumption) | refine ArgsOk.same (by first | exact cl_b rfl | exact cl_list | exact cl_nil | exact cl_one | exact cl_ll1 | exact cl_ll2 | exact cl_clo (by assumption)) ?_ | refine ArgsOk.nilsl _ ?_ | refine ArgsOk.nilown _ _ (by decide) ?_ | refine ArgsOk.borp rfl rfl rfl (cl_row rfl) (by decide) ?_ | refine ArgsOk.borc (by (repeat' (first | exact cap_n | refine cap_p rfl rfl rfl (by first | exact cl_row rfl | exact cl_r1 rfl | exact cl_r1b) ?_ ?_ | refine cap_m rfl (by decide) ?_ | refine cap_c (by first | exact cl_b rfl | exact cl_list | exact cl_nil | exact cl_one | exact cl_ll1 | exact cl_ll2 | exact cl_clo (by assumption)) ?_ | decide))) ?_ | refine ArgsOk.bor rfl rfl (deref_flat (by first | exact cl_rs rfl | exact cl_rows | exact cl_setB rfl | exact cl_setG (cl_setB rfl) rfl | exact cl_appB cl_rows (cl_rs rfl) | exact cl_rl1 | exact cl_rl2)) (by decide) ?_ | refine give' rfl (by first | exact cl_rs rfl | exact cl_rows | exact cl_setB rfl | exact cl_setG (cl_setB rfl) rfl | exact cl_appB cl_rows (cl_rs rfl) | exact cl_rl1 | exact cl_rl2) (by decide) (by decide) ?_))), cmpi_fun _ _, nobor, (by exact Nat.le_of_ble_eq_true rfl), ?_⟩)
  ((conv => whnf); repeat' ((first | refine ⟨rfl, ?_⟩ | refine ⟨_, row_map (by assumption), ?_⟩ | refine ⟨_, (by exact some_rfl), ?_⟩ | refine ⟨_, wrap_ok (by omega) (by omega), ?_⟩ | refine ⟨_, wrap_u64 (by omega) (by omega), ?_⟩ | refine ⟨by decide, _, fdiv_half (by omega), ?_⟩ | (intro gg)); (conv => whnf)))
  (refine ⟨_, _, false, (by (repeat' (first | exact ArgsOk.nil _ | exact argsOk_cells (by assumption) | refine ArgsOk.same (by first | exact cl_b rfl | exact cl_list | exact cl_nil | exact cl_one | exact cl_ll1 | exact cl_ll2 | exact cl_clo (by assumption)) ?_ | refine ArgsOk.nilsl _ ?_ | refine ArgsOk.nilown _ _ (by decide) ?_ | refine ArgsOk.borp rfl rfl rfl (cl_row rfl) (by decide) ?_ | refine ArgsOk.borc (by (repeat' (first | exact cap_n | refine cap_p rfl rfl rfl (by first | exact cl_row rfl | exact cl_r1 rfl | exact cl_r1b) ?_ ?_ | refine cap_m rfl (by decide) ?_ | refine cap_c (by first | exact cl_b rfl | exact cl_list | exact cl_nil | exact cl_one | exact cl_ll1 | exact cl_ll2 | exact cl_clo (by assumption)) ?_ | decide))) ?_ | refine ArgsOk.bor rfl rfl (deref_flat (by first | exact cl_rs rfl | exact cl_rows | exact cl_setB rfl | exact cl_setG (cl_setB rfl) rfl | exact cl_appB cl_rows (cl_rs rfl) | exact cl_rl1 | exact cl_rl2)) (by decide) ?_ | refine give' rfl (by first | exact cl_rs rfl | exact cl_rows | exact cl_setB rfl | exact cl_setG (cl_setB rfl) rfl | exact cl_appB cl_rows (cl_rs rfl) | exact cl_rl1 | exact cl_rl2) (by decide) (by decide) ?_))), mnumber_fun _, nobor, (by exact Nat.le_of_ble_eq_true rfl), ?_⟩)
  ((conv => whnf); repeat' ((first | refine ⟨rfl, ?_⟩ | refine ⟨_, row_map (by assumption), ?_⟩ | refine ⟨_, (by exact some_rfl), ?_⟩ | refine ⟨_, wrap_ok (by omega) (by omega), ?_⟩ | refine ⟨_, wrap_u64 (by omega) (by omega), ?_⟩ | refine ⟨by decide, _, fdiv_half (by omega), ?_⟩ | (intro gg)); (conv => whnf)))
  (refine .inl ⟨_, _, false, [], (by (repeat' (first | exact ArgsOk.nil _ | exact argsOk_cells (by assumption) | refine ArgsOk.same (by first | exact cl_b rfl | exact cl_list | exact cl_nil | exact cl_one | exact cl_ll1 | exact cl_ll2 | exact cl_clo (by assumption)) ?_ | refine ArgsOk.nilsl _ ?_ | refine ArgsOk.nilown _ _ (by decide) ?_ | refine ArgsOk.borp rfl rfl rfl (cl_row rfl) (by decide) ?_ | refine ArgsOk.borc (by (repeat' (first | exact cap_n | refine cap_p rfl rfl rfl (by first | exact cl_row rfl | exact cl_r1 rfl | exact cl_r1b) ?_ ?_ | refine cap_m rfl (by decide) ?_ | refine cap_c (by first | exact cl_b rfl | exact cl_list | exact cl_nil | exact cl_one | exact cl_ll1 | exact cl_ll2 | exact cl_clo (by assumption)) ?_ | decide))) ?_ | refine ArgsOk.bor rfl rfl (deref_flat (by first | exact cl_rs rfl | exact cl_rows | exact cl_setB rfl | exact cl_setG (cl_setB rfl) rfl | exact cl_appB cl_rows (cl_rs rfl) | exact cl_rl1 | exact cl_rl2)) (by decide) ?_ | refine give' rfl (by first | exact cl_rs rfl | exact cl_rows | exact cl_setB rfl | exact cl_setG (cl_setB rfl) rfl | exact cl_appB cl_rows (cl_rs rfl) | exact cl_rl1 | exact cl_rl2) (by decide) (by decide) ?_))), mnumber_fun _, nobor, (by exact Nat.le_of_ble_eq_true rfl), ?_⟩)
  ((conv => whnf); repeat' ((first | refine ⟨rfl, ?_⟩ | refine ⟨_, row_map (by assumption), ?_⟩ | refine ⟨_, (by exact some_rfl), ?_⟩ | refine ⟨_, wrap_ok (by omega) (by omega), ?_⟩ | refine ⟨_, wrap_u64 (by omega) (by omega), ?_⟩ | refine ⟨by decide, _, fdiv_half (by omega), ?_⟩ | (intro gg)); (conv => whnf)))
  (refine .inl ⟨_, _, false, [], (by (repeat' (first | exact ArgsOk.nil _ | exact argsOk_cells (by assumption) | refine ArgsOk.same (by first | exact cl_b rfl | exact cl_list | exact cl_nil | exact cl_one | exact cl_ll1 | exact cl_ll2 | exact cl_clo (by assumption)) ?_ | refine ArgsOk.nilsl _ ?_ | refine ArgsOk.nilown _ _ (by decide) ?_ | refine ArgsOk.borp rfl rfl rfl (cl_row rfl) (by decide) ?_ | refine ArgsOk.borc (by (repeat' (first | exact cap_n | refine cap_p rfl rfl rfl (by first | exact cl_row rfl | exact cl_r1 rfl | exact cl_r1b) ?_ ?_ | refine cap_m rfl (by decide) ?_ | refine cap_c (by first | exact cl_b rfl | exact cl_list | exact cl_nil | exact cl_one | exact cl_ll1 | exact cl_ll2 | exact cl_clo (by assumption)) ?_ | decide))) ?_ | refine ArgsOk.bor rfl rfl (deref_flat (by first | exact cl_rs rfl | exact cl_rows | exact cl_setB rfl | exact cl_setG (cl_setB rfl) rfl | exact cl_appB cl_rows (cl_rs rfl) | exact cl_rl1 | exact cl_rl2)) (by decide) ?_ | refine give' rfl (by first | exact cl_rs rfl | exact cl_rows | exact cl_setB rfl | exact cl_setG (cl_setB rfl) rfl | exact cl_appB cl_rows (cl_rs rfl) | exact cl_rl1 | exact cl_rl2) (by decide) (by decide) ?_))), cmpi_fun _ _, nobor, (by exact Nat.le_of_ble_eq_true rfl), ?_⟩)
  ((conv => whnf); repeat' ((first | refine ⟨rfl, ?_⟩ | refine ⟨_, row_map (by assumption), ?_⟩ | refine ⟨_, (by exact some_rfl), ?_⟩ | refine ⟨_, wrap_ok (by omega) (by omega), ?_⟩ | refine ⟨_, wrap_u64 (by omega) (by omega), ?_⟩ | refine ⟨by decide, _, fdiv_half (by omega), ?_⟩ | (intro gg)); (conv => whnf)))
  (refine .inl ⟨_, _, true, [], (by (repeat' (first | exact ArgsOk.nil _ | exact argsOk_cells (by assumption) | refine ArgsOk.same (by first | exact cl_b rfl | exact cl_list | exact cl_nil | exact cl_one | exact cl_ll1 | exact cl_ll2 | exact cl_clo (by assumption)) ?_ | refine ArgsOk.nilsl _ ?_ | refine ArgsOk.nilown _ _ (by decide) ?_ | refine ArgsOk.borp rfl rfl rfl (cl_row rfl) (by decide) ?_ | refine ArgsOk.borc (by (repeat' (first | exact cap_n | refine cap_p rfl rfl rfl (by first | exact cl_row rfl | exact cl_r1 rfl | exact cl_r1b) ?_ ?_ | refine cap_m rfl (by decide) ?_ | refine cap_c (by first | exact cl_b rfl | exact cl_list | exact cl_nil | exact cl_one | exact cl_ll1 | exact cl_ll2 | exact cl_clo (by assumption)) ?_ | decide))) ?_ | refine ArgsOk.bor rfl rfl (deref_flat (by first | exact cl_rs rfl | exact cl_rows | exact cl_setB rfl | exact cl_setG (cl_setB rfl) rfl | exact cl_appB cl_rows (cl_rs rfl) | exact cl_rl1 | exact cl_rl2)) (by decide) ?_ | refine give' rfl (by first | exact cl_rs rfl | exact cl_rows | exact cl_setB rfl | exact cl_setG (cl_setB rfl) rfl | exact cl_appB cl_rows (cl_rs rfl) | exact cl_rl1 | exact cl_rl2) (by decide) (by decide) ?_))), or_fun false [icmp g.lf x.lf, icmp g.st x.st, icmp g.ad x.ad, icmp (b2i g.sv) (b2i x.sv)] (by simp), (fun _ => by (first | exact flat_b rfl | exact flat_own | exact flat_own1 rfl | exact flat_own2 rfl)), (by exact Nat.le_of_ble_eq_true rfl), ?_⟩)
  ((conv => whnf); repeat' ((first | refine ⟨rfl, ?_⟩ | refine ⟨_, row_map (by assumption), ?_⟩ | refine ⟨_, (by exact some_rfl), ?_⟩ | refine ⟨_, wrap_ok (by omega) (by omega), ?_⟩ | refine ⟨_, wrap_u64 (by omega) (by omega), ?_⟩ | refine ⟨by decide, _, fdiv_half (by omega), ?_⟩ | (intro gg)); (conv => whnf)))
  (exact ⟨[], by (repeat' (first | exact ArgsOk.nil _ | exact argsOk_cells (by assumption) | refine ArgsOk.same (by first | exact cl_b rfl | exact cl_list | exact cl_nil | exact cl_one | exact cl_ll1 | exact cl_ll2 | exact cl_clo (by assumption)) ?_ | refine ArgsOk.nilsl _ ?_ | refine ArgsOk.nilown _ _ (by decide) ?_ | refine ArgsOk.borp rfl rfl rfl (cl_row rfl) (by decide) ?_ | refine ArgsOk.borc (by %caps) ?_ | refine ArgsOk.bor rfl rfl (deref_flat (by first | exact cl_rs rfl | exact cl_rows | exact cl_setB rfl | exact cl_setG (cl_setB rfl) rfl | exact cl_appB cl_rows (cl_rs rfl) | exact cl_rl1 | exact cl_rl2)) (by decide) ?_ | refine give' rfl (by first | exact cl_rs rfl | exact cl_rows | exact cl_setB rfl | exact cl_setG (cl_setB rfl) rfl | exact cl_appB cl_rows (cl_rs rfl) | exact cl_rl1 | exact cl_rl2) (by decide) (by decide) ?_))⟩)
theorem rnewer_fun (g x : Mb) : Fun Try.prog 46 [.c (.agg g.row), .c (.agg x.row)] [.c (.v (.bool (Mb.nw g x)))] := by
  refine fun_x ck_hearsayref_NewerMember rfl ?_
  ((conv => whnf); repeat' ((first | refine ⟨rfl, ?_⟩ | refine ⟨_, row_map (by assumption), ?_⟩ | refine ⟨_, (by exact some_rfl), ?_⟩ | refine ⟨_, wrap_ok (by omega) (by omega), ?_⟩ | refine ⟨_, wrap_u64 (by omega) (by omega), ?_⟩ | refine ⟨by decide, _, fdiv_half (by omega), ?_⟩ | (intro gg)); (conv => whnf)))
  (refine bIf_of (fun h1 => ?_) (fun h1 => ?_) <;> rw [h1])
  · ((conv => whnf); repeat' ((first | refine ⟨rfl, ?_⟩ | refine ⟨_, row_map (by assumption), ?_⟩ | refine ⟨_, (by exact some_rfl), ?_⟩ | refine ⟨_, wrap_ok (by omega) (by omega), ?_⟩ | refine ⟨_, wrap_u64 (by omega) (by omega), ?_⟩ | refine ⟨by decide, _, fdiv_half (by omega), ?_⟩ | (intro gg)); (conv => whnf)))
    rw [show Mb.nw g x = decide (x.lf < g.lf) from nz_ne h1]
    (exact ⟨[], by (repeat' (first | exact ArgsOk.nil _ | exact argsOk_cells (by assumption) | refine ArgsOk.same (by first | exact cl_b rfl | exact cl_list | exact cl_nil | exact cl_one | exact cl_ll1 | exact cl_ll2 | exact cl_clo (by assumption)) ?_ | refine ArgsOk.nilsl _ ?_ | refine ArgsOk.nilown _ _ (by decide) ?_ | refine ArgsOk.borp rfl rfl rfl (cl_row rfl) (by decide) ?_ | refine ArgsOk.borc (by %caps) ?_ | refine ArgsOk.bor rfl rfl (deref_flat (by first | exact cl_rs rfl | exact cl_rows | exact cl_setB rfl | exact cl_setG (cl_setB rfl) rfl | exact cl_appB cl_rows (cl_rs rfl) | exact cl_rl1 | exact cl_rl2)) (by decide) ?_ | refine give' rfl (by first | exact cl_rs rfl | exact cl_rows | exact cl_setB rfl | exact cl_setG (cl_setB rfl) rfl | exact cl_appB cl_rows (cl_rs rfl) | exact cl_rl1 | exact cl_rl2) (by decide) (by decide) ?_))⟩)
  · have e1 : Mb.nw g x = decide (0 < firstNZ [icmp g.st x.st, icmp g.ad x.ad, icmp (b2i g.sv) (b2i x.sv)]) := by unfold Mb.nw Mb.cmp; rw [nz_eq h1]
    ((conv => whnf); repeat' ((first | refine ⟨rfl, ?_⟩ | refine ⟨_, row_map (by assumption), ?_⟩ | refine ⟨_, (by exact some_rfl), ?_⟩ | refine ⟨_, wrap_ok (by omega) (by omega), ?_⟩ | refine ⟨_, wrap_u64 (by omega) (by omega), ?_⟩ | refine ⟨by decide, _, fdiv_half (by omega), ?_⟩ | (intro gg)); (conv => whnf)))
    (refine bIf_of (fun h2 => ?_) (fun h2 => ?_) <;> rw [h2])
    · ((conv => whnf); repeat' ((first | refine ⟨rfl, ?_⟩ | refine ⟨_, row_map (by assumption), ?_⟩ | refine ⟨_, (by exact some_rfl), ?_⟩ | refine ⟨_, wrap_ok (by omega) (by omega), ?_⟩ | refine ⟨_, wrap_u64 (by omega) (by omega), ?_⟩ | refine ⟨by decide, _, fdiv_half (by omega), ?_⟩ | (intro gg)); (conv => whnf)))
      rw [e1, nz_ne h2]
      (exact ⟨[], by (repeat' (first | exact ArgsOk.nil _ | exact argsOk_cells (by assumption) | refine ArgsOk.same (by first | exact cl_b rfl | exact cl_list | exact cl_nil | exact cl_one | exact cl_ll1 | exact cl_ll2 | exact cl_clo (by assumption)) ?_ | refine ArgsOk.nilsl _ ?_ | refine ArgsOk.nilown _ _ (by decide) ?_ | refine ArgsOk.borp rfl rfl rfl (cl_row rfl) (by decide) ?_ | refine ArgsOk.borc (by %caps) ?_ | refine ArgsOk.bor rfl rfl (deref_flat (by first | exact cl_rs rfl | exact cl_rows | exact cl_setB rfl | exact cl_setG (cl_setB rfl) rfl | exact cl_appB cl_rows (cl_rs rfl) | exact cl_rl1 | exact cl_rl2)) (by decide) ?_ | refine give' rfl (by first | exact cl_rs rfl | exact cl_rows | exact cl_setB rfl | exact cl_setG (cl_setB rfl) rfl | exact cl_appB cl_rows (cl_rs rfl) | exact cl_rl1 | exact cl_rl2) (by decide) (by decide) ?_))⟩)
    · rw [nz_eq h2] at e1
      ((conv => whnf); repeat' ((first | refine ⟨rfl, ?_⟩ | refine ⟨_, row_map (by assumption), ?_⟩ | refine ⟨_, (by exact some_rfl), ?_⟩ | refine ⟨_, wrap_ok (by omega) (by omega), ?_⟩ | refine ⟨_, wrap_u64 (by omega) (by omega), ?_⟩ | refine ⟨by decide, _, fdiv_half (by omega), ?_⟩ | (intro gg)); (conv => whnf)))
      (refine bIf_of (fun h3 => ?_) (fun h3 => ?_) <;> rw [h3])
      · ((conv => whnf); repeat' ((first | refine ⟨rfl, ?_⟩ | refine ⟨_, row_map (by assumption), ?_⟩ | refine ⟨_, (by exact some_rfl), ?_⟩ | refine ⟨_, wrap_ok (by omega) (by omega), ?_⟩ | refine ⟨_, wrap_u64 (by omega) (by omega), ?_⟩ | refine ⟨by decide, _, fdiv_half (by omega), ?_⟩ | (intro gg)); (conv => whnf)))
        rw [e1, nz_ne h3]
        (exact ⟨[], by (repeat' (first | exact ArgsOk.nil _ | exact argsOk_cells (by assumption) | refine ArgsOk.same (by first | exact cl_b rfl | exact cl_list | exact cl_nil | exact cl_one | exact cl_ll1 | exact cl_ll2 | exact cl_clo (by assumption)) ?_ | refine ArgsOk.nilsl _ ?_ | refine ArgsOk.nilown _ _ (by decide) ?_ | refine ArgsOk.borp rfl rfl rfl (cl_row rfl) (by decide) ?_ | refine ArgsOk.borc (by %caps) ?_ | refine ArgsOk.bor rfl rfl (deref_flat (by first | exact cl_rs rfl | exact cl_rows | exact cl_setB rfl | exact cl_setG (cl_setB rfl) rfl | exact cl_appB cl_rows (cl_rs rfl) | exact cl_rl1 | exact cl_rl2)) (by decide) ?_ | refine give' rfl (by first | exact cl_rs rfl | exact cl_rows | exact cl_setB rfl | exact cl_setG (cl_setB rfl) rfl | exact cl_appB cl_rows (cl_rs rfl) | exact cl_rl1 | exact cl_rl2) (by decide) (by decide) ?_))⟩)
      · rw [nz_eq h3, nzb_last] at e1
        ((conv => whnf); repeat' ((first | refine ⟨rfl, ?_⟩ | refine ⟨_, row_map (by assumption), ?_⟩ | refine ⟨_, (by exact some_rfl), ?_⟩ | refine ⟨_, wrap_ok (by omega) (by omega), ?_⟩ | refine ⟨_, wrap_u64 (by omega) (by omega), ?_⟩ | refine ⟨by decide, _, fdiv_half (by omega), ?_⟩ | (intro gg)); (conv => whnf)))
        (refine bIf_of (fun h4 => ?_) (fun h4 => ?_) <;> rw [h4])
        · ((conv => whnf); repeat' ((first | refine ⟨rfl, ?_⟩ | refine ⟨_, row_map (by assumption), ?_⟩ | refine ⟨_, (by exact some_rfl), ?_⟩ | refine ⟨_, wrap_ok (by omega) (by omega), ?_⟩ | refine ⟨_, wrap_u64 (by omega) (by omega), ?_⟩ | refine ⟨by decide, _, fdiv_half (by omega), ?_⟩ | (intro gg)); (conv => whnf)))
          rw [e1, h4, Bool.true_and]
          (exact ⟨[], by (repeat' (first | exact ArgsOk.nil _ | exact argsOk_cells (by assumption) | refine ArgsOk.same (by first | exact cl_b rfl | exact cl_list | exact cl_nil | exact cl_one | exact cl_ll1 | exact cl_ll2 | exact cl_clo (by assumption)) ?_ | refine ArgsOk.nilsl _ ?_ | refine ArgsOk.nilown _ _ (by decide) ?_ | refine ArgsOk.borp rfl rfl rfl (cl_row rfl) (by decide) ?_ | refine ArgsOk.borc (by %caps) ?_ | refine ArgsOk.bor rfl rfl (deref_flat (by first | exact cl_rs rfl | exact cl_rows | exact cl_setB rfl | exact cl_setG (cl_setB rfl) rfl | exact cl_appB cl_rows (cl_rs rfl) | exact cl_rl1 | exact cl_rl2)) (by decide) ?_ | refine give' rfl (by first | exact cl_rs rfl | exact cl_rows | exact cl_setB rfl | exact cl_setG (cl_setB rfl) rfl | exact cl_appB cl_rows (cl_rs rfl) | exact cl_rl1 | exact cl_rl2) (by decide) (by decide) ?_))⟩)
        · ((conv => whnf); repeat' ((first | refine ⟨rfl, ?_⟩ | refine ⟨_, row_map (by assumption), ?_⟩ | refine ⟨_, (by exact some_rfl), ?_⟩ | refine ⟨_, wrap_ok (by omega) (by omega), ?_⟩ | refine ⟨_, wrap_u64 (by omega) (by omega), ?_⟩ | refine ⟨by decide, _, fdiv_half (by omega), ?_⟩ | (intro gg)); (conv => whnf)))
          rw [e1, h4, Bool.false_and]
          (exact ⟨[], by (repeat' (first | exact ArgsOk.nil _ | exact argsOk_cells (by assumption) | refine ArgsOk.same (by first | exact cl_b rfl | exact cl_list | exact cl_nil | exact cl_one | exact cl_ll1 | exact cl_ll2 | exact cl_clo (by assumption)) ?_ | refine ArgsOk.nilsl _ ?_ | refine ArgsOk.nilown _ _ (by decide) ?_ | refine ArgsOk.borp rfl rfl rfl (cl_row rfl) (by decide) ?_ | refine ArgsOk.borc (by %caps) ?_ | refine ArgsOk.bor rfl rfl (deref_flat (by first | exact cl_rs rfl | exact cl_rows | exact cl_setB rfl | exact cl_setG (cl_setB rfl) rfl | exact cl_appB cl_rows (cl_rs rfl) | exact cl_rl1 | exact cl_rl2)) (by decide) ?_ | refine give' rfl (by first | exact cl_rs rfl | exact cl_rows | exact cl_setB rfl | exact cl_setG (cl_setB rfl) rfl | exact cl_appB cl_rows (cl_rs rfl) | exact cl_rl1 | exact cl_rl2) (by decide) (by decide) ?_))⟩)
end Go.Proofs.Ytjhdlcmecbngkaa
/- slices.Clone, IndexFunc, ContainsFunc, Delete, DeleteFunc at hearsay/api.Rumor. -/
namespace Go.Proofs.Ytjhdlcmecbngkaa
open Go.RowKit Pl
set_option linter.unusedVariables false
theorem cloneRu_fun (cl : Bool) (l : List Ru) (hl : l.length ≤ 1000) : Fun Try.prog 39 [.c (.sl cl (l.map Ru.row))] [.o 55 6 (l.map Ru.row)] := by
  refine fun_x ck_slices_Clone_api_Rumor_api_Rumor rfl ?_
  ((conv => whnf); repeat' ((first | refine ⟨rfl, ?_⟩ | refine ⟨_, row_map (by assumption), ?_⟩ | refine ⟨_, (by exact some_rfl), ?_⟩ | refine ⟨_, wrap_ok (by omega) (by omega), ?_⟩ | refine ⟨_, wrap_u64 (by omega) (by omega), ?_⟩ | refine ⟨by decide, _, fdiv_half (by omega), ?_⟩ | (intro gg)); (conv => whnf)))
  rename_i b
  have hb := gg
  cases b with
  | true =>
    have e : l.map Ru.row = [] := hb rfl
    ((conv => whnf); repeat' ((first | refine ⟨rfl, ?_⟩ | refine ⟨_, row_map (by assumption), ?_⟩ | refine ⟨_, (by exact some_rfl), ?_⟩ | refine ⟨_, wrap_ok (by omega) (by omega), ?_⟩ | refine ⟨_, wrap_u64 (by omega) (by omega), ?_⟩ | refine ⟨by decide, _, fdiv_half (by omega), ?_⟩ | (intro gg)); (conv => whnf)))
    rw [e]
    (exact ⟨[], by (repeat' (first | exact ArgsOk.nil _ | exact argsOk_cells (by assumption) | refine ArgsOk.same (by first | exact cl_b rfl | exact cl_list | exact cl_nil | exact cl_one | exact cl_ll1 | exact cl_ll2 | exact cl_clo (by assumption)) ?_ | refine ArgsOk.nilsl _ ?_ | refine ArgsOk.nilown _ _ (by decide) ?_ | refine ArgsOk.borp rfl rfl rfl (cl_row rfl) (by decide) ?_ | refine ArgsOk.borc (by %caps) ?_ | refine ArgsOk.bor rfl rfl (deref_flat (by first | exact cl_rs rfl | exact cl_rows | exact cl_setB rfl | exact cl_setG (cl_setB rfl) rfl | exact cl_appB cl_rows (cl_rs rfl) | exact cl_rl1 | exact cl_rl2)) (by decide) ?_ | refine give' rfl (by first | exact cl_rs rfl | exact cl_rows | exact cl_setB rfl | exact cl_setG (cl_setB rfl) rfl | exact cl_appB cl_rows (cl_rs rfl) | exact cl_rl1 | exact cl_rl2) (by decide) (by decide) ?_))⟩)
  | false =>
    ((conv => whnf); repeat' ((first | refine ⟨rfl, ?_⟩ | refine ⟨_, row_map (by assumption), ?_⟩ | refine ⟨_, (by exact some_rfl), ?_⟩ | refine ⟨_, wrap_ok (by omega) (by omega), ?_⟩ | refine ⟨_, wrap_u64 (by omega) (by omega), ?_⟩ | refine ⟨by decide, _, fdiv_half (by omega), ?_⟩ | (intro gg)); (conv => whnf)))
    refine ⟨ones_rows, ?_⟩
    ((conv => whnf); repeat' ((first | refine ⟨rfl, ?_⟩ | refine ⟨_, row_map (by assumption), ?_⟩ | refine ⟨_, (by exact some_rfl), ?_⟩ | refine ⟨_, wrap_ok (by omega) (by omega), ?_⟩ | refine ⟨_, wrap_u64 (by omega) (by omega), ?_⟩ | refine ⟨by decide, _, fdiv_half (by omega), ?_⟩ | (intro gg)); (conv => whnf)))
    refine ⟨(by simp only [List.length_map, List.length_append, List.length_cons, List.length_nil, List.length_set, List.length_replicate, maxLen]; omega), (by simp only [List.length_map, List.length_append, List.length_cons, List.length_nil, List.length_set, List.length_replicate]; omega), ?_⟩
    ((conv => whnf); repeat' ((first | refine ⟨rfl, ?_⟩ | refine ⟨_, row_map (by assumption), ?_⟩ | refine ⟨_, (by exact some_rfl), ?_⟩ | refine ⟨_, wrap_ok (by omega) (by omega), ?_⟩ | refine ⟨_, wrap_u64 (by omega) (by omega), ?_⟩ | refine ⟨by decide, _, fdiv_half (by omega), ?_⟩ | (intro gg)); (conv => whnf)))
    (exact ⟨[80], by (repeat' (first | exact ArgsOk.nil _ | exact argsOk_cells (by assumption) | refine ArgsOk.same (by first | exact cl_b rfl | exact cl_list | exact cl_nil | exact cl_one | exact cl_ll1 | exact cl_ll2 | exact cl_clo (by assumption)) ?_ | refine ArgsOk.nilsl _ ?_ | refine ArgsOk.nilown _ _ (by decide) ?_ | refine ArgsOk.borp rfl rfl rfl (cl_row rfl) (by decide) ?_ | refine ArgsOk.borc (by %caps) ?_ | refine ArgsOk.bor rfl rfl (deref_flat (by first | exact cl_rs rfl | exact cl_rows | exact cl_setB rfl | exact cl_setG (cl_setB rfl) rfl | exact cl_appB cl_rows (cl_rs rfl) | exact cl_rl1 | exact cl_rl2)) (by decide) ?_ | refine give' rfl (by first | exact cl_rs rfl | exact cl_rows | exact cl_setB rfl | exact cl_setG (cl_setB rfl) rfl | exact cl_appB cl_rows (cl_rs rfl) | exact cl_rl1 | exact cl_rl2) (by decide) (by decide) ?_))⟩)
theorem indexRu_fun (cl : Bool) (l : List Ru) (f : FuncId) (caps : List V) (hcaps : ∀ u ∈ caps, Cl u) (p : Ru → Bool) (hl : l.length ≤ 1000) (hf : ∀ x ∈ l, Fun Try.prog f (.c (.agg (Ru.row x)) :: caps.map .c) [.c (.v (.bool (p x)))]) :
    Fun Try.prog 40 [.c (.sl cl (l.map Ru.row)), .c (.clo f caps)] [.c (.v (.int .i64 (at_ p l)))] := by
  refine fun_x ck_slices_IndexFunc_api_Rumor_api_Rumor rfl ?_
  ((conv => whnf); repeat' ((first | refine ⟨rfl, ?_⟩ | refine ⟨_, row_map (by assumption), ?_⟩ | refine ⟨_, (by exact some_rfl), ?_⟩ | refine ⟨_, wrap_ok (by omega) (by omega), ?_⟩ | refine ⟨_, wrap_u64 (by omega) (by omega), ?_⟩ | refine ⟨by decide, _, fdiv_half (by omega), ?_⟩ | (intro gg)); (conv => whnf)))
  rw [List.length_map]
  (refine ⟨[], none, {k : Nat // k ≤ l.length ∧ ∀ j, (h : j < l.length) → j < k → p l[j] = false}, [0, 1, 7], fun ⟨k, hk, h0⟩ => [(8, .v (.int .i64 k))], [], fun ⟨k, hk, h0⟩ => [], fun ⟨k, hk, h0⟩ => l.length - k, trivial, fun _ => ⟨trivial, fun _ => ⟨⟨0, by omega, fun j _ h => by omega⟩, by (repeat' (first | exact trivial | refine ⟨rfl, ?_⟩)), keptE_refl _ _, by (repeat' (first | exact trivial | refine ⟨rfl, ?_⟩)), keptH_refl _ _⟩⟩, fun ⟨k, hk, h0⟩ => ?_⟩)
  ((conv => whnf); repeat' ((first | refine ⟨rfl, ?_⟩ | refine ⟨_, row_map (by assumption), ?_⟩ | refine ⟨_, (by exact some_rfl), ?_⟩ | refine ⟨_, wrap_ok (by omega) (by omega), ?_⟩ | refine ⟨_, wrap_u64 (by omega) (by omega), ?_⟩ | refine ⟨by decide, _, fdiv_half (by omega), ?_⟩ | (intro gg)); (conv => whnf)))
  (refine bIf_of (fun h => ?_) (fun h => ?_) <;> rw [h])
  · have hlt : k < l.length := (by have := of_decide_eq_true h; omega)
    ((conv => whnf); repeat' ((first | refine ⟨rfl, ?_⟩ | refine ⟨_, row_map (by assumption), ?_⟩ | refine ⟨_, (by exact some_rfl), ?_⟩ | refine ⟨_, wrap_ok (by omega) (by omega), ?_⟩ | refine ⟨_, wrap_u64 (by omega) (by omega), ?_⟩ | refine ⟨by decide, _, fdiv_half (by omega), ?_⟩ | (intro gg)); (conv => whnf)))
    refine ⟨k, _, rfl, row_map hlt, ?_⟩
    ((conv => whnf); repeat' ((first | refine ⟨rfl, ?_⟩ | refine ⟨_, row_map (by assumption), ?_⟩ | refine ⟨_, (by exact some_rfl), ?_⟩ | refine ⟨_, wrap_ok (by omega) (by omega), ?_⟩ | refine ⟨_, wrap_u64 (by omega) (by omega), ?_⟩ | refine ⟨by decide, _, fdiv_half (by omega), ?_⟩ | (intro gg)); (conv => whnf)))
    (refine .inl ⟨_, _, false, [], (by (repeat' (first | exact ArgsOk.nil _ | exact argsOk_cells (by assumption) | refine ArgsOk.same (by first | exact cl_b rfl | exact cl_list | exact cl_nil | exact cl_one | exact cl_ll1 | exact cl_ll2 | exact cl_clo (by assumption)) ?_ | refine ArgsOk.nilsl _ ?_ | refine ArgsOk.nilown _ _ (by decide) ?_ | refine ArgsOk.borp rfl rfl rfl (cl_row rfl) (by decide) ?_ | refine ArgsOk.borc (by (repeat' (first | exact cap_n | refine cap_p rfl rfl rfl (by first | exact cl_row rfl | exact cl_r1 rfl | exact cl_r1b) ?_ ?_ | refine cap_m rfl (by decide) ?_ | refine cap_c (by first | exact cl_b rfl | exact cl_list | exact cl_nil | exact cl_one | exact cl_ll1 | exact cl_ll2 | exact cl_clo (by assumption)) ?_ | decide))) ?_ | refine ArgsOk.bor rfl rfl (deref_flat (by first | exact cl_rs rfl | exact cl_rows | exact cl_setB rfl | exact cl_setG (cl_setB rfl) rfl | exact cl_appB cl_rows (cl_rs rfl) | exact cl_rl1 | exact cl_rl2)) (by decide) ?_ | refine give' rfl (by first | exact cl_rs rfl | exact cl_rows | exact cl_setB rfl | exact cl_setG (cl_setB rfl) rfl | exact cl_appB cl_rows (cl_rs rfl) | exact cl_rl1 | exact cl_rl2) (by decide) (by decide) ?_))), hf _ (List.getElem_mem hlt), nobor, (by exact Nat.le_of_ble_eq_true rfl), ?_⟩)
    ((conv => whnf); repeat' ((first | refine ⟨rfl, ?_⟩ | refine ⟨_, row_map (by assumption), ?_⟩ | refine ⟨_, (by exact some_rfl), ?_⟩ | refine ⟨_, wrap_ok (by omega) (by omega), ?_⟩ | refine ⟨_, wrap_u64 (by omega) (by omega), ?_⟩ | refine ⟨by decide, _, fdiv_half (by omega), ?_⟩ | (intro gg)); (conv => whnf)))
    (refine bIf_of (fun h2 => ?_) (fun h2 => ?_) <;> rw [h2])
    · ((conv => whnf); repeat' ((first | refine ⟨rfl, ?_⟩ | refine ⟨_, row_map (by assumption), ?_⟩ | refine ⟨_, (by exact some_rfl), ?_⟩ | refine ⟨_, wrap_ok (by omega) (by omega), ?_⟩ | refine ⟨_, wrap_u64 (by omega) (by omega), ?_⟩ | refine ⟨by decide, _, fdiv_half (by omega), ?_⟩ | (intro gg)); (conv => whnf)))
      rw [at_yes hlt h0 h2]
      (exact ⟨[], by (repeat' (first | exact ArgsOk.nil _ | exact argsOk_cells (by assumption) | refine ArgsOk.same (by first | exact cl_b rfl | exact cl_list | exact cl_nil | exact cl_one | exact cl_ll1 | exact cl_ll2 | exact cl_clo (by assumption)) ?_ | refine ArgsOk.nilsl _ ?_ | refine ArgsOk.nilown _ _ (by decide) ?_ | refine ArgsOk.borp rfl rfl rfl (cl_row rfl) (by decide) ?_ | refine ArgsOk.borc (by %caps) ?_ | refine ArgsOk.bor rfl rfl (deref_flat (by first | exact cl_rs rfl | exact cl_rows | exact cl_setB rfl | exact cl_setG (cl_setB rfl) rfl | exact cl_appB cl_rows (cl_rs rfl) | exact cl_rl1 | exact cl_rl2)) (by decide) ?_ | refine give' rfl (by first | exact cl_rs rfl | exact cl_rows | exact cl_setB rfl | exact cl_setG (cl_setB rfl) rfl | exact cl_appB cl_rows (cl_rs rfl) | exact cl_rl1 | exact cl_rl2) (by decide) (by decide) ?_))⟩)
    · ((conv => whnf); repeat' ((first | refine ⟨rfl, ?_⟩ | refine ⟨_, row_map (by assumption), ?_⟩ | refine ⟨_, (by exact some_rfl), ?_⟩ | refine ⟨_, wrap_ok (by omega) (by omega), ?_⟩ | refine ⟨_, wrap_u64 (by omega) (by omega), ?_⟩ | refine ⟨by decide, _, fdiv_half (by omega), ?_⟩ | (intro gg)); (conv => whnf)))
      (exact ⟨none, trivial, fun _ => ⟨⟨k + 1, by omega, up1 (p := fun j h => p l[j] = false) h0 (fun _ => h2)⟩, by show l.length - (k + 1) < l.length - k; omega, by (repeat' (first | exact trivial | refine ⟨rfl, ?_⟩)), by (repeat' (first | exact trivial | refine ⟨rfl, ?_⟩)), by (repeat' (first | exact trivial | refine ⟨rfl, ?_⟩)), by (repeat' (first | exact trivial | refine ⟨rfl, ?_⟩))⟩⟩)
  · have hge : ¬ k < l.length := (by have := of_decide_eq_false h; omega)
    ((conv => whnf); repeat' ((first | refine ⟨rfl, ?_⟩ | refine ⟨_, row_map (by assumption), ?_⟩ | refine ⟨_, (by exact some_rfl), ?_⟩ | refine ⟨_, wrap_ok (by omega) (by omega), ?_⟩ | refine ⟨_, wrap_u64 (by omega) (by omega), ?_⟩ | refine ⟨by decide, _, fdiv_half (by omega), ?_⟩ | (intro gg)); (conv => whnf)))
    rw [at_no (p := p) (l := l) (fun i hi => h0 i hi (by omega))]
    (exact ⟨[], by (repeat' (first | exact ArgsOk.nil _ | exact argsOk_cells (by assumption) | refine ArgsOk.same (by first | exact cl_b rfl | exact cl_list | exact cl_nil | exact cl_one | exact cl_ll1 | exact cl_ll2 | exact cl_clo (by assumption)) ?_ | refine ArgsOk.nilsl _ ?_ | refine ArgsOk.nilown _ _ (by decide) ?_ | refine ArgsOk.borp rfl rfl rfl (cl_row rfl) (by decide) ?_ | refine ArgsOk.borc (by %caps) ?_ | refine ArgsOk.bor rfl rfl (deref_flat (by first | exact cl_rs rfl | exact cl_rows | exact cl_setB rfl | exact cl_setG (cl_setB rfl) rfl | exact cl_appB cl_rows (cl_rs rfl) | exact cl_rl1 | exact cl_rl2)) (by decide) ?_ | refine give' rfl (by first | exact cl_rs rfl | exact cl_rows | exact cl_setB rfl | exact cl_setG (cl_setB rfl) rfl | exact cl_appB cl_rows (cl_rs rfl) | exact cl_rl1 | exact cl_rl2) (by decide) (by decide) ?_))⟩)
theorem indexVRu_fun (cl : Bool) (l : List Ru) (f : FuncId) (p : Ru → Bool) (hl : l.length ≤ 1000) (hf : ∀ x ∈ l, Fun Try.prog f [.c (.agg (Ru.row x))] [.c (.v (.bool (p x)))]) :
    Fun Try.prog 40 [.c (.sl cl (l.map Ru.row)), .c (.v (.func (.func f) #[] #[]))] [.c (.v (.int .i64 (at_ p l)))] := by
  refine fun_x ck_slices_IndexFunc_api_Rumor_api_Rumor rfl ?_
  ((conv => whnf); repeat' ((first | refine ⟨rfl, ?_⟩ | refine ⟨_, row_map (by assumption), ?_⟩ | refine ⟨_, (by exact some_rfl), ?_⟩ | refine ⟨_, wrap_ok (by omega) (by omega), ?_⟩ | refine ⟨_, wrap_u64 (by omega) (by omega), ?_⟩ | refine ⟨by decide, _, fdiv_half (by omega), ?_⟩ | (intro gg)); (conv => whnf)))
  rw [List.length_map]
  (refine ⟨[], none, {k : Nat // k ≤ l.length ∧ ∀ j, (h : j < l.length) → j < k → p l[j] = false}, [0, 1, 7], fun ⟨k, hk, h0⟩ => [(8, .v (.int .i64 k))], [], fun ⟨k, hk, h0⟩ => [], fun ⟨k, hk, h0⟩ => l.length - k, trivial, fun _ => ⟨trivial, fun _ => ⟨⟨0, by omega, fun j _ h => by omega⟩, by (repeat' (first | exact trivial | refine ⟨rfl, ?_⟩)), keptE_refl _ _, by (repeat' (first | exact trivial | refine ⟨rfl, ?_⟩)), keptH_refl _ _⟩⟩, fun ⟨k, hk, h0⟩ => ?_⟩)
  ((conv => whnf); repeat' ((first | refine ⟨rfl, ?_⟩ | refine ⟨_, row_map (by assumption), ?_⟩ | refine ⟨_, (by exact some_rfl), ?_⟩ | refine ⟨_, wrap_ok (by omega) (by omega), ?_⟩ | refine ⟨_, wrap_u64 (by omega) (by omega), ?_⟩ | refine ⟨by decide, _, fdiv_half (by omega), ?_⟩ | (intro gg)); (conv => whnf)))
  (refine bIf_of (fun h => ?_) (fun h => ?_) <;> rw [h])
  · have hlt : k < l.length := (by have := of_decide_eq_true h; omega)
    ((conv => whnf); repeat' ((first | refine ⟨rfl, ?_⟩ | refine ⟨_, row_map (by assumption), ?_⟩ | refine ⟨_, (by exact some_rfl), ?_⟩ | refine ⟨_, wrap_ok (by omega) (by omega), ?_⟩ | refine ⟨_, wrap_u64 (by omega) (by omega), ?_⟩ | refine ⟨by decide, _, fdiv_half (by omega), ?_⟩ | (intro gg)); (conv => whnf)))
    refine ⟨k, _, rfl, row_map hlt, ?_⟩
    ((conv => whnf); repeat' ((first | refine ⟨rfl, ?_⟩ | refine ⟨_, row_map (by assumption), ?_⟩ | refine ⟨_, (by exact some_rfl), ?_⟩ | refine ⟨_, wrap_ok (by omega) (by omega), ?_⟩ | refine ⟨_, wrap_u64 (by omega) (by omega), ?_⟩ | refine ⟨by decide, _, fdiv_half (by omega), ?_⟩ | (intro gg)); (conv => whnf)))
    (refine .inl ⟨_, _, false, [], (by (repeat' (first | exact ArgsOk.nil _ | exact argsOk_cells (by assumption) | refine ArgsOk.same (by first | exact cl_b rfl | exact cl_list | exact cl_nil | exact cl_one | exact cl_ll1 | exact cl_ll2 | exact cl_clo (by assumption)) ?_ | refine ArgsOk.nilsl _ ?_ | refine ArgsOk.nilown _ _ (by decide) ?_ | refine ArgsOk.borp rfl rfl rfl (cl_row rfl) (by decide) ?_ | refine ArgsOk.borc (by (repeat' (first | exact cap_n | refine cap_p rfl rfl rfl (by first | exact cl_row rfl | exact cl_r1 rfl | exact cl_r1b) ?_ ?_ | refine cap_m rfl (by decide) ?_ | refine cap_c (by first | exact cl_b rfl | exact cl_list | exact cl_nil | exact cl_one | exact cl_ll1 | exact cl_ll2 | exact cl_clo (by assumption)) ?_ | decide))) ?_ | refine ArgsOk.bor rfl rfl (deref_flat (by first | exact cl_rs rfl | exact cl_rows | exact cl_setB rfl | exact cl_setG (cl_setB rfl) rfl | exact cl_appB cl_rows (cl_rs rfl) | exact cl_rl1 | exact cl_rl2)) (by decide) ?_ | refine give' rfl (by first | exact cl_rs rfl | exact cl_rows | exact cl_setB rfl | exact cl_setG (cl_setB rfl) rfl | exact cl_appB cl_rows (cl_rs rfl) | exact cl_rl1 | exact cl_rl2) (by decide) (by decide) ?_))), hf _ (List.getElem_mem hlt), nobor, (by exact Nat.le_of_ble_eq_true rfl), ?_⟩)
    ((conv => whnf); repeat' ((first | refine ⟨rfl, ?_⟩ | refine ⟨_, row_map (by assumption), ?_⟩ | refine ⟨_, (by exact some_rfl), ?_⟩ | refine ⟨_, wrap_ok (by omega) (by omega), ?_⟩ | refine ⟨_, wrap_u64 (by omega) (by omega), ?_⟩ | refine ⟨by decide, _, fdiv_half (by omega), ?_⟩ | (intro gg)); (conv => whnf)))
    (refine bIf_of (fun h2 => ?_) (fun h2 => ?_) <;> rw [h2])
    · ((conv => whnf); repeat' ((first | refine ⟨rfl, ?_⟩ | refine ⟨_, row_map (by assumption), ?_⟩ | refine ⟨_, (by exact some_rfl), ?_⟩ | refine ⟨_, wrap_ok (by omega) (by omega), ?_⟩ | refine ⟨_, wrap_u64 (by omega) (by omega), ?_⟩ | refine ⟨by decide, _, fdiv_half (by omega), ?_⟩ | (intro gg)); (conv => whnf)))
      rw [at_yes hlt h0 h2]
      (exact ⟨[], by (repeat' (first | exact ArgsOk.nil _ | exact argsOk_cells (by assumption) | refine ArgsOk.same (by first | exact cl_b rfl | exact cl_list | exact cl_nil | exact cl_one | exact cl_ll1 | exact cl_ll2 | exact cl_clo (by assumption)) ?_ | refine ArgsOk.nilsl _ ?_ | refine ArgsOk.nilown _ _ (by decide) ?_ | refine ArgsOk.borp rfl rfl rfl (cl_row rfl) (by decide) ?_ | refine ArgsOk.borc (by %caps) ?_ | refine ArgsOk.bor rfl rfl (deref_flat (by first | exact cl_rs rfl | exact cl_rows | exact cl_setB rfl | exact cl_setG (cl_setB rfl) rfl | exact cl_appB cl_rows (cl_rs rfl) | exact cl_rl1 | exact cl_rl2)) (by decide) ?_ | refine give' rfl (by first | exact cl_rs rfl | exact cl_rows | exact cl_setB rfl | exact cl_setG (cl_setB rfl) rfl | exact cl_appB cl_rows (cl_rs rfl) | exact cl_rl1 | exact cl_rl2) (by decide) (by decide) ?_))⟩)
    · ((conv => whnf); repeat' ((first | refine ⟨rfl, ?_⟩ | refine ⟨_, row_map (by assumption), ?_⟩ | refine ⟨_, (by exact some_rfl), ?_⟩ | refine ⟨_, wrap_ok (by omega) (by omega), ?_⟩ | refine ⟨_, wrap_u64 (by omega) (by omega), ?_⟩ | refine ⟨by decide, _, fdiv_half (by omega), ?_⟩ | (intro gg)); (conv => whnf)))
      (exact ⟨none, trivial, fun _ => ⟨⟨k + 1, by omega, up1 (p := fun j h => p l[j] = false) h0 (fun _ => h2)⟩, by show l.length - (k + 1) < l.length - k; omega, by (repeat' (first | exact trivial | refine ⟨rfl, ?_⟩)), by (repeat' (first | exact trivial | refine ⟨rfl, ?_⟩)), by (repeat' (first | exact trivial | refine ⟨rfl, ?_⟩)), by (repeat' (first | exact trivial | refine ⟨rfl, ?_⟩))⟩⟩)
  · have hge : ¬ k < l.length := (by have := of_decide_eq_false h; omega)
    ((conv => whnf); repeat' ((first | refine ⟨rfl, ?_⟩ | refine ⟨_, row_map (by assumption), ?_⟩ | refine ⟨_, (by exact some_rfl), ?_⟩ | refine ⟨_, wrap_ok (by omega) (by omega), ?_⟩ | refine ⟨_, wrap_u64 (by omega) (by omega), ?_⟩ | refine ⟨by decide, _, fdiv_half (by omega), ?_⟩ | (intro gg)); (conv => whnf)))
    rw [at_no (p := p) (l := l) (fun i hi => h0 i hi (by omega))]
    (exact ⟨[], by (repeat' (first | exact ArgsOk.nil _ | exact argsOk_cells (by assumption) | refine ArgsOk.same (by first | exact cl_b rfl | exact cl_list | exact cl_nil | exact cl_one | exact cl_ll1 | exact cl_ll2 | exact cl_clo (by assumption)) ?_ | refine ArgsOk.nilsl _ ?_ | refine ArgsOk.nilown _ _ (by decide) ?_ | refine ArgsOk.borp rfl rfl rfl (cl_row rfl) (by decide) ?_ | refine ArgsOk.borc (by %caps) ?_ | refine ArgsOk.bor rfl rfl (deref_flat (by first | exact cl_rs rfl | exact cl_rows | exact cl_setB rfl | exact cl_setG (cl_setB rfl) rfl | exact cl_appB cl_rows (cl_rs rfl) | exact cl_rl1 | exact cl_rl2)) (by decide) ?_ | refine give' rfl (by first | exact cl_rs rfl | exact cl_rows | exact cl_setB rfl | exact cl_setG (cl_setB rfl) rfl | exact cl_appB cl_rows (cl_rs rfl) | exact cl_rl1 | exact cl_rl2) (by decide) (by decide) ?_))⟩)
theorem containsRu_fun (cl : Bool) (l : List Ru) (f : FuncId) (caps : List V) (hcaps : ∀ u ∈ caps, Cl u) (p : Ru → Bool) (hl : l.length ≤ 1000) (hf : ∀ x ∈ l, Fun Try.prog f (.c (.agg (Ru.row x)) :: caps.map .c) [.c (.v (.bool (p x)))]) :
    Fun Try.prog 47 [.c (.sl cl (l.map Ru.row)), .c (.clo f caps)] [.c (.v (.bool (l.any p)))] := by
  refine fun_x ck_slices_ContainsFunc_api_Rumor_api_Rumor rfl ?_
  ((conv => whnf); repeat' ((first | refine ⟨rfl, ?_⟩ | refine ⟨_, row_map (by assumption), ?_⟩ | refine ⟨_, (by exact some_rfl), ?_⟩ | refine ⟨_, wrap_ok (by omega) (by omega), ?_⟩ | refine ⟨_, wrap_u64 (by omega) (by omega), ?_⟩ | refine ⟨by decide, _, fdiv_half (by omega), ?_⟩ | (intro gg)); (conv => whnf)))
  (refine .inl ⟨_, _, false, [], (by (repeat' (first | exact ArgsOk.nil _ | exact argsOk_cells (by assumption) | refine ArgsOk.same (by first | exact cl_b rfl | exact cl_list | exact cl_nil | exact cl_one | exact cl_ll1 | exact cl_ll2 | exact cl_clo (by assumption)) ?_ | refine ArgsOk.nilsl _ ?_ | refine ArgsOk.nilown _ _ (by decide) ?_ | refine ArgsOk.borp rfl rfl rfl (cl_row rfl) (by decide) ?_ | refine ArgsOk.borc (by (repeat' (first | exact cap_n | refine cap_p rfl rfl rfl (by first | exact cl_row rfl | exact cl_r1 rfl | exact cl_r1b) ?_ ?_ | refine cap_m rfl (by decide) ?_ | refine cap_c (by first | exact cl_b rfl | exact cl_list | exact cl_nil | exact cl_one | exact cl_ll1 | exact cl_ll2 | exact cl_clo (by assumption)) ?_ | decide))) ?_ | refine ArgsOk.bor rfl rfl (deref_flat (by first | exact cl_rs rfl | exact cl_rows | exact cl_setB rfl | exact cl_setG (cl_setB rfl) rfl | exact cl_appB cl_rows (cl_rs rfl) | exact cl_rl1 | exact cl_rl2)) (by decide) ?_ | refine give' rfl (by first | exact cl_rs rfl | exact cl_rows | exact cl_setB rfl | exact cl_setG (cl_setB rfl) rfl | exact cl_appB cl_rows (cl_rs rfl) | exact cl_rl1 | exact cl_rl2) (by decide) (by decide) ?_))), indexRu_fun cl l f caps hcaps p hl hf, nobor, (by exact Nat.le_of_ble_eq_true rfl), ?_⟩)
  ((conv => whnf); repeat' ((first | refine ⟨rfl, ?_⟩ | refine ⟨_, row_map (by assumption), ?_⟩ | refine ⟨_, (by exact some_rfl), ?_⟩ | refine ⟨_, wrap_ok (by omega) (by omega), ?_⟩ | refine ⟨_, wrap_u64 (by omega) (by omega), ?_⟩ | refine ⟨by decide, _, fdiv_half (by omega), ?_⟩ | (intro gg)); (conv => whnf)))
  rw [any_at]
  (exact ⟨[], by (repeat' (first | exact ArgsOk.nil _ | exact argsOk_cells (by assumption) | refine ArgsOk.same (by first | exact cl_b rfl | exact cl_list | exact cl_nil | exact cl_one | exact cl_ll1 | exact cl_ll2 | exact cl_clo (by assumption)) ?_ | refine ArgsOk.nilsl _ ?_ | refine ArgsOk.nilown _ _ (by decide) ?_ | refine ArgsOk.borp rfl rfl rfl (cl_row rfl) (by decide) ?_ | refine ArgsOk.borc (by %caps) ?_ | refine ArgsOk.bor rfl rfl (deref_flat (by first | exact cl_rs rfl | exact cl_rows | exact cl_setB rfl | exact cl_setG (cl_setB rfl) rfl | exact cl_appB cl_rows (cl_rs rfl) | exact cl_rl1 | exact cl_rl2)) (by decide) ?_ | refine give' rfl (by first | exact cl_rs rfl | exact cl_rows | exact cl_setB rfl | exact cl_setG (cl_setB rfl) rfl | exact cl_appB cl_rows (cl_rs rfl) | exact cl_rl1 | exact cl_rl2) (by decide) (by decide) ?_))⟩)
theorem containsVRu_fun (cl : Bool) (l : List Ru) (f : FuncId) (p : Ru → Bool) (hl : l.length ≤ 1000) (hf : ∀ x ∈ l, Fun Try.prog f [.c (.agg (Ru.row x))] [.c (.v (.bool (p x)))]) :
    Fun Try.prog 47 [.c (.sl cl (l.map Ru.row)), .c (.v (.func (.func f) #[] #[]))] [.c (.v (.bool (l.any p)))] := by
  have hI := indexVRu_fun cl l f p hl hf
  refine fun_x ck_slices_ContainsFunc_api_Rumor_api_Rumor rfl ?_
  ((conv => whnf); repeat' ((first | refine ⟨rfl, ?_⟩ | refine ⟨_, row_map (by assumption), ?_⟩ | refine ⟨_, (by exact some_rfl), ?_⟩ | refine ⟨_, wrap_ok (by omega) (by omega), ?_⟩ | refine ⟨_, wrap_u64 (by omega) (by omega), ?_⟩ | refine ⟨by decide, _, fdiv_half (by omega), ?_⟩ | (intro gg)); (conv => whnf)))
  (refine .inl ⟨_, _, false, [], (by (repeat' (first | exact ArgsOk.nil _ | exact argsOk_cells (by assumption) | refine ArgsOk.same (by first | exact cl_b rfl | exact cl_list | exact cl_nil | exact cl_one | exact cl_ll1 | exact cl_ll2 | exact cl_clo (by assumption)) ?_ | refine ArgsOk.nilsl _ ?_ | refine ArgsOk.nilown _ _ (by decide) ?_ | refine ArgsOk.borp rfl rfl rfl (cl_row rfl) (by decide) ?_ | refine ArgsOk.borc (by (repeat' (first | exact cap_n | refine cap_p rfl rfl rfl (by first | exact cl_row rfl | exact cl_r1 rfl | exact cl_r1b) ?_ ?_ | refine cap_m rfl (by decide) ?_ | refine cap_c (by first | exact cl_b rfl | exact cl_list | exact cl_nil | exact cl_one | exact cl_ll1 | exact cl_ll2 | exact cl_clo (by assumption)) ?_ | decide))) ?_ | refine ArgsOk.bor rfl rfl (deref_flat (by first | exact cl_rs rfl | exact cl_rows | exact cl_setB rfl | exact cl_setG (cl_setB rfl) rfl | exact cl_appB cl_rows (cl_rs rfl) | exact cl_rl1 | exact cl_rl2)) (by decide) ?_ | refine give' rfl (by first | exact cl_rs rfl | exact cl_rows | exact cl_setB rfl | exact cl_setG (cl_setB rfl) rfl | exact cl_appB cl_rows (cl_rs rfl) | exact cl_rl1 | exact cl_rl2) (by decide) (by decide) ?_))), hI, nobor, (by exact Nat.le_of_ble_eq_true rfl), ?_⟩)
  ((conv => whnf); repeat' ((first | refine ⟨rfl, ?_⟩ | refine ⟨_, row_map (by assumption), ?_⟩ | refine ⟨_, (by exact some_rfl), ?_⟩ | refine ⟨_, wrap_ok (by omega) (by omega), ?_⟩ | refine ⟨_, wrap_u64 (by omega) (by omega), ?_⟩ | refine ⟨by decide, _, fdiv_half (by omega), ?_⟩ | (intro gg)); (conv => whnf)))
  rw [any_at]
  (exact ⟨[], by (repeat' (first | exact ArgsOk.nil _ | exact argsOk_cells (by assumption) | refine ArgsOk.same (by first | exact cl_b rfl | exact cl_list | exact cl_nil | exact cl_one | exact cl_ll1 | exact cl_ll2 | exact cl_clo (by assumption)) ?_ | refine ArgsOk.nilsl _ ?_ | refine ArgsOk.nilown _ _ (by decide) ?_ | refine ArgsOk.borp rfl rfl rfl (cl_row rfl) (by decide) ?_ | refine ArgsOk.borc (by %caps) ?_ | refine ArgsOk.bor rfl rfl (deref_flat (by first | exact cl_rs rfl | exact cl_rows | exact cl_setB rfl | exact cl_setG (cl_setB rfl) rfl | exact cl_appB cl_rows (cl_rs rfl) | exact cl_rl1 | exact cl_rl2)) (by decide) ?_ | refine give' rfl (by first | exact cl_rs rfl | exact cl_rows | exact cl_setB rfl | exact cl_setG (cl_setB rfl) rfl | exact cl_appB cl_rows (cl_rs rfl) | exact cl_rl1 | exact cl_rl2) (by decide) (by decide) ?_))⟩)
/-- one cut out, in place -/
theorem delRu_fun (l : List Ru) (i : Nat) (hi : i < l.length) (hl : l.length ≤ 1000) : Fun Try.prog 43 [.o 55 6 (l.map Ru.row), .c (.v (.int .i64 i)), .c (.v (.int .i64 ((i : Int) + 1)))] [.o 55 6 ((l.eraseIdx i).map Ru.row)] := by
  have hlen : (l.map Ru.row).length = l.length := by simp
  refine fun_x ck_slices_Delete_api_Rumor_api_Rumor rfl ?_
  ((conv => whnf); repeat' ((first | refine ⟨rfl, ?_⟩ | refine ⟨_, row_map (by assumption), ?_⟩ | refine ⟨_, (by exact some_rfl), ?_⟩ | refine ⟨_, wrap_ok (by omega) (by omega), ?_⟩ | refine ⟨_, wrap_u64 (by omega) (by omega), ?_⟩ | refine ⟨by decide, _, fdiv_half (by omega), ?_⟩ | (intro gg)); (conv => whnf)))
  refine ⟨2, i, i + 1, rfl, ⟨_, rfl⟩, ⟨_, rfl⟩, by omega, by show i + 1 ≤ (l.map Ru.row).length; omega, ?_⟩
  refine ⟨_, l.length, .i64, rfl, rfl, by rw [← hlen]; rfl, by omega, by show l.length ≤ (l.map Ru.row).length; omega, ?_⟩
  ((conv => whnf); repeat' ((first | refine ⟨rfl, ?_⟩ | refine ⟨_, row_map (by assumption), ?_⟩ | refine ⟨_, (by exact some_rfl), ?_⟩ | refine ⟨_, wrap_ok (by omega) (by omega), ?_⟩ | refine ⟨_, wrap_u64 (by omega) (by omega), ?_⟩ | refine ⟨by decide, _, fdiv_half (by omega), ?_⟩ | (intro gg)); (conv => whnf)))
  rw [show (((i : Int) == (i : Int) + 1) = false) from by simp; omega]
  ((conv => whnf); repeat' ((first | refine ⟨rfl, ?_⟩ | refine ⟨_, row_map (by assumption), ?_⟩ | refine ⟨_, (by exact some_rfl), ?_⟩ | refine ⟨_, wrap_ok (by omega) (by omega), ?_⟩ | refine ⟨_, wrap_u64 (by omega) (by omega), ?_⟩ | refine ⟨by decide, _, fdiv_half (by omega), ?_⟩ | (intro gg)); (conv => whnf)))
  refine ⟨0, i, rfl, rfl, ⟨_, rfl⟩, by omega, by show i ≤ (l.map Ru.row).length; omega, rfl, ?_⟩
  ((conv => whnf); repeat' ((first | refine ⟨rfl, ?_⟩ | refine ⟨_, row_map (by assumption), ?_⟩ | refine ⟨_, (by exact some_rfl), ?_⟩ | refine ⟨_, wrap_ok (by omega) (by omega), ?_⟩ | refine ⟨_, wrap_u64 (by omega) (by omega), ?_⟩ | refine ⟨by decide, _, fdiv_half (by omega), ?_⟩ | (intro gg)); (conv => whnf)))
  refine ⟨i + 1, (l.map Ru.row).length, rfl, ⟨_, rfl⟩, rfl, by show i + 1 ≤ (l.map Ru.row).length; omega, by show (l.map Ru.row).length ≤ (l.map Ru.row).length; omega, rfl, ?_⟩
  ((conv => whnf); repeat' ((first | refine ⟨rfl, ?_⟩ | refine ⟨_, row_map (by assumption), ?_⟩ | refine ⟨_, (by exact some_rfl), ?_⟩ | refine ⟨_, wrap_ok (by omega) (by omega), ?_⟩ | refine ⟨_, wrap_u64 (by omega) (by omega), ?_⟩ | refine ⟨by decide, _, fdiv_half (by omega), ?_⟩ | (intro gg)); (conv => whnf)))
  refine ⟨by omega, by omega, by show (l.map Ru.row).length ≤ (l.map Ru.row).length; omega, ?_⟩
  ((conv => whnf); repeat' ((first | refine ⟨rfl, ?_⟩ | refine ⟨_, row_map (by assumption), ?_⟩ | refine ⟨_, (by exact some_rfl), ?_⟩ | refine ⟨_, wrap_ok (by omega) (by omega), ?_⟩ | refine ⟨_, wrap_u64 (by omega) (by omega), ?_⟩ | refine ⟨by decide, _, fdiv_half (by omega), ?_⟩ | (intro gg)); (conv => whnf)))
  have e2 : ((l.map Ru.row).take i ++ ((l.map Ru.row).drop (i + 1)).take ((l.map Ru.row).length - (i + 1)) ++ (l.map Ru.row).drop (i + ((l.map Ru.row).length - (i + 1)))).length = l.length := by
    simp only [List.length_append, List.length_take, List.length_drop, hlen]; omega
  refine ⟨i + ((l.map Ru.row).length - (i + 1)), (l.map Ru.row).length, rfl, ⟨_, rfl⟩, ⟨_, rfl⟩, by omega, ?_, rfl, by omega, ?_⟩
  · show 0 + (l.map Ru.row).length ≤ ((l.map Ru.row).take i ++ ((l.map Ru.row).drop (i + 1)).take ((l.map Ru.row).length - (i + 1)) ++ (l.map Ru.row).drop (i + ((l.map Ru.row).length - (i + 1)))).length
    rw [Nat.zero_add, hlen]; rw [hlen] at e2; exact Nat.le_of_eq e2.symm
  ((conv => whnf); repeat' ((first | refine ⟨rfl, ?_⟩ | refine ⟨_, row_map (by assumption), ?_⟩ | refine ⟨_, (by exact some_rfl), ?_⟩ | refine ⟨_, wrap_ok (by omega) (by omega), ?_⟩ | refine ⟨_, wrap_u64 (by omega) (by omega), ?_⟩ | refine ⟨by decide, _, fdiv_half (by omega), ?_⟩ | (intro gg)); (conv => whnf)))
  refine ⟨by omega, ?_, ?_⟩
  · show 0 + (l.map Ru.row).length ≤ ((l.map Ru.row).take i ++ ((l.map Ru.row).drop (i + 1)).take ((l.map Ru.row).length - (i + 1)) ++ (l.map Ru.row).drop (i + ((l.map Ru.row).length - (i + 1)))).length
    rw [Nat.zero_add, hlen]; rw [hlen] at e2; exact Nat.le_of_eq e2.symm
  ((conv => whnf); repeat' ((first | refine ⟨rfl, ?_⟩ | refine ⟨_, row_map (by assumption), ?_⟩ | refine ⟨_, (by exact some_rfl), ?_⟩ | refine ⟨_, wrap_ok (by omega) (by omega), ?_⟩ | refine ⟨_, wrap_u64 (by omega) (by omega), ?_⟩ | refine ⟨by decide, _, fdiv_half (by omega), ?_⟩ | (intro gg)); (conv => whnf)))
  refine ⟨[0], ret_osub rfl rfl rfl rfl rfl ?_ ?_ ?_⟩
  · refine Nat.le_trans ?_ (Nat.le_of_eq (congrArg List.length (List.append_assoc _ _ _)).symm)
    rw [List.length_append, List.length_take]
    refine Nat.le_trans (m := i + ((l.map Ru.row).length - (i + 1))) (by omega) (Nat.le_trans (Nat.le_min.2 ⟨by omega, ?_⟩) (Nat.le_add_right _ _))
    show _ ≤ ((l.map Ru.row).take i ++ ((l.map Ru.row).drop (i + 1)).take ((l.map Ru.row).length - (i + 1)) ++ (l.map Ru.row).drop (i + ((l.map Ru.row).length - (i + 1)))).length
    rw [hlen]; rw [hlen] at e2; rw [e2]; omega
  · repeat' (first | exact cl_rows | exact cr_repl rfl | apply cr_app | apply cr_take | apply cr_drop)
  · exact erase_rows hi
theorem deleteFRu_fun (l : List Ru) (f : FuncId) (caps : List V) (hcaps : ∀ u ∈ caps, Cl u) (p : Ru → Bool) (hl : l.length ≤ 1000) (hf : ∀ x ∈ l, Fun Try.prog f (.c (.agg (Ru.row x)) :: caps.map .c) [.c (.v (.bool (p x)))]) :
    Fun Try.prog 51 [.o 55 6 (l.map Ru.row), .c (.clo f caps)] [.o 55 6 ((keep p l).map Ru.row)] := by
  refine fun_x ck_slices_DeleteFunc_api_Rumor_api_Rumor rfl ?_
  ((conv => whnf); repeat' ((first | refine ⟨rfl, ?_⟩ | refine ⟨_, row_map (by assumption), ?_⟩ | refine ⟨_, (by exact some_rfl), ?_⟩ | refine ⟨_, wrap_ok (by omega) (by omega), ?_⟩ | refine ⟨_, wrap_u64 (by omega) (by omega), ?_⟩ | refine ⟨by decide, _, fdiv_half (by omega), ?_⟩ | (intro gg)); (conv => whnf)))
  (refine .inl ⟨_, _, true, [], (by (repeat' (first | exact ArgsOk.nil _ | exact argsOk_cells (by assumption) | refine ArgsOk.same (by first | exact cl_b rfl | exact cl_list | exact cl_nil | exact cl_one | exact cl_ll1 | exact cl_ll2 | exact cl_clo (by assumption)) ?_ | refine ArgsOk.nilsl _ ?_ | refine ArgsOk.nilown _ _ (by decide) ?_ | refine ArgsOk.borp rfl rfl rfl (cl_row rfl) (by decide) ?_ | refine ArgsOk.borc (by (repeat' (first | exact cap_n | refine cap_p rfl rfl rfl (by first | exact cl_row rfl | exact cl_r1 rfl | exact cl_r1b) ?_ ?_ | refine cap_m rfl (by decide) ?_ | refine cap_c (by first | exact cl_b rfl | exact cl_list | exact cl_nil | exact cl_one | exact cl_ll1 | exact cl_ll2 | exact cl_clo (by assumption)) ?_ | decide))) ?_ | refine ArgsOk.bor rfl rfl (deref_flat (by first | exact cl_rs rfl | exact cl_rows | exact cl_setB rfl | exact cl_setG (cl_setB rfl) rfl | exact cl_appB cl_rows (cl_rs rfl) | exact cl_rl1 | exact cl_rl2)) (by decide) ?_ | refine give' rfl (by first | exact cl_rs rfl | exact cl_rows | exact cl_setB rfl | exact cl_setG (cl_setB rfl) rfl | exact cl_appB cl_rows (cl_rs rfl) | exact cl_rl1 | exact cl_rl2) (by decide) (by decide) ?_))), indexRu_fun false l f caps hcaps p hl hf, (fun _ => by (first | exact flat_b rfl | exact flat_own | exact flat_own1 rfl | exact flat_own2 rfl)), (by exact Nat.le_of_ble_eq_true rfl), ?_⟩)
  rcases at_inv (p := p) (l := l) with ⟨h1, h2⟩ | ⟨k, hk, h1, h2, h3⟩
  · rw [h1, Pl.keep_all (p := p) (l := l) h2]
    ((conv => whnf); repeat' ((first | refine ⟨rfl, ?_⟩ | refine ⟨_, row_map (by assumption), ?_⟩ | refine ⟨_, (by exact some_rfl), ?_⟩ | refine ⟨_, wrap_ok (by omega) (by omega), ?_⟩ | refine ⟨_, wrap_u64 (by omega) (by omega), ?_⟩ | refine ⟨by decide, _, fdiv_half (by omega), ?_⟩ | (intro gg)); (conv => whnf)))
    (exact ⟨[0], by (repeat' (first | exact ArgsOk.nil _ | exact argsOk_cells (by assumption) | refine ArgsOk.same (by first | exact cl_b rfl | exact cl_list | exact cl_nil | exact cl_one | exact cl_ll1 | exact cl_ll2 | exact cl_clo (by assumption)) ?_ | refine ArgsOk.nilsl _ ?_ | refine ArgsOk.nilown _ _ (by decide) ?_ | refine ArgsOk.borp rfl rfl rfl (cl_row rfl) (by decide) ?_ | refine ArgsOk.borc (by %caps) ?_ | refine ArgsOk.bor rfl rfl (deref_flat (by first | exact cl_rs rfl | exact cl_rows | exact cl_setB rfl | exact cl_setG (cl_setB rfl) rfl | exact cl_appB cl_rows (cl_rs rfl) | exact cl_rl1 | exact cl_rl2)) (by decide) ?_ | refine give' rfl (by first | exact cl_rs rfl | exact cl_rows | exact cl_setB rfl | exact cl_setG (cl_setB rfl) rfl | exact cl_appB cl_rows (cl_rs rfl) | exact cl_rl1 | exact cl_rl2) (by decide) (by decide) ?_))⟩)
  · rw [h1]
    ((conv => whnf); repeat' ((first | refine ⟨rfl, ?_⟩ | refine ⟨_, row_map (by assumption), ?_⟩ | refine ⟨_, (by exact some_rfl), ?_⟩ | refine ⟨_, wrap_ok (by omega) (by omega), ?_⟩ | refine ⟨_, wrap_u64 (by omega) (by omega), ?_⟩ | refine ⟨by decide, _, fdiv_half (by omega), ?_⟩ | (intro gg)); (conv => whnf)))
    (refine ⟨[], none, {q : List Ru × Nat × Nat // Moved p l q.1 q.2.1 q.2.2}, [0, 1, 36, 37, 39, 40, 41], fun ⟨⟨l', i, j⟩, hm⟩ => [(5, .v (.int .i64 i)), (6, .v (.int .i64 j))], [], fun ⟨⟨l', i, j⟩, hm⟩ => [(0, ⟨0, 55, 6, l'.map Ru.row⟩)], fun ⟨⟨l', i, j⟩, hm⟩ => l.length - j, trivial, fun _ => ⟨trivial, fun _ => ⟨⟨(l, k, k + 1), Moved.start hk h2 h3⟩, by (repeat' (first | exact trivial | refine ⟨rfl, ?_⟩)), keptE_refl _ _, by (repeat' (first | exact trivial | refine ⟨rfl, ?_⟩)), keptH_refl _ _⟩⟩, fun ⟨⟨l', i, j⟩, hm⟩ => ?_⟩)
    ((conv => whnf); repeat' ((first | refine ⟨rfl, ?_⟩ | refine ⟨_, row_map (by assumption), ?_⟩ | refine ⟨_, (by exact some_rfl), ?_⟩ | refine ⟨_, wrap_ok (by omega) (by omega), ?_⟩ | refine ⟨_, wrap_u64 (by omega) (by omega), ?_⟩ | refine ⟨by decide, _, fdiv_half (by omega), ?_⟩ | (intro gg)); (conv => whnf)))
    have hm : Moved p l l' i j := hm
    have hlen : l'.length = l.length := hm.len
    (refine bIf_of (fun h => ?_) (fun h => ?_) <;> rw [h])
    · have hlt : j < l'.length := by have := of_decide_eq_true h; simpa using this
      ((conv => whnf); repeat' ((first | refine ⟨rfl, ?_⟩ | refine ⟨_, row_map (by assumption), ?_⟩ | refine ⟨_, (by exact some_rfl), ?_⟩ | refine ⟨_, wrap_ok (by omega) (by omega), ?_⟩ | refine ⟨_, wrap_u64 (by omega) (by omega), ?_⟩ | refine ⟨by decide, _, fdiv_half (by omega), ?_⟩ | (intro gg)); (conv => whnf)))
      refine ⟨j, _, rfl, row_map hlt, ?_⟩
      ((conv => whnf); repeat' ((first | refine ⟨rfl, ?_⟩ | refine ⟨_, row_map (by assumption), ?_⟩ | refine ⟨_, (by exact some_rfl), ?_⟩ | refine ⟨_, wrap_ok (by omega) (by omega), ?_⟩ | refine ⟨_, wrap_u64 (by omega) (by omega), ?_⟩ | refine ⟨by decide, _, fdiv_half (by omega), ?_⟩ | (intro gg)); (conv => whnf)))
      have hj : j < l.length := by omega
      have hx : l'[j] = l[j] := hm.behind j hj (Nat.le_refl _)
      rw [hx]
      (refine .inl ⟨_, _, false, [], (by (repeat' (first | exact ArgsOk.nil _ | exact argsOk_cells (by assumption) | refine ArgsOk.same (by first | exact cl_b rfl | exact cl_list | exact cl_nil | exact cl_one | exact cl_ll1 | exact cl_ll2 | exact cl_clo (by assumption)) ?_ | refine ArgsOk.nilsl _ ?_ | refine ArgsOk.nilown _ _ (by decide) ?_ | refine ArgsOk.borp rfl rfl rfl (cl_row rfl) (by decide) ?_ | refine ArgsOk.borc (by (repeat' (first | exact cap_n | refine cap_p rfl rfl rfl (by first | exact cl_row rfl | exact cl_r1 rfl | exact cl_r1b) ?_ ?_ | refine cap_m rfl (by decide) ?_ | refine cap_c (by first | exact cl_b rfl | exact cl_list | exact cl_nil | exact cl_one | exact cl_ll1 | exact cl_ll2 | exact cl_clo (by assumption)) ?_ | decide))) ?_ | refine ArgsOk.bor rfl rfl (deref_flat (by first | exact cl_rs rfl | exact cl_rows | exact cl_setB rfl | exact cl_setG (cl_setB rfl) rfl | exact cl_appB cl_rows (cl_rs rfl) | exact cl_rl1 | exact cl_rl2)) (by decide) ?_ | refine give' rfl (by first | exact cl_rs rfl | exact cl_rows | exact cl_setB rfl | exact cl_setG (cl_setB rfl) rfl | exact cl_appB cl_rows (cl_rs rfl) | exact cl_rl1 | exact cl_rl2) (by decide) (by decide) ?_))), hf _ (List.getElem_mem hj), nobor, (by exact Nat.le_of_ble_eq_true rfl), ?_⟩)
      ((conv => whnf); repeat' ((first | refine ⟨rfl, ?_⟩ | refine ⟨_, row_map (by assumption), ?_⟩ | refine ⟨_, (by exact some_rfl), ?_⟩ | refine ⟨_, wrap_ok (by omega) (by omega), ?_⟩ | refine ⟨_, wrap_u64 (by omega) (by omega), ?_⟩ | refine ⟨by decide, _, fdiv_half (by omega), ?_⟩ | (intro gg)); (conv => whnf)))
      (refine bIf_of (fun h4 => ?_) (fun h4 => ?_) <;> rw [h4])
      · have h4' : p l[j] = false := not_t h4
        have hi : i < l'.length := by have := hm.ij; omega
        ((conv => whnf); repeat' ((first | refine ⟨rfl, ?_⟩ | refine ⟨_, row_map (by assumption), ?_⟩ | refine ⟨_, (by exact some_rfl), ?_⟩ | refine ⟨_, wrap_ok (by omega) (by omega), ?_⟩ | refine ⟨_, wrap_u64 (by omega) (by omega), ?_⟩ | refine ⟨by decide, _, fdiv_half (by omega), ?_⟩ | (intro gg)); (conv => whnf)))
        refine ⟨i, _, rfl, row_map hi, ?_⟩
        ((conv => whnf); repeat' ((first | refine ⟨rfl, ?_⟩ | refine ⟨_, row_map (by assumption), ?_⟩ | refine ⟨_, (by exact some_rfl), ?_⟩ | refine ⟨_, wrap_ok (by omega) (by omega), ?_⟩ | refine ⟨_, wrap_u64 (by omega) (by omega), ?_⟩ | refine ⟨by decide, _, fdiv_half (by omega), ?_⟩ | (intro gg)); (conv => whnf)))
        have e : (l'.map Ru.row).set i (Ru.row l[j]) = (l'.set i l[j]).map Ru.row := List.map_set.symm
        exact ⟨none, trivial, fun gr => ⟨⟨(l'.set i l[j], i + 1, j + 1), hm.stays hj h4'⟩, by show l.length - (j + 1) < l.length - j; omega, by (repeat' (first | exact trivial | refine ⟨rfl, ?_⟩)), by (repeat' (first | exact trivial | refine ⟨rfl, ?_⟩)), ⟨congrArg (fun r => some (Ent.mk 0 55 6 r)) e, trivial⟩, by (repeat' (first | exact trivial | refine ⟨rfl, ?_⟩))⟩⟩
      · have h4' : p l[j] = true := not_f h4
        ((conv => whnf); repeat' ((first | refine ⟨rfl, ?_⟩ | refine ⟨_, row_map (by assumption), ?_⟩ | refine ⟨_, (by exact some_rfl), ?_⟩ | refine ⟨_, wrap_ok (by omega) (by omega), ?_⟩ | refine ⟨_, wrap_u64 (by omega) (by omega), ?_⟩ | refine ⟨by decide, _, fdiv_half (by omega), ?_⟩ | (intro gg)); (conv => whnf)))
        (exact ⟨none, trivial, fun _ => ⟨⟨(l', i, j + 1), hm.gone hj h4'⟩, by show l.length - (j + 1) < l.length - j; omega, by (repeat' (first | exact trivial | refine ⟨rfl, ?_⟩)), by (repeat' (first | exact trivial | refine ⟨rfl, ?_⟩)), by (repeat' (first | exact trivial | refine ⟨rfl, ?_⟩)), by (repeat' (first | exact trivial | refine ⟨rfl, ?_⟩))⟩⟩)
    · have hge : ¬ j < l'.length := by have := of_decide_eq_false h; simpa using this
      have hi : i ≤ l'.length := by have := hm.ij; have := hm.jl; omega
      ((conv => whnf); repeat' ((first | refine ⟨rfl, ?_⟩ | refine ⟨_, row_map (by assumption), ?_⟩ | refine ⟨_, (by exact some_rfl), ?_⟩ | refine ⟨_, wrap_ok (by omega) (by omega), ?_⟩ | refine ⟨_, wrap_u64 (by omega) (by omega), ?_⟩ | refine ⟨by decide, _, fdiv_half (by omega), ?_⟩ | (intro gg)); (conv => whnf)))
      refine ⟨1, i, (l'.map Ru.row).length, rfl, ⟨_, rfl⟩, rfl, by simpa using hi, Nat.le_refl _, ?_⟩
      ((conv => whnf); repeat' ((first | refine ⟨rfl, ?_⟩ | refine ⟨_, row_map (by assumption), ?_⟩ | refine ⟨_, (by exact some_rfl), ?_⟩ | refine ⟨_, wrap_ok (by omega) (by omega), ?_⟩ | refine ⟨_, wrap_u64 (by omega) (by omega), ?_⟩ | refine ⟨by decide, _, fdiv_half (by omega), ?_⟩ | (intro gg)); (conv => whnf)))
      refine ⟨by simpa using hi, Nat.le_refl _, ?_⟩
      ((conv => whnf); repeat' ((first | refine ⟨rfl, ?_⟩ | refine ⟨_, row_map (by assumption), ?_⟩ | refine ⟨_, (by exact some_rfl), ?_⟩ | refine ⟨_, wrap_ok (by omega) (by omega), ?_⟩ | refine ⟨_, wrap_u64 (by omega) (by omega), ?_⟩ | refine ⟨by decide, _, fdiv_half (by omega), ?_⟩ | (intro gg)); (conv => whnf)))
      refine ⟨0, 0, i, rfl, rfl, ⟨_, rfl⟩, Nat.zero_le _, ?_, rfl, rfl, fun g => ?_⟩
      · show i ≤ ((l'.map Ru.row).take i ++ List.replicate ((l'.map Ru.row).length - i) _ ++ (l'.map Ru.row).drop (l'.map Ru.row).length).length
        simp only [List.length_append, List.length_take, List.length_map, List.length_replicate]; omega
      ((conv => whnf); repeat' ((first | refine ⟨rfl, ?_⟩ | refine ⟨_, row_map (by assumption), ?_⟩ | refine ⟨_, (by exact some_rfl), ?_⟩ | refine ⟨_, wrap_ok (by omega) (by omega), ?_⟩ | refine ⟨_, wrap_u64 (by omega) (by omega), ?_⟩ | refine ⟨by decide, _, fdiv_half (by omega), ?_⟩ | (intro gg)); (conv => whnf)))
      refine ⟨[0], ret_own rfl rfl rfl rfl rfl cl_rows ?_⟩
      show ((l'.map Ru.row).take i ++ List.replicate ((l'.map Ru.row).length - i) _ ++ (l'.map Ru.row).drop (l'.map Ru.row).length).take i = (keep p l).map Ru.row
      rw [List.append_assoc, List.take_append_of_le_length (by simp; omega), List.take_take, Nat.min_self, ← hm.fin (by omega), List.map_take]
end Go.Proofs.Ytjhdlcmecbngkaa
/- Contracts of the functions of rumors: checking, putting, counting; the reference's too. -/
namespace Go.Proofs.Ytjhdlcmecbngkaa
open Go.RowKit Pl
set_option linter.unusedVariables false
def Ru.fits (r : Ru) : Prop := r.m.ok
theorem mOne_fun (m : Mb) (hm : m.ok) : Fun Try.prog 38 [.c (.agg m.row)] [.c (.v (.int .i64 m.err))] := by
  refine fun_x ck_member_One rfl ?_
  ((conv => whnf); repeat' ((first | refine ⟨rfl, ?_⟩ | refine ⟨_, row_map (by assumption), ?_⟩ | refine ⟨_, (by exact some_rfl), ?_⟩ | refine ⟨_, wrap_ok (by omega) (by omega), ?_⟩ | refine ⟨_, wrap_u64 (by omega) (by omega), ?_⟩ | refine ⟨by decide, _, fdiv_half (by omega), ?_⟩ | (intro gg)); (conv => whnf)))
  (refine .inl ⟨_, _, false, [], (by (repeat' (first | exact ArgsOk.nil _ | exact argsOk_cells (by assumption) | refine ArgsOk.same (by first | exact cl_b rfl | exact cl_list | exact cl_nil | exact cl_one | exact cl_ll1 | exact cl_ll2 | exact cl_clo (by assumption)) ?_ | refine ArgsOk.nilsl _ ?_ | refine ArgsOk.nilown _ _ (by decide) ?_ | refine ArgsOk.borp rfl rfl rfl (cl_row rfl) (by decide) ?_ | refine ArgsOk.borc (by (repeat' (first | exact cap_n | refine cap_p rfl rfl rfl (by first | exact cl_row rfl | exact cl_r1 rfl | exact cl_r1b) ?_ ?_ | refine cap_m rfl (by decide) ?_ | refine cap_c (by first | exact cl_b rfl | exact cl_list | exact cl_nil | exact cl_one | exact cl_ll1 | exact cl_ll2 | exact cl_clo (by assumption)) ?_ | decide))) ?_ | refine ArgsOk.bor rfl rfl (deref_flat (by first | exact cl_rs rfl | exact cl_rows | exact cl_setB rfl | exact cl_setG (cl_setB rfl) rfl | exact cl_appB cl_rows (cl_rs rfl) | exact cl_rl1 | exact cl_rl2)) (by decide) ?_ | refine give' rfl (by first | exact cl_rs rfl | exact cl_rows | exact cl_setB rfl | exact cl_setG (cl_setB rfl) rfl | exact cl_appB cl_rows (cl_rs rfl) | exact cl_rl1 | exact cl_rl2) (by decide) (by decide) ?_))), mone_fun m hm, nobor, (by exact Nat.le_of_ble_eq_true rfl), ?_⟩)
  ((conv => whnf); repeat' ((first | refine ⟨rfl, ?_⟩ | refine ⟨_, row_map (by assumption), ?_⟩ | refine ⟨_, (by exact some_rfl), ?_⟩ | refine ⟨_, wrap_ok (by omega) (by omega), ?_⟩ | refine ⟨_, wrap_u64 (by omega) (by omega), ?_⟩ | refine ⟨by decide, _, fdiv_half (by omega), ?_⟩ | (intro gg)); (conv => whnf)))
  (exact ⟨[], by (repeat' (first | exact ArgsOk.nil _ | exact argsOk_cells (by assumption) | refine ArgsOk.same (by first | exact cl_b rfl | exact cl_list | exact cl_nil | exact cl_one | exact cl_ll1 | exact cl_ll2 | exact cl_clo (by assumption)) ?_ | refine ArgsOk.nilsl _ ?_ | refine ArgsOk.nilown _ _ (by decide) ?_ | refine ArgsOk.borp rfl rfl rfl (cl_row rfl) (by decide) ?_ | refine ArgsOk.borc (by %caps) ?_ | refine ArgsOk.bor rfl rfl (deref_flat (by first | exact cl_rs rfl | exact cl_rows | exact cl_setB rfl | exact cl_setG (cl_setB rfl) rfl | exact cl_appB cl_rows (cl_rs rfl) | exact cl_rl1 | exact cl_rl2)) (by decide) ?_ | refine give' rfl (by first | exact cl_rs rfl | exact cl_rows | exact cl_setB rfl | exact cl_setG (cl_setB rfl) rfl | exact cl_appB cl_rows (cl_rs rfl) | exact cl_rl1 | exact cl_rl2) (by decide) (by decide) ?_))⟩)
theorem ruBad_fun (r : Ru) : Fun Try.prog 48 [.c (.agg r.row)] [.c (.v (.bool r.bad))] := by
  refine fun_x ck_rumor_Check_1 rfl ?_
  ((conv => whnf); repeat' ((first | refine ⟨rfl, ?_⟩ | refine ⟨_, row_map (by assumption), ?_⟩ | refine ⟨_, (by exact some_rfl), ?_⟩ | refine ⟨_, wrap_ok (by omega) (by omega), ?_⟩ | refine ⟨_, wrap_u64 (by omega) (by omega), ?_⟩ | refine ⟨by decide, _, fdiv_half (by omega), ?_⟩ | (intro gg)); (conv => whnf)))
  (refine bIf_of (fun h => ?_) (fun h => ?_) <;> rw [h])
  · have e : r.bad = true := by have := of_decide_eq_true h; simp [Ru.bad, wi]; omega
    ((conv => whnf); repeat' ((first | refine ⟨rfl, ?_⟩ | refine ⟨_, row_map (by assumption), ?_⟩ | refine ⟨_, (by exact some_rfl), ?_⟩ | refine ⟨_, wrap_ok (by omega) (by omega), ?_⟩ | refine ⟨_, wrap_u64 (by omega) (by omega), ?_⟩ | refine ⟨by decide, _, fdiv_half (by omega), ?_⟩ | (intro gg)); (conv => whnf)))
    rw [e]
    (exact ⟨[], by (repeat' (first | exact ArgsOk.nil _ | exact argsOk_cells (by assumption) | refine ArgsOk.same (by first | exact cl_b rfl | exact cl_list | exact cl_nil | exact cl_one | exact cl_ll1 | exact cl_ll2 | exact cl_clo (by assumption)) ?_ | refine ArgsOk.nilsl _ ?_ | refine ArgsOk.nilown _ _ (by decide) ?_ | refine ArgsOk.borp rfl rfl rfl (cl_row rfl) (by decide) ?_ | refine ArgsOk.borc (by %caps) ?_ | refine ArgsOk.bor rfl rfl (deref_flat (by first | exact cl_rs rfl | exact cl_rows | exact cl_setB rfl | exact cl_setG (cl_setB rfl) rfl | exact cl_appB cl_rows (cl_rs rfl) | exact cl_rl1 | exact cl_rl2)) (by decide) ?_ | refine give' rfl (by first | exact cl_rs rfl | exact cl_rows | exact cl_setB rfl | exact cl_setG (cl_setB rfl) rfl | exact cl_appB cl_rows (cl_rs rfl) | exact cl_rl1 | exact cl_rl2) (by decide) (by decide) ?_))⟩)
  · have e : r.bad = decide (100 < r.t) := by
      have h0 : 0 ≤ r.t := by have := of_decide_eq_false h; omega
      unfold Ru.bad wi
      rw [decide_eq_true h0, Bool.true_and]
      by_cases q : 100 < r.t
      · rw [decide_eq_true q, decide_eq_false (by omega)]; rfl
      · rw [decide_eq_false q, decide_eq_true (by omega)]; rfl
    ((conv => whnf); repeat' ((first | refine ⟨rfl, ?_⟩ | refine ⟨_, row_map (by assumption), ?_⟩ | refine ⟨_, (by exact some_rfl), ?_⟩ | refine ⟨_, wrap_ok (by omega) (by omega), ?_⟩ | refine ⟨_, wrap_u64 (by omega) (by omega), ?_⟩ | refine ⟨by decide, _, fdiv_half (by omega), ?_⟩ | (intro gg)); (conv => whnf)))
    rw [e]
    (exact ⟨[], by (repeat' (first | exact ArgsOk.nil _ | exact argsOk_cells (by assumption) | refine ArgsOk.same (by first | exact cl_b rfl | exact cl_list | exact cl_nil | exact cl_one | exact cl_ll1 | exact cl_ll2 | exact cl_clo (by assumption)) ?_ | refine ArgsOk.nilsl _ ?_ | refine ArgsOk.nilown _ _ (by decide) ?_ | refine ArgsOk.borp rfl rfl rfl (cl_row rfl) (by decide) ?_ | refine ArgsOk.borc (by %caps) ?_ | refine ArgsOk.bor rfl rfl (deref_flat (by first | exact cl_rs rfl | exact cl_rows | exact cl_setB rfl | exact cl_setG (cl_setB rfl) rfl | exact cl_appB cl_rows (cl_rs rfl) | exact cl_rl1 | exact cl_rl2)) (by decide) ?_ | refine give' rfl (by first | exact cl_rs rfl | exact cl_rows | exact cl_setB rfl | exact cl_setG (cl_setB rfl) rfl | exact cl_appB cl_rows (cl_rs rfl) | exact cl_rl1 | exact cl_rl2) (by decide) (by decide) ?_))⟩)
theorem ruCheck_fun (cl : Bool) (l : List Ru) (hl : l.length ≤ 9223372036854775807) (hw : ∀ r ∈ l, r.m.ok) : Fun Try.prog 18 [.c (.sl cl (l.map Ru.row))] [.c (.v (.int .i64 (ckRu l)))] := by
  refine fun_x ck_rumor_Check rfl ?_
  ((conv => whnf); repeat' ((first | refine ⟨rfl, ?_⟩ | refine ⟨_, row_map (by assumption), ?_⟩ | refine ⟨_, (by exact some_rfl), ?_⟩ | refine ⟨_, wrap_ok (by omega) (by omega), ?_⟩ | refine ⟨_, wrap_u64 (by omega) (by omega), ?_⟩ | refine ⟨by decide, _, fdiv_half (by omega), ?_⟩ | (intro gg)); (conv => whnf)))
  rw [List.length_map]
  (refine bIf_of (fun h => ?_) (fun h => ?_) <;> rw [h])
  · have h1 : 20 < l.length := (by have := of_decide_eq_true h; omega)
    ((conv => whnf); repeat' ((first | refine ⟨rfl, ?_⟩ | refine ⟨_, row_map (by assumption), ?_⟩ | refine ⟨_, (by exact some_rfl), ?_⟩ | refine ⟨_, wrap_ok (by omega) (by omega), ?_⟩ | refine ⟨_, wrap_u64 (by omega) (by omega), ?_⟩ | refine ⟨by decide, _, fdiv_half (by omega), ?_⟩ | (intro gg)); (conv => whnf)))
    rw [ckRu_many h1]
    (exact ⟨[], by (repeat' (first | exact ArgsOk.nil _ | exact argsOk_cells (by assumption) | refine ArgsOk.same (by first | exact cl_b rfl | exact cl_list | exact cl_nil | exact cl_one | exact cl_ll1 | exact cl_ll2 | exact cl_clo (by assumption)) ?_ | refine ArgsOk.nilsl _ ?_ | refine ArgsOk.nilown _ _ (by decide) ?_ | refine ArgsOk.borp rfl rfl rfl (cl_row rfl) (by decide) ?_ | refine ArgsOk.borc (by %caps) ?_ | refine ArgsOk.bor rfl rfl (deref_flat (by first | exact cl_rs rfl | exact cl_rows | exact cl_setB rfl | exact cl_setG (cl_setB rfl) rfl | exact cl_appB cl_rows (cl_rs rfl) | exact cl_rl1 | exact cl_rl2)) (by decide) ?_ | refine give' rfl (by first | exact cl_rs rfl | exact cl_rows | exact cl_setB rfl | exact cl_setG (cl_setB rfl) rfl | exact cl_appB cl_rows (cl_rs rfl) | exact cl_rl1 | exact cl_rl2) (by decide) (by decide) ?_))⟩)
  · have h1 : ¬ 20 < l.length := (by have := of_decide_eq_false h; omega)
    ((conv => whnf); repeat' ((first | refine ⟨rfl, ?_⟩ | refine ⟨_, row_map (by assumption), ?_⟩ | refine ⟨_, (by exact some_rfl), ?_⟩ | refine ⟨_, wrap_ok (by omega) (by omega), ?_⟩ | refine ⟨_, wrap_u64 (by omega) (by omega), ?_⟩ | refine ⟨by decide, _, fdiv_half (by omega), ?_⟩ | (intro gg)); (conv => whnf)))
    rename Nat => g0
    (refine ⟨[], none, {q : Nat × List (ByteArray × V) // q.1 ≤ l.length ∧ (∀ j, (h : j < l.length) → j < q.1 → (l[j]).err = 0) ∧ Names q.2 ((l.take q.1).map Ru.nm)}, [0, 3, 11, 12], fun ⟨⟨k, E⟩, hk, h0, hE⟩ => [(13, .v (.int .i64 k))], [], fun ⟨⟨k, E⟩, hk, h0, hE⟩ => [(160, ⟨g0, .q (mapI (ents E)), 0, []⟩)], fun ⟨⟨k, E⟩, hk, h0, hE⟩ => l.length - k, trivial, fun _ => ⟨trivial, fun _ => ⟨⟨(0, []), Nat.zero_le _, fun j _ h => absurd h (Nat.not_lt_zero _), Names.nil⟩, by (repeat' (first | exact trivial | refine ⟨rfl, ?_⟩)), keptE_refl _ _, by (repeat' (first | exact trivial | refine ⟨rfl, ?_⟩)), keptH_refl _ _⟩⟩, fun ⟨⟨k, E⟩, hk, h0, hE⟩ => ?_⟩)
    ((conv => whnf); repeat' ((first | refine ⟨rfl, ?_⟩ | refine ⟨_, row_map (by assumption), ?_⟩ | refine ⟨_, (by exact some_rfl), ?_⟩ | refine ⟨_, wrap_ok (by omega) (by omega), ?_⟩ | refine ⟨_, wrap_u64 (by omega) (by omega), ?_⟩ | refine ⟨by decide, _, fdiv_half (by omega), ?_⟩ | (intro gg)); (conv => whnf)))
    (refine bIf_of (fun h2 => ?_) (fun h2 => ?_) <;> rw [h2])
    · have hlt : k < l.length := by have := of_decide_eq_true h2; simpa using this
      ((conv => whnf); repeat' ((first | refine ⟨rfl, ?_⟩ | refine ⟨_, row_map (by assumption), ?_⟩ | refine ⟨_, (by exact some_rfl), ?_⟩ | refine ⟨_, wrap_ok (by omega) (by omega), ?_⟩ | refine ⟨_, wrap_u64 (by omega) (by omega), ?_⟩ | refine ⟨by decide, _, fdiv_half (by omega), ?_⟩ | (intro gg)); (conv => whnf)))
      refine ⟨k, _, rfl, row_map hlt, ?_⟩
      ((conv => whnf); repeat' ((first | refine ⟨rfl, ?_⟩ | refine ⟨_, row_map (by assumption), ?_⟩ | refine ⟨_, (by exact some_rfl), ?_⟩ | refine ⟨_, wrap_ok (by omega) (by omega), ?_⟩ | refine ⟨_, wrap_u64 (by omega) (by omega), ?_⟩ | refine ⟨by decide, _, fdiv_half (by omega), ?_⟩ | (intro gg)); (conv => whnf)))
      (refine .inl ⟨_, _, false, [], (by (repeat' (first | exact ArgsOk.nil _ | exact argsOk_cells (by assumption) | refine ArgsOk.same (by first | exact cl_b rfl | exact cl_list | exact cl_nil | exact cl_one | exact cl_ll1 | exact cl_ll2 | exact cl_clo (by assumption)) ?_ | refine ArgsOk.nilsl _ ?_ | refine ArgsOk.nilown _ _ (by decide) ?_ | refine ArgsOk.borp rfl rfl rfl (cl_row rfl) (by decide) ?_ | refine ArgsOk.borc (by (repeat' (first | exact cap_n | refine cap_p rfl rfl rfl (by first | exact cl_row rfl | exact cl_r1 rfl | exact cl_r1b) ?_ ?_ | refine cap_m rfl (by decide) ?_ | refine cap_c (by first | exact cl_b rfl | exact cl_list | exact cl_nil | exact cl_one | exact cl_ll1 | exact cl_ll2 | exact cl_clo (by assumption)) ?_ | decide))) ?_ | refine ArgsOk.bor rfl rfl (deref_flat (by first | exact cl_rs rfl | exact cl_rows | exact cl_setB rfl | exact cl_setG (cl_setB rfl) rfl | exact cl_appB cl_rows (cl_rs rfl) | exact cl_rl1 | exact cl_rl2)) (by decide) ?_ | refine give' rfl (by first | exact cl_rs rfl | exact cl_rows | exact cl_setB rfl | exact cl_setG (cl_setB rfl) rfl | exact cl_appB cl_rows (cl_rs rfl) | exact cl_rl1 | exact cl_rl2) (by decide) (by decide) ?_))), mOne_fun (l[k]).m (hw _ (List.getElem_mem hlt)), nobor, (by exact Nat.le_of_ble_eq_true rfl), ?_⟩)
      ((conv => whnf); repeat' ((first | refine ⟨rfl, ?_⟩ | refine ⟨_, row_map (by assumption), ?_⟩ | refine ⟨_, (by exact some_rfl), ?_⟩ | refine ⟨_, wrap_ok (by omega) (by omega), ?_⟩ | refine ⟨_, wrap_u64 (by omega) (by omega), ?_⟩ | refine ⟨by decide, _, fdiv_half (by omega), ?_⟩ | (intro gg)); (conv => whnf)))
      (refine bIf_of (fun h3 => ?_) (fun h3 => ?_) <;> rw [h3])
      · ((conv => whnf); repeat' ((first | refine ⟨rfl, ?_⟩ | refine ⟨_, row_map (by assumption), ?_⟩ | refine ⟨_, (by exact some_rfl), ?_⟩ | refine ⟨_, wrap_ok (by omega) (by omega), ?_⟩ | refine ⟨_, wrap_u64 (by omega) (by omega), ?_⟩ | refine ⟨by decide, _, fdiv_half (by omega), ?_⟩ | (intro gg)); (conv => whnf)))
        have e : ckRu l = l[k].m.err := by
          have e1 := firstErr_at (e := Ru.err) hlt h0 (by simpa [Ru.err] using h3)
          rw [ckRu_each h1 (by rw [e1]; simpa [Ru.err] using h3), e1]; rfl
        rw [e]
        (exact ⟨[], by (repeat' (first | exact ArgsOk.nil _ | exact argsOk_cells (by assumption) | refine ArgsOk.same (by first | exact cl_b rfl | exact cl_list | exact cl_nil | exact cl_one | exact cl_ll1 | exact cl_ll2 | exact cl_clo (by assumption)) ?_ | refine ArgsOk.nilsl _ ?_ | refine ArgsOk.nilown _ _ (by decide) ?_ | refine ArgsOk.borp rfl rfl rfl (cl_row rfl) (by decide) ?_ | refine ArgsOk.borc (by %caps) ?_ | refine ArgsOk.bor rfl rfl (deref_flat (by first | exact cl_rs rfl | exact cl_rows | exact cl_setB rfl | exact cl_setG (cl_setB rfl) rfl | exact cl_appB cl_rows (cl_rs rfl) | exact cl_rl1 | exact cl_rl2)) (by decide) ?_ | refine give' rfl (by first | exact cl_rs rfl | exact cl_rows | exact cl_setB rfl | exact cl_setG (cl_setB rfl) rfl | exact cl_appB cl_rows (cl_rs rfl) | exact cl_rl1 | exact cl_rl2) (by decide) (by decide) ?_))⟩)
      · ((conv => whnf); repeat' ((first | refine ⟨rfl, ?_⟩ | refine ⟨_, row_map (by assumption), ?_⟩ | refine ⟨_, (by exact some_rfl), ?_⟩ | refine ⟨_, wrap_ok (by omega) (by omega), ?_⟩ | refine ⟨_, wrap_u64 (by omega) (by omega), ?_⟩ | refine ⟨by decide, _, fdiv_half (by omega), ?_⟩ | (intro gg)); (conv => whnf)))
        refine ⟨_, _, rfl, cl_b rfl, findE_str _ _ _, ?_⟩
        ((conv => whnf); repeat' ((first | refine ⟨rfl, ?_⟩ | refine ⟨_, row_map (by assumption), ?_⟩ | refine ⟨_, (by exact some_rfl), ?_⟩ | refine ⟨_, wrap_ok (by omega) (by omega), ?_⟩ | refine ⟨_, wrap_u64 (by omega) (by omega), ?_⟩ | refine ⟨by decide, _, fdiv_half (by omega), ?_⟩ | (intro gg)); (conv => whnf)))
        have e := putE_str E l[k].m.n (.v (.bool true))
        have hE' : Names (put E l[k].m.n (.v (.bool true))) ((l.take (k + 1)).map Ru.nm) := by
          rw [List.take_add_one, List.getElem?_eq_getElem hlt, List.map_append]
          exact hE.put _ _ (cl_b rfl)
        (exact ⟨none, trivial, fun gr => ⟨⟨(k + 1, put E l[k].m.n (.v (.bool true))), by dsimp only; omega, up1 (p := fun j h => (l[j]).err = 0) h0 (fun _ => by simpa [Ru.err] using h3), hE'⟩, by show l.length - (k + 1) < l.length - k; omega, by (repeat' (first | exact trivial | refine ⟨rfl, ?_⟩)), by (repeat' (first | exact trivial | refine ⟨rfl, ?_⟩)), ⟨congrArg (fun x => some (Ent.mk g0 (.q (mapI x)) 0 [])) e, trivial⟩, by (repeat' (first | exact trivial | refine ⟨rfl, ?_⟩))⟩⟩)
    · have hge : ¬ k < l.length := by have := of_decide_eq_false h2; simpa using this
      have hz := firstErr_zero (e := Ru.err) (l := l) (fun i hi => h0 i hi (by dsimp only; omega))
      rw [List.take_of_length_le (by dsimp only; omega)] at hE
      have hE : Names E (l.map Ru.nm) := hE
      have hc := containsVRu_fun cl l 48 Ru.bad (by omega) (fun x _ => ruBad_fun x)
      ((conv => whnf); repeat' ((first | refine ⟨rfl, ?_⟩ | refine ⟨_, row_map (by assumption), ?_⟩ | refine ⟨_, (by exact some_rfl), ?_⟩ | refine ⟨_, wrap_ok (by omega) (by omega), ?_⟩ | refine ⟨_, wrap_u64 (by omega) (by omega), ?_⟩ | refine ⟨by decide, _, fdiv_half (by omega), ?_⟩ | (intro gg)); (conv => whnf)))
      (refine .inl ⟨_, _, false, [], (by (repeat' (first | exact ArgsOk.nil _ | exact argsOk_cells (by assumption) | refine ArgsOk.same (by first | exact cl_b rfl | exact cl_list | exact cl_nil | exact cl_one | exact cl_ll1 | exact cl_ll2 | exact cl_clo (by assumption)) ?_ | refine ArgsOk.nilsl _ ?_ | refine ArgsOk.nilown _ _ (by decide) ?_ | refine ArgsOk.borp rfl rfl rfl (cl_row rfl) (by decide) ?_ | refine ArgsOk.borc (by (repeat' (first | exact cap_n | refine cap_p rfl rfl rfl (by first | exact cl_row rfl | exact cl_r1 rfl | exact cl_r1b) ?_ ?_ | refine cap_m rfl (by decide) ?_ | refine cap_c (by first | exact cl_b rfl | exact cl_list | exact cl_nil | exact cl_one | exact cl_ll1 | exact cl_ll2 | exact cl_clo (by assumption)) ?_ | decide))) ?_ | refine ArgsOk.bor rfl rfl (deref_flat (by first | exact cl_rs rfl | exact cl_rows | exact cl_setB rfl | exact cl_setG (cl_setB rfl) rfl | exact cl_appB cl_rows (cl_rs rfl) | exact cl_rl1 | exact cl_rl2)) (by decide) ?_ | refine give' rfl (by first | exact cl_rs rfl | exact cl_rows | exact cl_setB rfl | exact cl_setG (cl_setB rfl) rfl | exact cl_appB cl_rows (cl_rs rfl) | exact cl_rl1 | exact cl_rl2) (by decide) (by decide) ?_))), hc, nobor, (by exact Nat.le_of_ble_eq_true rfl), ?_⟩)
      ((conv => whnf); repeat' ((first | refine ⟨rfl, ?_⟩ | refine ⟨_, row_map (by assumption), ?_⟩ | refine ⟨_, (by exact some_rfl), ?_⟩ | refine ⟨_, wrap_ok (by omega) (by omega), ?_⟩ | refine ⟨_, wrap_u64 (by omega) (by omega), ?_⟩ | refine ⟨by decide, _, fdiv_half (by omega), ?_⟩ | (intro gg)); (conv => whnf)))
      (refine bIf_of (fun h3 => ?_) (fun h3 => ?_) <;> rw [h3])
      · ((conv => whnf); repeat' ((first | refine ⟨rfl, ?_⟩ | refine ⟨_, row_map (by assumption), ?_⟩ | refine ⟨_, (by exact some_rfl), ?_⟩ | refine ⟨_, wrap_ok (by omega) (by omega), ?_⟩ | refine ⟨_, wrap_u64 (by omega) (by omega), ?_⟩ | refine ⟨by decide, _, fdiv_half (by omega), ?_⟩ | (intro gg)); (conv => whnf)))
        rw [ckRu_rng h1 hz h3]
        (exact ⟨[], by (repeat' (first | exact ArgsOk.nil _ | exact argsOk_cells (by assumption) | refine ArgsOk.same (by first | exact cl_b rfl | exact cl_list | exact cl_nil | exact cl_one | exact cl_ll1 | exact cl_ll2 | exact cl_clo (by assumption)) ?_ | refine ArgsOk.nilsl _ ?_ | refine ArgsOk.nilown _ _ (by decide) ?_ | refine ArgsOk.borp rfl rfl rfl (cl_row rfl) (by decide) ?_ | refine ArgsOk.borc (by %caps) ?_ | refine ArgsOk.bor rfl rfl (deref_flat (by first | exact cl_rs rfl | exact cl_rows | exact cl_setB rfl | exact cl_setG (cl_setB rfl) rfl | exact cl_appB cl_rows (cl_rs rfl) | exact cl_rl1 | exact cl_rl2)) (by decide) ?_ | refine give' rfl (by first | exact cl_rs rfl | exact cl_rows | exact cl_setB rfl | exact cl_setG (cl_setB rfl) rfl | exact cl_appB cl_rows (cl_rs rfl) | exact cl_rl1 | exact cl_rl2) (by decide) (by decide) ?_))⟩)
      · ((conv => whnf); repeat' ((first | refine ⟨rfl, ?_⟩ | refine ⟨_, row_map (by assumption), ?_⟩ | refine ⟨_, (by exact some_rfl), ?_⟩ | refine ⟨_, wrap_ok (by omega) (by omega), ?_⟩ | refine ⟨_, wrap_u64 (by omega) (by omega), ?_⟩ | refine ⟨by decide, _, fdiv_half (by omega), ?_⟩ | (intro gg)); (conv => whnf)))
        refine ⟨_, rfl, ?_⟩
        ((conv => whnf); repeat' ((first | refine ⟨rfl, ?_⟩ | refine ⟨_, row_map (by assumption), ?_⟩ | refine ⟨_, (by exact some_rfl), ?_⟩ | refine ⟨_, wrap_ok (by omega) (by omega), ?_⟩ | refine ⟨_, wrap_u64 (by omega) (by omega), ?_⟩ | refine ⟨by decide, _, fdiv_half (by omega), ?_⟩ | (intro gg)); (conv => whnf)))
        rw [ents_len, List.length_map]
        have ha := hE.all
        have hle := hE.le
        rw [List.length_map] at ha hle
        (refine bIf_of (fun h4 => ?_) (fun h4 => ?_) <;> rw [h4])
        · have h4' : E.length < l.length := (by have := of_decide_eq_true h4; omega)
          ((conv => whnf); repeat' ((first | refine ⟨rfl, ?_⟩ | refine ⟨_, row_map (by assumption), ?_⟩ | refine ⟨_, (by exact some_rfl), ?_⟩ | refine ⟨_, wrap_ok (by omega) (by omega), ?_⟩ | refine ⟨_, wrap_u64 (by omega) (by omega), ?_⟩ | refine ⟨by decide, _, fdiv_half (by omega), ?_⟩ | (intro gg)); (conv => whnf)))
          rw [ckRu_two h1 hz h3 (fun q => by have := ha.2 q; omega)]
          (exact ⟨[], by (repeat' (first | exact ArgsOk.nil _ | exact argsOk_cells (by assumption) | refine ArgsOk.same (by first | exact cl_b rfl | exact cl_list | exact cl_nil | exact cl_one | exact cl_ll1 | exact cl_ll2 | exact cl_clo (by assumption)) ?_ | refine ArgsOk.nilsl _ ?_ | refine ArgsOk.nilown _ _ (by decide) ?_ | refine ArgsOk.borp rfl rfl rfl (cl_row rfl) (by decide) ?_ | refine ArgsOk.borc (by %caps) ?_ | refine ArgsOk.bor rfl rfl (deref_flat (by first | exact cl_rs rfl | exact cl_rows | exact cl_setB rfl | exact cl_setG (cl_setB rfl) rfl | exact cl_appB cl_rows (cl_rs rfl) | exact cl_rl1 | exact cl_rl2)) (by decide) ?_ | refine give' rfl (by first | exact cl_rs rfl | exact cl_rows | exact cl_setB rfl | exact cl_setG (cl_setB rfl) rfl | exact cl_appB cl_rows (cl_rs rfl) | exact cl_rl1 | exact cl_rl2) (by decide) (by decide) ?_))⟩)
        · have h4' : ¬ E.length < l.length := (by have := of_decide_eq_false h4; omega)
          ((conv => whnf); repeat' ((first | refine ⟨rfl, ?_⟩ | refine ⟨_, row_map (by assumption), ?_⟩ | refine ⟨_, (by exact some_rfl), ?_⟩ | refine ⟨_, wrap_ok (by omega) (by omega), ?_⟩ | refine ⟨_, wrap_u64 (by omega) (by omega), ?_⟩ | refine ⟨by decide, _, fdiv_half (by omega), ?_⟩ | (intro gg)); (conv => whnf)))
          rw [ckRu_ok h1 hz h3 (ha.1 (by omega))]
          (exact ⟨[], by (repeat' (first | exact ArgsOk.nil _ | exact argsOk_cells (by assumption) | refine ArgsOk.same (by first | exact cl_b rfl | exact cl_list | exact cl_nil | exact cl_one | exact cl_ll1 | exact cl_ll2 | exact cl_clo (by assumption)) ?_ | refine ArgsOk.nilsl _ ?_ | refine ArgsOk.nilown _ _ (by decide) ?_ | refine ArgsOk.borp rfl rfl rfl (cl_row rfl) (by decide) ?_ | refine ArgsOk.borc (by %caps) ?_ | refine ArgsOk.bor rfl rfl (deref_flat (by first | exact cl_rs rfl | exact cl_rows | exact cl_setB rfl | exact cl_setG (cl_setB rfl) rfl | exact cl_appB cl_rows (cl_rs rfl) | exact cl_rl1 | exact cl_rl2)) (by decide) ?_ | refine give' rfl (by first | exact cl_rs rfl | exact cl_rows | exact cl_setB rfl | exact cl_setG (cl_setB rfl) rfl | exact cl_appB cl_rows (cl_rs rfl) | exact cl_rl1 | exact cl_rl2) (by decide) (by decide) ?_))⟩)
theorem rruCheck_fun (cl : Bool) (l : List Ru) (hl : l.length ≤ 9223372036854775807) (hw : ∀ r ∈ l, r.m.ok) : Fun Try.prog 14 [.c (.sl cl (l.map Ru.row))] [.c (.v (.int .i64 (ckRu l)))] := by
  refine fun_x ck_hearsayref_CheckRumors rfl ?_
  ((conv => whnf); repeat' ((first | refine ⟨rfl, ?_⟩ | refine ⟨_, row_map (by assumption), ?_⟩ | refine ⟨_, (by exact some_rfl), ?_⟩ | refine ⟨_, wrap_ok (by omega) (by omega), ?_⟩ | refine ⟨_, wrap_u64 (by omega) (by omega), ?_⟩ | refine ⟨by decide, _, fdiv_half (by omega), ?_⟩ | (intro gg)); (conv => whnf)))
  rw [List.length_map]
  (refine bIf_of (fun h => ?_) (fun h => ?_) <;> rw [h])
  · have h1 : 20 < l.length := (by have := of_decide_eq_true h; omega)
    ((conv => whnf); repeat' ((first | refine ⟨rfl, ?_⟩ | refine ⟨_, row_map (by assumption), ?_⟩ | refine ⟨_, (by exact some_rfl), ?_⟩ | refine ⟨_, wrap_ok (by omega) (by omega), ?_⟩ | refine ⟨_, wrap_u64 (by omega) (by omega), ?_⟩ | refine ⟨by decide, _, fdiv_half (by omega), ?_⟩ | (intro gg)); (conv => whnf)))
    rw [ckRu_many h1]
    (exact ⟨[], by (repeat' (first | exact ArgsOk.nil _ | exact argsOk_cells (by assumption) | refine ArgsOk.same (by first | exact cl_b rfl | exact cl_list | exact cl_nil | exact cl_one | exact cl_ll1 | exact cl_ll2 | exact cl_clo (by assumption)) ?_ | refine ArgsOk.nilsl _ ?_ | refine ArgsOk.nilown _ _ (by decide) ?_ | refine ArgsOk.borp rfl rfl rfl (cl_row rfl) (by decide) ?_ | refine ArgsOk.borc (by %caps) ?_ | refine ArgsOk.bor rfl rfl (deref_flat (by first | exact cl_rs rfl | exact cl_rows | exact cl_setB rfl | exact cl_setG (cl_setB rfl) rfl | exact cl_appB cl_rows (cl_rs rfl) | exact cl_rl1 | exact cl_rl2)) (by decide) ?_ | refine give' rfl (by first | exact cl_rs rfl | exact cl_rows | exact cl_setB rfl | exact cl_setG (cl_setB rfl) rfl | exact cl_appB cl_rows (cl_rs rfl) | exact cl_rl1 | exact cl_rl2) (by decide) (by decide) ?_))⟩)
  · have h1 : ¬ 20 < l.length := (by have := of_decide_eq_false h; omega)
    ((conv => whnf); repeat' ((first | refine ⟨rfl, ?_⟩ | refine ⟨_, row_map (by assumption), ?_⟩ | refine ⟨_, (by exact some_rfl), ?_⟩ | refine ⟨_, wrap_ok (by omega) (by omega), ?_⟩ | refine ⟨_, wrap_u64 (by omega) (by omega), ?_⟩ | refine ⟨by decide, _, fdiv_half (by omega), ?_⟩ | (intro gg)); (conv => whnf)))
    (refine ⟨[], none, {k : Nat // k ≤ l.length ∧ ∀ j, (h : j < l.length) → j < k → (l[j]).err = 0}, [0, 5, 6, 7], fun ⟨k, hk, h0⟩ => [(3, .v (.int .i64 k))], [], fun ⟨k, hk, h0⟩ => [], fun ⟨k, hk, h0⟩ => l.length - k, trivial, fun _ => ⟨trivial, fun _ => ⟨⟨0, by omega, fun j _ h => by omega⟩, by (repeat' (first | exact trivial | refine ⟨rfl, ?_⟩)), keptE_refl _ _, by (repeat' (first | exact trivial | refine ⟨rfl, ?_⟩)), keptH_refl _ _⟩⟩, fun ⟨k, hk, h0⟩ => ?_⟩)
    ((conv => whnf); repeat' ((first | refine ⟨rfl, ?_⟩ | refine ⟨_, row_map (by assumption), ?_⟩ | refine ⟨_, (by exact some_rfl), ?_⟩ | refine ⟨_, wrap_ok (by omega) (by omega), ?_⟩ | refine ⟨_, wrap_u64 (by omega) (by omega), ?_⟩ | refine ⟨by decide, _, fdiv_half (by omega), ?_⟩ | (intro gg)); (conv => whnf)))
    (refine bIf_of (fun h2 => ?_) (fun h2 => ?_) <;> rw [h2])
    · have hlt : k < l.length := by have := of_decide_eq_true h2; simpa using this
      ((conv => whnf); repeat' ((first | refine ⟨rfl, ?_⟩ | refine ⟨_, row_map (by assumption), ?_⟩ | refine ⟨_, (by exact some_rfl), ?_⟩ | refine ⟨_, wrap_ok (by omega) (by omega), ?_⟩ | refine ⟨_, wrap_u64 (by omega) (by omega), ?_⟩ | refine ⟨by decide, _, fdiv_half (by omega), ?_⟩ | (intro gg)); (conv => whnf)))
      refine ⟨k, _, rfl, row_map hlt, ?_⟩
      ((conv => whnf); repeat' ((first | refine ⟨rfl, ?_⟩ | refine ⟨_, row_map (by assumption), ?_⟩ | refine ⟨_, (by exact some_rfl), ?_⟩ | refine ⟨_, wrap_ok (by omega) (by omega), ?_⟩ | refine ⟨_, wrap_u64 (by omega) (by omega), ?_⟩ | refine ⟨by decide, _, fdiv_half (by omega), ?_⟩ | (intro gg)); (conv => whnf)))
      (refine .inl ⟨_, _, false, [], (by (repeat' (first | exact ArgsOk.nil _ | exact argsOk_cells (by assumption) | refine ArgsOk.same (by first | exact cl_b rfl | exact cl_list | exact cl_nil | exact cl_one | exact cl_ll1 | exact cl_ll2 | exact cl_clo (by assumption)) ?_ | refine ArgsOk.nilsl _ ?_ | refine ArgsOk.nilown _ _ (by decide) ?_ | refine ArgsOk.borp rfl rfl rfl (cl_row rfl) (by decide) ?_ | refine ArgsOk.borc (by (repeat' (first | exact cap_n | refine cap_p rfl rfl rfl (by first | exact cl_row rfl | exact cl_r1 rfl | exact cl_r1b) ?_ ?_ | refine cap_m rfl (by decide) ?_ | refine cap_c (by first | exact cl_b rfl | exact cl_list | exact cl_nil | exact cl_one | exact cl_ll1 | exact cl_ll2 | exact cl_clo (by assumption)) ?_ | decide))) ?_ | refine ArgsOk.bor rfl rfl (deref_flat (by first | exact cl_rs rfl | exact cl_rows | exact cl_setB rfl | exact cl_setG (cl_setB rfl) rfl | exact cl_appB cl_rows (cl_rs rfl) | exact cl_rl1 | exact cl_rl2)) (by decide) ?_ | refine give' rfl (by first | exact cl_rs rfl | exact cl_rows | exact cl_setB rfl | exact cl_setG (cl_setB rfl) rfl | exact cl_appB cl_rows (cl_rs rfl) | exact cl_rl1 | exact cl_rl2) (by decide) (by decide) ?_))), rone_fun (l[k]).m (hw _ (List.getElem_mem hlt)), nobor, (by exact Nat.le_of_ble_eq_true rfl), ?_⟩)
      ((conv => whnf); repeat' ((first | refine ⟨rfl, ?_⟩ | refine ⟨_, row_map (by assumption), ?_⟩ | refine ⟨_, (by exact some_rfl), ?_⟩ | refine ⟨_, wrap_ok (by omega) (by omega), ?_⟩ | refine ⟨_, wrap_u64 (by omega) (by omega), ?_⟩ | refine ⟨by decide, _, fdiv_half (by omega), ?_⟩ | (intro gg)); (conv => whnf)))
      (refine bIf_of (fun h3 => ?_) (fun h3 => ?_) <;> rw [h3])
      · ((conv => whnf); repeat' ((first | refine ⟨rfl, ?_⟩ | refine ⟨_, row_map (by assumption), ?_⟩ | refine ⟨_, (by exact some_rfl), ?_⟩ | refine ⟨_, wrap_ok (by omega) (by omega), ?_⟩ | refine ⟨_, wrap_u64 (by omega) (by omega), ?_⟩ | refine ⟨by decide, _, fdiv_half (by omega), ?_⟩ | (intro gg)); (conv => whnf)))
        have e : ckRu l = l[k].m.err := by
          have e1 := firstErr_at (e := Ru.err) hlt h0 (by simpa [Ru.err] using h3)
          rw [ckRu_each h1 (by rw [e1]; simpa [Ru.err] using h3), e1]; rfl
        rw [e]
        (exact ⟨[], by (repeat' (first | exact ArgsOk.nil _ | exact argsOk_cells (by assumption) | refine ArgsOk.same (by first | exact cl_b rfl | exact cl_list | exact cl_nil | exact cl_one | exact cl_ll1 | exact cl_ll2 | exact cl_clo (by assumption)) ?_ | refine ArgsOk.nilsl _ ?_ | refine ArgsOk.nilown _ _ (by decide) ?_ | refine ArgsOk.borp rfl rfl rfl (cl_row rfl) (by decide) ?_ | refine ArgsOk.borc (by %caps) ?_ | refine ArgsOk.bor rfl rfl (deref_flat (by first | exact cl_rs rfl | exact cl_rows | exact cl_setB rfl | exact cl_setG (cl_setB rfl) rfl | exact cl_appB cl_rows (cl_rs rfl) | exact cl_rl1 | exact cl_rl2)) (by decide) ?_ | refine give' rfl (by first | exact cl_rs rfl | exact cl_rows | exact cl_setB rfl | exact cl_setG (cl_setB rfl) rfl | exact cl_appB cl_rows (cl_rs rfl) | exact cl_rl1 | exact cl_rl2) (by decide) (by decide) ?_))⟩)
      · ((conv => whnf); repeat' ((first | refine ⟨rfl, ?_⟩ | refine ⟨_, row_map (by assumption), ?_⟩ | refine ⟨_, (by exact some_rfl), ?_⟩ | refine ⟨_, wrap_ok (by omega) (by omega), ?_⟩ | refine ⟨_, wrap_u64 (by omega) (by omega), ?_⟩ | refine ⟨by decide, _, fdiv_half (by omega), ?_⟩ | (intro gg)); (conv => whnf)))
        (exact ⟨none, trivial, fun _ => ⟨⟨k + 1, by omega, up1 (p := fun j h => (l[j]).err = 0) h0 (fun _ => by simpa [Ru.err] using h3)⟩, by show l.length - (k + 1) < l.length - k; omega, by (repeat' (first | exact trivial | refine ⟨rfl, ?_⟩)), by (repeat' (first | exact trivial | refine ⟨rfl, ?_⟩)), by (repeat' (first | exact trivial | refine ⟨rfl, ?_⟩)), by (repeat' (first | exact trivial | refine ⟨rfl, ?_⟩))⟩⟩)
    · have hge : ¬ k < l.length := by have := of_decide_eq_false h2; simpa using this
      have hz := firstErr_zero (e := Ru.err) (l := l) (fun i hi => h0 i hi (by omega))
      ((conv => whnf); repeat' ((first | refine ⟨rfl, ?_⟩ | refine ⟨_, row_map (by assumption), ?_⟩ | refine ⟨_, (by exact some_rfl), ?_⟩ | refine ⟨_, wrap_ok (by omega) (by omega), ?_⟩ | refine ⟨_, wrap_u64 (by omega) (by omega), ?_⟩ | refine ⟨by decide, _, fdiv_half (by omega), ?_⟩ | (intro gg)); (conv => whnf)))
      (refine ⟨[], none, {k : Nat // k ≤ l.length ∧ ∀ j, (h : j < l.length) → j < k → (l[j]).bad = false}, [0, 6, 7], fun ⟨k, hk, h0⟩ => [(5, .v (.int .i64 k))], [], fun ⟨k, hk, h0⟩ => [], fun ⟨k, hk, h0⟩ => l.length - k, trivial, fun _ => ⟨trivial, fun _ => ⟨⟨0, by omega, fun j _ h => by omega⟩, by (repeat' (first | exact trivial | refine ⟨rfl, ?_⟩)), keptE_refl _ _, by (repeat' (first | exact trivial | refine ⟨rfl, ?_⟩)), keptH_refl _ _⟩⟩, fun ⟨k, hk, h0⟩ => ?_⟩)
      ((conv => whnf); repeat' ((first | refine ⟨rfl, ?_⟩ | refine ⟨_, row_map (by assumption), ?_⟩ | refine ⟨_, (by exact some_rfl), ?_⟩ | refine ⟨_, wrap_ok (by omega) (by omega), ?_⟩ | refine ⟨_, wrap_u64 (by omega) (by omega), ?_⟩ | refine ⟨by decide, _, fdiv_half (by omega), ?_⟩ | (intro gg)); (conv => whnf)))
      (refine bIf_of (fun h2 => ?_) (fun h2 => ?_) <;> rw [h2])
      · have hlt : k < l.length := by have := of_decide_eq_true h2; simpa using this
        ((conv => whnf); repeat' ((first | refine ⟨rfl, ?_⟩ | refine ⟨_, row_map (by assumption), ?_⟩ | refine ⟨_, (by exact some_rfl), ?_⟩ | refine ⟨_, wrap_ok (by omega) (by omega), ?_⟩ | refine ⟨_, wrap_u64 (by omega) (by omega), ?_⟩ | refine ⟨by decide, _, fdiv_half (by omega), ?_⟩ | (intro gg)); (conv => whnf)))
        refine ⟨k, _, rfl, row_map hlt, ?_⟩
        ((conv => whnf); repeat' ((first | refine ⟨rfl, ?_⟩ | refine ⟨_, row_map (by assumption), ?_⟩ | refine ⟨_, (by exact some_rfl), ?_⟩ | refine ⟨_, wrap_ok (by omega) (by omega), ?_⟩ | refine ⟨_, wrap_u64 (by omega) (by omega), ?_⟩ | refine ⟨by decide, _, fdiv_half (by omega), ?_⟩ | (intro gg)); (conv => whnf)))
        (refine .inl ⟨_, _, false, [], (by (repeat' (first | exact ArgsOk.nil _ | exact argsOk_cells (by assumption) | refine ArgsOk.same (by first | exact cl_b rfl | exact cl_list | exact cl_nil | exact cl_one | exact cl_ll1 | exact cl_ll2 | exact cl_clo (by assumption)) ?_ | refine ArgsOk.nilsl _ ?_ | refine ArgsOk.nilown _ _ (by decide) ?_ | refine ArgsOk.borp rfl rfl rfl (cl_row rfl) (by decide) ?_ | refine ArgsOk.borc (by (repeat' (first | exact cap_n | refine cap_p rfl rfl rfl (by first | exact cl_row rfl | exact cl_r1 rfl | exact cl_r1b) ?_ ?_ | refine cap_m rfl (by decide) ?_ | refine cap_c (by first | exact cl_b rfl | exact cl_list | exact cl_nil | exact cl_one | exact cl_ll1 | exact cl_ll2 | exact cl_clo (by assumption)) ?_ | decide))) ?_ | refine ArgsOk.bor rfl rfl (deref_flat (by first | exact cl_rs rfl | exact cl_rows | exact cl_setB rfl | exact cl_setG (cl_setB rfl) rfl | exact cl_appB cl_rows (cl_rs rfl) | exact cl_rl1 | exact cl_rl2)) (by decide) ?_ | refine give' rfl (by first | exact cl_rs rfl | exact cl_rows | exact cl_setB rfl | exact cl_setG (cl_setB rfl) rfl | exact cl_appB cl_rows (cl_rs rfl) | exact cl_rl1 | exact cl_rl2) (by decide) (by decide) ?_))), between_fun _ _ _, nobor, (by exact Nat.le_of_ble_eq_true rfl), ?_⟩)
        ((conv => whnf); repeat' ((first | refine ⟨rfl, ?_⟩ | refine ⟨_, row_map (by assumption), ?_⟩ | refine ⟨_, (by exact some_rfl), ?_⟩ | refine ⟨_, wrap_ok (by omega) (by omega), ?_⟩ | refine ⟨_, wrap_u64 (by omega) (by omega), ?_⟩ | refine ⟨by decide, _, fdiv_half (by omega), ?_⟩ | (intro gg)); (conv => whnf)))
        (refine bIf_of (fun h3 => ?_) (fun h3 => ?_) <;> rw [h3])
        · ((conv => whnf); repeat' ((first | refine ⟨rfl, ?_⟩ | refine ⟨_, row_map (by assumption), ?_⟩ | refine ⟨_, (by exact some_rfl), ?_⟩ | refine ⟨_, wrap_ok (by omega) (by omega), ?_⟩ | refine ⟨_, wrap_u64 (by omega) (by omega), ?_⟩ | refine ⟨by decide, _, fdiv_half (by omega), ?_⟩ | (intro gg)); (conv => whnf)))
          rw [ckRu_rng h1 hz (List.any_eq_true.2 ⟨_, List.getElem_mem hlt, h3⟩)]
          (exact ⟨[], by (repeat' (first | exact ArgsOk.nil _ | exact argsOk_cells (by assumption) | refine ArgsOk.same (by first | exact cl_b rfl | exact cl_list | exact cl_nil | exact cl_one | exact cl_ll1 | exact cl_ll2 | exact cl_clo (by assumption)) ?_ | refine ArgsOk.nilsl _ ?_ | refine ArgsOk.nilown _ _ (by decide) ?_ | refine ArgsOk.borp rfl rfl rfl (cl_row rfl) (by decide) ?_ | refine ArgsOk.borc (by %caps) ?_ | refine ArgsOk.bor rfl rfl (deref_flat (by first | exact cl_rs rfl | exact cl_rows | exact cl_setB rfl | exact cl_setG (cl_setB rfl) rfl | exact cl_appB cl_rows (cl_rs rfl) | exact cl_rl1 | exact cl_rl2)) (by decide) ?_ | refine give' rfl (by first | exact cl_rs rfl | exact cl_rows | exact cl_setB rfl | exact cl_setG (cl_setB rfl) rfl | exact cl_appB cl_rows (cl_rs rfl) | exact cl_rl1 | exact cl_rl2) (by decide) (by decide) ?_))⟩)
        · ((conv => whnf); repeat' ((first | refine ⟨rfl, ?_⟩ | refine ⟨_, row_map (by assumption), ?_⟩ | refine ⟨_, (by exact some_rfl), ?_⟩ | refine ⟨_, wrap_ok (by omega) (by omega), ?_⟩ | refine ⟨_, wrap_u64 (by omega) (by omega), ?_⟩ | refine ⟨by decide, _, fdiv_half (by omega), ?_⟩ | (intro gg)); (conv => whnf)))
          (exact ⟨none, trivial, fun _ => ⟨⟨k + 1, by omega, up1 (p := fun j h => (l[j]).bad = false) h0 (fun _ => h3)⟩, by show l.length - (k + 1) < l.length - k; omega, by (repeat' (first | exact trivial | refine ⟨rfl, ?_⟩)), by (repeat' (first | exact trivial | refine ⟨rfl, ?_⟩)), by (repeat' (first | exact trivial | refine ⟨rfl, ?_⟩)), by (repeat' (first | exact trivial | refine ⟨rfl, ?_⟩))⟩⟩)
      · have hge : ¬ k < l.length := by have := of_decide_eq_false h2; simpa using this
        have ha : l.any Ru.bad = false := by
          rw [List.any_eq_false]; intro x hx
          obtain ⟨i, hi, rfl⟩ := List.getElem_of_mem hx
          rw [h0 i hi (by omega)]; simp
        ((conv => whnf); repeat' ((first | refine ⟨rfl, ?_⟩ | refine ⟨_, row_map (by assumption), ?_⟩ | refine ⟨_, (by exact some_rfl), ?_⟩ | refine ⟨_, wrap_ok (by omega) (by omega), ?_⟩ | refine ⟨_, wrap_u64 (by omega) (by omega), ?_⟩ | refine ⟨by decide, _, fdiv_half (by omega), ?_⟩ | (intro gg)); (conv => whnf)))
        (refine ⟨[], none, {k : Nat // k ≤ l.length ∧ ∀ i, (h : i < l.length) → i < k → ∀ j, (g : j < i) → (l[j]).nm ≠ l[i].nm}, [0], fun ⟨k, hk, h0⟩ => [(6, .v (.int .i64 k))], [], fun ⟨k, hk, h0⟩ => [], fun ⟨k, hk, h0⟩ => l.length - k, trivial, fun _ => ⟨trivial, fun _ => ⟨⟨0, by omega, fun j _ h => by omega⟩, by (repeat' (first | exact trivial | refine ⟨rfl, ?_⟩)), keptE_refl _ _, by (repeat' (first | exact trivial | refine ⟨rfl, ?_⟩)), keptH_refl _ _⟩⟩, fun ⟨k, hk, h0⟩ => ?_⟩)
        ((conv => whnf); repeat' ((first | refine ⟨rfl, ?_⟩ | refine ⟨_, row_map (by assumption), ?_⟩ | refine ⟨_, (by exact some_rfl), ?_⟩ | refine ⟨_, wrap_ok (by omega) (by omega), ?_⟩ | refine ⟨_, wrap_u64 (by omega) (by omega), ?_⟩ | refine ⟨by decide, _, fdiv_half (by omega), ?_⟩ | (intro gg)); (conv => whnf)))
        (refine bIf_of (fun h2 => ?_) (fun h2 => ?_) <;> rw [h2])
        · have hlt : k < l.length := by have := of_decide_eq_true h2; simpa using this
          ((conv => whnf); repeat' ((first | refine ⟨rfl, ?_⟩ | refine ⟨_, row_map (by assumption), ?_⟩ | refine ⟨_, (by exact some_rfl), ?_⟩ | refine ⟨_, wrap_ok (by omega) (by omega), ?_⟩ | refine ⟨_, wrap_u64 (by omega) (by omega), ?_⟩ | refine ⟨by decide, _, fdiv_half (by omega), ?_⟩ | (intro gg)); (conv => whnf)))
          (refine ⟨[], none, {q : Nat // q ≤ k ∧ ∀ j, (h : j < k) → j < q → (l[j]).nm ≠ l[k].nm}, [0, 6], fun ⟨q, hq, h0'⟩ => [(7, .v (.int .i64 q))], [], fun ⟨q, hq, h0'⟩ => [], fun ⟨q, hq, h0'⟩ => k - q, trivial, fun _ => ⟨trivial, fun _ => ⟨⟨0, by omega, fun j _ h => by omega⟩, by (repeat' (first | exact trivial | refine ⟨rfl, ?_⟩)), keptE_refl _ _, by (repeat' (first | exact trivial | refine ⟨rfl, ?_⟩)), keptH_refl _ _⟩⟩, fun ⟨q, hq, h0'⟩ => ?_⟩)
          ((conv => whnf); repeat' ((first | refine ⟨rfl, ?_⟩ | refine ⟨_, row_map (by assumption), ?_⟩ | refine ⟨_, (by exact some_rfl), ?_⟩ | refine ⟨_, wrap_ok (by omega) (by omega), ?_⟩ | refine ⟨_, wrap_u64 (by omega) (by omega), ?_⟩ | refine ⟨by decide, _, fdiv_half (by omega), ?_⟩ | (intro gg)); (conv => whnf)))
          (refine bIf_of (fun h3 => ?_) (fun h3 => ?_) <;> rw [h3])
          · have hqk : q < k := by have := of_decide_eq_true h3; omega
            have hql : q < l.length := by omega
            ((conv => whnf); repeat' ((first | refine ⟨rfl, ?_⟩ | refine ⟨_, row_map (by assumption), ?_⟩ | refine ⟨_, (by exact some_rfl), ?_⟩ | refine ⟨_, wrap_ok (by omega) (by omega), ?_⟩ | refine ⟨_, wrap_u64 (by omega) (by omega), ?_⟩ | refine ⟨by decide, _, fdiv_half (by omega), ?_⟩ | (intro gg)); (conv => whnf)))
            refine ⟨q, _, rfl, row_map hql, ?_⟩
            ((conv => whnf); repeat' ((first | refine ⟨rfl, ?_⟩ | refine ⟨_, row_map (by assumption), ?_⟩ | refine ⟨_, (by exact some_rfl), ?_⟩ | refine ⟨_, wrap_ok (by omega) (by omega), ?_⟩ | refine ⟨_, wrap_u64 (by omega) (by omega), ?_⟩ | refine ⟨by decide, _, fdiv_half (by omega), ?_⟩ | (intro gg)); (conv => whnf)))
            refine ⟨k, _, rfl, row_map hlt, ?_⟩
            ((conv => whnf); repeat' ((first | refine ⟨rfl, ?_⟩ | refine ⟨_, row_map (by assumption), ?_⟩ | refine ⟨_, (by exact some_rfl), ?_⟩ | refine ⟨_, wrap_ok (by omega) (by omega), ?_⟩ | refine ⟨_, wrap_u64 (by omega) (by omega), ?_⟩ | refine ⟨by decide, _, fdiv_half (by omega), ?_⟩ | (intro gg)); (conv => whnf)))
            (refine bIf_of (fun h4 => ?_) (fun h4 => ?_) <;> rw [h4])
            · have h4' : l[q].nm = l[k].nm := Ru.is_iff.1 h4
              ((conv => whnf); repeat' ((first | refine ⟨rfl, ?_⟩ | refine ⟨_, row_map (by assumption), ?_⟩ | refine ⟨_, (by exact some_rfl), ?_⟩ | refine ⟨_, wrap_ok (by omega) (by omega), ?_⟩ | refine ⟨_, wrap_u64 (by omega) (by omega), ?_⟩ | refine ⟨by decide, _, fdiv_half (by omega), ?_⟩ | (intro gg)); (conv => whnf)))
              rw [ckRu_two h1 hz ha (fun hn => by have := nd_get hn hql hlt h4'; omega)]
              (exact ⟨[], by (repeat' (first | exact ArgsOk.nil _ | exact argsOk_cells (by assumption) | refine ArgsOk.same (by first | exact cl_b rfl | exact cl_list | exact cl_nil | exact cl_one | exact cl_ll1 | exact cl_ll2 | exact cl_clo (by assumption)) ?_ | refine ArgsOk.nilsl _ ?_ | refine ArgsOk.nilown _ _ (by decide) ?_ | refine ArgsOk.borp rfl rfl rfl (cl_row rfl) (by decide) ?_ | refine ArgsOk.borc (by %caps) ?_ | refine ArgsOk.bor rfl rfl (deref_flat (by first | exact cl_rs rfl | exact cl_rows | exact cl_setB rfl | exact cl_setG (cl_setB rfl) rfl | exact cl_appB cl_rows (cl_rs rfl) | exact cl_rl1 | exact cl_rl2)) (by decide) ?_ | refine give' rfl (by first | exact cl_rs rfl | exact cl_rows | exact cl_setB rfl | exact cl_setG (cl_setB rfl) rfl | exact cl_appB cl_rows (cl_rs rfl) | exact cl_rl1 | exact cl_rl2) (by decide) (by decide) ?_))⟩)
            · have h4' : l[q].nm ≠ l[k].nm := fun e => by rw [show (l[q].m.n.toList == l[k].m.n.toList) = true from Ru.is_iff.2 e] at h4; cases h4
              ((conv => whnf); repeat' ((first | refine ⟨rfl, ?_⟩ | refine ⟨_, row_map (by assumption), ?_⟩ | refine ⟨_, (by exact some_rfl), ?_⟩ | refine ⟨_, wrap_ok (by omega) (by omega), ?_⟩ | refine ⟨_, wrap_u64 (by omega) (by omega), ?_⟩ | refine ⟨by decide, _, fdiv_half (by omega), ?_⟩ | (intro gg)); (conv => whnf)))
              (exact ⟨none, trivial, fun _ => ⟨⟨q + 1, by omega, up1 (p := fun j h => (l[j]).nm ≠ l[k].nm) h0' (fun _ => h4')⟩, by show k - (q + 1) < k - q; omega, by (repeat' (first | exact trivial | refine ⟨rfl, ?_⟩)), by (repeat' (first | exact trivial | refine ⟨rfl, ?_⟩)), by (repeat' (first | exact trivial | refine ⟨rfl, ?_⟩)), by (repeat' (first | exact trivial | refine ⟨rfl, ?_⟩))⟩⟩)
          · have hqk : ¬ q < k := by have := of_decide_eq_false h3; omega
            ((conv => whnf); repeat' ((first | refine ⟨rfl, ?_⟩ | refine ⟨_, row_map (by assumption), ?_⟩ | refine ⟨_, (by exact some_rfl), ?_⟩ | refine ⟨_, wrap_ok (by omega) (by omega), ?_⟩ | refine ⟨_, wrap_u64 (by omega) (by omega), ?_⟩ | refine ⟨by decide, _, fdiv_half (by omega), ?_⟩ | (intro gg)); (conv => whnf)))
            (exact ⟨none, trivial, fun _ => ⟨⟨k + 1, by omega, up1 (p := fun i h => ∀ j, (g : j < i) → (l[j]).nm ≠ l[i].nm) h0 (fun _ j g => h0' j g (by omega))⟩, by show l.length - (k + 1) < l.length - k; omega, by (repeat' (first | exact trivial | refine ⟨rfl, ?_⟩)), by (repeat' (first | exact trivial | refine ⟨rfl, ?_⟩)), by (repeat' (first | exact trivial | refine ⟨rfl, ?_⟩)), by (repeat' (first | exact trivial | refine ⟨rfl, ?_⟩))⟩⟩)
        · have hge : ¬ k < l.length := by have := of_decide_eq_false h2; simpa using this
          ((conv => whnf); repeat' ((first | refine ⟨rfl, ?_⟩ | refine ⟨_, row_map (by assumption), ?_⟩ | refine ⟨_, (by exact some_rfl), ?_⟩ | refine ⟨_, wrap_ok (by omega) (by omega), ?_⟩ | refine ⟨_, wrap_u64 (by omega) (by omega), ?_⟩ | refine ⟨by decide, _, fdiv_half (by omega), ?_⟩ | (intro gg)); (conv => whnf)))
          rw [ckRu_ok h1 hz ha (List.pairwise_iff_getElem.2 fun i j hi hj hij => by
            simp only [List.getElem_map]
            exact h0 j (by simpa using hj) (by simp at hj; omega) i hij)]
          (exact ⟨[], by (repeat' (first | exact ArgsOk.nil _ | exact argsOk_cells (by assumption) | refine ArgsOk.same (by first | exact cl_b rfl | exact cl_list | exact cl_nil | exact cl_one | exact cl_ll1 | exact cl_ll2 | exact cl_clo (by assumption)) ?_ | refine ArgsOk.nilsl _ ?_ | refine ArgsOk.nilown _ _ (by decide) ?_ | refine ArgsOk.borp rfl rfl rfl (cl_row rfl) (by decide) ?_ | refine ArgsOk.borc (by %caps) ?_ | refine ArgsOk.bor rfl rfl (deref_flat (by first | exact cl_rs rfl | exact cl_rows | exact cl_setB rfl | exact cl_setG (cl_setB rfl) rfl | exact cl_appB cl_rows (cl_rs rfl) | exact cl_rl1 | exact cl_rl2)) (by decide) ?_ | refine give' rfl (by first | exact cl_rs rfl | exact cl_rows | exact cl_setB rfl | exact cl_setG (cl_setB rfl) rfl | exact cl_appB cl_rows (cl_rs rfl) | exact cl_rl1 | exact cl_rl2) (by decide) (by decide) ?_))⟩)
def Ru.same (g h : Ru) : Bool := (g.m.n.toList == h.m.n.toList) && ((g.m.st == h.m.st) && ((g.m.lf == h.m.lf) && ((g.m.ad == h.m.ad) && ((g.m.sv == h.m.sv) && ((g.t == h.t) && true)))))
theorem Ru.same_iff {g h : Ru} : Ru.same g h = true ↔ g = h := by
  obtain ⟨⟨a, b, c, d, e⟩, f⟩ := g
  obtain ⟨⟨a', b', c', d', e'⟩, f'⟩ := h
  have tl : ∀ a b : ByteArray, a.toList = b.toList ↔ a = b := fun a b => ⟨toList_inj, fun h => by rw [h]⟩
  simp only [Ru.same, Bool.and_true, Bool.and_eq_true, beq_iff_eq, tl, Ru.mk.injEq, Mb.mk.injEq, and_assoc]
theorem ruSame_fun (c d : Bool) (a b : List Ru) (ha : a.length ≤ 9223372036854775807) : Fun Try.prog 19 [.c (.sl c (a.map Ru.row)), .c (.sl d (b.map Ru.row))] [.c (.v (.bool (sameL Ru.same a b)))] := by
  refine fun_x ck_hearsayref_SameRumors rfl ?_
  ((conv => whnf); repeat' ((first | refine ⟨rfl, ?_⟩ | refine ⟨_, row_map (by assumption), ?_⟩ | refine ⟨_, (by exact some_rfl), ?_⟩ | refine ⟨_, wrap_ok (by omega) (by omega), ?_⟩ | refine ⟨_, wrap_u64 (by omega) (by omega), ?_⟩ | refine ⟨by decide, _, fdiv_half (by omega), ?_⟩ | (intro gg)); (conv => whnf)))
  rw [List.length_map, List.length_map]
  (refine bIf_of (fun h => ?_) (fun h => ?_) <;> rw [h])
  · ((conv => whnf); repeat' ((first | refine ⟨rfl, ?_⟩ | refine ⟨_, row_map (by assumption), ?_⟩ | refine ⟨_, (by exact some_rfl), ?_⟩ | refine ⟨_, wrap_ok (by omega) (by omega), ?_⟩ | refine ⟨_, wrap_u64 (by omega) (by omega), ?_⟩ | refine ⟨by decide, _, fdiv_half (by omega), ?_⟩ | (intro gg)); (conv => whnf)))
    rw [sameL_no (fun e => by rw [e] at h; simp at h)]
    (exact ⟨[], by (repeat' (first | exact ArgsOk.nil _ | exact argsOk_cells (by assumption) | refine ArgsOk.same (by first | exact cl_b rfl | exact cl_list | exact cl_nil | exact cl_one | exact cl_ll1 | exact cl_ll2 | exact cl_clo (by assumption)) ?_ | refine ArgsOk.nilsl _ ?_ | refine ArgsOk.nilown _ _ (by decide) ?_ | refine ArgsOk.borp rfl rfl rfl (cl_row rfl) (by decide) ?_ | refine ArgsOk.borc (by %caps) ?_ | refine ArgsOk.bor rfl rfl (deref_flat (by first | exact cl_rs rfl | exact cl_rows | exact cl_setB rfl | exact cl_setG (cl_setB rfl) rfl | exact cl_appB cl_rows (cl_rs rfl) | exact cl_rl1 | exact cl_rl2)) (by decide) ?_ | refine give' rfl (by first | exact cl_rs rfl | exact cl_rows | exact cl_setB rfl | exact cl_setG (cl_setB rfl) rfl | exact cl_appB cl_rows (cl_rs rfl) | exact cl_rl1 | exact cl_rl2) (by decide) (by decide) ?_))⟩)
  · have hab : a.length = b.length := by have h' : ((a.length : Int) != (b.length : Int)) = false := h
                                         simp at h'; omega
    ((conv => whnf); repeat' ((first | refine ⟨rfl, ?_⟩ | refine ⟨_, row_map (by assumption), ?_⟩ | refine ⟨_, (by exact some_rfl), ?_⟩ | refine ⟨_, wrap_ok (by omega) (by omega), ?_⟩ | refine ⟨_, wrap_u64 (by omega) (by omega), ?_⟩ | refine ⟨by decide, _, fdiv_half (by omega), ?_⟩ | (intro gg)); (conv => whnf)))
    (refine ⟨[], none, {k : Nat // k ≤ a.length ∧ ∀ j, (h : j < a.length) → j < k → Ru.same a[j] (b[j]'(by omega)) = true}, [0, 1], fun ⟨k, hk, h0⟩ => [(5, .v (.int .i64 k))], [], fun ⟨k, hk, h0⟩ => [], fun ⟨k, hk, h0⟩ => a.length - k, trivial, fun _ => ⟨trivial, fun _ => ⟨⟨0, by omega, fun j _ h => by omega⟩, by (repeat' (first | exact trivial | refine ⟨rfl, ?_⟩)), keptE_refl _ _, by (repeat' (first | exact trivial | refine ⟨rfl, ?_⟩)), keptH_refl _ _⟩⟩, fun ⟨k, hk, h0⟩ => ?_⟩)
    ((conv => whnf); repeat' ((first | refine ⟨rfl, ?_⟩ | refine ⟨_, row_map (by assumption), ?_⟩ | refine ⟨_, (by exact some_rfl), ?_⟩ | refine ⟨_, wrap_ok (by omega) (by omega), ?_⟩ | refine ⟨_, wrap_u64 (by omega) (by omega), ?_⟩ | refine ⟨by decide, _, fdiv_half (by omega), ?_⟩ | (intro gg)); (conv => whnf)))
    rw [List.length_map]
    (refine bIf_of (fun h2 => ?_) (fun h2 => ?_) <;> rw [h2])
    · have hlt : k < a.length := (by have := of_decide_eq_true h2; omega)
      have hlt' : k < b.length := by omega
      ((conv => whnf); repeat' ((first | refine ⟨rfl, ?_⟩ | refine ⟨_, row_map (by assumption), ?_⟩ | refine ⟨_, (by exact some_rfl), ?_⟩ | refine ⟨_, wrap_ok (by omega) (by omega), ?_⟩ | refine ⟨_, wrap_u64 (by omega) (by omega), ?_⟩ | refine ⟨by decide, _, fdiv_half (by omega), ?_⟩ | (intro gg)); (conv => whnf)))
      refine ⟨k, _, rfl, row_map hlt, ?_⟩
      ((conv => whnf); repeat' ((first | refine ⟨rfl, ?_⟩ | refine ⟨_, row_map (by assumption), ?_⟩ | refine ⟨_, (by exact some_rfl), ?_⟩ | refine ⟨_, wrap_ok (by omega) (by omega), ?_⟩ | refine ⟨_, wrap_u64 (by omega) (by omega), ?_⟩ | refine ⟨by decide, _, fdiv_half (by omega), ?_⟩ | (intro gg)); (conv => whnf)))
      refine ⟨k, _, rfl, row_map hlt', ?_⟩
      ((conv => whnf); repeat' ((first | refine ⟨rfl, ?_⟩ | refine ⟨_, row_map (by assumption), ?_⟩ | refine ⟨_, (by exact some_rfl), ?_⟩ | refine ⟨_, wrap_ok (by omega) (by omega), ?_⟩ | refine ⟨_, wrap_u64 (by omega) (by omega), ?_⟩ | refine ⟨by decide, _, fdiv_half (by omega), ?_⟩ | (intro gg)); (conv => whnf)))
      (refine bIf_of (fun h3 => ?_) (fun h3 => ?_) <;> rw [h3])
      · ((conv => whnf); repeat' ((first | refine ⟨rfl, ?_⟩ | refine ⟨_, row_map (by assumption), ?_⟩ | refine ⟨_, (by exact some_rfl), ?_⟩ | refine ⟨_, wrap_ok (by omega) (by omega), ?_⟩ | refine ⟨_, wrap_u64 (by omega) (by omega), ?_⟩ | refine ⟨by decide, _, fdiv_half (by omega), ?_⟩ | (intro gg)); (conv => whnf)))
        rw [sameL_at hlt hlt' (not_t (b := Ru.same a[k] b[k]) h3)]
        (exact ⟨[], by (repeat' (first | exact ArgsOk.nil _ | exact argsOk_cells (by assumption) | refine ArgsOk.same (by first | exact cl_b rfl | exact cl_list | exact cl_nil | exact cl_one | exact cl_ll1 | exact cl_ll2 | exact cl_clo (by assumption)) ?_ | refine ArgsOk.nilsl _ ?_ | refine ArgsOk.nilown _ _ (by decide) ?_ | refine ArgsOk.borp rfl rfl rfl (cl_row rfl) (by decide) ?_ | refine ArgsOk.borc (by %caps) ?_ | refine ArgsOk.bor rfl rfl (deref_flat (by first | exact cl_rs rfl | exact cl_rows | exact cl_setB rfl | exact cl_setG (cl_setB rfl) rfl | exact cl_appB cl_rows (cl_rs rfl) | exact cl_rl1 | exact cl_rl2)) (by decide) ?_ | refine give' rfl (by first | exact cl_rs rfl | exact cl_rows | exact cl_setB rfl | exact cl_setG (cl_setB rfl) rfl | exact cl_appB cl_rows (cl_rs rfl) | exact cl_rl1 | exact cl_rl2) (by decide) (by decide) ?_))⟩)
      · ((conv => whnf); repeat' ((first | refine ⟨rfl, ?_⟩ | refine ⟨_, row_map (by assumption), ?_⟩ | refine ⟨_, (by exact some_rfl), ?_⟩ | refine ⟨_, wrap_ok (by omega) (by omega), ?_⟩ | refine ⟨_, wrap_u64 (by omega) (by omega), ?_⟩ | refine ⟨by decide, _, fdiv_half (by omega), ?_⟩ | (intro gg)); (conv => whnf)))
        (exact ⟨none, trivial, fun _ => ⟨⟨k + 1, by omega, up1 (p := fun j h => Ru.same a[j] (b[j]'(by omega)) = true) h0 (fun _ => not_f (b := Ru.same a[k] b[k]) h3)⟩, by show a.length - (k + 1) < a.length - k; omega, by (repeat' (first | exact trivial | refine ⟨rfl, ?_⟩)), by (repeat' (first | exact trivial | refine ⟨rfl, ?_⟩)), by (repeat' (first | exact trivial | refine ⟨rfl, ?_⟩)), by (repeat' (first | exact trivial | refine ⟨rfl, ?_⟩))⟩⟩)
    · have hge : ¬ k < a.length := (by have := of_decide_eq_false h2; omega)
      ((conv => whnf); repeat' ((first | refine ⟨rfl, ?_⟩ | refine ⟨_, row_map (by assumption), ?_⟩ | refine ⟨_, (by exact some_rfl), ?_⟩ | refine ⟨_, wrap_ok (by omega) (by omega), ?_⟩ | refine ⟨_, wrap_u64 (by omega) (by omega), ?_⟩ | refine ⟨by decide, _, fdiv_half (by omega), ?_⟩ | (intro gg)); (conv => whnf)))
      rw [sameL_yes hab (fun i hi _ => h0 i hi (by omega))]
      (exact ⟨[], by (repeat' (first | exact ArgsOk.nil _ | exact argsOk_cells (by assumption) | refine ArgsOk.same (by first | exact cl_b rfl | exact cl_list | exact cl_nil | exact cl_one | exact cl_ll1 | exact cl_ll2 | exact cl_clo (by assumption)) ?_ | refine ArgsOk.nilsl _ ?_ | refine ArgsOk.nilown _ _ (by decide) ?_ | refine ArgsOk.borp rfl rfl rfl (cl_row rfl) (by decide) ?_ | refine ArgsOk.borc (by %caps) ?_ | refine ArgsOk.bor rfl rfl (deref_flat (by first | exact cl_rs rfl | exact cl_rows | exact cl_setB rfl | exact cl_setG (cl_setB rfl) rfl | exact cl_appB cl_rows (cl_rs rfl) | exact cl_rl1 | exact cl_rl2)) (by decide) ?_ | refine give' rfl (by first | exact cl_rs rfl | exact cl_rows | exact cl_setB rfl | exact cl_setG (cl_setB rfl) rfl | exact cl_appB cl_rows (cl_rs rfl) | exact cl_rl1 | exact cl_rl2) (by decide) (by decide) ?_))⟩)
end Go.Proofs.Ytjhdlcmecbngkaa
/- Contracts of the functions of rumors: putting, counting; the reference's too. -/
namespace Go.Proofs.Ytjhdlcmecbngkaa
open Go.RowKit Pl
set_option linter.unusedVariables false
theorem putC_fun (m : Mb) (x : Ru) : Fun Try.prog 41 [.c (.agg x.row), .c (.rptr m.row 0)] [.c (.v (.bool (Ru.is m.n x)))] := by
  refine fun_x ck_rumor_Put_1 rfl ?_
  ((conv => whnf); repeat' ((first | refine ⟨rfl, ?_⟩ | refine ⟨_, row_map (by assumption), ?_⟩ | refine ⟨_, (by exact some_rfl), ?_⟩ | refine ⟨_, wrap_ok (by omega) (by omega), ?_⟩ | refine ⟨_, wrap_u64 (by omega) (by omega), ?_⟩ | refine ⟨by decide, _, fdiv_half (by omega), ?_⟩ | (intro gg)); (conv => whnf)))
  (exact ⟨[], by (repeat' (first | exact ArgsOk.nil _ | exact argsOk_cells (by assumption) | refine ArgsOk.same (by first | exact cl_b rfl | exact cl_list | exact cl_nil | exact cl_one | exact cl_ll1 | exact cl_ll2 | exact cl_clo (by assumption)) ?_ | refine ArgsOk.nilsl _ ?_ | refine ArgsOk.nilown _ _ (by decide) ?_ | refine ArgsOk.borp rfl rfl rfl (cl_row rfl) (by decide) ?_ | refine ArgsOk.borc (by %caps) ?_ | refine ArgsOk.bor rfl rfl (deref_flat (by first | exact cl_rs rfl | exact cl_rows | exact cl_setB rfl | exact cl_setG (cl_setB rfl) rfl | exact cl_appB cl_rows (cl_rs rfl) | exact cl_rl1 | exact cl_rl2)) (by decide) ?_ | refine give' rfl (by first | exact cl_rs rfl | exact cl_rows | exact cl_setB rfl | exact cl_setG (cl_setB rfl) rfl | exact cl_appB cl_rows (cl_rs rfl) | exact cl_rl1 | exact cl_rl2) (by decide) (by decide) ?_))⟩)
theorem cl_rptr1 {α : Type} {enc : α → List V} [FlatRow enc] {x : α} {o : Nat} : ∀ u ∈ [V.rptr (enc x) o], Cl u := fun u hu => by
  simp only [List.mem_cons, List.not_mem_nil, or_false] at hu; subst hu
  exact cl_rptr cl_rowF
theorem idxRu (cl : Bool) (l : List Ru) (m : Mb) (hl : l.length ≤ 1000) : Fun Try.prog 40 [.c (.sl cl (l.map Ru.row)), .c (.clo 41 [.rptr m.row 0])] [.c (.v (.int .i64 (at_ (Ru.is m.n) l)))] :=
  indexRu_fun cl l _ _ cl_rptr1 (Ru.is m.n) hl fun x _ => putC_fun m x
theorem ruPut_fun (cl : Bool) (l : List Ru) (m : Mb) (hl : l.length ≤ 9223372036854775807) (hw : ∀ r ∈ l, r.m.ok) (hm : m.ok) : Fun Try.prog 13 [.c (.sl cl (l.map Ru.row)), .c (.agg m.row)] [.o 55 6 ((putRu l m).2.map Ru.row), .c (.v (.int .i64 (putRu l m).1))] := by
  refine fun_x ck_rumor_Put rfl ?_
  ((conv => whnf); repeat' ((first | refine ⟨rfl, ?_⟩ | refine ⟨_, row_map (by assumption), ?_⟩ | refine ⟨_, (by exact some_rfl), ?_⟩ | refine ⟨_, wrap_ok (by omega) (by omega), ?_⟩ | refine ⟨_, wrap_u64 (by omega) (by omega), ?_⟩ | refine ⟨by decide, _, fdiv_half (by omega), ?_⟩ | (intro gg)); (conv => whnf)))
  (refine .inl ⟨_, _, false, [], (by (repeat' (first | exact ArgsOk.nil _ | exact argsOk_cells (by assumption) | refine ArgsOk.same (by first | exact cl_b rfl | exact cl_list | exact cl_nil | exact cl_one | exact cl_ll1 | exact cl_ll2 | exact cl_clo (by assumption)) ?_ | refine ArgsOk.nilsl _ ?_ | refine ArgsOk.nilown _ _ (by decide) ?_ | refine ArgsOk.borp rfl rfl rfl (cl_row rfl) (by decide) ?_ | refine ArgsOk.borc (by (repeat' (first | exact cap_n | refine cap_p rfl rfl rfl (by first | exact cl_row rfl | exact cl_r1 rfl | exact cl_r1b) ?_ ?_ | refine cap_m rfl (by decide) ?_ | refine cap_c (by first | exact cl_b rfl | exact cl_list | exact cl_nil | exact cl_one | exact cl_ll1 | exact cl_ll2 | exact cl_clo (by assumption)) ?_ | decide))) ?_ | refine ArgsOk.bor rfl rfl (deref_flat (by first | exact cl_rs rfl | exact cl_rows | exact cl_setB rfl | exact cl_setG (cl_setB rfl) rfl | exact cl_appB cl_rows (cl_rs rfl) | exact cl_rl1 | exact cl_rl2)) (by decide) ?_ | refine give' rfl (by first | exact cl_rs rfl | exact cl_rows | exact cl_setB rfl | exact cl_setG (cl_setB rfl) rfl | exact cl_appB cl_rows (cl_rs rfl) | exact cl_rl1 | exact cl_rl2) (by decide) (by decide) ?_))), ruCheck_fun cl l hl hw, nobor, (by exact Nat.le_of_ble_eq_true rfl), ?_⟩)
  ((conv => whnf); repeat' ((first | refine ⟨rfl, ?_⟩ | refine ⟨_, row_map (by assumption), ?_⟩ | refine ⟨_, (by exact some_rfl), ?_⟩ | refine ⟨_, wrap_ok (by omega) (by omega), ?_⟩ | refine ⟨_, wrap_u64 (by omega) (by omega), ?_⟩ | refine ⟨by decide, _, fdiv_half (by omega), ?_⟩ | (intro gg)); (conv => whnf)))
  (refine bIf_of (fun h1 => ?_) (fun h1 => ?_) <;> rw [h1])
  · have h1' : ckRu l = 0 := by simpa using h1
    have hi := ckRu_inv h1'
    have hlen := hi.len
    rw [h1']
    ((conv => whnf); repeat' ((first | refine ⟨rfl, ?_⟩ | refine ⟨_, row_map (by assumption), ?_⟩ | refine ⟨_, (by exact some_rfl), ?_⟩ | refine ⟨_, wrap_ok (by omega) (by omega), ?_⟩ | refine ⟨_, wrap_u64 (by omega) (by omega), ?_⟩ | refine ⟨by decide, _, fdiv_half (by omega), ?_⟩ | (intro gg)); (conv => whnf)))
    (refine .inl ⟨_, _, false, [], (by (repeat' (first | exact ArgsOk.nil _ | exact argsOk_cells (by assumption) | refine ArgsOk.same (by first | exact cl_b rfl | exact cl_list | exact cl_nil | exact cl_one | exact cl_ll1 | exact cl_ll2 | exact cl_clo (by assumption)) ?_ | refine ArgsOk.nilsl _ ?_ | refine ArgsOk.nilown _ _ (by decide) ?_ | refine ArgsOk.borp rfl rfl rfl (cl_row rfl) (by decide) ?_ | refine ArgsOk.borc (by (repeat' (first | exact cap_n | refine cap_p rfl rfl rfl (by first | exact cl_row rfl | exact cl_r1 rfl | exact cl_r1b) ?_ ?_ | refine cap_m rfl (by decide) ?_ | refine cap_c (by first | exact cl_b rfl | exact cl_list | exact cl_nil | exact cl_one | exact cl_ll1 | exact cl_ll2 | exact cl_clo (by assumption)) ?_ | decide))) ?_ | refine ArgsOk.bor rfl rfl (deref_flat (by first | exact cl_rs rfl | exact cl_rows | exact cl_setB rfl | exact cl_setG (cl_setB rfl) rfl | exact cl_appB cl_rows (cl_rs rfl) | exact cl_rl1 | exact cl_rl2)) (by decide) ?_ | refine give' rfl (by first | exact cl_rs rfl | exact cl_rows | exact cl_setB rfl | exact cl_setG (cl_setB rfl) rfl | exact cl_appB cl_rows (cl_rs rfl) | exact cl_rl1 | exact cl_rl2) (by decide) (by decide) ?_))), mOne_fun m hm, nobor, (by exact Nat.le_of_ble_eq_true rfl), ?_⟩)
    ((conv => whnf); repeat' ((first | refine ⟨rfl, ?_⟩ | refine ⟨_, row_map (by assumption), ?_⟩ | refine ⟨_, (by exact some_rfl), ?_⟩ | refine ⟨_, wrap_ok (by omega) (by omega), ?_⟩ | refine ⟨_, wrap_u64 (by omega) (by omega), ?_⟩ | refine ⟨by decide, _, fdiv_half (by omega), ?_⟩ | (intro gg)); (conv => whnf)))
    (refine bIf_of (fun h2 => ?_) (fun h2 => ?_) <;> rw [h2])
    · have h2' : m.err ≠ 0 := by simpa using h2
      rw [putRu_one h1' h2']
      ((conv => whnf); repeat' ((first | refine ⟨rfl, ?_⟩ | refine ⟨_, row_map (by assumption), ?_⟩ | refine ⟨_, (by exact some_rfl), ?_⟩ | refine ⟨_, wrap_ok (by omega) (by omega), ?_⟩ | refine ⟨_, wrap_u64 (by omega) (by omega), ?_⟩ | refine ⟨by decide, _, fdiv_half (by omega), ?_⟩ | (intro gg)); (conv => whnf)))
      (exact ⟨[], by (repeat' (first | exact ArgsOk.nil _ | exact argsOk_cells (by assumption) | refine ArgsOk.same (by first | exact cl_b rfl | exact cl_list | exact cl_nil | exact cl_one | exact cl_ll1 | exact cl_ll2 | exact cl_clo (by assumption)) ?_ | refine ArgsOk.nilsl _ ?_ | refine ArgsOk.nilown _ _ (by decide) ?_ | refine ArgsOk.borp rfl rfl rfl (cl_row rfl) (by decide) ?_ | refine ArgsOk.borc (by %caps) ?_ | refine ArgsOk.bor rfl rfl (deref_flat (by first | exact cl_rs rfl | exact cl_rows | exact cl_setB rfl | exact cl_setG (cl_setB rfl) rfl | exact cl_appB cl_rows (cl_rs rfl) | exact cl_rl1 | exact cl_rl2)) (by decide) ?_ | refine give' rfl (by first | exact cl_rs rfl | exact cl_rows | exact cl_setB rfl | exact cl_setG (cl_setB rfl) rfl | exact cl_appB cl_rows (cl_rs rfl) | exact cl_rl1 | exact cl_rl2) (by decide) (by decide) ?_))⟩)
    · have h2' : m.err = 0 := by simpa using h2
      rw [putRu_ok h1' h2']
      ((conv => whnf); repeat' ((first | refine ⟨rfl, ?_⟩ | refine ⟨_, row_map (by assumption), ?_⟩ | refine ⟨_, (by exact some_rfl), ?_⟩ | refine ⟨_, wrap_ok (by omega) (by omega), ?_⟩ | refine ⟨_, wrap_u64 (by omega) (by omega), ?_⟩ | refine ⟨by decide, _, fdiv_half (by omega), ?_⟩ | (intro gg)); (conv => whnf)))
      (refine .inl ⟨_, _, false, [], (by (repeat' (first | exact ArgsOk.nil _ | exact argsOk_cells (by assumption) | refine ArgsOk.same (by first | exact cl_b rfl | exact cl_list | exact cl_nil | exact cl_one | exact cl_ll1 | exact cl_ll2 | exact cl_clo (by assumption)) ?_ | refine ArgsOk.nilsl _ ?_ | refine ArgsOk.nilown _ _ (by decide) ?_ | refine ArgsOk.borp rfl rfl rfl (cl_row rfl) (by decide) ?_ | refine ArgsOk.borc (by (repeat' (first | exact cap_n | refine cap_p rfl rfl rfl (by first | exact cl_row rfl | exact cl_r1 rfl | exact cl_r1b) ?_ ?_ | refine cap_m rfl (by decide) ?_ | refine cap_c (by first | exact cl_b rfl | exact cl_list | exact cl_nil | exact cl_one | exact cl_ll1 | exact cl_ll2 | exact cl_clo (by assumption)) ?_ | decide))) ?_ | refine ArgsOk.bor rfl rfl (deref_flat (by first | exact cl_rs rfl | exact cl_rows | exact cl_setB rfl | exact cl_setG (cl_setB rfl) rfl | exact cl_appB cl_rows (cl_rs rfl) | exact cl_rl1 | exact cl_rl2)) (by decide) ?_ | refine give' rfl (by first | exact cl_rs rfl | exact cl_rows | exact cl_setB rfl | exact cl_setG (cl_setB rfl) rfl | exact cl_appB cl_rows (cl_rs rfl) | exact cl_rl1 | exact cl_rl2) (by decide) (by decide) ?_))), cloneRu_fun cl l (by omega), nobor, (by exact Nat.le_of_ble_eq_true rfl), ?_⟩)
      ((conv => whnf); repeat' ((first | refine ⟨rfl, ?_⟩ | refine ⟨_, row_map (by assumption), ?_⟩ | refine ⟨_, (by exact some_rfl), ?_⟩ | refine ⟨_, wrap_ok (by omega) (by omega), ?_⟩ | refine ⟨_, wrap_u64 (by omega) (by omega), ?_⟩ | refine ⟨by decide, _, fdiv_half (by omega), ?_⟩ | (intro gg)); (conv => whnf)))
      (refine .inl ⟨_, _, true, [], (by (repeat' (first | exact ArgsOk.nil _ | exact argsOk_cells (by assumption) | refine ArgsOk.same (by first | exact cl_b rfl | exact cl_list | exact cl_nil | exact cl_one | exact cl_ll1 | exact cl_ll2 | exact cl_clo (by assumption)) ?_ | refine ArgsOk.nilsl _ ?_ | refine ArgsOk.nilown _ _ (by decide) ?_ | refine ArgsOk.borp rfl rfl rfl (cl_row rfl) (by decide) ?_ | refine ArgsOk.borc (by (repeat' (first | exact cap_n | refine cap_p rfl rfl rfl (by first | exact cl_row rfl | exact cl_r1 rfl | exact cl_r1b) ?_ ?_ | refine cap_m rfl (by decide) ?_ | refine cap_c (by first | exact cl_b rfl | exact cl_list | exact cl_nil | exact cl_one | exact cl_ll1 | exact cl_ll2 | exact cl_clo (by assumption)) ?_ | decide))) ?_ | refine ArgsOk.bor rfl rfl (deref_flat (by first | exact cl_rs rfl | exact cl_rows | exact cl_setB rfl | exact cl_setG (cl_setB rfl) rfl | exact cl_appB cl_rows (cl_rs rfl) | exact cl_rl1 | exact cl_rl2)) (by decide) ?_ | refine give' rfl (by first | exact cl_rs rfl | exact cl_rows | exact cl_setB rfl | exact cl_setG (cl_setB rfl) rfl | exact cl_appB cl_rows (cl_rs rfl) | exact cl_rl1 | exact cl_rl2) (by decide) (by decide) ?_))), idxRu false l m (by omega), (fun _ => by (first | exact flat_b rfl | exact flat_own | exact flat_own1 rfl | exact flat_own2 rfl)), (by exact Nat.le_of_ble_eq_true rfl), ?_⟩)
      rcases at_inv (p := Ru.is m.n) (l := l) with ⟨q1, q2⟩ | ⟨k, hk, q1, q2, q3⟩
      · have e : putR l m = putFin l m := putR_no (by rw [q1]; decide)
        rw [q1, e]
        ((conv => whnf); repeat' ((first | refine ⟨rfl, ?_⟩ | refine ⟨_, row_map (by assumption), ?_⟩ | refine ⟨_, (by exact some_rfl), ?_⟩ | refine ⟨_, wrap_ok (by omega) (by omega), ?_⟩ | refine ⟨_, wrap_u64 (by omega) (by omega), ?_⟩ | refine ⟨by decide, _, fdiv_half (by omega), ?_⟩ | (intro gg)); (conv => whnf)))
        (refine bIf_of (fun h3 => ?_) (fun h3 => ?_) <;> rw [h3])
        · have h3' : (l).length = 20 := by have := beq_iff_eq.1 h3; simp only [List.length_map] at this; omega
          have e2 : putFin (l) m = (2, []) := by simp [putFin, h3']
          rw [e2]
          ((conv => whnf); repeat' ((first | refine ⟨rfl, ?_⟩ | refine ⟨_, row_map (by assumption), ?_⟩ | refine ⟨_, (by exact some_rfl), ?_⟩ | refine ⟨_, wrap_ok (by omega) (by omega), ?_⟩ | refine ⟨_, wrap_u64 (by omega) (by omega), ?_⟩ | refine ⟨by decide, _, fdiv_half (by omega), ?_⟩ | (intro gg)); (conv => whnf)))
          (exact ⟨[], by (repeat' (first | exact ArgsOk.nil _ | exact argsOk_cells (by assumption) | refine ArgsOk.same (by first | exact cl_b rfl | exact cl_list | exact cl_nil | exact cl_one | exact cl_ll1 | exact cl_ll2 | exact cl_clo (by assumption)) ?_ | refine ArgsOk.nilsl _ ?_ | refine ArgsOk.nilown _ _ (by decide) ?_ | refine ArgsOk.borp rfl rfl rfl (cl_row rfl) (by decide) ?_ | refine ArgsOk.borc (by %caps) ?_ | refine ArgsOk.bor rfl rfl (deref_flat (by first | exact cl_rs rfl | exact cl_rows | exact cl_setB rfl | exact cl_setG (cl_setB rfl) rfl | exact cl_appB cl_rows (cl_rs rfl) | exact cl_rl1 | exact cl_rl2)) (by decide) ?_ | refine give' rfl (by first | exact cl_rs rfl | exact cl_rows | exact cl_setB rfl | exact cl_setG (cl_setB rfl) rfl | exact cl_appB cl_rows (cl_rs rfl) | exact cl_rl1 | exact cl_rl2) (by decide) (by decide) ?_))⟩)
        · have h3' : (l).length ≠ 20 := fun q => by rw [show (((((l).map Ru.row).length : Nat) : Int) == 20) = true from by rw [List.length_map, q]; rfl] at h3; cases h3
          have e2 : putFin (l) m = (0, l ++ [⟨m, 0⟩]) := by simp [putFin, h3']
          rw [e2, List.map_append]
          ((conv => whnf); repeat' ((first | refine ⟨rfl, ?_⟩ | refine ⟨_, row_map (by assumption), ?_⟩ | refine ⟨_, (by exact some_rfl), ?_⟩ | refine ⟨_, wrap_ok (by omega) (by omega), ?_⟩ | refine ⟨_, wrap_u64 (by omega) (by omega), ?_⟩ | refine ⟨by decide, _, fdiv_half (by omega), ?_⟩ | (intro gg)); (conv => whnf)))
          refine ⟨(by simp only [List.length_map, List.length_append, List.length_cons, List.length_nil, List.length_set, List.length_replicate, maxLen]; omega), (by simp only [List.length_map, List.length_append, List.length_cons, List.length_nil, List.length_set, List.length_replicate]; omega), ?_⟩
          ((conv => whnf); repeat' ((first | refine ⟨rfl, ?_⟩ | refine ⟨_, row_map (by assumption), ?_⟩ | refine ⟨_, (by exact some_rfl), ?_⟩ | refine ⟨_, wrap_ok (by omega) (by omega), ?_⟩ | refine ⟨_, wrap_u64 (by omega) (by omega), ?_⟩ | refine ⟨by decide, _, fdiv_half (by omega), ?_⟩ | (intro gg)); (conv => whnf)))
          (exact ⟨[288], by (repeat' (first | exact ArgsOk.nil _ | exact argsOk_cells (by assumption) | refine ArgsOk.same (by first | exact cl_b rfl | exact cl_list | exact cl_nil | exact cl_one | exact cl_ll1 | exact cl_ll2 | exact cl_clo (by assumption)) ?_ | refine ArgsOk.nilsl _ ?_ | refine ArgsOk.nilown _ _ (by decide) ?_ | refine ArgsOk.borp rfl rfl rfl (cl_row rfl) (by decide) ?_ | refine ArgsOk.borc (by %caps) ?_ | refine ArgsOk.bor rfl rfl (deref_flat (by first | exact cl_rs rfl | exact cl_rows | exact cl_setB rfl | exact cl_setG (cl_setB rfl) rfl | exact cl_appB cl_rows (cl_rs rfl) | exact cl_rl1 | exact cl_rl2)) (by decide) ?_ | refine give' rfl (by first | exact cl_rs rfl | exact cl_rows | exact cl_setB rfl | exact cl_setG (cl_setB rfl) rfl | exact cl_appB cl_rows (cl_rs rfl) | exact cl_rl1 | exact cl_rl2) (by decide) (by decide) ?_))⟩)
      · have hg : 0 ≤ at_ (Ru.is m.n) l := by rw [q1]; exact Int.natCast_nonneg k
        have hr : l[(at_ (Ru.is m.n) l).toNat]? = some l[k] := by rw [q1, Int.toNat_natCast]; exact List.getElem?_eq_getElem hk
        rw [q1]
        ((conv => whnf); repeat' ((first | refine ⟨rfl, ?_⟩ | refine ⟨_, row_map (by assumption), ?_⟩ | refine ⟨_, (by exact some_rfl), ?_⟩ | refine ⟨_, wrap_ok (by omega) (by omega), ?_⟩ | refine ⟨_, wrap_u64 (by omega) (by omega), ?_⟩ | refine ⟨by decide, _, fdiv_half (by omega), ?_⟩ | (intro gg)); (conv => whnf)))
        refine ⟨k, _, rfl, row_map hk, ?_⟩
        ((conv => whnf); repeat' ((first | refine ⟨rfl, ?_⟩ | refine ⟨_, row_map (by assumption), ?_⟩ | refine ⟨_, (by exact some_rfl), ?_⟩ | refine ⟨_, wrap_ok (by omega) (by omega), ?_⟩ | refine ⟨_, wrap_u64 (by omega) (by omega), ?_⟩ | refine ⟨by decide, _, fdiv_half (by omega), ?_⟩ | (intro gg)); (conv => whnf)))
        (refine .inl ⟨_, _, false, [], (by (repeat' (first | exact ArgsOk.nil _ | exact argsOk_cells (by assumption) | refine ArgsOk.same (by first | exact cl_b rfl | exact cl_list | exact cl_nil | exact cl_one | exact cl_ll1 | exact cl_ll2 | exact cl_clo (by assumption)) ?_ | refine ArgsOk.nilsl _ ?_ | refine ArgsOk.nilown _ _ (by decide) ?_ | refine ArgsOk.borp rfl rfl rfl (cl_row rfl) (by decide) ?_ | refine ArgsOk.borc (by (repeat' (first | exact cap_n | refine cap_p rfl rfl rfl (by first | exact cl_row rfl | exact cl_r1 rfl | exact cl_r1b) ?_ ?_ | refine cap_m rfl (by decide) ?_ | refine cap_c (by first | exact cl_b rfl | exact cl_list | exact cl_nil | exact cl_one | exact cl_ll1 | exact cl_ll2 | exact cl_clo (by assumption)) ?_ | decide))) ?_ | refine ArgsOk.bor rfl rfl (deref_flat (by first | exact cl_rs rfl | exact cl_rows | exact cl_setB rfl | exact cl_setG (cl_setB rfl) rfl | exact cl_appB cl_rows (cl_rs rfl) | exact cl_rl1 | exact cl_rl2)) (by decide) ?_ | refine give' rfl (by first | exact cl_rs rfl | exact cl_rows | exact cl_setB rfl | exact cl_setG (cl_setB rfl) rfl | exact cl_appB cl_rows (cl_rs rfl) | exact cl_rl1 | exact cl_rl2) (by decide) (by decide) ?_))), mcmp_fun m (l[k]).m, nobor, (by exact Nat.le_of_ble_eq_true rfl), ?_⟩)
        ((conv => whnf); repeat' ((first | refine ⟨rfl, ?_⟩ | refine ⟨_, row_map (by assumption), ?_⟩ | refine ⟨_, (by exact some_rfl), ?_⟩ | refine ⟨_, wrap_ok (by omega) (by omega), ?_⟩ | refine ⟨_, wrap_u64 (by omega) (by omega), ?_⟩ | refine ⟨by decide, _, fdiv_half (by omega), ?_⟩ | (intro gg)); (conv => whnf)))
        (refine bIf_of (fun h4 => ?_) (fun h4 => ?_) <;> rw [h4])
        · have h4' : Mb.cmp m (l[k]).m ≤ 0 := (by have := of_decide_eq_true h4; omega)
          rw [putR_old hg hr h4']
          ((conv => whnf); repeat' ((first | refine ⟨rfl, ?_⟩ | refine ⟨_, row_map (by assumption), ?_⟩ | refine ⟨_, (by exact some_rfl), ?_⟩ | refine ⟨_, wrap_ok (by omega) (by omega), ?_⟩ | refine ⟨_, wrap_u64 (by omega) (by omega), ?_⟩ | refine ⟨by decide, _, fdiv_half (by omega), ?_⟩ | (intro gg)); (conv => whnf)))
          (exact ⟨[288], by (repeat' (first | exact ArgsOk.nil _ | exact argsOk_cells (by assumption) | refine ArgsOk.same (by first | exact cl_b rfl | exact cl_list | exact cl_nil | exact cl_one | exact cl_ll1 | exact cl_ll2 | exact cl_clo (by assumption)) ?_ | refine ArgsOk.nilsl _ ?_ | refine ArgsOk.nilown _ _ (by decide) ?_ | refine ArgsOk.borp rfl rfl rfl (cl_row rfl) (by decide) ?_ | refine ArgsOk.borc (by %caps) ?_ | refine ArgsOk.bor rfl rfl (deref_flat (by first | exact cl_rs rfl | exact cl_rows | exact cl_setB rfl | exact cl_setG (cl_setB rfl) rfl | exact cl_appB cl_rows (cl_rs rfl) | exact cl_rl1 | exact cl_rl2)) (by decide) ?_ | refine give' rfl (by first | exact cl_rs rfl | exact cl_rows | exact cl_setB rfl | exact cl_setG (cl_setB rfl) rfl | exact cl_appB cl_rows (cl_rs rfl) | exact cl_rl1 | exact cl_rl2) (by decide) (by decide) ?_))⟩)
        · have h4' : ¬ Mb.cmp m (l[k]).m ≤ 0 := (by have := of_decide_eq_false h4; omega)
          have e : putR l m = putFin (l.eraseIdx k) m := by rw [putR_new hg hr h4', q1, Int.toNat_natCast]
          rw [e]
          have hle : (l.eraseIdx k).length ≤ 20 := by rw [List.length_eraseIdx_of_lt hk]; omega
          ((conv => whnf); repeat' ((first | refine ⟨rfl, ?_⟩ | refine ⟨_, row_map (by assumption), ?_⟩ | refine ⟨_, (by exact some_rfl), ?_⟩ | refine ⟨_, wrap_ok (by omega) (by omega), ?_⟩ | refine ⟨_, wrap_u64 (by omega) (by omega), ?_⟩ | refine ⟨by decide, _, fdiv_half (by omega), ?_⟩ | (intro gg)); (conv => whnf)))
          (refine .inl ⟨_, _, true, [288], (by (repeat' (first | exact ArgsOk.nil _ | exact argsOk_cells (by assumption) | refine ArgsOk.same (by first | exact cl_b rfl | exact cl_list | exact cl_nil | exact cl_one | exact cl_ll1 | exact cl_ll2 | exact cl_clo (by assumption)) ?_ | refine ArgsOk.nilsl _ ?_ | refine ArgsOk.nilown _ _ (by decide) ?_ | refine ArgsOk.borp rfl rfl rfl (cl_row rfl) (by decide) ?_ | refine ArgsOk.borc (by (repeat' (first | exact cap_n | refine cap_p rfl rfl rfl (by first | exact cl_row rfl | exact cl_r1 rfl | exact cl_r1b) ?_ ?_ | refine cap_m rfl (by decide) ?_ | refine cap_c (by first | exact cl_b rfl | exact cl_list | exact cl_nil | exact cl_one | exact cl_ll1 | exact cl_ll2 | exact cl_clo (by assumption)) ?_ | decide))) ?_ | refine ArgsOk.bor rfl rfl (deref_flat (by first | exact cl_rs rfl | exact cl_rows | exact cl_setB rfl | exact cl_setG (cl_setB rfl) rfl | exact cl_appB cl_rows (cl_rs rfl) | exact cl_rl1 | exact cl_rl2)) (by decide) ?_ | refine give' rfl (by first | exact cl_rs rfl | exact cl_rows | exact cl_setB rfl | exact cl_setG (cl_setB rfl) rfl | exact cl_appB cl_rows (cl_rs rfl) | exact cl_rl1 | exact cl_rl2) (by decide) (by decide) ?_))), delRu_fun l k hk (by omega), (fun _ => by (first | exact flat_b rfl | exact flat_own | exact flat_own1 rfl | exact flat_own2 rfl)), (by exact Nat.le_of_ble_eq_true rfl), ?_⟩)
          ((conv => whnf); repeat' ((first | refine ⟨rfl, ?_⟩ | refine ⟨_, row_map (by assumption), ?_⟩ | refine ⟨_, (by exact some_rfl), ?_⟩ | refine ⟨_, wrap_ok (by omega) (by omega), ?_⟩ | refine ⟨_, wrap_u64 (by omega) (by omega), ?_⟩ | refine ⟨by decide, _, fdiv_half (by omega), ?_⟩ | (intro gg)); (conv => whnf)))
          (refine bIf_of (fun h3 => ?_) (fun h3 => ?_) <;> rw [h3])
          · have h3' : (l.eraseIdx k).length = 20 := by have := beq_iff_eq.1 h3; simp only [List.length_map] at this; omega
            have e2 : putFin (l.eraseIdx k) m = (2, []) := by simp [putFin, h3']
            rw [e2]
            ((conv => whnf); repeat' ((first | refine ⟨rfl, ?_⟩ | refine ⟨_, row_map (by assumption), ?_⟩ | refine ⟨_, (by exact some_rfl), ?_⟩ | refine ⟨_, wrap_ok (by omega) (by omega), ?_⟩ | refine ⟨_, wrap_u64 (by omega) (by omega), ?_⟩ | refine ⟨by decide, _, fdiv_half (by omega), ?_⟩ | (intro gg)); (conv => whnf)))
            (exact ⟨[], by (repeat' (first | exact ArgsOk.nil _ | exact argsOk_cells (by assumption) | refine ArgsOk.same (by first | exact cl_b rfl | exact cl_list | exact cl_nil | exact cl_one | exact cl_ll1 | exact cl_ll2 | exact cl_clo (by assumption)) ?_ | refine ArgsOk.nilsl _ ?_ | refine ArgsOk.nilown _ _ (by decide) ?_ | refine ArgsOk.borp rfl rfl rfl (cl_row rfl) (by decide) ?_ | refine ArgsOk.borc (by %caps) ?_ | refine ArgsOk.bor rfl rfl (deref_flat (by first | exact cl_rs rfl | exact cl_rows | exact cl_setB rfl | exact cl_setG (cl_setB rfl) rfl | exact cl_appB cl_rows (cl_rs rfl) | exact cl_rl1 | exact cl_rl2)) (by decide) ?_ | refine give' rfl (by first | exact cl_rs rfl | exact cl_rows | exact cl_setB rfl | exact cl_setG (cl_setB rfl) rfl | exact cl_appB cl_rows (cl_rs rfl) | exact cl_rl1 | exact cl_rl2) (by decide) (by decide) ?_))⟩)
          · have h3' : (l.eraseIdx k).length ≠ 20 := fun q => by rw [show (((((l.eraseIdx k).map Ru.row).length : Nat) : Int) == 20) = true from by rw [List.length_map, q]; rfl] at h3; cases h3
            have e2 : putFin (l.eraseIdx k) m = (0, l.eraseIdx k ++ [⟨m, 0⟩]) := by simp [putFin, h3']
            rw [e2, List.map_append]
            ((conv => whnf); repeat' ((first | refine ⟨rfl, ?_⟩ | refine ⟨_, row_map (by assumption), ?_⟩ | refine ⟨_, (by exact some_rfl), ?_⟩ | refine ⟨_, wrap_ok (by omega) (by omega), ?_⟩ | refine ⟨_, wrap_u64 (by omega) (by omega), ?_⟩ | refine ⟨by decide, _, fdiv_half (by omega), ?_⟩ | (intro gg)); (conv => whnf)))
            refine ⟨(by simp only [List.length_map, List.length_append, List.length_cons, List.length_nil, List.length_set, List.length_replicate, maxLen]; omega), (by simp only [List.length_map, List.length_append, List.length_cons, List.length_nil, List.length_set, List.length_replicate]; omega), ?_⟩
            ((conv => whnf); repeat' ((first | refine ⟨rfl, ?_⟩ | refine ⟨_, row_map (by assumption), ?_⟩ | refine ⟨_, (by exact some_rfl), ?_⟩ | refine ⟨_, wrap_ok (by omega) (by omega), ?_⟩ | refine ⟨_, wrap_u64 (by omega) (by omega), ?_⟩ | refine ⟨by decide, _, fdiv_half (by omega), ?_⟩ | (intro gg)); (conv => whnf)))
            (exact ⟨[592], by (repeat' (first | exact ArgsOk.nil _ | exact argsOk_cells (by assumption) | refine ArgsOk.same (by first | exact cl_b rfl | exact cl_list | exact cl_nil | exact cl_one | exact cl_ll1 | exact cl_ll2 | exact cl_clo (by assumption)) ?_ | refine ArgsOk.nilsl _ ?_ | refine ArgsOk.nilown _ _ (by decide) ?_ | refine ArgsOk.borp rfl rfl rfl (cl_row rfl) (by decide) ?_ | refine ArgsOk.borc (by %caps) ?_ | refine ArgsOk.bor rfl rfl (deref_flat (by first | exact cl_rs rfl | exact cl_rows | exact cl_setB rfl | exact cl_setG (cl_setB rfl) rfl | exact cl_appB cl_rows (cl_rs rfl) | exact cl_rl1 | exact cl_rl2)) (by decide) ?_ | refine give' rfl (by first | exact cl_rs rfl | exact cl_rows | exact cl_setB rfl | exact cl_setG (cl_setB rfl) rfl | exact cl_appB cl_rows (cl_rs rfl) | exact cl_rl1 | exact cl_rl2) (by decide) (by decide) ?_))⟩)
  · have h1' : ckRu l ≠ 0 := by simpa using h1
    rw [putRu_ck h1']
    ((conv => whnf); repeat' ((first | refine ⟨rfl, ?_⟩ | refine ⟨_, row_map (by assumption), ?_⟩ | refine ⟨_, (by exact some_rfl), ?_⟩ | refine ⟨_, wrap_ok (by omega) (by omega), ?_⟩ | refine ⟨_, wrap_u64 (by omega) (by omega), ?_⟩ | refine ⟨by decide, _, fdiv_half (by omega), ?_⟩ | (intro gg)); (conv => whnf)))
    rw [show (ckRu l != 0) = true from by simpa using h1']
    ((conv => whnf); repeat' ((first | refine ⟨rfl, ?_⟩ | refine ⟨_, row_map (by assumption), ?_⟩ | refine ⟨_, (by exact some_rfl), ?_⟩ | refine ⟨_, wrap_ok (by omega) (by omega), ?_⟩ | refine ⟨_, wrap_u64 (by omega) (by omega), ?_⟩ | refine ⟨by decide, _, fdiv_half (by omega), ?_⟩ | (intro gg)); (conv => whnf)))
    (exact ⟨[], by (repeat' (first | exact ArgsOk.nil _ | exact argsOk_cells (by assumption) | refine ArgsOk.same (by first | exact cl_b rfl | exact cl_list | exact cl_nil | exact cl_one | exact cl_ll1 | exact cl_ll2 | exact cl_clo (by assumption)) ?_ | refine ArgsOk.nilsl _ ?_ | refine ArgsOk.nilown _ _ (by decide) ?_ | refine ArgsOk.borp rfl rfl rfl (cl_row rfl) (by decide) ?_ | refine ArgsOk.borc (by %caps) ?_ | refine ArgsOk.bor rfl rfl (deref_flat (by first | exact cl_rs rfl | exact cl_rows | exact cl_setB rfl | exact cl_setG (cl_setB rfl) rfl | exact cl_appB cl_rows (cl_rs rfl) | exact cl_rl1 | exact cl_rl2)) (by decide) ?_ | refine give' rfl (by first | exact cl_rs rfl | exact cl_rows | exact cl_setB rfl | exact cl_setG (cl_setB rfl) rfl | exact cl_appB cl_rows (cl_rs rfl) | exact cl_rl1 | exact cl_rl2) (by decide) (by decide) ?_))⟩)
/-- the reference -/
theorem rputRu_fun (l : List Ru) (m : Mb) (hi : RuOk l) : Fun Try.prog 16 [.c (.sl false (l.map Ru.row)), .c (.agg m.row)] [.c (.sl false ((putR l m).2.map Ru.row)), .c (.v (.int .i64 (putR l m).1))] := by
  have hlen := hi.len
  refine fun_x ck_hearsayref_PutRumor rfl ?_
  ((conv => whnf); repeat' ((first | refine ⟨rfl, ?_⟩ | refine ⟨_, row_map (by assumption), ?_⟩ | refine ⟨_, (by exact some_rfl), ?_⟩ | refine ⟨_, wrap_ok (by omega) (by omega), ?_⟩ | refine ⟨_, wrap_u64 (by omega) (by omega), ?_⟩ | refine ⟨by decide, _, fdiv_half (by omega), ?_⟩ | (intro gg)); (conv => whnf)))
  (refine ⟨[(6, 96, 55, 6)], none, {p : Nat × Nat // p.1 ≤ l.length ∧ ∀ j, (h : j < l.length) → j < p.1 → Ru.is m.n l[j] = true → 0 < Mb.cmp m l[j].m}, [0, 3], fun ⟨⟨k, g⟩, hk, h0⟩ => [(6, .own 96 g), (7, .v (.int .i64 k))], [48], fun ⟨⟨k, g⟩, hk, h0⟩ => [(96, ⟨g, 55, 6, (others m.n (l.take k)).map Ru.row⟩)], fun ⟨⟨k, g⟩, hk, h0⟩ => l.length - k, (by exact ⟨rfl, by decide, (fun _ _ _ _ h => by cases h), trivial⟩), fun gs => ⟨trivial, fun _ => ⟨⟨(0, gs 96), Nat.zero_le _, fun j _ h => absurd h (Nat.not_lt_zero _)⟩, by (repeat' (first | exact trivial | refine ⟨rfl, ?_⟩)), by (repeat' (first | exact trivial | refine ⟨rfl, ?_⟩)), by (repeat' (first | exact trivial | refine ⟨rfl, ?_⟩)), by (repeat' (first | exact trivial | refine ⟨rfl, ?_⟩))⟩⟩, fun ⟨⟨k, g⟩, hk, h0⟩ => ?_⟩)
  ((conv => whnf); repeat' ((first | refine ⟨rfl, ?_⟩ | refine ⟨_, row_map (by assumption), ?_⟩ | refine ⟨_, (by exact some_rfl), ?_⟩ | refine ⟨_, wrap_ok (by omega) (by omega), ?_⟩ | refine ⟨_, wrap_u64 (by omega) (by omega), ?_⟩ | refine ⟨by decide, _, fdiv_half (by omega), ?_⟩ | (intro gg)); (conv => whnf)))
  (refine bIf_of (fun h => ?_) (fun h => ?_) <;> rw [h])
  · have hlt : k < l.length := by have := of_decide_eq_true h; simpa using this
    have ho := others_take (n := m.n) hlt
    ((conv => whnf); repeat' ((first | refine ⟨rfl, ?_⟩ | refine ⟨_, row_map (by assumption), ?_⟩ | refine ⟨_, (by exact some_rfl), ?_⟩ | refine ⟨_, wrap_ok (by omega) (by omega), ?_⟩ | refine ⟨_, wrap_u64 (by omega) (by omega), ?_⟩ | refine ⟨by decide, _, fdiv_half (by omega), ?_⟩ | (intro gg)); (conv => whnf)))
    refine ⟨k, _, rfl, row_map hlt, ?_⟩
    ((conv => whnf); repeat' ((first | refine ⟨rfl, ?_⟩ | refine ⟨_, row_map (by assumption), ?_⟩ | refine ⟨_, (by exact some_rfl), ?_⟩ | refine ⟨_, wrap_ok (by omega) (by omega), ?_⟩ | refine ⟨_, wrap_u64 (by omega) (by omega), ?_⟩ | refine ⟨by decide, _, fdiv_half (by omega), ?_⟩ | (intro gg)); (conv => whnf)))
    (refine bIf_of (fun h2 => ?_) (fun h2 => ?_) <;> rw [h2])
    · have h2' : Ru.is m.n l[k] = false := not_t h2
      rw [h2', if_neg (by simp)] at ho
      have hle : (others m.n (l.take k)).length ≤ 20 := Nat.le_trans (List.length_filter_le _ _) (by simp; omega)
      ((conv => whnf); repeat' ((first | refine ⟨rfl, ?_⟩ | refine ⟨_, row_map (by assumption), ?_⟩ | refine ⟨_, (by exact some_rfl), ?_⟩ | refine ⟨_, wrap_ok (by omega) (by omega), ?_⟩ | refine ⟨_, wrap_u64 (by omega) (by omega), ?_⟩ | refine ⟨by decide, _, fdiv_half (by omega), ?_⟩ | (intro gg)); (conv => whnf)))
      refine ⟨k, _, rfl, row_map hlt, ?_⟩
      ((conv => whnf); repeat' ((first | refine ⟨rfl, ?_⟩ | refine ⟨_, row_map (by assumption), ?_⟩ | refine ⟨_, (by exact some_rfl), ?_⟩ | refine ⟨_, wrap_ok (by omega) (by omega), ?_⟩ | refine ⟨_, wrap_u64 (by omega) (by omega), ?_⟩ | refine ⟨by decide, _, fdiv_half (by omega), ?_⟩ | (intro gg)); (conv => whnf)))
      refine ⟨(by simp only [List.length_map, List.length_append, List.length_cons, List.length_nil, List.length_set, List.length_replicate, maxLen]; omega), (by simp only [List.length_map, List.length_append, List.length_cons, List.length_nil, List.length_set, List.length_replicate]; omega), ?_⟩
      ((conv => whnf); repeat' ((first | refine ⟨rfl, ?_⟩ | refine ⟨_, row_map (by assumption), ?_⟩ | refine ⟨_, (by exact some_rfl), ?_⟩ | refine ⟨_, wrap_ok (by omega) (by omega), ?_⟩ | refine ⟨_, wrap_u64 (by omega) (by omega), ?_⟩ | refine ⟨by decide, _, fdiv_half (by omega), ?_⟩ | (intro gg)); (conv => whnf)))
      have e : (others m.n (l.take k)).map Ru.row ++ [Ru.row l[k]] = (others m.n (l.take (k + 1))).map Ru.row := by rw [ho, List.map_append]; rfl
      (exact ⟨none, trivial, fun gr => ⟨⟨(k + 1, gg), by dsimp only; omega, up1 (p := fun j h => Ru.is m.n l[j] = true → 0 < Mb.cmp m l[j].m) h0 (fun _ q => by rw [h2'] at q; cases q)⟩, by show l.length - (k + 1) < l.length - k; omega, by (repeat' (first | exact trivial | refine ⟨rfl, ?_⟩)), by (repeat' (first | exact trivial | refine ⟨rfl, ?_⟩)), ⟨congrArg (fun r => some (Ent.mk gg (.t 55) 6 r)) e, trivial⟩, by (repeat' (first | exact trivial | refine ⟨rfl, ?_⟩))⟩⟩)
    · have h2' : Ru.is m.n l[k] = true := not_f h2
      rw [if_pos h2'] at ho
      ((conv => whnf); repeat' ((first | refine ⟨rfl, ?_⟩ | refine ⟨_, row_map (by assumption), ?_⟩ | refine ⟨_, (by exact some_rfl), ?_⟩ | refine ⟨_, wrap_ok (by omega) (by omega), ?_⟩ | refine ⟨_, wrap_u64 (by omega) (by omega), ?_⟩ | refine ⟨by decide, _, fdiv_half (by omega), ?_⟩ | (intro gg)); (conv => whnf)))
      refine ⟨k, _, rfl, row_map hlt, ?_⟩
      ((conv => whnf); repeat' ((first | refine ⟨rfl, ?_⟩ | refine ⟨_, row_map (by assumption), ?_⟩ | refine ⟨_, (by exact some_rfl), ?_⟩ | refine ⟨_, wrap_ok (by omega) (by omega), ?_⟩ | refine ⟨_, wrap_u64 (by omega) (by omega), ?_⟩ | refine ⟨by decide, _, fdiv_half (by omega), ?_⟩ | (intro gg)); (conv => whnf)))
      (refine .inl ⟨_, _, false, [], (by (repeat' (first | exact ArgsOk.nil _ | exact argsOk_cells (by assumption) | refine ArgsOk.same (by first | exact cl_b rfl | exact cl_list | exact cl_nil | exact cl_one | exact cl_ll1 | exact cl_ll2 | exact cl_clo (by assumption)) ?_ | refine ArgsOk.nilsl _ ?_ | refine ArgsOk.nilown _ _ (by decide) ?_ | refine ArgsOk.borp rfl rfl rfl (cl_row rfl) (by decide) ?_ | refine ArgsOk.borc (by (repeat' (first | exact cap_n | refine cap_p rfl rfl rfl (by first | exact cl_row rfl | exact cl_r1 rfl | exact cl_r1b) ?_ ?_ | refine cap_m rfl (by decide) ?_ | refine cap_c (by first | exact cl_b rfl | exact cl_list | exact cl_nil | exact cl_one | exact cl_ll1 | exact cl_ll2 | exact cl_clo (by assumption)) ?_ | decide))) ?_ | refine ArgsOk.bor rfl rfl (deref_flat (by first | exact cl_rs rfl | exact cl_rows | exact cl_setB rfl | exact cl_setG (cl_setB rfl) rfl | exact cl_appB cl_rows (cl_rs rfl) | exact cl_rl1 | exact cl_rl2)) (by decide) ?_ | refine give' rfl (by first | exact cl_rs rfl | exact cl_rows | exact cl_setB rfl | exact cl_setG (cl_setB rfl) rfl | exact cl_appB cl_rows (cl_rs rfl) | exact cl_rl1 | exact cl_rl2) (by decide) (by decide) ?_))), rnewer_fun m (l[k]).m, nobor, (by exact Nat.le_of_ble_eq_true rfl), ?_⟩)
      ((conv => whnf); repeat' ((first | refine ⟨rfl, ?_⟩ | refine ⟨_, row_map (by assumption), ?_⟩ | refine ⟨_, (by exact some_rfl), ?_⟩ | refine ⟨_, wrap_ok (by omega) (by omega), ?_⟩ | refine ⟨_, wrap_u64 (by omega) (by omega), ?_⟩ | refine ⟨by decide, _, fdiv_half (by omega), ?_⟩ | (intro gg)); (conv => whnf)))
      (refine bIf_of (fun h3 => ?_) (fun h3 => ?_) <;> rw [h3])
      · have h3' : ¬ 0 < Mb.cmp m (l[k]).m := of_decide_eq_false (not_t h3)
        have e : putR l m = (0, l) := by
          rcases at_inv (p := Ru.is m.n) (l := l) with ⟨q1, q2⟩ | ⟨i, hi', q1, q2, q3⟩
          · have := q2 k hlt; rw [h2'] at this; cases this
          · have e1 : i = k := nd_get hi.nd hi' hlt ((Ru.is_iff.1 q2).trans (Ru.is_iff.1 h2').symm)
            subst e1
            exact putR_old (r := l[i]) (by rw [q1]; exact Int.natCast_nonneg i) (by rw [q1, Int.toNat_natCast]; exact List.getElem?_eq_getElem hlt) (by omega)
        rw [e]
        ((conv => whnf); repeat' ((first | refine ⟨rfl, ?_⟩ | refine ⟨_, row_map (by assumption), ?_⟩ | refine ⟨_, (by exact some_rfl), ?_⟩ | refine ⟨_, wrap_ok (by omega) (by omega), ?_⟩ | refine ⟨_, wrap_u64 (by omega) (by omega), ?_⟩ | refine ⟨by decide, _, fdiv_half (by omega), ?_⟩ | (intro gg)); (conv => whnf)))
        (exact ⟨[], by (repeat' (first | exact ArgsOk.nil _ | exact argsOk_cells (by assumption) | refine ArgsOk.same (by first | exact cl_b rfl | exact cl_list | exact cl_nil | exact cl_one | exact cl_ll1 | exact cl_ll2 | exact cl_clo (by assumption)) ?_ | refine ArgsOk.nilsl _ ?_ | refine ArgsOk.nilown _ _ (by decide) ?_ | refine ArgsOk.borp rfl rfl rfl (cl_row rfl) (by decide) ?_ | refine ArgsOk.borc (by %caps) ?_ | refine ArgsOk.bor rfl rfl (deref_flat (by first | exact cl_rs rfl | exact cl_rows | exact cl_setB rfl | exact cl_setG (cl_setB rfl) rfl | exact cl_appB cl_rows (cl_rs rfl) | exact cl_rl1 | exact cl_rl2)) (by decide) ?_ | refine give' rfl (by first | exact cl_rs rfl | exact cl_rows | exact cl_setB rfl | exact cl_setG (cl_setB rfl) rfl | exact cl_appB cl_rows (cl_rs rfl) | exact cl_rl1 | exact cl_rl2) (by decide) (by decide) ?_))⟩)
      · have h3' : 0 < Mb.cmp m (l[k]).m := of_decide_eq_true (not_f h3)
        ((conv => whnf); repeat' ((first | refine ⟨rfl, ?_⟩ | refine ⟨_, row_map (by assumption), ?_⟩ | refine ⟨_, (by exact some_rfl), ?_⟩ | refine ⟨_, wrap_ok (by omega) (by omega), ?_⟩ | refine ⟨_, wrap_u64 (by omega) (by omega), ?_⟩ | refine ⟨by decide, _, fdiv_half (by omega), ?_⟩ | (intro gg)); (conv => whnf)))
        (exact ⟨none, trivial, fun gr => ⟨⟨(k + 1, g), by dsimp only; omega, up1 (p := fun j h => Ru.is m.n l[j] = true → 0 < Mb.cmp m l[j].m) h0 (fun _ _ => h3')⟩, by show l.length - (k + 1) < l.length - k; omega, by (repeat' (first | exact trivial | refine ⟨rfl, ?_⟩)), by (repeat' (first | exact trivial | refine ⟨rfl, ?_⟩)), ⟨congrArg (fun r => some (Ent.mk g (.t 55) 6 (List.map Ru.row r))) ho.symm, trivial⟩, by (repeat' (first | exact trivial | refine ⟨rfl, ?_⟩))⟩⟩)
  · have hge : ¬ k < l.length := by have := of_decide_eq_false h; simpa using this
    obtain rfl : k = l.length := by dsimp only at hk; omega
    have e0 : l.take l.length = l := List.take_length
    have e : putR l m = putFin (others m.n (l.take l.length)) m := by
      rw [e0]
      rcases at_inv (p := Ru.is m.n) (l := l) with ⟨q1, q2⟩ | ⟨i, hi', q1, q2, q3⟩
      · rw [others_none (fun r hr => by obtain ⟨i, h, rfl⟩ := List.getElem_of_mem hr; exact q2 i h)]
        exact putR_no (by rw [q1]; decide)
      · rw [others_erase i hi' hi.nd q2]
        have := h0 i hi' (by dsimp only; omega) q2
        rw [putR_new (r := l[i]) (by rw [q1]; exact Int.natCast_nonneg i) (by rw [q1, Int.toNat_natCast]; exact List.getElem?_eq_getElem hi') (by omega), q1, Int.toNat_natCast]
    have hle : (others m.n (l.take l.length)).length ≤ 20 := by rw [e0]; exact Nat.le_trans (List.length_filter_le _ _) hlen
    rw [e]
    ((conv => whnf); repeat' ((first | refine ⟨rfl, ?_⟩ | refine ⟨_, row_map (by assumption), ?_⟩ | refine ⟨_, (by exact some_rfl), ?_⟩ | refine ⟨_, wrap_ok (by omega) (by omega), ?_⟩ | refine ⟨_, wrap_u64 (by omega) (by omega), ?_⟩ | refine ⟨by decide, _, fdiv_half (by omega), ?_⟩ | (intro gg)); (conv => whnf)))
    (refine bIf_of (fun h3 => ?_) (fun h3 => ?_) <;> rw [h3])
    · have h3' : (others m.n (l.take l.length)).length = 20 := by have := beq_iff_eq.1 h3; simp only [List.length_map] at this; omega
      have e2 : putFin (others m.n (l.take l.length)) m = (2, []) := by simp only [putFin, h3', if_true]
      rw [e2]
      ((conv => whnf); repeat' ((first | refine ⟨rfl, ?_⟩ | refine ⟨_, row_map (by assumption), ?_⟩ | refine ⟨_, (by exact some_rfl), ?_⟩ | refine ⟨_, wrap_ok (by omega) (by omega), ?_⟩ | refine ⟨_, wrap_u64 (by omega) (by omega), ?_⟩ | refine ⟨by decide, _, fdiv_half (by omega), ?_⟩ | (intro gg)); (conv => whnf)))
      (exact ⟨[], by (repeat' (first | exact ArgsOk.nil _ | exact argsOk_cells (by assumption) | refine ArgsOk.same (by first | exact cl_b rfl | exact cl_list | exact cl_nil | exact cl_one | exact cl_ll1 | exact cl_ll2 | exact cl_clo (by assumption)) ?_ | refine ArgsOk.nilsl _ ?_ | refine ArgsOk.nilown _ _ (by decide) ?_ | refine ArgsOk.borp rfl rfl rfl (cl_row rfl) (by decide) ?_ | refine ArgsOk.borc (by %caps) ?_ | refine ArgsOk.bor rfl rfl (deref_flat (by first | exact cl_rs rfl | exact cl_rows | exact cl_setB rfl | exact cl_setG (cl_setB rfl) rfl | exact cl_appB cl_rows (cl_rs rfl) | exact cl_rl1 | exact cl_rl2)) (by decide) ?_ | refine give' rfl (by first | exact cl_rs rfl | exact cl_rows | exact cl_setB rfl | exact cl_setG (cl_setB rfl) rfl | exact cl_appB cl_rows (cl_rs rfl) | exact cl_rl1 | exact cl_rl2) (by decide) (by decide) ?_))⟩)
    · have h3' : (others m.n (l.take l.length)).length ≠ 20 := fun q => by rw [show (((((others m.n (l.take l.length)).map Ru.row).length : Nat) : Int) == 20) = true from by rw [List.length_map, q]; rfl] at h3; cases h3
      have e2 : putFin (others m.n (l.take l.length)) m = (0, others m.n (l.take l.length) ++ [⟨m, 0⟩]) := by simp only [putFin, h3', if_false]
      rw [e2, List.map_append]
      ((conv => whnf); repeat' ((first | refine ⟨rfl, ?_⟩ | refine ⟨_, row_map (by assumption), ?_⟩ | refine ⟨_, (by exact some_rfl), ?_⟩ | refine ⟨_, wrap_ok (by omega) (by omega), ?_⟩ | refine ⟨_, wrap_u64 (by omega) (by omega), ?_⟩ | refine ⟨by decide, _, fdiv_half (by omega), ?_⟩ | (intro gg)); (conv => whnf)))
      refine ⟨(by simp only [List.length_map, List.length_append, List.length_cons, List.length_nil, List.length_set, List.length_replicate, maxLen]; omega), (by simp only [List.length_map, List.length_append, List.length_cons, List.length_nil, List.length_set, List.length_replicate]; omega), ?_⟩
      ((conv => whnf); repeat' ((first | refine ⟨rfl, ?_⟩ | refine ⟨_, row_map (by assumption), ?_⟩ | refine ⟨_, (by exact some_rfl), ?_⟩ | refine ⟨_, wrap_ok (by omega) (by omega), ?_⟩ | refine ⟨_, wrap_u64 (by omega) (by omega), ?_⟩ | refine ⟨by decide, _, fdiv_half (by omega), ?_⟩ | (intro gg)); (conv => whnf)))
      (exact ⟨[], by (repeat' (first | exact ArgsOk.nil _ | exact argsOk_cells (by assumption) | refine ArgsOk.same (by first | exact cl_b rfl | exact cl_list | exact cl_nil | exact cl_one | exact cl_ll1 | exact cl_ll2 | exact cl_clo (by assumption)) ?_ | refine ArgsOk.nilsl _ ?_ | refine ArgsOk.nilown _ _ (by decide) ?_ | refine ArgsOk.borp rfl rfl rfl (cl_row rfl) (by decide) ?_ | refine ArgsOk.borc (by %caps) ?_ | refine ArgsOk.bor rfl rfl (deref_flat (by first | exact cl_rs rfl | exact cl_rows | exact cl_setB rfl | exact cl_setG (cl_setB rfl) rfl | exact cl_appB cl_rows (cl_rs rfl) | exact cl_rl1 | exact cl_rl2)) (by decide) ?_ | refine give' rfl (by first | exact cl_rs rfl | exact cl_rows | exact cl_setB rfl | exact cl_setG (cl_setB rfl) rfl | exact cl_appB cl_rows (cl_rs rfl) | exact cl_rl1 | exact cl_rl2) (by decide) (by decide) ?_))⟩)
theorem up0 {k : Nat} {p : Nat → Prop} (h0 : ∀ j, j < k → p j) (hk : p k) : ∀ j, j < k + 1 → p j := fun j hj => by
  rcases (by omega : j < k ∨ j = k) with q | rfl
  · exact h0 j q
  · exact hk
theorem pow_in : ∀ k : Nat, k < 6 → IntKind.i64.wrap (1 * 2 ^ (min (k : Int).toNat IntKind.i64.bits)) = ((2 ^ k : Nat) : Int) := by decide
theorem times_at : ∀ n : Nat, n < 21 → ∀ k : Nat, k < 6 → ¬ 2 ^ k ≤ n → (∀ j, j < k → 2 ^ j ≤ n) → timesL n = 3 * (k : Int) := by decide
theorem ruTimes_fun (n : Int) : Fun Try.prog 24 [.c (.v (.int .i64 n))] [.c (.v (.int .i64 (if n < 0 ∨ 20 < n then 0 else timesL n))), .c (.v (.int .i64 (if n < 0 ∨ 20 < n then 3 else 0)))] := by
  refine fun_x ck_rumor_Times rfl ?_
  ((conv => whnf); repeat' ((first | refine ⟨rfl, ?_⟩ | refine ⟨_, row_map (by assumption), ?_⟩ | refine ⟨_, (by exact some_rfl), ?_⟩ | refine ⟨_, wrap_ok (by omega) (by omega), ?_⟩ | refine ⟨_, wrap_u64 (by omega) (by omega), ?_⟩ | refine ⟨by decide, _, fdiv_half (by omega), ?_⟩ | (intro gg)); (conv => whnf)))
  (refine bIf_of (fun h => ?_) (fun h => ?_) <;> rw [h])
  · have h' : n < 0 ∨ 20 < n := .inl (of_decide_eq_true h)
    ((conv => whnf); repeat' ((first | refine ⟨rfl, ?_⟩ | refine ⟨_, row_map (by assumption), ?_⟩ | refine ⟨_, (by exact some_rfl), ?_⟩ | refine ⟨_, wrap_ok (by omega) (by omega), ?_⟩ | refine ⟨_, wrap_u64 (by omega) (by omega), ?_⟩ | refine ⟨by decide, _, fdiv_half (by omega), ?_⟩ | (intro gg)); (conv => whnf)))
    rw [if_pos h', if_pos h']
    (exact ⟨[], by (repeat' (first | exact ArgsOk.nil _ | exact argsOk_cells (by assumption) | refine ArgsOk.same (by first | exact cl_b rfl | exact cl_list | exact cl_nil | exact cl_one | exact cl_ll1 | exact cl_ll2 | exact cl_clo (by assumption)) ?_ | refine ArgsOk.nilsl _ ?_ | refine ArgsOk.nilown _ _ (by decide) ?_ | refine ArgsOk.borp rfl rfl rfl (cl_row rfl) (by decide) ?_ | refine ArgsOk.borc (by %caps) ?_ | refine ArgsOk.bor rfl rfl (deref_flat (by first | exact cl_rs rfl | exact cl_rows | exact cl_setB rfl | exact cl_setG (cl_setB rfl) rfl | exact cl_appB cl_rows (cl_rs rfl) | exact cl_rl1 | exact cl_rl2)) (by decide) ?_ | refine give' rfl (by first | exact cl_rs rfl | exact cl_rows | exact cl_setB rfl | exact cl_setG (cl_setB rfl) rfl | exact cl_appB cl_rows (cl_rs rfl) | exact cl_rl1 | exact cl_rl2) (by decide) (by decide) ?_))⟩)
  · have h1 : ¬ n < 0 := of_decide_eq_false h
    ((conv => whnf); repeat' ((first | refine ⟨rfl, ?_⟩ | refine ⟨_, row_map (by assumption), ?_⟩ | refine ⟨_, (by exact some_rfl), ?_⟩ | refine ⟨_, wrap_ok (by omega) (by omega), ?_⟩ | refine ⟨_, wrap_u64 (by omega) (by omega), ?_⟩ | refine ⟨by decide, _, fdiv_half (by omega), ?_⟩ | (intro gg)); (conv => whnf)))
    (refine bIf_of (fun h2 => ?_) (fun h2 => ?_) <;> rw [h2])
    · have h' : n < 0 ∨ 20 < n := .inr (of_decide_eq_true h2)
      ((conv => whnf); repeat' ((first | refine ⟨rfl, ?_⟩ | refine ⟨_, row_map (by assumption), ?_⟩ | refine ⟨_, (by exact some_rfl), ?_⟩ | refine ⟨_, wrap_ok (by omega) (by omega), ?_⟩ | refine ⟨_, wrap_u64 (by omega) (by omega), ?_⟩ | refine ⟨by decide, _, fdiv_half (by omega), ?_⟩ | (intro gg)); (conv => whnf)))
      rw [if_pos h', if_pos h']
      (exact ⟨[], by (repeat' (first | exact ArgsOk.nil _ | exact argsOk_cells (by assumption) | refine ArgsOk.same (by first | exact cl_b rfl | exact cl_list | exact cl_nil | exact cl_one | exact cl_ll1 | exact cl_ll2 | exact cl_clo (by assumption)) ?_ | refine ArgsOk.nilsl _ ?_ | refine ArgsOk.nilown _ _ (by decide) ?_ | refine ArgsOk.borp rfl rfl rfl (cl_row rfl) (by decide) ?_ | refine ArgsOk.borc (by %caps) ?_ | refine ArgsOk.bor rfl rfl (deref_flat (by first | exact cl_rs rfl | exact cl_rows | exact cl_setB rfl | exact cl_setG (cl_setB rfl) rfl | exact cl_appB cl_rows (cl_rs rfl) | exact cl_rl1 | exact cl_rl2)) (by decide) ?_ | refine give' rfl (by first | exact cl_rs rfl | exact cl_rows | exact cl_setB rfl | exact cl_setG (cl_setB rfl) rfl | exact cl_appB cl_rows (cl_rs rfl) | exact cl_rl1 | exact cl_rl2) (by decide) (by decide) ?_))⟩)
    · have h3 : ¬ 20 < n := of_decide_eq_false h2
      have h' : ¬ (n < 0 ∨ 20 < n) := by omega
      obtain ⟨m, rfl⟩ : ∃ m : Nat, n = m := ⟨n.toNat, by omega⟩
      rw [if_neg h', if_neg h']
      ((conv => whnf); repeat' ((first | refine ⟨rfl, ?_⟩ | refine ⟨_, row_map (by assumption), ?_⟩ | refine ⟨_, (by exact some_rfl), ?_⟩ | refine ⟨_, wrap_ok (by omega) (by omega), ?_⟩ | refine ⟨_, wrap_u64 (by omega) (by omega), ?_⟩ | refine ⟨by decide, _, fdiv_half (by omega), ?_⟩ | (intro gg)); (conv => whnf)))
      (refine ⟨[], none, {k : Nat // k < 6 ∧ ∀ j, j < k → 2 ^ j ≤ m}, [0], fun ⟨k, hk, h0⟩ => [(4, .v (.int .i64 k))], [], fun ⟨k, hk, h0⟩ => [], fun ⟨k, hk, h0⟩ => 6 - k, trivial, fun _ => ⟨trivial, fun _ => ⟨⟨0, by omega, fun j h => by omega⟩, by (repeat' (first | exact trivial | refine ⟨rfl, ?_⟩)), keptE_refl _ _, by (repeat' (first | exact trivial | refine ⟨rfl, ?_⟩)), keptH_refl _ _⟩⟩, fun ⟨k, hk, h0⟩ => ?_⟩)
      ((conv => whnf); repeat' ((first | refine ⟨rfl, ?_⟩ | refine ⟨_, row_map (by assumption), ?_⟩ | refine ⟨_, (by exact some_rfl), ?_⟩ | refine ⟨_, wrap_ok (by omega) (by omega), ?_⟩ | refine ⟨_, wrap_u64 (by omega) (by omega), ?_⟩ | refine ⟨by decide, _, fdiv_half (by omega), ?_⟩ | (intro gg)); (conv => whnf)))
      refine ⟨by omega, _, pow_in k hk, ?_⟩
      ((conv => whnf); repeat' ((first | refine ⟨rfl, ?_⟩ | refine ⟨_, row_map (by assumption), ?_⟩ | refine ⟨_, (by exact some_rfl), ?_⟩ | refine ⟨_, wrap_ok (by omega) (by omega), ?_⟩ | refine ⟨_, wrap_u64 (by omega) (by omega), ?_⟩ | refine ⟨by decide, _, fdiv_half (by omega), ?_⟩ | (intro gg)); (conv => whnf)))
      (refine bIf_of (fun h4 => ?_) (fun h4 => ?_) <;> rw [h4])
      · have h4' : 2 ^ k ≤ m := by have := of_decide_eq_true h4; omega
        have hk5 : k < 5 := by
          rcases (by omega : k < 5 ∨ k = 5) with q | q
          · exact q
          · subst q; omega
        ((conv => whnf); repeat' ((first | refine ⟨rfl, ?_⟩ | refine ⟨_, row_map (by assumption), ?_⟩ | refine ⟨_, (by exact some_rfl), ?_⟩ | refine ⟨_, wrap_ok (by omega) (by omega), ?_⟩ | refine ⟨_, wrap_u64 (by omega) (by omega), ?_⟩ | refine ⟨by decide, _, fdiv_half (by omega), ?_⟩ | (intro gg)); (conv => whnf)))
        (exact ⟨none, trivial, fun _ => ⟨⟨k + 1, by omega, up0 h0 h4'⟩, by show 6 - (k + 1) < 6 - k; omega, by (repeat' (first | exact trivial | refine ⟨rfl, ?_⟩)), by (repeat' (first | exact trivial | refine ⟨rfl, ?_⟩)), by (repeat' (first | exact trivial | refine ⟨rfl, ?_⟩)), by (repeat' (first | exact trivial | refine ⟨rfl, ?_⟩))⟩⟩)
      · have h4' : ¬ 2 ^ k ≤ m := by have := of_decide_eq_false h4; omega
        rw [times_at m (by omega) k hk h4' h0]
        ((conv => whnf); repeat' ((first | refine ⟨rfl, ?_⟩ | refine ⟨_, row_map (by assumption), ?_⟩ | refine ⟨_, (by exact some_rfl), ?_⟩ | refine ⟨_, wrap_ok (by omega) (by omega), ?_⟩ | refine ⟨_, wrap_u64 (by omega) (by omega), ?_⟩ | refine ⟨by decide, _, fdiv_half (by omega), ?_⟩ | (intro gg)); (conv => whnf)))
        (exact ⟨[], by (repeat' (first | exact ArgsOk.nil _ | exact argsOk_cells (by assumption) | refine ArgsOk.same (by first | exact cl_b rfl | exact cl_list | exact cl_nil | exact cl_one | exact cl_ll1 | exact cl_ll2 | exact cl_clo (by assumption)) ?_ | refine ArgsOk.nilsl _ ?_ | refine ArgsOk.nilown _ _ (by decide) ?_ | refine ArgsOk.borp rfl rfl rfl (cl_row rfl) (by decide) ?_ | refine ArgsOk.borc (by %caps) ?_ | refine ArgsOk.bor rfl rfl (deref_flat (by first | exact cl_rs rfl | exact cl_rows | exact cl_setB rfl | exact cl_setG (cl_setB rfl) rfl | exact cl_appB cl_rows (cl_rs rfl) | exact cl_rl1 | exact cl_rl2)) (by decide) ?_ | refine give' rfl (by first | exact cl_rs rfl | exact cl_rows | exact cl_setB rfl | exact cl_setG (cl_setB rfl) rfl | exact cl_appB cl_rows (cl_rs rfl) | exact cl_rl1 | exact cl_rl2) (by decide) (by decide) ?_))⟩)
theorem dbl (k : Nat) (h : 2 ^ k ≤ 20) : IntKind.i64.wrap (2 * ((2 ^ k : Nat) : Int)) = ((2 ^ (k + 1) : Nat) : Int) := by
  rw [Nat.pow_succ]; generalize (2 : Nat) ^ k = p at *; rw [wrap_ok (by omega) (by omega)]; omega
theorem rTimes_fun (m : Nat) (hm : m ≤ 20) : Fun Try.prog 25 [.c (.v (.int .i64 m))] [.c (.v (.int .i64 (timesL m)))] := by
  refine fun_x ck_hearsayref_TimesOf rfl ?_
  ((conv => whnf); repeat' ((first | refine ⟨rfl, ?_⟩ | refine ⟨_, row_map (by assumption), ?_⟩ | refine ⟨_, (by exact some_rfl), ?_⟩ | refine ⟨_, wrap_ok (by omega) (by omega), ?_⟩ | refine ⟨_, wrap_u64 (by omega) (by omega), ?_⟩ | refine ⟨by decide, _, fdiv_half (by omega), ?_⟩ | (intro gg)); (conv => whnf)))
  (refine ⟨[], none, {k : Nat // k < 6 ∧ ∀ j, j < k → 2 ^ j ≤ m}, [0], fun ⟨k, hk, h0⟩ => [(3, .v (.int .i64 k)), (4, .v (.int .i64 ((2 ^ k : Nat) : Int)))], [], fun ⟨k, hk, h0⟩ => [], fun ⟨k, hk, h0⟩ => 6 - k, trivial, fun _ => ⟨trivial, fun _ => ⟨⟨0, by omega, fun j h => by omega⟩, by (repeat' (first | exact trivial | refine ⟨rfl, ?_⟩)), keptE_refl _ _, by (repeat' (first | exact trivial | refine ⟨rfl, ?_⟩)), keptH_refl _ _⟩⟩, fun ⟨k, hk, h0⟩ => ?_⟩)
  ((conv => whnf); repeat' ((first | refine ⟨rfl, ?_⟩ | refine ⟨_, row_map (by assumption), ?_⟩ | refine ⟨_, (by exact some_rfl), ?_⟩ | refine ⟨_, wrap_ok (by omega) (by omega), ?_⟩ | refine ⟨_, wrap_u64 (by omega) (by omega), ?_⟩ | refine ⟨by decide, _, fdiv_half (by omega), ?_⟩ | (intro gg)); (conv => whnf)))
  (refine bIf_of (fun h4 => ?_) (fun h4 => ?_) <;> rw [h4])
  · have h4' : 2 ^ k ≤ m := by have := of_decide_eq_true h4; omega
    have hk5 : k < 5 := by
      rcases (by omega : k < 5 ∨ k = 5) with q | q
      · exact q
      · subst q; omega
    ((conv => whnf); repeat' ((first | refine ⟨rfl, ?_⟩ | refine ⟨_, row_map (by assumption), ?_⟩ | refine ⟨_, (by exact some_rfl), ?_⟩ | refine ⟨_, wrap_ok (by omega) (by omega), ?_⟩ | refine ⟨_, wrap_u64 (by omega) (by omega), ?_⟩ | refine ⟨by decide, _, fdiv_half (by omega), ?_⟩ | (intro gg)); (conv => whnf)))
    refine ⟨((2 ^ (k + 1) : Nat) : Int), dbl k (by omega), ?_⟩
    ((conv => whnf); repeat' ((first | refine ⟨rfl, ?_⟩ | refine ⟨_, row_map (by assumption), ?_⟩ | refine ⟨_, (by exact some_rfl), ?_⟩ | refine ⟨_, wrap_ok (by omega) (by omega), ?_⟩ | refine ⟨_, wrap_u64 (by omega) (by omega), ?_⟩ | refine ⟨by decide, _, fdiv_half (by omega), ?_⟩ | (intro gg)); (conv => whnf)))
    (exact ⟨none, trivial, fun _ => ⟨⟨k + 1, by omega, up0 h0 h4'⟩, by show 6 - (k + 1) < 6 - k; omega, by (repeat' (first | exact trivial | refine ⟨rfl, ?_⟩)), by (repeat' (first | exact trivial | refine ⟨rfl, ?_⟩)), by (repeat' (first | exact trivial | refine ⟨rfl, ?_⟩)), by (repeat' (first | exact trivial | refine ⟨rfl, ?_⟩))⟩⟩)
  · have h4' : ¬ 2 ^ k ≤ m := by have := of_decide_eq_false h4; omega
    rw [times_at m (by omega) k hk h4' h0]
    ((conv => whnf); repeat' ((first | refine ⟨rfl, ?_⟩ | refine ⟨_, row_map (by assumption), ?_⟩ | refine ⟨_, (by exact some_rfl), ?_⟩ | refine ⟨_, wrap_ok (by omega) (by omega), ?_⟩ | refine ⟨_, wrap_u64 (by omega) (by omega), ?_⟩ | refine ⟨by decide, _, fdiv_half (by omega), ?_⟩ | (intro gg)); (conv => whnf)))
    (exact ⟨[], by (repeat' (first | exact ArgsOk.nil _ | exact argsOk_cells (by assumption) | refine ArgsOk.same (by first | exact cl_b rfl | exact cl_list | exact cl_nil | exact cl_one | exact cl_ll1 | exact cl_ll2 | exact cl_clo (by assumption)) ?_ | refine ArgsOk.nilsl _ ?_ | refine ArgsOk.nilown _ _ (by decide) ?_ | refine ArgsOk.borp rfl rfl rfl (cl_row rfl) (by decide) ?_ | refine ArgsOk.borc (by %caps) ?_ | refine ArgsOk.bor rfl rfl (deref_flat (by first | exact cl_rs rfl | exact cl_rows | exact cl_setB rfl | exact cl_setG (cl_setB rfl) rfl | exact cl_appB cl_rows (cl_rs rfl) | exact cl_rl1 | exact cl_rl2)) (by decide) ?_ | refine give' rfl (by first | exact cl_rs rfl | exact cl_rows | exact cl_setB rfl | exact cl_setG (cl_setB rfl) rfl | exact cl_appB cl_rows (cl_rs rfl) | exact cl_rl1 | exact cl_rl2) (by decide) (by decide) ?_))⟩)
end Go.Proofs.Ytjhdlcmecbngkaa
/- slices.SortFunc, out of the shelf's contract, as a function that turns what it is lent. No program in sight. -/
namespace Go.Proofs.Ytjhdlcmecbngkaa
open Go.RowKit Go.Sort Go.Shelf
set_option linter.unusedVariables false
theorem callable_enters {P : Program} {f : FuncId} (h : Callable P f) : ∀ args w, (callFunc f args).run P w = .ok (.enter f args) w := fun args w => by
  obtain ⟨fn, h1, h2, h3⟩ := h
  have h2' : fn.name ≠ "runtime.NumGoroutine" := by simpa using h2
  have h3' : ¬ fn.body = none := by intro q; rw [q] at h3; simp at h3
  simp [callFunc, h1, h2', h3']
theorem world_of_fr {L : Nat → Prop} {w w' : World} (h : Fr L w w') (hL : ∀ b, ¬ L b) : ∃ q os, w' = Go.Sort.grow (w.drewN q) os := by
  refine ⟨w'.drawn - w.drawn, w'.heap.extract w.heap.size w'.heap.size, ?_⟩
  obtain ⟨hp, tp, dr, os, out⟩ := w
  obtain ⟨hp', tp', dr', os', out'⟩ := w'
  obtain ⟨rfl, rfl, rfl, h4, h5, h6⟩ := h
  have h4 : hp.size ≤ hp'.size := h4
  have h6 : dr ≤ dr' := h6
  have e : hp' = hp ++ hp'.extract hp.size hp'.size := by
    apply Array.ext_getElem?
    intro i
    by_cases hi : i < hp.size
    · rw [Array.getElem?_append_left hi]; exact h5 i hi (hL i)
    · rw [Array.getElem?_append_right (by omega), Array.getElem?_extract]
      by_cases hi' : i < hp'.size
      · rw [if_pos (by omega)]; congr 1; omega
      · rw [if_neg (by omega), Array.getElem?_eq_none (by omega)]
  have e2 : dr' = dr + (dr' - dr) := by omega
  unfold Go.Sort.grow World.drewN
  simp only [World.mk.injEq, true_and, and_true]
  exact ⟨e, e2⟩
section
variable {α : Type} [Inhabited α] {enc : α → Value}
theorem holds_blk {w : World} {g : Nat} {cur : Array Value} {e : TypeId} {ss : List α} (hb : w.heap[g]? = some (.cells cur e (0, 0))) (ht : cur.toList.take ss.length = ss.map enc) : Holds enc w g 0 ss.toArray := by
  intro j hj
  have hj' : j < ss.length := by simpa using hj
  refine ⟨?_, by simp [World.frozen?, hb]⟩
  have h1 : (cur.toList.take ss.length)[j]? = (ss.map enc)[j]? := by rw [ht]
  rw [List.getElem?_take_of_lt hj'] at h1
  simp only [World.cell?, hb, Nat.zero_add]
  simp only [Option.isSome_none, Bool.false_eq_true, if_false]
  rw [← Array.getElem?_toList, h1]
  simp [hj']
theorem heap_srt {w : World} {g n : Nat} {os : Array Obj} {cur : Array Value} {e : TypeId} {fr : Nat × Nat} (d : Array α) (hb : w.heap[g]? = some (.cells cur e fr)) :
    (sortWorld enc w g 0 n d os).heap[g]? = some (.cells (putCells enc 0 d cur) e fr) := by
  have hg : g < w.heap.size := (Array.getElem?_eq_some_iff.1 hb).1
  unfold sortWorld
  rw [heap_grow_old _ _ (by simpa using hg)]
  simp [putRow, mapBlock, Sort.ahead, Array.getElem?_modify, hb, onCells]
theorem heap_else {w : World} {g n k : Nat} {os : Array Obj} (d : Array α) (hk : k < w.heap.size) (hne : k ≠ g) : (sortWorld enc w g 0 n d os).heap[k]? = w.heap[k]? := by
  unfold sortWorld
  rw [heap_grow_old _ _ (by simpa using hk)]
  have : g ≠ k := fun e => hne e.symm
  simp [putRow, mapBlock, Sort.ahead, Array.getElem?_modify, this]
theorem srt_size {w : World} {g n : Nat} {os : Array Obj} (d : Array α) : w.heap.size ≤ (sortWorld enc w g 0 n d os).heap.size := by
  unfold sortWorld Go.Sort.grow; simp
theorem take_cells (cur : Array Value) (ts : List α) (h : ts.length ≤ cur.size) : (putCells enc 0 ts.toArray cur).toList.take ts.length = ts.map enc := by
  apply List.ext_getElem?
  intro j
  by_cases hj : j < ts.length
  · rw [List.getElem?_take_of_lt hj, Array.getElem?_toList]
    simp [putCells, hj, show j < cur.size by omega]
  · rw [List.getElem?_take_eq_none (by omega), List.getElem?_eq_none (by simp; omega)]
def oneRow (enc : α → Value) (x : α) : List V := [.v (enc x)]
def srtL (cf : α → α → Int) (d : List α) : List α := d.mergeSort fun x y => !(ltOf cf) y x
omit [Inhabited α] in
theorem rows_one {w : World} {R : Nat → Prop} {G : Nat → Option Loc} {d : List α} {vs : List Value} (hl : vs.length = d.length * 1) (h : RowsR w R G vs 1 (d.map (oneRow enc))) : vs = d.map enc := by
  apply List.ext_getElem?
  intro i
  by_cases hi : i < d.length
  · obtain ⟨x, h1, _, h2⟩ := h.2 i 0 (oneRow enc d[i]) (.v (enc d[i])) (by simp [hi]) rfl
    rw [Nat.mul_one, Nat.add_zero] at h1
    rw [h1, rv_v h2]; simp [hi]
  · rw [List.getElem?_eq_none (by omega), List.getElem?_eq_none (by simp; omega)]
omit [Inhabited α] in
theorem one_rows (h1 : OneCell enc) {w : World} {R : Nat → Prop} {G : Nat → Option Loc} (d : List α) : RowsR w R G (d.map enc) 1 (d.map (oneRow enc)) := by
  refine ⟨fun row hr => ?_, fun i j row u hi hj => ?_⟩
  · obtain ⟨x, _, rfl⟩ := List.mem_map.1 hr; rfl
  · have hi' : i < d.length := by have := (List.getElem?_eq_some_iff.1 hi).1; simpa using this
    have e : row = oneRow enc d[i] := by rw [List.getElem?_map, List.getElem?_eq_getElem hi'] at hi; simpa using hi.symm
    subst e
    cases j with
    | succ j => simp [oneRow] at hj
    | zero =>
      have e2 : u = .v (enc d[i]) := by simpa [oneRow] using hj.symm
      subst e2
      exact ⟨enc d[i], by simp [hi'], h1 _, .v _⟩
theorem sort_funM {P : Program} {ρ : Ren} (L : SlLaysF.n6 P ρ) (hcall : Callable P (ρ.f 6)) (T : TypeId) (h1 : OneCell enc) (cf : α → α → Int) (hO : SWO (ltOf cf)) (hT : ∀ x y, ltOf cf x y = false → ltOf cf y x = false → x = y) (f : FuncId) (caps : List V) (hfc : Callable P f) (d : List α) (hsz : d.length < 4611686018427387904)
    (hf : d ≠ [] → ∀ x y, Fun P f (.c (.v (enc x)) :: .c (.v (enc y)) :: caps.map .c) [.c (.v (.int .i64 (cf x y)))]) :
    FunM P (ρ.f 6) [.ms T 1 (d.map (oneRow enc)) ((srtL cf d).map (oneRow enc)), .p (.c (.clo f caps))] [] := by
  refine ⟨hcall, fun w R xs F hlt hp => ?_⟩
  match xs, hp with
  | [x0, x1], hp =>
    obtain ⟨F1, F2, ⟨⟨hpos, vs, hown, hrows⟩, hF1⟩, ⟨F3, F4, ⟨hx1, hF3⟩, hnil, hd34, hF2⟩, hd12, hF⟩ := hp
    have hx1 : RV w R noG (.clo f caps) x1 := hx1
    have hF3' : ∀ k, ¬ F3 k := fun k hk => by
      obtain ⟨i, T', sz, rows, x, q1, _⟩ := (hF3 k).1 hk
      cases i with
      | zero => simp at q1
      | succ i => simp at q1
    have hFF : ∀ b, F b ↔ F1 b := fun b => by
      rw [hF b, hF2 b]
      constructor
      · rintro (q | q | q)
        · exact q
        · exact absurd q (hF3' b)
        · exact absurd q (hnil b)
      · exact .inl
    cases hx1 with
    | clo f cs xs' hl hcs =>
      have hvs := rows_one (by simpa using hown.1) hrows
      subst hvs
      have hlen : (d.map (oneRow enc)).length = d.length := by simp
      have hslen : (srtL cf d).length = d.length := List.length_mergeSort d
      -- what comes back
      have fin : ∀ w', Fr F w w' → (∀ b, R b → w'.heap[b]? = w.heap[b]?) → w'.ownsRow 0 T 1 x0 (srtL cf d).length ((srtL cf d).map enc) →
          ∃ (ys : List Value) (R' F' : Nat → Prop), Ending.returned (Value.tuple #[]) = .returned (packV ys) ∧ ([] : List ParM).length = ys.length ∧ Fr F w w' ∧ (∀ b, R b → R' b) ∧ (∀ b, R' b → R b ∨ (b < w'.heap.size ∧ (F b ∨ w.heap.size ≤ b))) ∧
            ParsM w' R' (([] : List ParM) ++ exitsP [.ms T 1 (d.map (oneRow enc)) ((srtL cf d).map (oneRow enc)), .p (.c (.clo f caps))]) (ys ++ exitsX [.ms T 1 (d.map (oneRow enc)) ((srtL cf d).map (oneRow enc)), .p (.c (.clo f caps))] [x0, .func (.func f) #[] xs'.toArray]) F' ∧ (∀ b, F' b → F b ∨ w.heap.size ≤ b) := fun w' hfr hR ho => by
        refine ⟨[], R, F1, rfl, rfl, hfr, fun b hb => hb, fun b hb => .inl hb, ?_, fun b hb => .inl ((hFF b).2 hb)⟩
        refine ⟨F1, fun _ => False, ⟨⟨hpos, (srtL cf d).map enc, by rw [List.length_map]; exact ho, one_rows h1 _⟩, fun k => ?_⟩, fun b hb => hb, fun b hb => ⟨fun q => q, (hd12 b hb).2⟩, fun b => by simp⟩
        rw [hF1 k]
        constructor
        · rintro ⟨i, T', sz, rows, x, q1, q2, q3⟩
          cases i with
          | zero => simp at q1 q2; exact ⟨0, T, 1, _, x, rfl, by simpa using q2, q3⟩
          | succ i => simp at q1
        · rintro ⟨i, T', sz, rows, x, q1, q2, q3⟩
          cases i with
          | zero => simp at q1 q2; exact ⟨0, T, 1, _, x, rfl, by simpa using q2, q3⟩
          | succ i => simp at q1
      have hnone : ∀ (p : Option Addr) (cap : Nat), d = [] → x0 = .slice p 0 cap → Calls P (ρ.f 6) [x0, .func (.func f) #[] xs'.toArray].toArray w fun e w' => ∃ (ys : List Value) (R' F' : Nat → Prop), e = .returned (packV ys) ∧ ([] : List ParM).length = ys.length ∧ Fr F w w' ∧ (∀ b, R b → R' b) ∧ (∀ b, R' b → R b ∨ (b < w'.heap.size ∧ (F b ∨ w.heap.size ≤ b))) ∧
            ParsM w' R' (([] : List ParM) ++ exitsP [.ms T 1 (d.map (oneRow enc)) ((srtL cf d).map (oneRow enc)), .p (.c (.clo f caps))]) (ys ++ exitsX [.ms T 1 (d.map (oneRow enc)) ((srtL cf d).map (oneRow enc)), .p (.c (.clo f caps))] [x0, .func (.func f) #[] xs'.toArray]) F' ∧ (∀ b, F' b → F b ∨ w.heap.size ≤ b) := fun p cap hd0 hx => by
        have hs0 : srtL cf d = [] := List.eq_nil_of_length_eq_zero (by rw [hslen, hd0]; rfl)
        have h := AnyF.slices_SortFunc_none (P := P) (ρ := ρ) { L with } p cap (.func (.func f) #[] xs'.toArray) w
        rw [← hx] at h
        refine h.mono ?_
        rintro e w' ⟨rfl, rfl⟩
        refine fin w' (Fr.refl _ _) (fun _ _ => rfl) ?_
        rw [hs0]; rw [hd0] at hown; exact hown
      rcases hown.2 with ⟨hx, hz⟩ | ⟨g, cap, cur, hx, hbase, hb, hnc, hcm, hcs2, htake⟩
      · exact hnone none 0 (List.eq_nil_of_length_eq_zero (by omega)) hx
      · by_cases hd0 : d = []
        · exact hnone _ cap hd0 (by rw [hx, hd0]; rfl)
        · have hgR : ∀ b, R b → b ≠ g := fun b hb e => by
            have : F1 g := (hF1 g).2 ⟨0, T, 1, _, x0, rfl, rfl, by rw [hx]; rfl⟩
            exact (hd12 g this).2 (e ▸ hb)
          have hgF : F g := (hFF g).2 ((hF1 g).2 ⟨0, T, 1, _, x0, rfl, rfl, by rw [hx]; rfl⟩)
          have hgs : g < w.heap.size := (Array.getElem?_eq_some_iff.1 hb).1
          have hH : Holds enc w g 0 d.toArray := holds_blk hb (by simpa using htake)
          have hcmp : CmpLays1 P f xs'.toArray enc cf g 0 d.toArray.size w := fun m os dk hs x y => by
            have hW : ∀ b, R b → (sortWorld enc w g 0 m dk os).heap[b]? = w.heap[b]? := fun b hb => heap_else dk (hlt b hb) (hgR b hb)
            have hlt' : ∀ b, R b → b < (sortWorld enc w g 0 m dk os).heap.size := fun b hb => Nat.lt_of_lt_of_le (hlt b hb) (srt_size dk)
            have hpars : Pars (sortWorld enc w g 0 m dk os) R (.c (.v (enc x)) :: .c (.v (enc y)) :: caps.map .c) (enc x :: enc y :: xs') := by
              have hc : ∀ p ∈ (.c (.v (enc x)) :: .c (.v (enc y)) :: caps.map .c : List Par), ∃ u, p = .c u := fun p hp => by
                simp only [List.mem_cons, List.mem_map] at hp
                rcases hp with rfl | rfl | ⟨u, _, rfl⟩ <;> exact ⟨_, rfl⟩
              refine ⟨by simp [hl], fun i p z q1 q2 => ?_, fun i j T1 s1 r1 T2 s2 r2 z1 z2 b _ q1 => ?_, fun b hb => absurd hb (no_blk hc)⟩
              · match i with
                | 0 => simp at q1 q2; subst q1 q2; exact .v _
                | 1 => simp at q1 q2; subst q1 q2; exact .v _
                | i + 2 =>
                  simp only [List.getElem?_cons_succ, List.getElem?_map] at q1 q2
                  cases hu : caps[i]? with
                  | none => rw [hu] at q1; cases q1
                  | some u =>
                    rw [hu] at q1; injection q1 with q1; subst q1
                    exact (hcs i u z hu q2).mono (fun b hb => ⟨hb, hW b hb⟩) (Gle.refl _)
              · obtain ⟨u, hu⟩ := hc _ (List.mem_of_getElem? q1)
                cases hu
            have := (hf hd0 x y).2 _ R _ hlt' hpars
            have e0 : (#[enc x, enc y] ++ xs'.toArray : Array Value) = (enc x :: enc y :: xs').toArray := by simp
            rw [e0]
            refine this.mono fun e w' ⟨ys, R', he, hfr, _, _, hr, _⟩ => ?_
            have hy : ys = [.int .i64 (cf x y)] := pars_v (xs := [.int .i64 (cf x y)]) hr
            subst hy
            refine ⟨he, world_of_fr hfr fun b hb => no_blk (fun p hp => ?_) hb⟩
            simp only [List.mem_cons, List.mem_map] at hp
            rcases hp with rfl | rfl | ⟨u, _, rfl⟩ <;> exact ⟨_, rfl⟩
          have h := Any.slices_SortFunc_total L enc h1 cf hO f xs'.toArray g 0 cap d.toArray w (callable_enters hfc) hcmp hH hgs (by simpa using hsz) hT
          have e1 : x0 = .slice (some ⟨g, 0, none⟩) d.toArray.size cap := by rw [hx]; simp
          rw [← e1] at h
          refine h.mono ?_
          rintro e w' ⟨rfl, n, os, rfl⟩
          have hto : d.toArray.toList = d := by simp
          rw [hto]
          refine fin _ ⟨rfl, rfl, rfl, srt_size _, fun k hk hn => heap_else _ hk (fun e => hn (e ▸ hgF)), Nat.le_add_right _ _⟩ (fun b hb => heap_else _ (hlt b hb) (hgR b hb)) ?_
          rw [hx, hlen, ← hslen]
          refine ⟨by simp, .inr ⟨g, cap, _, rfl, Nat.zero_le _, heap_srt _ hb, by rw [hslen]; rw [hlen] at hnc; exact hnc, hcm, by simp [putCells, hcs2], ?_⟩⟩
          rw [Nat.mul_one]
          exact take_cells cur _ (by rw [hslen, hcs2]; rw [hlen] at hnc; omega)
end
end Go.Proofs.Ytjhdlcmecbngkaa
/- Layings of the shelf at this seat (printed by a program). -/
namespace Go.Proofs.Ytjhdlcmecbngkaa
open Go.Shelf
def Try.sortI_ren : Go.Shelf.Ren := ⟨fun | 6 => 49 | 15 => 57 | 14 => 65 | 28 => 74 | 29 => 75 | 20 => 79 | 21 => 80 | 22 => 81 | 23 => 82 | 24 => 83 | 25 => 84 | 26 => 85 | 27 => 86 | 46 => 93 | 47 => 88 | 48 => 89 | 49 => 94 | 50 => 95 | 57 => 97 | n => n, fun | 22 => 53 | 24 => 3 | 25 => 52 | 3 => 3 | 39 => 84 | 0 => 0 | 53 => 96 | 55 => 98 | 4 => 4 | 46 => 90 | 45 => 89 | 50 => 61 | 5 => 5 | 9 => 9 | 66 => 105 | 70 => 109 | 76 => 114 | 77 => 115 | n => n, fun | n => n⟩
theorem Try.sortI : Go.Proofs.SlLaysF.n6 Try.prog Try.sortI_ren := {
  mixed := by kernel_rfl
  f6 := ⟨Try.f49.name, by decide, Try.func49.trans (congrArg some (by kernel_rfl))⟩
  f14 := ⟨Try.f65.name, by decide, Try.func65.trans (congrArg some (by kernel_rfl))⟩
  f15 := Try.func57.trans (congrArg some (by kernel_rfl))
  f20 := ⟨Try.f79.name, by decide, Try.func79.trans (congrArg some (by kernel_rfl))⟩
  f21 := ⟨Try.f80.name, by decide, Try.func80.trans (congrArg some (by kernel_rfl))⟩
  f22 := ⟨Try.f81.name, by decide, Try.func81.trans (congrArg some (by kernel_rfl))⟩
  f23 := ⟨Try.f82.name, by decide, Try.func82.trans (congrArg some (by kernel_rfl))⟩
  f24 := ⟨Try.f83.name, by decide, Try.func83.trans (congrArg some (by kernel_rfl))⟩
  f25 := ⟨Try.f84.name, by decide, Try.func84.trans (congrArg some (by kernel_rfl))⟩
  f26 := ⟨Try.f85.name, by decide, Try.func85.trans (congrArg some (by kernel_rfl))⟩
  f27 := ⟨Try.f86.name, by decide, Try.func86.trans (congrArg some (by kernel_rfl))⟩
  f28 := Try.func74.trans (congrArg some (by kernel_rfl))
  f29 := Try.func75.trans (congrArg some (by kernel_rfl))
  f46 := ⟨Try.f93.name, by decide, Try.func93.trans (congrArg some (by kernel_rfl))⟩
  f47 := Try.func88.trans (congrArg some (by kernel_rfl))
  f48 := Try.func89.trans (congrArg some (by kernel_rfl))
  f49 := ⟨Try.f94.name, by decide, Try.func94.trans (congrArg some (by kernel_rfl))⟩
  f50 := ⟨Try.f95.name, by decide, Try.func95.trans (congrArg some (by kernel_rfl))⟩
  f57 := ⟨Try.f97.name, by decide, Try.func97.trans (congrArg some (by kernel_rfl))⟩
  t0 := Try.underlying0
  a0 := Try.isAgg0
  z0 := Try.sizeOf0
  v0 := Try.zeroValue0
  t3 := Try.underlying3
  a3 := Try.isAgg3
  z3 := Try.sizeOf3
  v3 := Try.zeroValue3
  t4 := Try.underlying4
  a4 := Try.isAgg4
  z4 := Try.sizeOf4
  v4 := Try.zeroValue4
  t5 := Try.underlying5
  a5 := Try.isAgg5
  z5 := Try.sizeOf5
  v5 := Try.zeroValue5
  t9 := Try.underlying9
  a9 := Try.isAgg9
  z9 := Try.sizeOf9
  v9 := Try.zeroValue9
  t22 := Try.underlying53
  a22 := Try.isAgg53
  z22 := Try.sizeOf53
  v22 := Try.zeroValue53
  a24 := Try.isAgg3
  z24 := Try.sizeOf3
  t25 := Try.underlying52
  a25 := Try.isAgg52
  z25 := Try.sizeOf52
  v25 := Try.zeroValue52
  t39 := Try.underlying84
  a39 := Try.isAgg84
  z39 := Try.sizeOf84
  v39 := Try.zeroValue84
  t45 := Try.underlying89
  a45 := Try.isAgg89
  z45 := Try.sizeOf89
  v45 := Try.zeroValue89
  t46 := Try.underlying90
  a46 := Try.isAgg90
  z46 := Try.sizeOf90
  v46 := Try.zeroValue90
  t50 := Try.underlying61
  a50 := Try.isAgg61
  z50 := Try.sizeOf61
  v50 := Try.zeroValue61
  t53 := Try.underlying96
  a53 := Try.isAgg96
  z53 := Try.sizeOf96
  v53 := Try.zeroValue96
  t55 := Try.underlying98
  a55 := Try.isAgg98
  z55 := Try.sizeOf98
  v55 := Try.zeroValue98
  t66 := Try.underlying105
  a66 := Try.isAgg105
  z66 := Try.sizeOf105
  v66 := Try.zeroValue105
  t70 := Try.underlying109
  a70 := Try.isAgg109
  z70 := Try.sizeOf109
  v70 := Try.zeroValue109
  t76 := Try.underlying114
  a76 := Try.isAgg114
  z76 := Try.sizeOf114
  v76 := Try.zeroValue114
  t77 := Try.underlying115
  a77 := Try.isAgg115
  z77 := Try.sizeOf115
  v77 := Try.zeroValue115 }
def Try.sortS_ren : Go.Shelf.Ren := ⟨fun | 6 => 29 | 15 => 57 | 14 => 56 | 28 => 74 | 29 => 75 | 20 => 66 | 21 => 67 | 22 => 68 | 23 => 69 | 24 => 70 | 25 => 71 | 26 => 72 | 27 => 73 | 46 => 87 | 47 => 88 | 48 => 89 | 49 => 90 | 50 => 91 | 57 => 96 | n => n, fun | 22 => 25 | 24 => 9 | 25 => 66 | 3 => 3 | 39 => 84 | 0 => 0 | 53 => 96 | 55 => 98 | 4 => 4 | 46 => 90 | 45 => 89 | 50 => 61 | 5 => 5 | 9 => 9 | 66 => 105 | 70 => 109 | 76 => 114 | 77 => 115 | n => n, fun | n => n⟩
theorem Try.sortS : Go.Proofs.SlLaysF.n6 Try.prog Try.sortS_ren := {
  mixed := by kernel_rfl
  f6 := ⟨Try.f29.name, by decide, Try.func29.trans (congrArg some (by kernel_rfl))⟩
  f14 := ⟨Try.f56.name, by decide, Try.func56.trans (congrArg some (by kernel_rfl))⟩
  f15 := Try.func57.trans (congrArg some (by kernel_rfl))
  f20 := ⟨Try.f66.name, by decide, Try.func66.trans (congrArg some (by kernel_rfl))⟩
  f21 := ⟨Try.f67.name, by decide, Try.func67.trans (congrArg some (by kernel_rfl))⟩
  f22 := ⟨Try.f68.name, by decide, Try.func68.trans (congrArg some (by kernel_rfl))⟩
  f23 := ⟨Try.f69.name, by decide, Try.func69.trans (congrArg some (by kernel_rfl))⟩
  f24 := ⟨Try.f70.name, by decide, Try.func70.trans (congrArg some (by kernel_rfl))⟩
  f25 := ⟨Try.f71.name, by decide, Try.func71.trans (congrArg some (by kernel_rfl))⟩
  f26 := ⟨Try.f72.name, by decide, Try.func72.trans (congrArg some (by kernel_rfl))⟩
  f27 := ⟨Try.f73.name, by decide, Try.func73.trans (congrArg some (by kernel_rfl))⟩
  f28 := Try.func74.trans (congrArg some (by kernel_rfl))
  f29 := Try.func75.trans (congrArg some (by kernel_rfl))
  f46 := ⟨Try.f87.name, by decide, Try.func87.trans (congrArg some (by kernel_rfl))⟩
  f47 := Try.func88.trans (congrArg some (by kernel_rfl))
  f48 := Try.func89.trans (congrArg some (by kernel_rfl))
  f49 := ⟨Try.f90.name, by decide, Try.func90.trans (congrArg some (by kernel_rfl))⟩
  f50 := ⟨Try.f91.name, by decide, Try.func91.trans (congrArg some (by kernel_rfl))⟩
  f57 := ⟨Try.f96.name, by decide, Try.func96.trans (congrArg some (by kernel_rfl))⟩
  t0 := Try.underlying0
  a0 := Try.isAgg0
  z0 := Try.sizeOf0
  v0 := Try.zeroValue0
  t3 := Try.underlying3
  a3 := Try.isAgg3
  z3 := Try.sizeOf3
  v3 := Try.zeroValue3
  t4 := Try.underlying4
  a4 := Try.isAgg4
  z4 := Try.sizeOf4
  v4 := Try.zeroValue4
  t5 := Try.underlying5
  a5 := Try.isAgg5
  z5 := Try.sizeOf5
  v5 := Try.zeroValue5
  t9 := Try.underlying9
  a9 := Try.isAgg9
  z9 := Try.sizeOf9
  v9 := Try.zeroValue9
  t22 := Try.underlying25
  a22 := Try.isAgg25
  z22 := Try.sizeOf25
  v22 := Try.zeroValue25
  a24 := Try.isAgg9
  z24 := Try.sizeOf9
  t25 := Try.underlying66
  a25 := Try.isAgg66
  z25 := Try.sizeOf66
  v25 := Try.zeroValue66
  t39 := Try.underlying84
  a39 := Try.isAgg84
  z39 := Try.sizeOf84
  v39 := Try.zeroValue84
  t45 := Try.underlying89
  a45 := Try.isAgg89
  z45 := Try.sizeOf89
  v45 := Try.zeroValue89
  t46 := Try.underlying90
  a46 := Try.isAgg90
  z46 := Try.sizeOf90
  v46 := Try.zeroValue90
  t50 := Try.underlying61
  a50 := Try.isAgg61
  z50 := Try.sizeOf61
  v50 := Try.zeroValue61
  t53 := Try.underlying96
  a53 := Try.isAgg96
  z53 := Try.sizeOf96
  v53 := Try.zeroValue96
  t55 := Try.underlying98
  a55 := Try.isAgg98
  z55 := Try.sizeOf98
  v55 := Try.zeroValue98
  t66 := Try.underlying105
  a66 := Try.isAgg105
  z66 := Try.sizeOf105
  v66 := Try.zeroValue105
  t70 := Try.underlying109
  a70 := Try.isAgg109
  z70 := Try.sizeOf109
  v70 := Try.zeroValue109
  t76 := Try.underlying114
  a76 := Try.isAgg114
  z76 := Try.sizeOf114
  v76 := Try.zeroValue114
  t77 := Try.underlying115
  a77 := Try.isAgg115
  z77 := Try.sizeOf115
  v77 := Try.zeroValue115 }
end Go.Proofs.Ytjhdlcmecbngkaa
/- The order in which rumors are told. -/
namespace Go.Proofs.Ytjhdlcmecbngkaa
open Go.RowKit Go.Sort Go.Shelf Pl
set_option linter.unusedVariables false
abbrev Ix (l : List Ru) := Fin (l.length - 1 + 1)
def ixE (l : List Ru) (x : Ix l) : Value := .int .i64 (x.val : Int)
def ixC (l : List Ru) (x y : Ix l) : Int := firstNZ [icmp (tt l x.val) (tt l y.val), icmp y.val x.val]
def ixD (l : List Ru) : List (Ix l) := (List.range l.length).map fun i => Fin.ofNat _ i
theorem ixC_neg {l : List Ru} {x y : Ix l} : ixC l x y < 0 ↔ tt l x.val < tt l y.val ∨ (tt l x.val = tt l y.val ∧ y.val < x.val) := by
  unfold ixC firstNZ icmp
  simp only [firstNZ]
  split <;> split <;> (try split) <;> (try split) <;> (try split) <;> omega
theorem ix_lt {l : List Ru} (x y : Ix l) : ltOf (ixC l) x y = befB l x.val y.val := by
  unfold ltOf
  rw [Bool.eq_iff_iff, befB_iff, decide_eq_true_iff, ixC_neg]
theorem ix_swo (l : List Ru) : SWO (ltOf (ixC l)) where
  irrefl x := by rw [ix_lt, Bool.eq_false_iff]; intro h; rw [befB_iff] at h; omega
  trans x y z h1 h2 := by rw [ix_lt, befB_iff] at *; omega
  ntrans x y z h1 h2 := by
    rw [ix_lt, Bool.eq_false_iff] at *
    intro h
    have h1 := mt befB_iff.2 h1
    have h2 := mt befB_iff.2 h2
    rw [befB_iff] at h
    omega
theorem ix_tot (l : List Ru) : ∀ x y : Ix l, ltOf (ixC l) x y = false → ltOf (ixC l) y x = false → x = y := fun x y h1 h2 => by
  rw [ix_lt, Bool.eq_false_iff] at *
  have h1 := mt befB_iff.2 h1
  have h2 := mt befB_iff.2 h2
  exact Fin.ext (by omega)
/-- the order -/
def ordL (l : List Ru) : List Nat := (srtL (ixC l) (ixD l)).map (·.val)
theorem ixD_val (l : List Ru) : (ixD l).map (·.val) = List.range l.length := by
  unfold ixD
  rw [List.map_map]
  apply List.ext_getElem?
  intro i
  simp only [List.getElem?_map, List.getElem?_range]
  by_cases hi : i < l.length
  · rw [List.getElem?_eq_getElem (by simpa using hi)]
    simp [Fin.ofNat, Nat.mod_eq_of_lt (by omega : i < l.length - 1 + 1)]
  · rw [List.getElem?_eq_none (by simpa using hi)]; rfl
theorem ordL_perm (l : List Ru) : (ordL l).Perm (List.range l.length) := by
  rw [← ixD_val]
  exact (List.mergeSort_perm _ _).map _
theorem ordL_ok (l : List Ru) : Ordd l (ordL l) := by
  have hp := ordL_perm l
  have hnd : (ordL l).Nodup := hp.nodup_iff.2 List.nodup_range
  refine ⟨by simpa using hp.length_eq, hnd, fun i => by rw [hp.mem_iff, List.mem_range], fun i j hi hj hij => ?_⟩
  have hs : (srtL (ixC l) (ixD l)).Pairwise fun x y => (!(ltOf (ixC l)) y x) = true := by
    refine List.pairwise_mergeSort (fun a b c h1 h2 => ?_) (fun a b => ?_) _
    · have h1' : ltOf (ixC l) b a = false := by simpa using h1
      have h2' : ltOf (ixC l) c b = false := by simpa using h2
      simpa using (ix_swo l).ntrans c b a h2' h1'
    · cases q : ltOf (ixC l) b a with
      | false => rfl
      | true =>
        have : ltOf (ixC l) a b = false := by
          cases q2 : ltOf (ixC l) a b with
          | false => rfl
          | true => have := (ix_swo l).trans a b a q2 q; rw [(ix_swo l).irrefl a] at this; cases this
        simp [this]
  have hi' : i < (srtL (ixC l) (ixD l)).length := by simpa [ordL] using hi
  have hj' : j < (srtL (ixC l) (ixD l)).length := by simpa [ordL] using hj
  have h := List.pairwise_iff_getElem.1 hs i j hi' hj' hij
  have h' : ltOf (ixC l) (srtL (ixC l) (ixD l))[j] (srtL (ixC l) (ixD l))[i] = false := by simpa using h
  rw [ix_lt, Bool.eq_false_iff] at h'
  have h' := mt befB_iff.2 h'
  have e1 : (ordL l)[i] = ((srtL (ixC l) (ixD l))[i]).val := by simp [ordL]
  have e2 : (ordL l)[j] = ((srtL (ixC l) (ixD l))[j]).val := by simp [ordL]
  have hne : (ordL l)[i] ≠ (ordL l)[j] := fun e => by have := nd_inj hnd hi hj e; omega
  rw [befB_iff]
  rw [e1, e2] at hne ⊢
  omega
theorem takeC_fun (c : Bool) (l : List Ru) (i k : Nat) (hi : i < l.length) (hk : k < l.length) (hl : l.length ≤ 20) : Fun Try.prog 50 [.c (.v (.int .i64 i)), .c (.v (.int .i64 k)), .c (.rptr [.sl c (l.map Ru.row)] 0)] [.c (.v (.int .i64 (firstNZ [icmp (tt l i) (tt l k), icmp k i])))] := by
  rw [tt_at hi, tt_at hk]
  refine fun_x ck_rumor_Take_1 rfl ?_
  ((conv => whnf); repeat' ((first | refine ⟨rfl, ?_⟩ | refine ⟨_, row_map (by assumption), ?_⟩ | refine ⟨_, (by exact some_rfl), ?_⟩ | refine ⟨_, wrap_ok (by omega) (by omega), ?_⟩ | refine ⟨_, wrap_u64 (by omega) (by omega), ?_⟩ | refine ⟨by decide, _, fdiv_half (by omega), ?_⟩ | (intro gg)); (conv => whnf)))
  refine ⟨i, _, rfl, row_map hi, ?_⟩
  ((conv => whnf); repeat' ((first | refine ⟨rfl, ?_⟩ | refine ⟨_, row_map (by assumption), ?_⟩ | refine ⟨_, (by exact some_rfl), ?_⟩ | refine ⟨_, wrap_ok (by omega) (by omega), ?_⟩ | refine ⟨_, wrap_u64 (by omega) (by omega), ?_⟩ | refine ⟨by decide, _, fdiv_half (by omega), ?_⟩ | (intro gg)); (conv => whnf)))
  refine ⟨k, _, rfl, row_map hk, ?_⟩
  ((conv => whnf); repeat' ((first | refine ⟨rfl, ?_⟩ | refine ⟨_, row_map (by assumption), ?_⟩ | refine ⟨_, (by exact some_rfl), ?_⟩ | refine ⟨_, wrap_ok (by omega) (by omega), ?_⟩ | refine ⟨_, wrap_u64 (by omega) (by omega), ?_⟩ | refine ⟨by decide, _, fdiv_half (by omega), ?_⟩ | (intro gg)); (conv => whnf)))
  (refine ⟨_, _, false, (by (repeat' (first | exact ArgsOk.nil _ | exact argsOk_cells (by assumption) | refine ArgsOk.same (by first | exact cl_b rfl | exact cl_list | exact cl_nil | exact cl_one | exact cl_ll1 | exact cl_ll2 | exact cl_clo (by assumption)) ?_ | refine ArgsOk.nilsl _ ?_ | refine ArgsOk.nilown _ _ (by decide) ?_ | refine ArgsOk.borp rfl rfl rfl (cl_row rfl) (by decide) ?_ | refine ArgsOk.borc (by (repeat' (first | exact cap_n | refine cap_p rfl rfl rfl (by first | exact cl_row rfl | exact cl_r1 rfl | exact cl_r1b) ?_ ?_ | refine cap_m rfl (by decide) ?_ | refine cap_c (by first | exact cl_b rfl | exact cl_list | exact cl_nil | exact cl_one | exact cl_ll1 | exact cl_ll2 | exact cl_clo (by assumption)) ?_ | decide))) ?_ | refine ArgsOk.bor rfl rfl (deref_flat (by first | exact cl_rs rfl | exact cl_rows | exact cl_setB rfl | exact cl_setG (cl_setB rfl) rfl | exact cl_appB cl_rows (cl_rs rfl) | exact cl_rl1 | exact cl_rl2)) (by decide) ?_ | refine give' rfl (by first | exact cl_rs rfl | exact cl_rows | exact cl_setB rfl | exact cl_setG (cl_setB rfl) rfl | exact cl_appB cl_rows (cl_rs rfl) | exact cl_rl1 | exact cl_rl2) (by decide) (by decide) ?_))), cmpi_fun _ _, nobor, (by exact Nat.le_of_ble_eq_true rfl), ?_⟩)
  ((conv => whnf); repeat' ((first | refine ⟨rfl, ?_⟩ | refine ⟨_, row_map (by assumption), ?_⟩ | refine ⟨_, (by exact some_rfl), ?_⟩ | refine ⟨_, wrap_ok (by omega) (by omega), ?_⟩ | refine ⟨_, wrap_u64 (by omega) (by omega), ?_⟩ | refine ⟨by decide, _, fdiv_half (by omega), ?_⟩ | (intro gg)); (conv => whnf)))
  (refine .inl ⟨_, _, false, [], (by (repeat' (first | exact ArgsOk.nil _ | exact argsOk_cells (by assumption) | refine ArgsOk.same (by first | exact cl_b rfl | exact cl_list | exact cl_nil | exact cl_one | exact cl_ll1 | exact cl_ll2 | exact cl_clo (by assumption)) ?_ | refine ArgsOk.nilsl _ ?_ | refine ArgsOk.nilown _ _ (by decide) ?_ | refine ArgsOk.borp rfl rfl rfl (cl_row rfl) (by decide) ?_ | refine ArgsOk.borc (by (repeat' (first | exact cap_n | refine cap_p rfl rfl rfl (by first | exact cl_row rfl | exact cl_r1 rfl | exact cl_r1b) ?_ ?_ | refine cap_m rfl (by decide) ?_ | refine cap_c (by first | exact cl_b rfl | exact cl_list | exact cl_nil | exact cl_one | exact cl_ll1 | exact cl_ll2 | exact cl_clo (by assumption)) ?_ | decide))) ?_ | refine ArgsOk.bor rfl rfl (deref_flat (by first | exact cl_rs rfl | exact cl_rows | exact cl_setB rfl | exact cl_setG (cl_setB rfl) rfl | exact cl_appB cl_rows (cl_rs rfl) | exact cl_rl1 | exact cl_rl2)) (by decide) ?_ | refine give' rfl (by first | exact cl_rs rfl | exact cl_rows | exact cl_setB rfl | exact cl_setG (cl_setB rfl) rfl | exact cl_appB cl_rows (cl_rs rfl) | exact cl_rl1 | exact cl_rl2) (by decide) (by decide) ?_))), cmpi_fun _ _, nobor, (by exact Nat.le_of_ble_eq_true rfl), ?_⟩)
  ((conv => whnf); repeat' ((first | refine ⟨rfl, ?_⟩ | refine ⟨_, row_map (by assumption), ?_⟩ | refine ⟨_, (by exact some_rfl), ?_⟩ | refine ⟨_, wrap_ok (by omega) (by omega), ?_⟩ | refine ⟨_, wrap_u64 (by omega) (by omega), ?_⟩ | refine ⟨by decide, _, fdiv_half (by omega), ?_⟩ | (intro gg)); (conv => whnf)))
  (refine .inl ⟨_, _, true, [], (by (repeat' (first | exact ArgsOk.nil _ | exact argsOk_cells (by assumption) | refine ArgsOk.same (by first | exact cl_b rfl | exact cl_list | exact cl_nil | exact cl_one | exact cl_ll1 | exact cl_ll2 | exact cl_clo (by assumption)) ?_ | refine ArgsOk.nilsl _ ?_ | refine ArgsOk.nilown _ _ (by decide) ?_ | refine ArgsOk.borp rfl rfl rfl (cl_row rfl) (by decide) ?_ | refine ArgsOk.borc (by (repeat' (first | exact cap_n | refine cap_p rfl rfl rfl (by first | exact cl_row rfl | exact cl_r1 rfl | exact cl_r1b) ?_ ?_ | refine cap_m rfl (by decide) ?_ | refine cap_c (by first | exact cl_b rfl | exact cl_list | exact cl_nil | exact cl_one | exact cl_ll1 | exact cl_ll2 | exact cl_clo (by assumption)) ?_ | decide))) ?_ | refine ArgsOk.bor rfl rfl (deref_flat (by first | exact cl_rs rfl | exact cl_rows | exact cl_setB rfl | exact cl_setG (cl_setB rfl) rfl | exact cl_appB cl_rows (cl_rs rfl) | exact cl_rl1 | exact cl_rl2)) (by decide) ?_ | refine give' rfl (by first | exact cl_rs rfl | exact cl_rows | exact cl_setB rfl | exact cl_setG (cl_setB rfl) rfl | exact cl_appB cl_rows (cl_rs rfl) | exact cl_rl1 | exact cl_rl2) (by decide) (by decide) ?_))), or_fun false [icmp l[i].t l[k].t, icmp k i] (by simp), (fun _ => by (first | exact flat_b rfl | exact flat_own | exact flat_own1 rfl | exact flat_own2 rfl)), (by exact Nat.le_of_ble_eq_true rfl), ?_⟩)
  ((conv => whnf); repeat' ((first | refine ⟨rfl, ?_⟩ | refine ⟨_, row_map (by assumption), ?_⟩ | refine ⟨_, (by exact some_rfl), ?_⟩ | refine ⟨_, wrap_ok (by omega) (by omega), ?_⟩ | refine ⟨_, wrap_u64 (by omega) (by omega), ?_⟩ | refine ⟨by decide, _, fdiv_half (by omega), ?_⟩ | (intro gg)); (conv => whnf)))
  (exact ⟨[], by (repeat' (first | exact ArgsOk.nil _ | exact argsOk_cells (by assumption) | refine ArgsOk.same (by first | exact cl_b rfl | exact cl_list | exact cl_nil | exact cl_one | exact cl_ll1 | exact cl_ll2 | exact cl_clo (by assumption)) ?_ | refine ArgsOk.nilsl _ ?_ | refine ArgsOk.nilown _ _ (by decide) ?_ | refine ArgsOk.borp rfl rfl rfl (cl_row rfl) (by decide) ?_ | refine ArgsOk.borc (by %caps) ?_ | refine ArgsOk.bor rfl rfl (deref_flat (by first | exact cl_rs rfl | exact cl_rows | exact cl_setB rfl | exact cl_setG (cl_setB rfl) rfl | exact cl_appB cl_rows (cl_rs rfl) | exact cl_rl1 | exact cl_rl2)) (by decide) ?_ | refine give' rfl (by first | exact cl_rs rfl | exact cl_rows | exact cl_setB rfl | exact cl_setG (cl_setB rfl) rfl | exact cl_appB cl_rows (cl_rs rfl) | exact cl_rl1 | exact cl_rl2) (by decide) (by decide) ?_))⟩)
theorem takeD_fun (x : Ru) (times : Int) : Fun Try.prog 52 [.c (.agg x.row), .c (.rptr [.v (.int .i64 times)] 0)] [.c (.v (.bool (decide (times ≤ x.t))))] := by
  refine fun_x ck_rumor_Take_2 rfl ?_
  ((conv => whnf); repeat' ((first | refine ⟨rfl, ?_⟩ | refine ⟨_, row_map (by assumption), ?_⟩ | refine ⟨_, (by exact some_rfl), ?_⟩ | refine ⟨_, wrap_ok (by omega) (by omega), ?_⟩ | refine ⟨_, wrap_u64 (by omega) (by omega), ?_⟩ | refine ⟨by decide, _, fdiv_half (by omega), ?_⟩ | (intro gg)); (conv => whnf)))
  (exact ⟨[], by (repeat' (first | exact ArgsOk.nil _ | exact argsOk_cells (by assumption) | refine ArgsOk.same (by first | exact cl_b rfl | exact cl_list | exact cl_nil | exact cl_one | exact cl_ll1 | exact cl_ll2 | exact cl_clo (by assumption)) ?_ | refine ArgsOk.nilsl _ ?_ | refine ArgsOk.nilown _ _ (by decide) ?_ | refine ArgsOk.borp rfl rfl rfl (cl_row rfl) (by decide) ?_ | refine ArgsOk.borc (by %caps) ?_ | refine ArgsOk.bor rfl rfl (deref_flat (by first | exact cl_rs rfl | exact cl_rows | exact cl_setB rfl | exact cl_setG (cl_setB rfl) rfl | exact cl_appB cl_rows (cl_rs rfl) | exact cl_rl1 | exact cl_rl2)) (by decide) ?_ | refine give' rfl (by first | exact cl_rs rfl | exact cl_rows | exact cl_setB rfl | exact cl_setG (cl_setB rfl) rfl | exact cl_appB cl_rows (cl_rs rfl) | exact cl_rl1 | exact cl_rl2) (by decide) (by decide) ?_))⟩)
theorem cl_sl1 {α : Type} {enc : α → List V} [FlatRow enc] {c : Bool} {l : List α} {o : Nat} : ∀ u ∈ [V.rptr [V.sl c (l.map enc)] o], Cl u := fun u hu => by
  simp only [List.mem_cons, List.not_mem_nil, or_false] at hu; subst hu
  exact cl_rptr cl_r1b
theorem takeSort_fun (c : Bool) (l : List Ru) (hl : l.length ≤ 20) : FunM Try.prog 49 [.ms 3 1 ((List.range l.length).map fun (i : Nat) => [.v (.int .i64 (i : Int))]) ((ordL l).map fun (i : Nat) => [.v (.int .i64 (i : Int))]), .p (.c (.clo 50 [.rptr [.sl c (l.map Ru.row)] 0]))] [] := by
  have h := sort_funM (enc := ixE l) Try.sortI (callable Try.func49 (by kernel_rfl) (by kernel_rfl)) 3 (fun _ => rfl) (ixC l) (ix_swo l) (ix_tot l) 50 [.rptr [.sl c (l.map Ru.row)] 0]
    (callable Try.func50 (by kernel_rfl) (by kernel_rfl)) (ixD l) (by simp [ixD]; omega) (fun hd x y => by
      have hn : l.length ≠ 0 := fun e => hd (List.eq_nil_of_length_eq_zero (by simp [ixD, e]))
      have hx := x.isLt
      have hy := y.isLt
      exact takeC_fun c l x.val y.val (by omega) (by omega) hl)
  have e1 : (ixD l).map (oneRow (ixE l)) = (List.range l.length).map fun (i : Nat) => [V.v (.int .i64 (i : Int))] := by
    rw [← ixD_val, List.map_map]; rfl
  have e2 : (srtL (ixC l) (ixD l)).map (oneRow (ixE l)) = (ordL l).map fun (i : Nat) => [V.v (.int .i64 (i : Int))] := by
    unfold ordL; rw [List.map_map]; rfl
  rw [e1, e2] at h
  exact h
end Go.Proofs.Ytjhdlcmecbngkaa
