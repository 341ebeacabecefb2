/- Words for contracts over rows of one's own. -/
import Derived.Test.YtjgibmaadmkkgaaFOpen
import Derived.Test.YtjgibmaadmkkgaaSliceOps
namespace Go.Proofs.Ytjgibmaadmkkgaa
open Go.RowKit
set_option linter.unusedVariables false
section
variable {α : Type} {enc : α → List Value} {sz : Nat} {w w' : World} {R : Nat → Prop}
theorem Fr.imp {L L' : Nat → Prop} (h : Fr L w w') (hl : ∀ k, L k → L' k) : Fr L' w w' := ⟨h.os, h.tape, h.output, h.size, fun k hk hn => h.block k hk fun hl' => hn (hl k hl')⟩
theorem pars_one {u : V} {xs : List Value} (hp : Pars w R [.c u] xs) : ∃ v, xs = [v] ∧ RV w R noG u v := by
  have hl := hp.len
  match xs, hl with
  | [v], _ => exact ⟨v, rfl, hp.ok 0 _ _ rfl rfl⟩
theorem sl_cells (he : ∀ x, (enc x).length = sz) {cl : Bool} {l : List α} {v : Value} (h : RV w R noG (.sl cl (l.map fun x => (enc x).map .v)) v) :
    ∃ A c, v = .slice A l.length c ∧ (A = none → l.length = 0) ∧ ∀ ad, A = some ad → ∀ j u, (l.flatMap enc)[j]? = some u → w.cell? (ad.add j) = some u := by
  generalize hrows : (l.map fun x => (enc x).map V.v) = rows at h
  cases h with
  | nil _ a cap hc =>
    obtain rfl : l = [] := by simpa using hrows
    exact ⟨a, cap, rfl, fun _ => rfl, fun ad _ j u hu => by simp at hu⟩
  | sl _ _ b off cap sz' f hR hcap hclip hs hcell hh =>
    have hlen : rows.length = l.length := by rw [← hrows]; simp
    rw [hlen]
    refine ⟨some ⟨b, off, none⟩, cap, rfl, (by intro h; cases h), fun ad had j u hu => ?_⟩
    injection had with had; subst had
    rw [add_full _ _ rfl]
    have hj : j < l.length * sz := by
      have := (List.getElem?_eq_some_iff.1 hu).1
      rwa [flat_len he] at this
    have hsz : 0 < sz := by rcases Nat.eq_zero_or_pos sz with h | h; (subst h; omega); exact h
    have hd : j / sz < l.length := Nat.div_lt_of_lt_mul (by rw [Nat.mul_comm]; exact hj)
    have hm : j % sz < sz := Nat.mod_lt _ hsz
    have e2 : j = j / sz * sz + j % sz := by rw [Nat.mul_comm]; exact (Nat.div_add_mod j sz).symm
    have hrow : rows[j / sz]? = some ((enc l[j / sz]).map V.v) := by rw [← hrows]; simp [hd]
    have hsz' : sz' = sz := by rw [← hs _ (List.mem_of_getElem? hrow)]; simp [he]
    subst hsz'
    rw [e2, flat_get he (j / sz') (j % sz') hd hm] at hu
    have hu' : ((enc l[j / sz']).map V.v)[j % sz']? = some (.v u) := by rw [List.getElem?_map, hu]; rfl
    have h1 := hcell _ _ _ _ hrow hu'
    have h2 := rv_v (hh _ _ _ _ hrow hu')
    rw [h2] at h1
    show w.cell? ⟨b, off + j, none⟩ = some u
    rw [e2, ← Nat.add_assoc]; exact h1
theorem rowsR_flat (he : ∀ x, (enc x).length = sz) (h1 : ∀ x, ∀ v ∈ enc x, v.oneCell' = true) (l : List α) : RowsR w R noG (l.flatMap enc) sz (l.map fun x => (enc x).map V.v) := by
  refine ⟨fun row hr => ?_, fun i j row u g1 g2 => ?_⟩
  · obtain ⟨x, _, rfl⟩ := List.mem_map.1 hr
    simp [he]
  · have hi : i < l.length := by have := (List.getElem?_eq_some_iff.1 g1).1; simpa using this
    have e : row = (enc l[i]).map V.v := by simp [hi] at g1; exact g1.symm
    subst e
    rw [List.getElem?_map] at g2
    cases hq : (enc l[i])[j]? with
    | none => rw [hq] at g2; cases g2
    | some y =>
      rw [hq] at g2
      simp at g2; subst g2
      have hj : j < sz := by rw [← he l[i]]; exact (List.getElem?_eq_some_iff.1 hq).1
      exact ⟨y, by rw [flat_get he i j hi hj]; exact hq, h1 _ y (List.mem_of_getElem? hq), .v y⟩
theorem rowsR_inv (he : ∀ x, (enc x).length = sz) {l : List α} {xs : List Value} (hl : xs.length = l.length * sz) (h : RowsR w R noG xs sz (l.map fun x => (enc x).map V.v)) : xs = l.flatMap enc := by
  apply List.ext_getElem?
  intro j
  by_cases hj : j < l.length * sz
  · have hsz : 0 < sz := by rcases Nat.eq_zero_or_pos sz with h | h; (subst h; omega); exact h
    have hd : j / sz < l.length := Nat.div_lt_of_lt_mul (by rw [Nat.mul_comm]; exact hj)
    have hm : j % sz < sz := Nat.mod_lt _ hsz
    have e2 : j = j / sz * sz + j % sz := by rw [Nat.mul_comm]; exact (Nat.div_add_mod j sz).symm
    have hrow : (l.map fun x => (enc x).map V.v)[j / sz]? = some ((enc l[j / sz]).map V.v) := by simp [hd]
    have hy : (enc l[j / sz])[j % sz]? = some ((enc l[j / sz])[j % sz]'(by rw [he]; exact hm)) := List.getElem?_eq_getElem (by rw [he]; exact hm)
    obtain ⟨x, h1, _, h2⟩ := h.2 (j / sz) (j % sz) _ _ hrow (by rw [List.getElem?_map, hy]; rfl)
    rw [rv_v h2] at h1
    rw [e2, h1, flat_get he _ _ hd hm, hy]
  · rw [List.getElem?_eq_none (by omega), List.getElem?_eq_none (by rw [flat_len he]; omega)]
theorem flat_ins (he : ∀ x, (enc x).length = sz) (l : List α) (x : α) (i : Nat) : (l.flatMap enc).take (i * sz) ++ enc x ++ (l.flatMap enc).drop (i * sz) = (l.take i ++ [x] ++ l.drop i).flatMap enc := by
  have h : ∀ (i : Nat) (l : List α), (l.flatMap enc).take (i * sz) = (l.take i).flatMap enc ∧ (l.flatMap enc).drop (i * sz) = (l.drop i).flatMap enc := by
    intro i
    induction i with
    | zero => intro l; simp
    | succ i ih =>
      intro l
      cases l with
      | nil => simp
      | cons y l =>
        have hy := he y
        have := ih l
        rw [List.flatMap_cons, Nat.add_mul, Nat.one_mul]
        constructor
        · rw [List.take_append, hy, List.take_of_length_le (by rw [hy]; omega), show i * sz + sz - sz = i * sz by omega, this.1, List.take_succ_cons, List.flatMap_cons]
        · rw [List.drop_append, hy, List.drop_of_length_le (by rw [hy]; omega), show i * sz + sz - sz = i * sz by omega, this.2, List.drop_succ_cons, List.nil_append]
  rw [(h i l).1, (h i l).2]
  simp
theorem own_result {T : TypeId} {base : Nat} (he : ∀ x, (enc x).length = sz) (h1 : ∀ x, ∀ v ∈ enc x, v.oneCell' = true) (hsz : 0 < sz) {l : List α} {A : Option Addr} {c : Nat} {L : Nat → Prop} (hlt : ∀ b, R b → b < w.heap.size)
    (hown : w'.ownsRow base T sz (.slice A l.length c) l.length (l.flatMap enc)) (hfr : Fr L w w') (hk : ∀ k, (Value.slice A l.length c).ownBlock = some k → L k ∨ w.heap.size ≤ k) (hn : ∀ k, (Value.slice A l.length c).ownBlock = some k → ¬ R k) :
    ∃ (ys : List Value) (R' : Nat → Prop), Ending.returned (.slice A l.length c) = .returned (packV ys) ∧ Fr L w w' ∧ (∀ b, R b → R' b) ∧
      (∀ b, R' b → R b ∨ (b < w'.heap.size ∧ (L b ∨ w.heap.size ≤ b))) ∧ Pars w' R' [.o T sz (l.map fun x => (enc x).map V.v)] ys ∧ (∀ b, ParBlk [.o T sz (l.map fun x => (enc x).map V.v)] ys b → L b ∨ w.heap.size ≤ b) := by
  have hpb : ∀ b, ParBlk [.o T sz (l.map fun x => (enc x).map V.v)] [.slice A l.length c] b → (Value.slice A l.length c).ownBlock = some b := by
    rintro b ⟨i, T', sz', rows', x, g1, g2, g3⟩
    cases i with
    | zero => simp at g2; subst g2; exact g3
    | succ i => simp at g1
  refine ⟨[.slice A l.length c], R, rfl, hfr, fun _ h => h, fun b h => .inl h, ⟨rfl, ?_, ?_, ?_⟩, fun b hb => hk b (hpb b hb)⟩
  · intro i p x g1 g2
    cases i with
    | zero =>
      simp at g1 g2; subst g1 g2
      exact ⟨hsz, _, by rw [List.length_map]; exact own_mono hown (Nat.zero_le _), rowsR_flat he h1 l⟩
    | succ i => simp at g1
  · intro i j T1 sz1 rows1 T2 sz2 rows2 x y b hij g1 g2
    cases i with
    | zero => cases j with
      | zero => exact absurd rfl hij
      | succ j => simp at g2
    | succ i => simp at g1
  · intro b hb; exact hn b (hpb b hb)
theorem pars_ins {T : TypeId} (he : ∀ x, (enc x).length = sz) {l : List α} {x : α} {z : Value} {xs : List Value} (hp : Pars w R [.o T sz (l.map fun x => (enc x).map V.v), .c (.v z), .o T sz [(enc x).map V.v]] xs) :
    ∃ v0 v2, xs = [v0, z, v2] ∧ w.ownsRow 0 T sz v0 l.length (l.flatMap enc) ∧ w.ownsRow 0 T sz v2 1 (enc x) ∧ (∀ b, v0.ownBlock = some b → v2.ownBlock ≠ some b) ∧ ∀ b, ParBlk [.o T sz (l.map fun x => (enc x).map V.v), .c (.v z), .o T sz [(enc x).map V.v]] xs b → ¬ R b := by
  have hl := hp.len
  match xs, hl with
  | [v0, v1, v2], _ =>
    obtain ⟨_, x0, h0, h0'⟩ := hp.ok 0 _ _ rfl rfl
    have h1 : RV w R noG (.v z) v1 := hp.ok 1 _ _ rfl rfl
    obtain ⟨_, x2, h2, h2'⟩ := hp.ok 2 _ _ rfl rfl
    obtain rfl := rv_v h1
    rw [List.length_map] at h0
    obtain rfl := rowsR_inv he h0.1 h0'
    have h2'' : RowsR w R noG x2 sz ([x].map fun x => (enc x).map V.v) := h2'
    have e2 := rowsR_inv he (l := [x]) h2.1 h2''
    simp only [List.flatMap_cons, List.flatMap_nil, List.append_nil] at e2
    rw [e2] at h2
    exact ⟨v0, v2, rfl, h0, h2, fun b g1 g2 => hp.apart 0 2 _ _ _ _ _ _ _ _ b (by omega) rfl rfl rfl rfl g1 g2, hp.free⟩
end
end Go.Proofs.Ytjgibmaadmkkgaa
