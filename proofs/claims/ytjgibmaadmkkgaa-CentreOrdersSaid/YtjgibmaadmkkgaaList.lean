/- Slices of flat structs that read as lists. -/
import Derived.Test.YtjgibmaadmkkgaaKit
namespace Go.Proofs.Ytjgibmaadmkkgaa
open Go.RowKit
set_option linter.unusedVariables false
section
variable {α : Type} {enc : α → List Value} {sz : Nat} {w w' : World} {A : Option Addr} {l : List α}
/-- the slice at A reads as l, sz cells an element -/
def RL (enc : α → List Value) (sz : Nat) (w : World) (A : Option Addr) (l : List α) : Prop :=
  0 < l.length → ∃ b off, A = some ⟨b, off, none⟩ ∧ b < w.heap.size ∧ ∀ i, (h : i < l.length) → ∀ j u, (enc l[i])[j]? = some u → w.cell? ⟨b, off + i * sz + j, none⟩ = some u

theorem RL.nil : RL enc sz w A [] := fun h => absurd h (by simp)
theorem RL.at_ (h : RL enc sz w A l) {k : Nat} (hk : k < l.length) : ∃ b off, A = some ⟨b, off, none⟩ ∧ b < w.heap.size ∧ ∀ j u, (enc l[k])[j]? = some u → w.cell? ⟨b, off + k * sz + j, none⟩ = some u := by
  obtain ⟨b, off, hA, hb, hc⟩ := h (by omega)
  exact ⟨b, off, hA, hb, hc k hk⟩
/-- two elements side by side -/
theorem RL.at2 (h : RL enc sz w A l) {k : Nat} (hk : k + 1 < l.length) : ∃ b off, A = some ⟨b, off, none⟩ ∧ b < w.heap.size ∧
    (∀ j u, (enc (l[k]'(by omega)))[j]? = some u → w.cell? ⟨b, off + k * sz + j, none⟩ = some u) ∧ (∀ j u, (enc l[k + 1])[j]? = some u → w.cell? ⟨b, off + (k + 1) * sz + j, none⟩ = some u) := by
  obtain ⟨b, off, hA, hb, hc⟩ := h (by omega)
  exact ⟨b, off, hA, hb, hc k (by omega), hc (k + 1) hk⟩
theorem RL.below (h : RL enc sz w A l) {B : Nat} (hb : Below B w w') (hB : w.heap.size ≤ B) : RL enc sz w' A l := fun hn => by
  obtain ⟨b, off, hA, hlt, hc⟩ := h hn
  exact ⟨b, off, hA, Nat.lt_of_lt_of_le hlt hb.size, fun i hi j u hu => (hb.cell (p := ⟨b, off + i * sz + j, none⟩) (by show b < B; omega)).trans (hc i hi j u hu)⟩
theorem RL.below' (h : RL enc sz w A l) (hb : Below w.heap.size w w') : RL enc sz w' A l := h.below hb (Nat.le_refl _)
theorem RL.of_own {base : Nat} {e : TypeId} {c : Nat} (h : w.ownsRow base e sz (.slice A l.length c) l.length (l.flatMap enc)) (hs : ∀ x, (enc x).length = sz) : RL enc sz w A l := fun hn => by
  obtain ⟨hl, h2⟩ := h
  rcases h2 with ⟨hv, hz⟩ | ⟨g, cap, cur, hv, hg, hh, hnc, _, hsz, htk⟩
  · omega
  · have hA : A = some ⟨g, 0, none⟩ := by injection hv
    have hlt : g < w.heap.size := block_lt hh
    refine ⟨g, 0, hA, hlt, fun i hi j u hu => ?_⟩
    have hj : j < sz := by have := (List.getElem?_eq_some_iff.1 hu).1; rw [hs] at this; exact this
    have hx : (l.flatMap enc)[i * sz + j]? = some u := by
      rw [flat_get hs i j hi hj]; exact hu
    have hb : i * sz + j < l.length * sz := by
      have : (i + 1) * sz ≤ l.length * sz := Nat.mul_le_mul_right _ hi
      rw [Nat.add_mul] at this; omega
    unfold World.cell?
    simp only [hh]
    rw [← htk, List.getElem?_take_of_lt hb] at hx
    simpa using hx
theorem own_below {w w' : World} {base : Nat} {e : TypeId} {v : Value} {n : Nat} {xs : List Value} (h : w.ownsRow base e sz v n xs) (hb : Below w.heap.size w w') : w'.ownsRow base e sz v n xs := by
  obtain ⟨h1, h2⟩ := h
  refine ⟨h1, ?_⟩
  rcases h2 with h2 | ⟨g, cap, cur, hv, hg, hh, r⟩
  · exact .inl h2
  · exact .inr ⟨g, cap, cur, hv, hg, (hb.block g (block_lt hh)).trans hh, r⟩
theorem own_block {w : World} {base : Nat} {e : TypeId} {A : Option Addr} {c n : Nat} {xs : List Value} (h : w.ownsRow base e sz (.slice A n c) n xs) (hn : 0 < n) : ∃ g, A = some ⟨g, 0, none⟩ := by
  rcases h.2 with ⟨_, h0⟩ | ⟨g, cap, cur, hv, _⟩
  · omega
  · injection hv with hv
    exact ⟨g, hv⟩
theorem own_mono {w : World} {base base' : Nat} {e : TypeId} {v : Value} {n : Nat} {xs : List Value} (h : w.ownsRow base e sz v n xs) (hb : base' ≤ base) : w.ownsRow base' e sz v n xs := by
  obtain ⟨h1, h2⟩ := h
  refine ⟨h1, ?_⟩
  rcases h2 with h2 | ⟨g, cap, cur, hv, hg, r⟩
  · exact .inl h2
  · exact .inr ⟨g, cap, cur, hv, by omega, r⟩
theorem own_far {w : World} {base : Nat} {e : TypeId} {v : Value} {n : Nat} {xs : List Value} (h : w.ownsRow base e sz v n xs) {p : Addr} (hp : v.ownBlock ≠ some p.block) (u : Value) : (w.setCell p u).ownsRow base e sz v n xs := by
  obtain ⟨h1, h2⟩ := h
  refine ⟨h1, ?_⟩
  rcases h2 with h2 | ⟨g, cap, cur, hv, hg, hh, r⟩
  · exact .inl h2
  · refine .inr ⟨g, cap, cur, hv, hg, ?_, r⟩
    rw [Below.heap_setCell w p u g (fun e => hp (by subst hv; subst e; rfl))]
    exact hh
/-- so many cells set, one behind the other -/
def setFrom (xs : List Value) (p : Nat) : List Value → List Value
  | [] => xs
  | u :: us => setFrom (xs.set p u) (p + 1) us
theorem setFrom_len : ∀ (us xs : List Value) (p : Nat), (setFrom xs p us).length = xs.length
  | [], _, _ => rfl
  | u :: us, xs, p => by rw [setFrom, setFrom_len us]; simp
theorem setFrom_get : ∀ (us xs : List Value) (p : Nat), p + us.length ≤ xs.length → ∀ i, (setFrom xs p us)[i]? = if p ≤ i ∧ i < p + us.length then us[i - p]? else xs[i]?
  | [], xs, p, _, i => by
    rw [setFrom, if_neg (by simp only [List.length_nil]; omega)]
  | u :: us, xs, p, h, i => by
    rw [setFrom, setFrom_get us (xs.set p u) (p + 1) (by simp at h ⊢; omega) i]
    simp only [List.length_cons] at h ⊢
    by_cases h1 : i = p
    · subst h1
      rw [if_neg (by omega), if_pos (by omega), List.getElem?_set_self (by omega)]
      simp
    · by_cases h2 : p + 1 ≤ i ∧ i < p + 1 + us.length
      · rw [if_pos h2, if_pos (by omega), show i - p = i - (p + 1) + 1 by omega, List.getElem?_cons_succ]
      · rw [if_neg h2, List.getElem?_set_ne (by omega)]
        by_cases h3 : p ≤ i ∧ i < p + (us.length + 1)
        · omega
        · rw [if_neg h3]
theorem flat_set (hs : ∀ x, (enc x).length = sz) (hz : 0 < sz) {k : Nat} (hk : k < l.length) (x : α) : setFrom (l.flatMap enc) (k * sz) (enc x) = (l.set k x).flatMap enc := by
  have hkk : k * sz + sz ≤ l.length * sz := by
    have : (k + 1) * sz ≤ l.length * sz := Nat.mul_le_mul_right _ hk
    rw [Nat.add_mul] at this; omega
  apply List.ext_getElem?
  intro i
  rw [setFrom_get _ _ _ (by rw [hs, flat_len hs]; exact hkk)]
  by_cases hi : i < l.length * sz
  · have hd : i / sz < l.length := Nat.div_lt_of_lt_mul (by rw [Nat.mul_comm]; exact hi)
    have hm : i % sz < sz := Nat.mod_lt _ hz
    have e : i = i / sz * sz + i % sz := by rw [Nat.mul_comm]; exact (Nat.div_add_mod i sz).symm
    have r : ((l.set k x).flatMap enc)[i]? = (enc ((l.set k x)[i / sz]'(by simpa using hd)))[i % sz]? := by
      conv => lhs; rw [e]
      exact flat_get hs (i / sz) (i % sz) (by simpa using hd) hm
    have r2 : (l.flatMap enc)[i]? = (enc l[i / sz])[i % sz]? := by
      conv => lhs; rw [e]
      exact flat_get hs (i / sz) (i % sz) hd hm
    rw [r, hs]
    by_cases hik : i / sz = k
    · have h1 : k * sz ≤ i ∧ i < k * sz + sz := by rw [← hik]; omega
      rw [if_pos h1]
      simp only [List.getElem_set, hik, if_true]
      congr 1
      rw [← hik]; omega
    · have h1 : ¬ (k * sz ≤ i ∧ i < k * sz + sz) := by
        rintro ⟨g1, g2⟩
        apply hik
        exact Nat.div_eq_of_lt_le (by omega) (by rw [Nat.add_mul]; omega)
      rw [if_neg h1, r2]
      simp only [List.getElem_set]
      rw [if_neg (fun e => hik e.symm)]
  · have h1 : ¬ (k * sz ≤ i ∧ i < k * sz + (enc x).length) := by rw [hs]; omega
    rw [if_neg h1, List.getElem?_eq_none (by rw [flat_len hs]; omega), List.getElem?_eq_none (by rw [flat_len hs, List.length_set]; omega)]
end
end Go.Proofs.Ytjgibmaadmkkgaa
