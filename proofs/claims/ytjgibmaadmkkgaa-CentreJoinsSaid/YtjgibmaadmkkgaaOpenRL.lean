/- Opening arguments that are slices of flat structs. -/
import Derived.Test.YtjgibmaadmkkgaaOpen
import Derived.Test.YtjgibmaadmkkgaaList
namespace Go.Proofs.Ytjgibmaadmkkgaa
open Go.Joins Go.ChangeShapes Go.WideShapes Go.RowKit Go.Deep
set_option linter.unusedVariables false
section
variable {α : Type} {enc : α → List Value} {sz : Nat} {w : World}
theorem rl_of (hs : ∀ x, (enc x).length = sz) (hz : 0 < sz) (a : Addr) (len : Nat) (p : α → Prop) (hc : ∀ i, i < len → ∃ x : α, p x ∧ ∀ j u, (enc x)[j]? = some u → w.cell? (a.add (i * sz + j)) = some u) :
    ∃ l : List α, l.length = len ∧ RL enc sz w (some a) l ∧ ∀ x ∈ l, p x := by
  rcases Nat.eq_zero_or_pos len with rfl | hp
  · exact ⟨[], rfl, RL.nil, fun x hx => by simp at hx⟩
  · obtain ⟨x0, _, hx0⟩ := hc 0 hp
    have h0 : 0 < (enc x0).length := by rw [hs]; exact hz
    have hcell := hx0 0 _ (List.getElem?_eq_getElem h0)
    have hsp : a.spot = none := by
      have e : a.add (0 * sz + 0) = a := by simp [Addr.add]
      rw [e] at hcell
      unfold World.cell? at hcell
      split at hcell
      · cases hq : a.spot with
        | none => rfl
        | some k => simp [hq] at hcell
      · cases hcell
    obtain ⟨b, off, sp⟩ := a
    simp only at hsp
    subst hsp
    have hblt : b < w.heap.size := by
      have := World.block_lt_of_cell? w _ hcell
      simpa [Addr.add] using this
    have hall : ∀ i : Nat, ∃ x : α, i < len → p x ∧ ∀ j u, (enc x)[j]? = some u → w.cell? ((⟨b, off, none⟩ : Addr).add (i * sz + j)) = some u := fun i => by
      by_cases hi : i < len
      · obtain ⟨x, hx⟩ := hc i hi
        exact ⟨x, fun _ => hx⟩
      · exact ⟨x0, fun h => absurd h hi⟩
    obtain ⟨f, hf⟩ := Classical.axiomOfChoice hall
    refine ⟨(List.range len).map f, by simp, fun _ => ⟨b, off, rfl, hblt, fun i hi j u hu => ?_⟩, fun x hx => ?_⟩
    · have hi' : i < len := by simpa using hi
      have hu' : (enc (f i))[j]? = some u := by simpa using hu
      have := (hf i hi').2 j u hu'
      have e : (⟨b, off, none⟩ : Addr).add (i * sz + j) = ⟨b, off + i * sz + j, none⟩ := by
        unfold Addr.add
        split
        · rename_i h
          have h1 : i * sz = 0 := by omega
          have h2 : j = 0 := by omega
          rw [h1, h2]; simp
        · simp [Nat.add_assoc]
      rwa [e] at this
    · simp only [List.mem_map, List.mem_range] at hx
      obtain ⟨i, hi, rfl⟩ := hx
      exact (hf i hi).1
end
section
variable {H : Type} {enc : TypeId × Value → H} {P : Program} {w : World} {base : Nat} {spare : Nat → Bool} {held : Bool}
theorem trod_str {t : TypeId} {n : Nat} {v : Value} {y : DataW H × List MemPlace} (ht : P.underlying t = some .string) (h : DataW.trod enc P w base spare held n t [v] = some y) :
    ∃ s : ByteArray, v = .string s ∧ s.size ≤ 9223372036854775807 := by
  obtain ⟨s, e, _, hs⟩ := DataW.trod_string ht h
  simp at e
  exact ⟨s, e, by simpa [maxLen] using hs⟩
theorem trod_boolv {t : TypeId} {n : Nat} {v : Value} {y : DataW H × List MemPlace} (ht : P.underlying t = some .bool) (h : DataW.trod enc P w base spare held n t [v] = some y) :
    ∃ b : Bool, v = .bool b := by
  obtain ⟨b, e, _⟩ := DataW.trod_bool ht h
  simp at e
  exact ⟨b, e⟩
end
end Go.Proofs.Ytjgibmaadmkkgaa
