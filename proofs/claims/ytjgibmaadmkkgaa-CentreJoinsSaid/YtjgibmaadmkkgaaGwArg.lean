/- An argument that is a slice of gateways. -/
import Derived.Test.YtjgibmaadmkkgaaOpenRL
import Derived.Test.YtjgibmaadmkkgaaGwPlain
namespace Go.Proofs.Ytjgibmaadmkkgaa
open Go.Joins Go.ChangeShapes Go.WideShapes Go.RowKit Go.Deep Pl
set_option linter.unusedVariables false
set_option maxRecDepth 100000 in
theorem open_gws {H : Type} {enc : TypeId × Value → H} {w : World} {base b0 : Nat} {spare : Nat → Bool} {held : Bool} {r : Reach} {v : Value} {d : DataW H} {p : List MemPlace}
    (hv : Value.okWide Try.prog w r b0 22 v) (h : DataW.Trod enc Try.prog w base spare held 22 v d p) :
    ∃ (A : Option Addr) (c : Nat) (l : List Gw), v = .slice A l.length c ∧ RL Gw.enc 3 w A l ∧ l.length ≤ 9223372036854775807 ∧ ∀ g ∈ l, g.c.size ≤ 9223372036854775807 := by
  obtain ⟨a0, len, cap, rfl⟩ := okWide_slice Try.underlying22 hv
  obtain ⟨fuel, hf⟩ := h
  rcases open_slice_fields Try.underlying22 Try.underlying37 (by kernel_rfl) (by kernel_rfl) hf with ⟨hcs, _⟩ | ⟨a, len', cap', m, D, Pl, hcs, hb, hl, hm, hmm, hx, hi⟩
  · have e : (Value.slice a0 len cap) = .slice none 0 0 := by simpa [Value.cells] using hcs
    injection e with e1 e2 e3
    subst e1 e2 e3
    exact ⟨none, 0, [], rfl, RL.nil, by simp, fun g hg => by simp at hg⟩
  · have e : (Value.slice a0 len cap) = .slice (some a) len' cap' := by simpa [Value.cells] using hcs
    injection e with e1 e2 e3
    subst e1 e2 e3
    have hlm : len ≤ m := by rw [hmm]; split <;> omega
    obtain ⟨l, hll, hrl, hwf⟩ := rl_of (w := w) Gw.enc_len (by decide) a len (fun g => g.c.size ≤ 9223372036854775807) (fun i hi' => by
      obtain ⟨ys, n, _, _, _, hf⟩ := hi i (by omega)
      obtain ⟨v0, y0, c0, _, t0⟩ := hf 0 _ rfl
      obtain ⟨v1, y1, c1, _, t1⟩ := hf 1 _ rfl
      obtain ⟨v2, y2, c2, _, t2⟩ := hf 2 _ rfl
      obtain ⟨s, rfl, hs⟩ := trod_str Try.underlying9 t0
      obtain ⟨x1, rfl, _⟩ := trod_int64 Try.underlying3 t1
      obtain ⟨x2, rfl, _⟩ := trod_int64 Try.underlying3 t2
      refine ⟨⟨s, x1, x2⟩, hs, fun j u hu => ?_⟩
      have hj : j < 3 := by have := (List.getElem?_eq_some_iff.1 hu).1; simpa [Gw.enc] using this
      rcases (by omega : j = 0 ∨ j = 1 ∨ j = 2) with rfl | rfl | rfl
      · have : u = .string s := by simpa [Gw.enc] using hu.symm
        subst this; exact c0
      · have : u = .int .i64 x1 := by simpa [Gw.enc] using hu.symm
        subst this; exact c1
      · have : u = .int .i64 x2 := by simpa [Gw.enc] using hu.symm
        subst this; exact c2)
    subst hll
    exact ⟨some a, cap, l, rfl, hrl, by simp only [maxLen] at hm; omega, hwf⟩
end Go.Proofs.Ytjgibmaadmkkgaa
