/- slices.Clone at hearsay/api.Gateway. -/
import Derived.Test.YtjgibmaadmkkgaaRows
import Derived.Test.YtjgibmaadmkkgaaInsGw
import Derived.WalkSpells
namespace Go.Proofs.Ytjgibmaadmkkgaa
open Go.RowKit
set_option linter.unusedVariables false

/-- what Clone leaves -/
def ClnGw (base n : Nat) (xs : List Value) (w : World) (e : Ending) (w' : World) : Prop :=
  ∃ A' c', e = .returned (.slice A' n c') ∧ w'.ownsRow base 37 3 (.slice A' n c') n xs ∧ Below base w w'

set_option maxRecDepth 100000 in
theorem clnGw_any (A : Option Addr) (n c : Nat) (xs : List Value) (w : World) (hA : A = none → n = 0) (hn : n ≤ 1000) (hxl : xs.length = n * 3) (hx : ∀ ad, A = some ad → ∀ j u, xs[j]? = some u → w.cell? (ad.add j) = some u) (h1 : ∀ v ∈ xs, v.oneCell' = true) :
    Calls Try.prog 71 #[.slice A n c] w (ClnGw w.heap.size n xs w) := by
  obtain ⟨i0, hi0, hz0, hzs, hzb⟩ := info_parts infoGw
  cases A with
  | none =>
    obtain rfl := hA rfl
    obtain rfl : xs = [] := List.eq_nil_of_length_eq_zero (by simpa using hxl)
    clear hx hxl hi0 hz0 hzs hzb h1
    have hnl := fun (w : World) => Lib.run_eql_slice_nil (P := Try.prog) w 22 37 none 0 c 0 0 Try.underlying22
    go_enter Try.func71, Try.ntmps71
    go_wp2
    go_ret
    exact ⟨none, 0, rfl, World.ownsRow_nil _ _ _ _, Below.refl _ _⟩
  | some ad =>
    have HX := hid (hx ad rfl)
    have HXL := hid hxl
    have HZ0 := hid hz0
    have HZS := hid hzs
    have HZB := hid hzb
    have HI0 := hid hi0
    clear hx hxl hA hi0 hz0 hzs hzb
    have hnl := fun (w : World) => Lib.run_eql_slice_nil (P := Try.prog) w 22 37 (some ad) n c 0 0 Try.underlying22
    go_enter Try.func71, Try.ntmps71
    have hown0 : (w.alloc (.cells #[] 37)).ownsRow w.heap.size 37 3 (.slice (some ⟨w.heap.size, 0, none⟩) 0 0) 0 [] :=
      ⟨by simp, .inr ⟨w.heap.size, 0, #[], rfl, Nat.le_refl _, heap_alloc_new w _, by omega, by simp [maxLen], by simp, by simp⟩⟩
    have HO := hid hown0
    have HX1 := hid (fun j u (hj : xs[j]? = some u) => (World.cell?_alloc_lt w (.cells #[] 37) (ad.add j) (cell_lt (HX.out j u hj))).trans (HX.out j u hj))
    clear hown0
    go_wp2_with (at_builtin; refine wpList_append_own_at _ rfl _ _ 22 rfl w.heap.size 37 i0 _ 3 32 Try.underlying22 HI0.out HZ0.out HZS.out HZB.out rfl (by decide) _ _ _ rfl HO.out ad n c xs rfl HXL.out HX1.out h1 (by simp only [maxLen]; omega) (by omega) (by simp) ?_; intro v1 w1 hown1 hg1 _ hat1)
    go_ret
    rw [Nat.zero_add, List.nil_append] at hown1
    obtain ⟨A', c', rfl⟩ := own_form hown1
    exact ⟨A', c', rfl, hown1, ((Below.refl _ _).alloc (Nat.le_refl _) _).grown hg1 (by simp) (own_base HO.out)⟩
end Go.Proofs.Ytjgibmaadmkkgaa
