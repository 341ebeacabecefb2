/- slices.Clone and slices.Insert at hearsay/api.Gateway, as contracts. -/
import Derived.Test.YtjgibmaadmkkgaaLibGw
import Derived.Test.YtjgibmaadmkkgaaFLib
namespace Go.Proofs.Ytjgibmaadmkkgaa
open Go.RowKit
set_option linter.unusedVariables false
theorem cloneGw_fun {α : Type} (enc : α → List Value) (he : ∀ x, (enc x).length = 3) (h1 : ∀ x, ∀ v ∈ enc x, v.oneCell' = true) (cl : Bool) (l : List α) (hl : l.length ≤ 1000) :
    Fun Try.prog 71 [.c (.sl cl (l.map fun x => (enc x).map .v))] [.o 37 3 (l.map fun x => (enc x).map .v)] := by
  refine ⟨callable Try.func71 (by kernel_rfl) (by kernel_rfl), fun w R xs hlt hp => ?_⟩
  obtain ⟨v, rfl, hv⟩ := pars_one hp
  obtain ⟨A, c, rfl, hA, hx⟩ := sl_cells he hv
  have hone : ∀ v ∈ l.flatMap enc, v.oneCell' = true := fun v hv => by
    obtain ⟨g, _, hg⟩ := List.mem_flatMap.1 hv
    exact h1 g v hg
  refine (clnGw_any A l.length c (l.flatMap enc) w hA hl (flat_len he l) hx hone).mono ?_
  rintro e w' ⟨A', c', rfl, hown, hb⟩
  exact own_result he h1 (by decide) hlt hown (fr_of_below hb) (fun k hk => .inr (own_base hown k hk)) (fun k hk => by have := own_base hown k hk; intro h; have := hlt k h; omega)
set_option maxHeartbeats 1000000 in
theorem insertGw_fun {α : Type} (enc : α → List Value) (he : ∀ x, (enc x).length = 3) (h1 : ∀ x, ∀ v ∈ enc x, v.oneCell' = true) (l : List α) (x : α) (i : Nat) (hi : i ≤ l.length) (hl : l.length ≤ 1000) :
    Fun Try.prog 73 [.o 37 3 (l.map fun x => (enc x).map .v), .c (.v (.int .i64 i)), .o 37 3 [(enc x).map .v]] [.o 37 3 ((l.take i ++ [x] ++ l.drop i).map fun x => (enc x).map .v)] := by
  refine ⟨callable Try.func73 (by kernel_rfl) (by kernel_rfl), fun w R xs hlt hp => ?_⟩
  obtain ⟨v0, v2, rfl, o0, o2, hap, hf0⟩ := pars_ins (enc := enc) he hp
  obtain ⟨A, c, rfl⟩ := own_form o0
  rcases o2.2 with ⟨_, h0⟩ | ⟨g, cap, cur, rfl, _, hh, hcap, _, hsz, htk⟩
  · omega
  have hone : ∀ v ∈ l.flatMap enc, v.oneCell' = true := fun v hv => by
    obtain ⟨g, _, hg⟩ := List.mem_flatMap.1 hv
    exact h1 g v hg
  refine (insGw_any 0 A l.length c i (l.flatMap enc) g cap cur (enc x) w o0 (Nat.zero_le _) hi hl hh (by rw [Nat.one_mul] at htk; exact htk) (fun e => hap g e rfl) (he x) (h1 x) hone).mono ?_
  rintro e w' ⟨A', c', rfl, hown, hb, hk⟩
  rw [flat_ins he l x i, show l.length + 1 = (l.take i ++ [x] ++ l.drop i).length by simp; omega] at hown
  rw [show l.length + 1 = (l.take i ++ [x] ++ l.drop i).length by simp; omega] at hk ⊢
  have hL : ∀ k, LB A k → ParBlk [.o 37 3 (l.map fun x => (enc x).map .v), .c (.v (.int .i64 i)), .o 37 3 [(enc x).map .v]] [.slice A l.length c, .int .i64 i, .slice (some ⟨g, 0, none⟩) 1 cap] k := fun k ⟨a, ha, hq⟩ => ⟨0, _, _, _, _, rfl, rfl, by subst ha; simp only [Value.ownBlock]; rw [hq]⟩
  exact own_result he h1 (by decide) hlt hown (hb.imp hL) (fun k hk' => (hk k hk').imp (hL k) (fun h => h)) (fun k hk' => by
    rcases hk k hk' with h | h
    · exact hf0 k (hL k h)
    · intro h'; have := hlt k h'; omega)
end Go.Proofs.Ytjgibmaadmkkgaa
