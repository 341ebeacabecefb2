/- The walk of cmp.Compare at texts. -/
import Derived.Test.YtckkeeicngblgaaRows
import Derived.Test.YtckkeeicngblgaaKit
import Derived.Test.YtckkeeicngblgaaPlainBs
import Derived.WalkLawsBesides
namespace Go.Proofs.Ytckkeeicngblgaa
open Go.RowKit Pl
set_option linter.unusedVariables false
theorem isNaNs_any (a : ByteArray) (w : World) : Calls Try.prog 133 #[.string a] w fun e w' => e = .returned (.bool false) ∧ w = w' := by
  have h : (a.toList == a.toList) = true := by simp
  go_enter Try.func133, Try.ntmps133
  go_wp2
  go_ret
  exact ⟨ret_bool (by simp), rfl⟩
theorem cmps_any (a b : ByteArray) (w : World) : Calls Try.prog 103 #[.string a, .string b] w fun e w' => e = .returned (.int .i64 (scmp a b)) ∧ w = w' := by
  rcases Bool.eq_false_or_eq_true (slt a b) with h | h
  · have HE := hid (scmp_lt h)
    unfold slt at h
    go_enter Try.func103, Try.ntmps103
    go_wp2_with (go_at_call 133; refine (isNaNs_any _ _).mono ?_; rintro e w' ⟨rfl, rfl⟩)
    go_ret
    exact ⟨ret_int HE.out.symm, rfl⟩
  · rcases Bool.eq_false_or_eq_true (slt b a) with g | g
    · have HE := hid (scmp_gt g)
      have h2 : (a.toList == b.toList) = false := seq_no (fun e => by subst e; rw [slt_irrefl] at g; cases g)
      unfold slt at h
      clear g
      go_enter Try.func103, Try.ntmps103
      go_wp2_with (go_at_call 133; refine (isNaNs_any _ _).mono ?_; rintro e w' ⟨rfl, rfl⟩)
      go_ret
      exact ⟨ret_int HE.out.symm, rfl⟩
    · obtain rfl := slt_tri h g
      have HE := hid (scmp_eq a)
      have h2 : (a.toList == a.toList) = true := by simp
      unfold slt at h
      clear g
      go_enter Try.func103, Try.ntmps103
      go_wp2_with (go_at_call 133; refine (isNaNs_any _ _).mono ?_; rintro e w' ⟨rfl, rfl⟩)
      go_ret
      exact ⟨ret_int HE.out.symm, rfl⟩

/-- three ways, of numbers -/
def icmp (a b : Int) : Int := if a < b then -1 else if b < a then 1 else 0
theorem isNaNi_any (a : Int) (w : World) : Calls Try.prog 128 #[.int .i64 a] w fun e w' => e = .returned (.bool false) ∧ w = w' := by
  have h : (a == a) = true := by simp
  go_enter Try.func128, Try.ntmps128
  go_wp2
  go_ret
  exact ⟨ret_bool (by simp), rfl⟩
theorem cmpi_any (a b : Int) (w : World) : Calls Try.prog 96 #[.int .i64 a, .int .i64 b] w fun e w' => e = .returned (.int .i64 (icmp a b)) ∧ w = w' := by
  by_cases h : a < b
  · have HE : Hid (icmp a b = -1) := hid (by simp [icmp, h])
    go_enter Try.func96, Try.ntmps96
    go_wp2_with (go_at_call 128; refine (isNaNi_any _ _).mono ?_; rintro e w' ⟨rfl, rfl⟩)
    go_ret
    exact ⟨ret_int HE.out.symm, rfl⟩
  · by_cases g : b < a
    · have HE : Hid (icmp a b = 1) := hid (by simp [icmp, h, g])
      go_enter Try.func96, Try.ntmps96
      go_wp2_with (go_at_call 128; refine (isNaNi_any _ _).mono ?_; rintro e w' ⟨rfl, rfl⟩)
      go_ret
      exact ⟨ret_int HE.out.symm, rfl⟩
    · have HE : Hid (icmp a b = 0) := hid (by simp [icmp, h, g])
      go_enter Try.func96, Try.ntmps96
      go_wp2_with (go_at_call 128; refine (isNaNi_any _ _).mono ?_; rintro e w' ⟨rfl, rfl⟩)
      go_ret
      exact ⟨ret_int HE.out.symm, rfl⟩

/-- the first that is not nought -/
def firstNZ : List Int → Int
  | [] => 0
  | x :: r => if x = 0 then firstNZ r else x
theorem firstNZ_at : ∀ {l : List Int} {k : Nat} (hk : k < l.length), (∀ i, (h : i < l.length) → i < k → l[i] = 0) → l[k] ≠ 0 → firstNZ l = l[k]
  | x :: r, 0, _, _, hne => by
    simp only [List.getElem_cons_zero] at hne ⊢
    simp [firstNZ, hne]
  | x :: r, k + 1, hk, h, hne => by
    have h0 : x = 0 := h 0 (by simp) (by omega)
    subst h0
    simp only [firstNZ, if_true, List.getElem_cons_succ] at hne ⊢
    exact firstNZ_at (by simpa using hk) (fun i hi hik => h (i + 1) (by simpa using hi) (by omega)) hne
theorem firstNZ_zero : ∀ {l : List Int}, (∀ i, (h : i < l.length) → l[i] = 0) → firstNZ l = 0
  | [], _ => rfl
  | x :: r, h => by
    have h0 : x = 0 := h 0 (by simp)
    subst h0
    simp only [firstNZ, if_true]
    exact firstNZ_zero fun i hi => h (i + 1) (by simpa using hi)

def OrRel (l : List Int) (i : Value) : Prop := ∃ k : Nat, k ≤ l.length ∧ i = .int .i64 k ∧ ∀ j, (h : j < l.length) → j < k → l[j] = 0
set_option maxRecDepth 100000 in
theorem or_any (g : Nat) (vs : List Int) (w : World) (hg : Blk w g 3 (vs.map (Value.int .i64)).toArray) (hn : vs.length ≤ 1000) :
    Calls Try.prog 95 #[.slice (some ⟨g, 0, none⟩) vs.length vs.length] w fun e w' => e = .returned (.int .i64 (firstNZ vs)) ∧ w = w' := by
  have HG := hid hg
  clear hg
  go_enter Try.func95, Try.ntmps95
  go_wp2
  go_loop [8] (fun i => OrRel vs i) (fun i => vs.length - (intOf i).toNat)
  case atStart => exact ⟨0, Nat.zero_le _, rfl, fun j _ h => absurd h (by omega)⟩
  case round =>
    obtain ⟨k, hk, rfl, h0⟩ := hrel
    have H0 := hid h0
    clear h0
    by_cases hlt : k < vs.length
    · have g0 : w.cell? ⟨g, k, none⟩ = some (.int .i64 vs[k]) := by
        rw [HG.out.cell]
        simp [hlt]
      by_cases hz : vs[k] = 0
      · have hb : (vs[k] == 0) = true := by simpa using hz
        have HN : Hid (∀ j, (h : j < vs.length) → j < k + 1 → vs[j] = 0) := hid (fun j hj hjk => by
          rcases (by omega : j < k ∨ j = k) with q | rfl
          · exact H0.out j hj q
          · exact hz)
        clear hz
        generalize vs[k] = x at *
        go_wp2
        go_round
        case rel => exact ⟨k + 1, by omega, by go_num, HN.out⟩
        case measure => simp [intOf]; omega
      · have hb : (vs[k] == 0) = false := by simpa using hz
        have HE := hid (firstNZ_at hlt H0.out hz)
        clear hz
        generalize vs[k] = x at *
        go_wp2
        go_ret
        exact ⟨ret_int HE.out.symm, rfl⟩
    · have HE := hid (firstNZ_zero (l := vs) (fun j h => H0.out j h (by omega)))
      go_wp2
      go_ret
      exact ⟨ret_int HE.out.symm, rfl⟩
end Go.Proofs.Ytckkeeicngblgaa
