/- The walk of cmp.Compare at texts. -/
import Derived.Test.YtjgibmaadmkkgaaRows
import Derived.Test.YtjgibmaadmkkgaaKit
import Derived.Test.YtjgibmaadmkkgaaPlainBs
import Derived.WalkLawsBesides
namespace Go.Proofs.Ytjgibmaadmkkgaa
open Go.RowKit Pl
set_option linter.unusedVariables false
theorem isNaNs_any (a : ByteArray) (w : World) : Calls Try.prog 116 #[.string a] w fun e w' => e = .returned (.bool false) ∧ w = w' := by
  have h : (a.toList == a.toList) = true := by simp
  go_enter Try.func116, Try.ntmps116
  go_wp2
  go_ret
  exact ⟨ret_bool (by simp), rfl⟩
theorem cmps_any (a b : ByteArray) (w : World) : Calls Try.prog 101 #[.string a, .string b] w fun e w' => e = .returned (.int .i64 (scmp a b)) ∧ w = w' := by
  rcases Bool.eq_false_or_eq_true (slt a b) with h | h
  · have HE := hid (scmp_lt h)
    unfold slt at h
    go_enter Try.func101, Try.ntmps101
    go_wp2_with (go_at_call 116; refine (isNaNs_any _ _).mono ?_; rintro e w' ⟨rfl, rfl⟩)
    go_ret
    exact ⟨ret_int HE.out.symm, rfl⟩
  · rcases Bool.eq_false_or_eq_true (slt b a) with g | g
    · have HE := hid (scmp_gt g)
      have h2 : (a.toList == b.toList) = false := seq_no (fun e => by subst e; rw [slt_irrefl] at g; cases g)
      unfold slt at h
      clear g
      go_enter Try.func101, Try.ntmps101
      go_wp2_with (go_at_call 116; refine (isNaNs_any _ _).mono ?_; rintro e w' ⟨rfl, rfl⟩)
      go_ret
      exact ⟨ret_int HE.out.symm, rfl⟩
    · obtain rfl := slt_tri h g
      have HE := hid (scmp_eq a)
      have h2 : (a.toList == a.toList) = true := by simp
      unfold slt at h
      clear g
      go_enter Try.func101, Try.ntmps101
      go_wp2_with (go_at_call 116; refine (isNaNs_any _ _).mono ?_; rintro e w' ⟨rfl, rfl⟩)
      go_ret
      exact ⟨ret_int HE.out.symm, rfl⟩
end Go.Proofs.Ytjgibmaadmkkgaa
