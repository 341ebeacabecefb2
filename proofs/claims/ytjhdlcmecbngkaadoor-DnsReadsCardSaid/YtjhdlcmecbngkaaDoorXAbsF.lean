/- The framework: part of this claim. -/
import Derived.Test.YtjhdlcmecbngkaaDoorXAbsE
import Derived.IntWalk
set_option linter.unusedSimpArgs false
namespace Go.Proofs.YtjhdlcmecbngkaaDoor
open Go.RowKit
set_option linter.unusedVariables false
def tmpsOfRes : List ResultVar → Option (List Nat)
 | [] => some []
 | .tmp t :: r => match tmpsOfRes r with
  | some ts => some (t :: ts)
  | none => none
 | .cell _ _ :: _ => none
theorem tmpsOfRes_spec : ∀ (l : List ResultVar) {ts : List Nat}, tmpsOfRes l = some ts → l = ts.map .tmp
 | [], ts, h => by simp only [tmpsOfRes, Option.some.injEq] at h; subst h; rfl
 | .tmp t :: r, ts, h => by
  simp only [tmpsOfRes] at h
  split at h
  ·rename_i ts' h'
   simp only [Option.some.injEq] at h; subst h
   rw [tmpsOfRes_spec r h']; rfl
  ·cases h
 | .cell a t :: r, ts, h => by simp [tmpsOfRes] at h
def chkFun (P : Program) (f np : Nat) : Option (RCode × List Nat) :=
 match P.funcs[f]? with
 | none => none
 | some fn => match fn.body with
  | none => none
  | some code => if (fn.name == "runtime.NumGoroutine") || !(decide (np ≤ fn.ntmps)) then none else match resCode P fn.ntmps code, tmpsOfRes fn.results.toList with
   | some rc, some ts => some (rc, ts)
   | _, _ => none
theorem fun_of {P : Program} {f : FuncId} {np : Nat} {rc : RCode} {ts : List Nat} {ps rs : List Par} (hc : chkFun P f np = some (rc, ts)) (hn : ps.length = np) (h : wpv P rc (retQ ts rs) (entry ps)) : Fun P f ps rs := by
 unfold chkFun at hc
 split at hc
 ·cases hc
 ·rename_i fn hf
  split at hc
  ·cases hc
  ·rename_i code hb
   split at hc
   ·cases hc
   ·rename_i hk
    simp only [Bool.or_eq_true, not_or, Bool.not_eq_true', Bool.not_eq_true, decide_eq_false_iff_not, Classical.not_not] at hk
    split at hc
    ·rename_i rc' ts' h1 h2
     simp only [Option.some.injEq, Prod.mk.injEq] at hc
     obtain ⟨rfl, rfl⟩ := hc
     refine fun_intro hf hb ?_ h1 ?_ (tmpsOfRes_spec _ h2) h
     ·exact hk.1
     ·rw [hn]; simpa using hk.2
    ·cases hc
theorem wrap_ok {n : Int} (h1 : -9223372036854775808 ≤ n) (h2 : n ≤ 9223372036854775807) : IntKind.i64.wrap n = n := IntWalk.i64_in n ⟨h1, h2⟩
theorem adapt_keep {st st' : St} (he : ∀ i, st'.env i = .any ∨ st'.env i = st.env i) (hH : ∀ id e, st'.H id = some e → st.H id = some e) (hD : st'.D = st.D) : Adapt st st' := fun c a w ⟨R, G, h⟩ => by
 refine ⟨R, G, fun i => ?_, h.hr.sub hH, h.lt, h.src, h.old, h.fr, h.n, h.defers, hD.trans h.die, h.gle⟩
 rcases he i with q | q
 ·rw [q]; exact .any _
 ·rw [q]; exact h.env i
end Go.Proofs.YtjhdlcmecbngkaaDoor
