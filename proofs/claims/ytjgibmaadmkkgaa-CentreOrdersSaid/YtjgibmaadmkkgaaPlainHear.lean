/- Plain: hearing of one more. No program in sight. -/
import Derived.Test.YtjgibmaadmkkgaaPlainJoin
namespace Go.Proofs.Ytjgibmaadmkkgaa.Pl
set_option linter.unusedVariables false
section
variable {α : Type} {cf : α → α → Int} {nw : α → α → Bool} {l : List α} {g : α}
/-- was it news? -/
def hearF (cf : α → α → Int) (nw : α → α → Bool) (l : List α) (g : α) : Bool := match l[low (cf g) l]? with
  | some x => !(hit (cf g) l) || nw g x
  | none => true
theorem hearF_miss (h : hit (cf g) l = false) : hearF cf nw l g = true := by unfold hearF; split <;> simp [h]
theorem hearF_hit (h : hit (cf g) l = true) : hearF cf nw l g = nw g (l[low (cf g) l]'(hit_lt h)) := by
  unfold hearF; rw [List.getElem?_eq_getElem (hit_lt h)]; simp [h]
theorem upd_miss (h : hit (cf g) l = false) : upd cf nw l g = l.take (low (cf g) l) ++ [g] ++ l.drop (low (cf g) l) := by
  rw [upd_new h]; simp [putAt, h]
theorem upd_newer (h : hit (cf g) l = true) (h2 : nw g (l[low (cf g) l]'(hit_lt h)) = true) : upd cf nw l g = l.set (low (cf g) l) g := by
  rw [upd_set rfl (hit_lt h) h2]; simp [putAt, h]
theorem upd_older (h : hit (cf g) l = true) (h2 : nw g (l[low (cf g) l]'(hit_lt h)) = false) : upd cf nw l g = l := upd_old h rfl (hit_lt h) h2
theorem upd_put (h : hearF cf nw l g = true) : upd cf nw l g = putAt (cf g) g l := by
  rcases Bool.eq_false_or_eq_true (hit (cf g) l) with q | q
  · rw [hearF_hit q] at h
    exact upd_set rfl (hit_lt q) h
  · exact upd_new q
end
end Go.Proofs.Ytjgibmaadmkkgaa.Pl
