/- Plain: opening a gateway. -/
import Derived.Test.YtjgibmaadmkkgaaPlainSorted
import Derived.Test.YtjgibmaadmkkgaaGwPlain
namespace Go.Proofs.Ytjgibmaadmkkgaa.Pl
set_option linter.unusedVariables false
theorem Gw.err_cases (g : Gw) : g.err = 0 ∨ g.err = 1 ∨ g.err = 3 ∨ g.err = 7 := by
  unfold Gw.err
  split
  · split <;> simp
  · simp
theorem Gw.lt_trans (x y z : Gw) (h1 : Gw.lt x y = true) (h2 : Gw.lt y z = true) : Gw.lt x z = true := slt_trans h1 h2
theorem Gw.lt_cf (name : ByteArray) (x y : Gw) (h : Gw.lt x y = true) (hy : Gw.cf name y ≤ 0) : Gw.cf name x < 0 := by
  unfold Gw.cf at *
  rw [scmp_neg]
  rcases Bool.eq_false_or_eq_true (slt y.c name) with g | g
  · exact slt_trans h g
  · have h0 : scmp y.c name = 0 := by
      rcases (by omega : scmp y.c name < 0 ∨ scmp y.c name = 0) with q | q
      · rw [scmp_neg] at q; rw [q] at g; cases g
      · exact q
    rw [scmp_zero] at h0
    rw [← h0]
    exact h
theorem ckGw_inv {l : List Gw} (h : ckGw l = 0) : l.length ≤ 6 ∧ (∀ i, (hi : i < l.length) → (l[i]).err = 0) ∧ sorted Gw.lt l = true := ckL_inv Gw.err_cases h
theorem ckGw_smono {l : List Gw} (h : ckGw l = 0) (name : ByteArray) : SMono (Gw.cf name) l := smono_of Gw.lt_trans (Gw.lt_cf name) (ckGw_inv h).2.2
theorem Gw.err_inv {g : Gw} (h : g.err = 0) : lab g.c.data.toList = true ∧ wi g.a 0 4294967295 = true ∧ wi g.v 1 1000000 = true := by
  unfold Gw.err at h
  split at h
  · rename_i h1
    split at h
    · rename_i h2
      simp only [Bool.and_eq_true_iff] at h2
      exact ⟨h1, h2.1, h2.2⟩
    · omega
  · omega

/-- what Open gives: what is wrong, and the gateways -/
def openG (l : List Gw) (name : ByteArray) (a : Int) : Int × List Gw :=
  if ckGw l ≠ 0 then (ckGw l, [])
  else if (Gw.mk name a 1).err ≠ 0 then ((Gw.mk name a 1).err, [])
  else match l[low (Gw.cf name) l]? with
    | some x => if hit (Gw.cf name) l = true then (if x.v = 1000000 then (3, []) else (0, l.set (low (Gw.cf name) l) (Gw.mk name a (x.v + 1))))
        else if l.length = 6 then (2, []) else (0, l.take (low (Gw.cf name) l) ++ [Gw.mk name a 1] ++ l.drop (low (Gw.cf name) l))
    | none => if l.length = 6 then (2, []) else (0, l.take (low (Gw.cf name) l) ++ [Gw.mk name a 1] ++ l.drop (low (Gw.cf name) l))
theorem openG_ck {l : List Gw} {name : ByteArray} {a : Int} (h : ckGw l ≠ 0) : openG l name a = (ckGw l, []) := by simp [openG, h]
theorem openG_one {l : List Gw} {name : ByteArray} {a : Int} (h : ckGw l = 0) (h1 : (Gw.mk name a 1).err ≠ 0) : openG l name a = ((Gw.mk name a 1).err, []) := by simp [openG, h, h1]
theorem openG_max {l : List Gw} {name : ByteArray} {a : Int} {lo : Nat} (h : ckGw l = 0) (h1 : (Gw.mk name a 1).err = 0) (h2 : hit (Gw.cf name) l = true) (hlo : low (Gw.cf name) l = lo) (hlt : lo < l.length) (h3 : (l[lo]).v = 1000000) : openG l name a = (3, []) := by
  subst hlo
  simp [openG, h, h1, List.getElem?_eq_getElem hlt, h2, h3]
theorem openG_set {l : List Gw} {name : ByteArray} {a : Int} {lo : Nat} (h : ckGw l = 0) (h1 : (Gw.mk name a 1).err = 0) (h2 : hit (Gw.cf name) l = true) (hlo : low (Gw.cf name) l = lo) (hlt : lo < l.length) (h3 : (l[lo]).v ≠ 1000000) :
    openG l name a = (0, l.set lo (Gw.mk name a ((l[lo]).v + 1))) := by
  subst hlo
  simp [openG, h, h1, List.getElem?_eq_getElem hlt, h2, h3]
theorem openG_many {l : List Gw} {name : ByteArray} {a : Int} (h : ckGw l = 0) (h1 : (Gw.mk name a 1).err = 0) (h2 : hit (Gw.cf name) l = false) (h3 : l.length = 6) : openG l name a = (2, []) := by
  unfold openG
  simp only [h, h1, h2, h3]
  cases l[low (Gw.cf name) l]? <;> simp
theorem openG_new {l : List Gw} {name : ByteArray} {a : Int} (h : ckGw l = 0) (h1 : (Gw.mk name a 1).err = 0) (h2 : hit (Gw.cf name) l = false) (h3 : l.length ≠ 6) {lo : Nat} (hlo : low (Gw.cf name) l = lo) :
    openG l name a = (0, l.take lo ++ [Gw.mk name a 1] ++ l.drop lo) := by
  subst hlo
  unfold openG
  simp only [h, h1, h2]
  cases l[low (Gw.cf name) l]? <;> simp [h3]
end Go.Proofs.Ytjgibmaadmkkgaa.Pl
