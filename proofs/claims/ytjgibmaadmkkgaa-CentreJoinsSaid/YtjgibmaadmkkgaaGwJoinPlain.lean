/- Plain: gateways that are joined. -/
import Derived.Test.YtjgibmaadmkkgaaPlainJoin
import Derived.Test.YtjgibmaadmkkgaaGwOpenPlain
namespace Go.Proofs.Ytjgibmaadmkkgaa.Pl
set_option linter.unusedVariables false
/-- the first against the second's centre -/
def Gw.kf (g x : Gw) : Int := Gw.cf g.c x
/-- is the first one newer? -/
def Gw.nw (g x : Gw) : Bool := decide (x.v < g.v) || (decide (g.v = x.v) && decide (x.a < g.a))
theorem Gw.ord : Ord Gw.lt Gw.kf where
  neg := fun g x => by unfold Gw.kf Gw.cf Gw.lt; exact scmp_neg
  pos := fun g x => by
    unfold Gw.kf Gw.cf Gw.lt
    constructor
    · intro h
      rcases Bool.eq_false_or_eq_true (slt g.c x.c) with q | q
      · exact q
      · rcases Bool.eq_false_or_eq_true (slt x.c g.c) with p | p
        · rw [scmp_lt p] at h; omega
        · have := slt_tri q p
          rw [this, scmp_eq] at h; omega
    · intro h; rw [scmp_gt h]; omega
  trans := Gw.lt_trans
  left := fun g x y h => by
    unfold Gw.kf Gw.cf at h
    rw [scmp_zero] at h
    unfold Gw.lt; rw [h]
  right := fun g x y h => by
    unfold Gw.kf Gw.cf at h
    rw [scmp_zero] at h
    unfold Gw.lt; rw [h]
/-- what Join gives: what is wrong, and the gateways -/
def joinG (a b : List Gw) : Int × List Gw :=
  if ckGw a ≠ 0 then (ckGw a, []) else if ckGw b ≠ 0 then (ckGw b, []) else if 6 < (joinL Gw.kf Gw.nw a b).length then (2, []) else (0, joinL Gw.kf Gw.nw a b)
theorem joinG_sorted {a b : List Gw} (h : ckGw a = 0) (k : Nat) : sorted Gw.lt (joinL Gw.kf Gw.nw a (b.take k)) = true := Gw.ord.join _ _ (ckGw_inv h).2.2
theorem joinG_smono {a b : List Gw} (h : ckGw a = 0) (k : Nat) (name : ByteArray) : SMono (Gw.cf name) (joinL Gw.kf Gw.nw a (b.take k)) := smono_of Gw.lt_trans (Gw.lt_cf name) (joinG_sorted h k)
theorem joinG_len {a b : List Gw} (ha : ckGw a = 0) (hb : ckGw b = 0) (k : Nat) : (joinL Gw.kf Gw.nw a (b.take k)).length ≤ 12 := by
  have h1 := (ckGw_inv ha).1
  have h2 := (ckGw_inv hb).1
  have h3 := (joinL_len (cf := Gw.kf) Gw.nw (b.take k) a).2
  rw [List.length_take] at h3
  omega
end Go.Proofs.Ytjgibmaadmkkgaa.Pl
