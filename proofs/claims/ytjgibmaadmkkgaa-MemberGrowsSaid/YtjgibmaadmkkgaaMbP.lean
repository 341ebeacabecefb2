/- Plain: members. No program in sight (but for the order of texts). -/
import Derived.Test.YtjgibmaadmkkgaaPlainHear
import Derived.Test.YtjgibmaadmkkgaaPlainSame
import Derived.Test.YtjgibmaadmkkgaaPlainLabel
import Derived.Test.YtjgibmaadmkkgaaPlainPlace
import Derived.Test.YtjgibmaadmkkgaaFCom
namespace Go.Proofs.Ytjgibmaadmkkgaa.Pl
set_option linter.unusedVariables false
structure Mb where
  n : ByteArray
  st : Int
  lf : Int
  ad : Int
  sv : Bool
def Mb.enc (m : Mb) : List Value := [.string m.n, .int .i64 m.st, .int .i64 m.lf, .int .i64 m.ad, .bool m.sv]
def Mb.row (m : Mb) : List V := [.v (.string m.n), .v (.int .i64 m.st), .v (.int .i64 m.lf), .v (.int .i64 m.ad), .v (.bool m.sv)]
theorem Mb.enc_len (m : Mb) : m.enc.length = 5 := rfl
theorem Mb.enc_one (m : Mb) : ∀ u ∈ m.enc, u.oneCell' = true := by
  intro u hu
  simp [Mb.enc] at hu
  rcases hu with rfl | rfl | rfl | rfl | rfl <;> rfl
instance : FlatRow Mb.row := ⟨fun x u hu => by simp [Mb.row] at hu; rcases hu with rfl | rfl | rfl | rfl | rfl <;> exact ⟨_, rfl⟩⟩
def Mb.ok (m : Mb) : Prop := m.n.size ≤ 9223372036854775807
/-- what is wrong with one member -/
def Mb.err (m : Mb) : Int := if lab m.n.data.toList then (if wi m.st 1 4 then (if wi m.lf 1 1000000 && wi m.ad 0 4294967295 then 0 else 3) else 7) else 1
def Mb.lt (g h : Mb) : Bool := slt g.n h.n
def ckMb (l : List Mb) : Int := ckL 20 Mb.err Mb.lt l
def Mb.cf (name : ByteArray) (g : Mb) : Int := scmp g.n name
def Mb.kf (g x : Mb) : Int := Mb.cf g.n x
/-- the comparison of two of one name -/
def Mb.cmp (g x : Mb) : Int := firstNZ [icmp g.lf x.lf, icmp g.st x.st, icmp g.ad x.ad, icmp (b2i g.sv) (b2i x.sv)]
def Mb.nw (g x : Mb) : Bool := decide (0 < Mb.cmp g x)
def Mb.is (name : ByteArray) (m : Mb) : Bool := m.n.toList == name.toList
def Mb.same (g h : Mb) : Bool := (g.n.toList == h.n.toList) && ((g.st == h.st) && ((g.lf == h.lf) && ((g.ad == h.ad) && ((g.sv == h.sv) && true))))
theorem Mb.same_iff {g h : Mb} : Mb.same g h = true ↔ g = h := by
  obtain ⟨a, b, c, d, e⟩ := g
  obtain ⟨a', b', c', d', e'⟩ := h
  have tl : ∀ a b : ByteArray, a.toList = b.toList ↔ a = b := fun a b => ⟨toList_inj, fun h => by rw [h]⟩
  simp only [Mb.same, Bool.and_true, Bool.and_eq_true, beq_iff_eq, tl, Mb.mk.injEq]
theorem Mb.err_cases (m : Mb) : m.err = 0 ∨ m.err = 1 ∨ m.err = 3 ∨ m.err = 7 := by
  unfold Mb.err
  split
  · split
    · split <;> simp
    · simp
  · simp
theorem Mb.lt_trans (x y z : Mb) (h1 : Mb.lt x y = true) (h2 : Mb.lt y z = true) : Mb.lt x z = true := slt_trans h1 h2
theorem Mb.ord : Ord Mb.lt Mb.kf where
  neg := fun g x => by unfold Mb.kf Mb.cf Mb.lt; exact scmp_neg
  pos := fun g x => by
    unfold Mb.kf Mb.cf Mb.lt
    constructor
    · intro h
      rcases Bool.eq_false_or_eq_true (slt g.n x.n) with q | q
      · exact q
      · rcases Bool.eq_false_or_eq_true (slt x.n g.n) with p | p
        · rw [scmp_lt p] at h; omega
        · have := slt_tri q p
          rw [this, scmp_eq] at h; omega
    · intro h; rw [scmp_gt h]; omega
  trans := Mb.lt_trans
  left := fun g x y h => by
    unfold Mb.kf Mb.cf at h
    rw [scmp_zero] at h
    unfold Mb.lt; rw [h]
  right := fun g x y h => by
    unfold Mb.kf Mb.cf at h
    rw [scmp_zero] at h
    unfold Mb.lt; rw [h]
theorem Mb.lt_cf (name : ByteArray) (x y : Mb) (h : Mb.lt x y = true) (hy : Mb.cf name y ≤ 0) : Mb.cf name x < 0 := by
  unfold Mb.cf at *
  rw [scmp_neg]
  rcases Bool.eq_false_or_eq_true (slt y.n name) with g | g
  · exact slt_trans h g
  · have h0 : scmp y.n name = 0 := by
      rcases (by omega : scmp y.n name < 0 ∨ scmp y.n name = 0) with q | q
      · rw [scmp_neg] at q; rw [q] at g; cases g
      · exact q
    rw [scmp_zero] at h0
    rw [← h0]
    exact h
theorem ckMb_inv {l : List Mb} (h : ckMb l = 0) : l.length ≤ 20 ∧ (∀ i, (hi : i < l.length) → (l[i]).err = 0) ∧ sorted Mb.lt l = true := ckL_inv Mb.err_cases h
theorem Mb.smono {l : List Mb} (h : sorted Mb.lt l = true) (name : ByteArray) : SMono (Mb.cf name) l := smono_of Mb.lt_trans (Mb.lt_cf name) h
/-- does one stand behind, or where the other one stands? -/
def Mb.ge (m x : Mb) : Bool := !(Op.bytesLess x.n.toList m.n.toList)
def Mb.ne (m x : Mb) : Bool := !(x.n.toList == m.n.toList)
theorem Mb.ge_eq (m : Mb) : Mb.ge m = fun x => decide (0 ≤ Mb.kf m x) := by
  funext x
  have h := scmp_neg (a := x.n) (b := m.n)
  unfold Mb.ge Mb.kf Mb.cf
  unfold slt at h
  cases hb : Op.bytesLess x.n.toList m.n.toList with
  | true => have := h.2 hb; simp; omega
  | false =>
    have : ¬ scmp x.n m.n < 0 := fun e => by rw [h.1 e] at hb; cases hb
    simp; omega
theorem Mb.is_eq (name : ByteArray) : Mb.is name = fun x => decide (Mb.cf name x = 0) := by
  funext x
  unfold Mb.is Mb.cf
  by_cases h : x.n = name
  · rw [h, scmp_eq]; simp
  · have h2 : scmp x.n name ≠ 0 := fun e => h (scmp_zero.1 e)
    rw [seq_no h]; simp [h2]
theorem Mb.ne_eq (m : Mb) : Mb.ne m = fun x => decide (Mb.kf m x ≠ 0) := by
  funext x
  have := congrFun (Mb.is_eq m.n) x
  unfold Mb.is at this
  unfold Mb.ne Mb.kf
  rw [this]; simp
theorem Mb.at_eq {l : List Mb} (hs : sorted Mb.lt l = true) (name : ByteArray) : at_ (Mb.is name) l = if hit (Mb.cf name) l = true then (low (Mb.cf name) l : Int) else -1 := by
  rw [Mb.is_eq]; exact at_sorted (Mb.smono hs name)
theorem Mb.putL_eq {l : List Mb} (hs : sorted Mb.lt l = true) {m : Mb} (h : hearF Mb.kf Mb.nw l m = true) : putL (Mb.ge m) (Mb.ne m) m l = upd Mb.kf Mb.nw l m := by
  rw [Mb.ge_eq, Mb.ne_eq, upd_put h]
  exact putL_sorted (Mb.smono hs m.n) m
/-- what Hear gives: what is wrong, the members, and whether it was news -/
def hearM (l : List Mb) (m : Mb) : Int × List Mb × Bool :=
  if ckMb l ≠ 0 then (ckMb l, [], false) else if m.err ≠ 0 then (m.err, [], false) else if 20 < (upd Mb.kf Mb.nw l m).length then (2, [], false) else (0, upd Mb.kf Mb.nw l m, hearF Mb.kf Mb.nw l m)
theorem hearM_ck {l : List Mb} {m : Mb} (h : ckMb l ≠ 0) : hearM l m = (ckMb l, [], false) := by simp [hearM, h]
theorem hearM_one {l : List Mb} {m : Mb} (h : ckMb l = 0) (h1 : m.err ≠ 0) : hearM l m = (m.err, [], false) := by simp [hearM, h, h1]
theorem hearM_many {l : List Mb} {m : Mb} (h : ckMb l = 0) (h1 : m.err = 0) (h2 : 20 < (upd Mb.kf Mb.nw l m).length) : hearM l m = (2, [], false) := by simp [hearM, h, h1, h2]
theorem hearM_ok {l : List Mb} {m : Mb} (h : ckMb l = 0) (h1 : m.err = 0) (h2 : ¬ 20 < (upd Mb.kf Mb.nw l m).length) : hearM l m = (0, upd Mb.kf Mb.nw l m, hearF Mb.kf Mb.nw l m) := by simp [hearM, h, h1, h2]
/-- what Join gives -/
def joinM (a b : List Mb) : Int × List Mb :=
  if ckMb a ≠ 0 then (ckMb a, []) else if ckMb b ≠ 0 then (ckMb b, []) else if 20 < (joinL Mb.kf Mb.nw a b).length then (2, []) else (0, joinL Mb.kf Mb.nw a b)
theorem joinM_bad {a b : List Mb} (h : firstErr ckMb [a, b] ≠ 0) : joinM a b = (firstErr ckMb [a, b], []) := by
  by_cases h1 : ckMb a = 0
  · by_cases h2 : ckMb b = 0
    · simp [firstErr, h1, h2] at h
    · simp [joinM, firstErr, h1, h2]
  · simp [joinM, firstErr, h1]
theorem first_two {α : Type} {e : α → Int} {a b : α} (h : firstErr e [a, b] = 0) : e a = 0 ∧ e b = 0 := by
  by_cases h1 : e a = 0
  · by_cases h2 : e b = 0
    · exact ⟨h1, h2⟩
    · simp [firstErr, h1, h2] at h
  · simp [firstErr, h1] at h
theorem joinM_many {a b : List Mb} (h : ckMb a = 0) (h1 : ckMb b = 0) (h2 : 20 < (joinL Mb.kf Mb.nw a b).length) : joinM a b = (2, []) := by simp [joinM, h, h1, h2]
theorem joinM_ok {a b : List Mb} (h : ckMb a = 0) (h1 : ckMb b = 0) (h2 : ¬ 20 < (joinL Mb.kf Mb.nw a b).length) : joinM a b = (0, joinL Mb.kf Mb.nw a b) := by simp [joinM, h, h1, h2]
/-- one that lives again -/
def Mb.up (x : Mb) : Mb := ⟨x.n, 1, x.lf + 1, x.ad, x.sv⟩
theorem Mb.up_nw (x : Mb) : Mb.nw x.up x = true := by
  have h : x.up.lf ≠ x.lf := by show x.lf + 1 ≠ x.lf; omega
  unfold Mb.nw Mb.cmp
  rw [nz_ne (by simpa using h)]
  exact decide_eq_true (by show x.lf < x.lf + 1; omega)
/-- what Refute gives, of members that are right -/
def refR (l : List Mb) (me : ByteArray) : Int × List Mb × Bool := match l[low (Mb.cf me) l]? with
  | some x => if hit (Mb.cf me) l = true then (if x.st = 1 then (0, l, false) else if x.st = 4 then (0, l, false) else if x.lf = 1000000 then (3, [], false) else (0, l.set (low (Mb.cf me) l) x.up, true)) else (0, l, false)
  | none => (0, l, false)
def refM (l : List Mb) (me : ByteArray) : Int × List Mb × Bool :=
  if ckMb l ≠ 0 then (ckMb l, [], false) else if lab me.data.toList = false then (1, [], false) else refR l me
theorem refR_miss {l : List Mb} {me : ByteArray} (h : hit (Mb.cf me) l = false) : refR l me = (0, l, false) := by unfold refR; split <;> simp [h]
theorem refR_hit {l : List Mb} {me : ByteArray} (h : hit (Mb.cf me) l = true) : refR l me = (if (l[low (Mb.cf me) l]'(hit_lt h)).st = 1 then (0, l, false) else if (l[low (Mb.cf me) l]'(hit_lt h)).st = 4 then (0, l, false) else if (l[low (Mb.cf me) l]'(hit_lt h)).lf = 1000000 then (3, [], false) else (0, l.set (low (Mb.cf me) l) (l[low (Mb.cf me) l]'(hit_lt h)).up, true)) := by
  unfold refR; rw [List.getElem?_eq_getElem (hit_lt h)]; simp [h]
theorem refM_ck {l : List Mb} {me : ByteArray} (h : ckMb l ≠ 0) : refM l me = (ckMb l, [], false) := by simp [refM, h]
theorem refM_lab {l : List Mb} {me : ByteArray} (h : ckMb l = 0) (h1 : lab me.data.toList = false) : refM l me = (1, [], false) := by simp [refM, h, h1]
theorem refM_ok {l : List Mb} {me : ByteArray} (h : ckMb l = 0) (h1 : lab me.data.toList = true) : refM l me = refR l me := by simp [refM, h, h1]
/-- the same key: the same place -/
theorem Mb.up_upd {l : List Mb} {me : ByteArray} (h : hit (Mb.cf me) l = true) : upd Mb.kf Mb.nw l (l[low (Mb.cf me) l]'(hit_lt h)).up = l.set (low (Mb.cf me) l) (l[low (Mb.cf me) l]'(hit_lt h)).up := by
  have h0 : (l[low (Mb.cf me) l]'(hit_lt h)).n = me := scmp_zero.1 (hit_zero h)
  have e : Mb.kf (l[low (Mb.cf me) l]'(hit_lt h)).up = Mb.cf me := by funext x; show Mb.cf (l[low (Mb.cf me) l]'(hit_lt h)).n x = _; rw [h0]
  have h1 : hit (Mb.kf (l[low (Mb.cf me) l]'(hit_lt h)).up) l = true := by rw [e]; exact h
  have hlow : low (Mb.kf (l[low (Mb.cf me) l]'(hit_lt h)).up) l = low (Mb.cf me) l := by rw [e]
  have := upd_set (nw := Mb.nw) (cf := Mb.kf) hlow (hit_lt h) (Mb.up_nw _)
  rw [this]; simp only [putAt, h1, hlow, if_true]
theorem Mb.up_hear {l : List Mb} {me : ByteArray} (h : hit (Mb.cf me) l = true) : hearF Mb.kf Mb.nw l (l[low (Mb.cf me) l]'(hit_lt h)).up = true := by
  have h0 : (l[low (Mb.cf me) l]'(hit_lt h)).n = me := scmp_zero.1 (hit_zero h)
  have e : Mb.kf (l[low (Mb.cf me) l]'(hit_lt h)).up = Mb.cf me := by funext x; show Mb.cf (l[low (Mb.cf me) l]'(hit_lt h)).n x = _; rw [h0]
  unfold hearF
  rw [e, List.getElem?_eq_getElem (hit_lt h)]
  simp [h, Mb.up_nw]
def liveS (l : List Mb) : List ByteArray := (l.filter fun m => decide (m.st ≤ 2)).map (·.n)
theorem liveS_next {l : List Mb} {k : Nat} (hk : k < l.length) : liveS (l.take (k + 1)) = if (l[k]).st ≤ 2 then liveS (l.take k) ++ [(l[k]).n] else liveS (l.take k) := by
  unfold liveS
  rw [take_snoc_ hk, List.filter_append, List.map_append]
  split <;> rename_i h <;> simp [h]
theorem liveS_len (l : List Mb) : (liveS l).length ≤ l.length := by unfold liveS; rw [List.length_map]; exact List.length_filter_le _ _
def liveM (l : List Mb) : Int × List ByteArray := if ckMb l ≠ 0 then (ckMb l, []) else (0, liveS l)
theorem Mb.err_inv {m : Mb} (h : m.err = 0) : lab m.n.data.toList = true ∧ (1 ≤ m.st ∧ m.st ≤ 4) ∧ (1 ≤ m.lf ∧ m.lf ≤ 1000000) ∧ (0 ≤ m.ad ∧ m.ad ≤ 4294967295) := by
  unfold Mb.err at h
  split at h
  · rename_i h1
    split at h
    · rename_i h2
      split at h
      · rename_i h3
        rw [Bool.and_eq_true, wi_iff, wi_iff] at h3
        exact ⟨h1, wi_iff.1 h2, h3⟩
      · omega
    · omega
  · omega
theorem refM_a {A : ByteArray} (h : lab A.data.toList = true) : refM [⟨A, 2, 1, 0, false⟩] A = (0, [⟨A, 1, 2, 0, false⟩], true) := by
  have h0 : ckMb [⟨A, 2, 1, 0, false⟩] = 0 := by
    simp [ckMb, ckL, firstErr, sorted, Mb.err, h, wi]
  rw [refM_ok h0 h]
  simp [refR, low, hit, Mb.cf, scmp_eq, Mb.up]
theorem mb_dec (row : List V) (h : Fits [.s, .i, .i, .i, .b] row) : ∃ m : Mb, row = m.row ∧ m.ok := by
  obtain ⟨u0, _, rfl, f0, h⟩ := fits_cons h
  obtain ⟨u1, _, rfl, f1, h⟩ := fits_cons h
  obtain ⟨u2, _, rfl, f2, h⟩ := fits_cons h
  obtain ⟨u3, _, rfl, f3, h⟩ := fits_cons h
  obtain ⟨u4, _, rfl, f4, h⟩ := fits_cons h
  obtain rfl := fits_nil h
  obtain ⟨n, rfl, hn⟩ := fit_s f0
  obtain ⟨a, rfl, _⟩ := fit_i f1
  obtain ⟨b, rfl, _⟩ := fit_i f2
  obtain ⟨c, rfl, _⟩ := fit_i f3
  obtain ⟨d, rfl⟩ := fit_b f4
  exact ⟨⟨n, a, b, c, d⟩, rfl, hn⟩
end Go.Proofs.Ytjgibmaadmkkgaa.Pl
