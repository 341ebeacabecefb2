/- Plain: gateways. No program in sight (but for the order of texts). -/
import Derived.Test.YtjgibmaadmkkgaaPlainHear
import Derived.Test.YtjgibmaadmkkgaaPlainSame
import Derived.Test.YtjgibmaadmkkgaaPlainLabel
import Derived.Test.YtjgibmaadmkkgaaPlainPlace
import Derived.Test.YtjgibmaadmkkgaaPlainRep
import Derived.Test.YtjgibmaadmkkgaaFCom
namespace Go.Proofs.Ytjgibmaadmkkgaa.Pl
set_option linter.unusedVariables false
structure Gw where
  c : ByteArray
  a : Int
  v : Int
def Gw.enc (g : Gw) : List Value := [.string g.c, .int .i64 g.a, .int .i64 g.v]
def Gw.row (g : Gw) : List V := [.v (.string g.c), .v (.int .i64 g.a), .v (.int .i64 g.v)]
theorem Gw.enc_len (g : Gw) : g.enc.length = 3 := rfl
theorem Gw.enc_one (g : Gw) : ∀ u ∈ g.enc, u.oneCell' = true := by
  intro u hu
  simp [Gw.enc] at hu
  rcases hu with rfl | rfl | rfl <;> rfl
instance : FlatRow Gw.row := ⟨fun x u hu => by simp [Gw.row] at hu; rcases hu with rfl | rfl | rfl <;> exact ⟨_, rfl⟩⟩
def Gw.ok (g : Gw) : Prop := g.c.size ≤ 9223372036854775807
/-- what is wrong with one gateway -/
def Gw.err (g : Gw) : Int := if lab g.c.data.toList then (if wi g.a 0 4294967295 && wi g.v 1 1000000 then 0 else 3) else 1
def Gw.lt (g h : Gw) : Bool := slt g.c h.c
def ckGw (l : List Gw) : Int := ckL 6 Gw.err Gw.lt l
def Gw.cf (name : ByteArray) (g : Gw) : Int := scmp g.c name
def Gw.kf (g x : Gw) : Int := Gw.cf g.c x
/-- the comparison of two of one name -/
def Gw.cmp (g x : Gw) : Int := firstNZ [icmp g.v x.v, icmp g.a x.a]
def Gw.nw (g x : Gw) : Bool := decide (0 < Gw.cmp g x)
def Gw.is (name : ByteArray) (m : Gw) : Bool := m.c.toList == name.toList
def Gw.same (g h : Gw) : Bool := (g.c.toList == h.c.toList) && ((g.a == h.a) && ((g.v == h.v) && true))
theorem Gw.same_iff {g h : Gw} : Gw.same g h = true ↔ g = h := by
  obtain ⟨a, b, c⟩ := g
  obtain ⟨a', b', c'⟩ := h
  have tl : ∀ a b : ByteArray, a.toList = b.toList ↔ a = b := fun a b => ⟨toList_inj, fun h => by rw [h]⟩
  simp only [Gw.same, Bool.and_true, Bool.and_eq_true, beq_iff_eq, tl, Gw.mk.injEq]
theorem Gw.err_cases (m : Gw) : m.err = 0 ∨ m.err = 1 ∨ m.err = 3 ∨ m.err = 7 := by
  unfold Gw.err
  split
  · split <;> simp
  · simp
theorem Gw.lt_trans (x y z : Gw) (h1 : Gw.lt x y = true) (h2 : Gw.lt y z = true) : Gw.lt x z = true := slt_trans h1 h2
theorem Gw.ord : Ord Gw.lt Gw.kf where
  neg := fun g x => by unfold Gw.kf Gw.cf Gw.lt; exact scmp_neg
  pos := fun g x => by
    unfold Gw.kf Gw.cf Gw.lt
    constructor
    · intro h
      rcases Bool.eq_false_or_eq_true (slt g.c x.c) with q | q
      · exact q
      · rcases Bool.eq_false_or_eq_true (slt x.c g.c) with p | p
        · rw [scmp_lt p] at h; omega
        · have := slt_tri q p
          rw [this, scmp_eq] at h; omega
    · intro h; rw [scmp_gt h]; omega
  trans := Gw.lt_trans
  left := fun g x y h => by
    unfold Gw.kf Gw.cf at h
    rw [scmp_zero] at h
    unfold Gw.lt; rw [h]
  right := fun g x y h => by
    unfold Gw.kf Gw.cf at h
    rw [scmp_zero] at h
    unfold Gw.lt; rw [h]
theorem Gw.lt_cf (name : ByteArray) (x y : Gw) (h : Gw.lt x y = true) (hy : Gw.cf name y ≤ 0) : Gw.cf name x < 0 := by
  unfold Gw.cf at *
  rw [scmp_neg]
  rcases Bool.eq_false_or_eq_true (slt y.c name) with g | g
  · exact slt_trans h g
  · have h0 : scmp y.c name = 0 := by
      rcases (by omega : scmp y.c name < 0 ∨ scmp y.c name = 0) with q | q
      · rw [scmp_neg] at q; rw [q] at g; cases g
      · exact q
    rw [scmp_zero] at h0
    rw [← h0]
    exact h
theorem ckGw_inv {l : List Gw} (h : ckGw l = 0) : l.length ≤ 6 ∧ (∀ i, (hi : i < l.length) → (l[i]).err = 0) ∧ sorted Gw.lt l = true := ckL_inv Gw.err_cases h
theorem Gw.smono {l : List Gw} (h : sorted Gw.lt l = true) (name : ByteArray) : SMono (Gw.cf name) l := smono_of Gw.lt_trans (Gw.lt_cf name) h
/-- does one stand behind, or where the other one stands? -/
def Gw.ge (m x : Gw) : Bool := !(Op.bytesLess x.c.toList m.c.toList)
def Gw.ne (m x : Gw) : Bool := !(x.c.toList == m.c.toList)
theorem Gw.ge_eq (m : Gw) : Gw.ge m = fun x => decide (0 ≤ Gw.kf m x) := by
  funext x
  have h := scmp_neg (a := x.c) (b := m.c)
  unfold Gw.ge Gw.kf Gw.cf
  unfold slt at h
  cases hb : Op.bytesLess x.c.toList m.c.toList with
  | true => have := h.2 hb; simp; omega
  | false =>
    have : ¬ scmp x.c m.c < 0 := fun e => by rw [h.1 e] at hb; cases hb
    simp; omega
theorem Gw.is_eq (name : ByteArray) : Gw.is name = fun x => decide (Gw.cf name x = 0) := by
  funext x
  unfold Gw.is Gw.cf
  by_cases h : x.c = name
  · rw [h, scmp_eq]; simp
  · have h2 : scmp x.c name ≠ 0 := fun e => h (scmp_zero.1 e)
    rw [seq_no h]; simp [h2]
theorem Gw.ne_eq (m : Gw) : Gw.ne m = fun x => decide (Gw.kf m x ≠ 0) := by
  funext x
  have := congrFun (Gw.is_eq m.c) x
  unfold Gw.is at this
  unfold Gw.ne Gw.kf
  rw [this]; simp
theorem Gw.at_eq {l : List Gw} (hs : sorted Gw.lt l = true) (name : ByteArray) : at_ (Gw.is name) l = if hit (Gw.cf name) l = true then (low (Gw.cf name) l : Int) else -1 := by
  rw [Gw.is_eq]; exact at_sorted (Gw.smono hs name)
theorem Gw.putL_eq {l : List Gw} (hs : sorted Gw.lt l = true) {m : Gw} (h : hearF Gw.kf Gw.nw l m = true) : putL (Gw.ge m) (Gw.ne m) m l = upd Gw.kf Gw.nw l m := by
  rw [Gw.ge_eq, Gw.ne_eq, upd_put h]
  exact putL_sorted (Gw.smono hs m.c) m
/-- what Open gives -/
def openG (l : List Gw) (name : ByteArray) (a : Int) : Int × List Gw :=
  if ckGw l ≠ 0 then (ckGw l, []) else if (⟨name, a, 1⟩ : Gw).err ≠ 0 then ((⟨name, a, 1⟩ : Gw).err, []) else
    match l[low (Gw.cf name) l]? with
    | some x => if hit (Gw.cf name) l = true then (if x.v = 1000000 then (3, []) else (0, l.set (low (Gw.cf name) l) ⟨name, a, x.v + 1⟩)) else (if l.length = 6 then (2, []) else (0, l.take (low (Gw.cf name) l) ++ [⟨name, a, 1⟩] ++ l.drop (low (Gw.cf name) l)))
    | none => if l.length = 6 then (2, []) else (0, l.take (low (Gw.cf name) l) ++ [⟨name, a, 1⟩] ++ l.drop (low (Gw.cf name) l))
theorem openG_ck {l : List Gw} {name : ByteArray} {a : Int} (h : ckGw l ≠ 0) : openG l name a = (ckGw l, []) := by simp [openG, h]
theorem openG_one {l : List Gw} {name : ByteArray} {a : Int} (h : ckGw l = 0) (h1 : (⟨name, a, 1⟩ : Gw).err ≠ 0) : openG l name a = ((⟨name, a, 1⟩ : Gw).err, []) := by simp [openG, h, h1]
theorem openG_miss {l : List Gw} {name : ByteArray} {a : Int} (h : ckGw l = 0) (h1 : (⟨name, a, 1⟩ : Gw).err = 0) (h2 : hit (Gw.cf name) l = false) : openG l name a = if l.length = 6 then (2, []) else (0, l.take (low (Gw.cf name) l) ++ [⟨name, a, 1⟩] ++ l.drop (low (Gw.cf name) l)) := by
  unfold openG
  rw [if_neg (by simpa using h), if_neg (by simpa using h1)]
  split <;> simp [h2]
theorem openG_hit {l : List Gw} {name : ByteArray} {a : Int} (h : ckGw l = 0) (h1 : (⟨name, a, 1⟩ : Gw).err = 0) (h2 : hit (Gw.cf name) l = true) : openG l name a = if (l[low (Gw.cf name) l]'(hit_lt h2)).v = 1000000 then (3, []) else (0, l.set (low (Gw.cf name) l) ⟨name, a, (l[low (Gw.cf name) l]'(hit_lt h2)).v + 1⟩) := by
  unfold openG
  rw [if_neg (by simpa using h), if_neg (by simpa using h1), List.getElem?_eq_getElem (hit_lt h2)]
  simp [h2]
/-- what Join gives -/
def joinG (a b : List Gw) : Int × List Gw :=
  if ckGw a ≠ 0 then (ckGw a, []) else if ckGw b ≠ 0 then (ckGw b, []) else if 6 < (joinL Gw.kf Gw.nw a b).length then (2, []) else (0, joinL Gw.kf Gw.nw a b)
theorem joinG_bad {a b : List Gw} (h : firstErr ckGw [a, b] ≠ 0) : joinG a b = (firstErr ckGw [a, b], []) := by
  by_cases h1 : ckGw a = 0
  · by_cases h2 : ckGw b = 0
    · simp [firstErr, h1, h2] at h
    · simp [joinG, firstErr, h1, h2]
  · simp [joinG, firstErr, h1]
theorem first_twoG {a b : List Gw} (h : firstErr ckGw [a, b] = 0) : ckGw a = 0 ∧ ckGw b = 0 := by
  by_cases h1 : ckGw a = 0
  · by_cases h2 : ckGw b = 0
    · exact ⟨h1, h2⟩
    · simp [firstErr, h1, h2] at h
  · simp [firstErr, h1] at h
theorem joinG_many {a b : List Gw} (h : ckGw a = 0) (h1 : ckGw b = 0) (h2 : 6 < (joinL Gw.kf Gw.nw a b).length) : joinG a b = (2, []) := by simp [joinG, h, h1, h2]
theorem joinG_ok {a b : List Gw} (h : ckGw a = 0) (h1 : ckGw b = 0) (h2 : ¬ 6 < (joinL Gw.kf Gw.nw a b).length) : joinG a b = (0, joinL Gw.kf Gw.nw a b) := by simp [joinG, h, h1, h2]
/-! tables -/
structure Rt where
  c : ByteArray
  a : Int
def Rt.row (r : Rt) : List V := [.v (.string r.c), .v (.int .i64 r.a)]
instance : FlatRow Rt.row := ⟨fun x u hu => by simp [Rt.row] at hu; rcases hu with rfl | rfl <;> exact ⟨_, rfl⟩⟩
def Rt.same (g h : Rt) : Bool := (g.c.toList == h.c.toList) && ((g.a == h.a) && true)
theorem Rt.same_iff {g h : Rt} : Rt.same g h = true ↔ g = h := by
  obtain ⟨a, b⟩ := g
  obtain ⟨a', b'⟩ := h
  have tl : ∀ a b : ByteArray, a.toList = b.toList ↔ a = b := fun a b => ⟨toList_inj, fun h => by rw [h]⟩
  simp only [Rt.same, Bool.and_true, Bool.and_eq_true, beq_iff_eq, tl, Rt.mk.injEq]
def tabS (here : ByteArray) (l : List Gw) : List Rt := (l.filter fun g => !(g.c.toList == here.toList)).map fun g => ⟨g.c, g.a⟩
theorem tabS_next {here : ByteArray} {l : List Gw} {k : Nat} (hk : k < l.length) : tabS here (l.take (k + 1)) = if (!((l[k]).c.toList == here.toList)) = true then tabS here (l.take k) ++ [⟨(l[k]).c, (l[k]).a⟩] else tabS here (l.take k) := by
  unfold tabS
  rw [take_snoc_ hk, List.filter_append, List.map_append]
  split <;> rename_i h <;> simp [h]
theorem tabS_len (here : ByteArray) (l : List Gw) : (tabS here l).length ≤ l.length := by unfold tabS; rw [List.length_map]; exact List.length_filter_le _ _
theorem tabS_mem {here : ByteArray} {l : List Gw} {r : Rt} (h : r ∈ tabS here l) : ∃ g ∈ l, r = ⟨g.c, g.a⟩ ∧ g.c ≠ here := by
  unfold tabS at h
  obtain ⟨g, hg, rfl⟩ := List.mem_map.1 h
  obtain ⟨h1, h2⟩ := List.mem_filter.1 hg
  refine ⟨g, h1, rfl, fun e => ?_⟩
  rw [e] at h2; simp at h2
/-- what Table gives -/
def tabG (l : List Gw) (here : ByteArray) : Int × List Rt := if ckGw l ≠ 0 then (ckGw l, []) else if lab here.data.toList = true then (0, tabS here l) else (1, [])
theorem tabG_ck {l : List Gw} {here : ByteArray} (h : ckGw l ≠ 0) : tabG l here = (ckGw l, []) := by simp [tabG, h]
theorem tabG_lab {l : List Gw} {here : ByteArray} (h : ckGw l = 0) (h1 : lab here.data.toList = false) : tabG l here = (1, []) := by simp [tabG, h, h1]
theorem tabG_ok {l : List Gw} {here : ByteArray} (h : ckGw l = 0) (h1 : lab here.data.toList = true) : tabG l here = (0, tabS here l) := by simp [tabG, h, h1]
theorem tabG_len (l : List Gw) (here : ByteArray) : (tabG l here).2.length ≤ l.length := by
  unfold tabG
  split
  · simp
  · split
    · exact tabS_len here l
    · simp
/-- what Next gives -/
def nextG (l : List Gw) (here to : ByteArray) : Int × Int :=
  if ckGw l ≠ 0 then (ckGw l, 0) else if lab here.data.toList = false then (1, 0) else if lab to.data.toList = false then (1, 0) else if (here.toList == to.toList) = true then (6, 0) else
    match l[low (Gw.cf to) l]? with
    | some x => if hit (Gw.cf to) l = true then (0, x.a) else (5, 0)
    | none => (5, 0)
theorem nextG_ck {l : List Gw} {here to : ByteArray} (h : ckGw l ≠ 0) : nextG l here to = (ckGw l, 0) := by simp [nextG, h]
theorem nextG_h {l : List Gw} {here to : ByteArray} (h : ckGw l = 0) (h1 : lab here.data.toList = false) : nextG l here to = (1, 0) := by simp [nextG, h, h1]
theorem nextG_t {l : List Gw} {here to : ByteArray} (h : ckGw l = 0) (h1 : lab here.data.toList = true) (h2 : lab to.data.toList = false) : nextG l here to = (1, 0) := by simp [nextG, h, h1, h2]
theorem nextG_s {l : List Gw} {here to : ByteArray} (h : ckGw l = 0) (h1 : lab here.data.toList = true) (h2 : lab to.data.toList = true) (h3 : (here.toList == to.toList) = true) : nextG l here to = (6, 0) := by
  unfold nextG
  rw [if_neg (by simpa using h), if_neg (by simp [h1]), if_neg (by simp [h2]), if_pos h3]
theorem nextG_miss {l : List Gw} {here to : ByteArray} (h : ckGw l = 0) (h1 : lab here.data.toList = true) (h2 : lab to.data.toList = true) (h3 : (here.toList == to.toList) = false) (h4 : hit (Gw.cf to) l = false) : nextG l here to = (5, 0) := by
  unfold nextG
  rw [if_neg (by simpa using h), if_neg (by simp [h1]), if_neg (by simp [h2]), if_neg (by simp [h3])]
  split <;> simp [h4]
theorem nextG_hit {l : List Gw} {here to : ByteArray} (h : ckGw l = 0) (h1 : lab here.data.toList = true) (h2 : lab to.data.toList = true) (h3 : (here.toList == to.toList) = false) (h4 : hit (Gw.cf to) l = true) : nextG l here to = (0, (l[low (Gw.cf to) l]'(hit_lt h4)).a) := by
  unfold nextG
  rw [if_neg (by simpa using h), if_neg (by simp [h1]), if_neg (by simp [h2]), if_neg (by simp [h3]), List.getElem?_eq_getElem (hit_lt h4)]
  simp [h4]
theorem Gw.err_inv {m : Gw} (h : m.err = 0) : lab m.c.data.toList = true ∧ (0 ≤ m.a ∧ m.a ≤ 4294967295) ∧ (1 ≤ m.v ∧ m.v ≤ 1000000) := by
  unfold Gw.err at h
  split at h
  · rename_i h1
    split at h
    · rename_i h2
      rw [Bool.and_eq_true, wi_iff, wi_iff] at h2
      exact ⟨h1, h2⟩
    · omega
  · omega
theorem gw_dec (row : List V) (h : Fits [.s, .i, .i] row) : ∃ m : Gw, row = m.row ∧ m.ok := by
  obtain ⟨u0, _, rfl, f0, h⟩ := fits_cons h
  obtain ⟨u1, _, rfl, f1, h⟩ := fits_cons h
  obtain ⟨u2, _, rfl, f2, h⟩ := fits_cons h
  obtain rfl := fits_nil h
  obtain ⟨n, rfl, hn⟩ := fit_s f0
  obtain ⟨a, rfl, _⟩ := fit_i f1
  obtain ⟨b, rfl, _⟩ := fit_i f2
  exact ⟨⟨n, a, b⟩, rfl, hn⟩
end Go.Proofs.Ytjgibmaadmkkgaa.Pl
