/- Plain: services. No program in sight (but for the order of texts). -/
import Derived.Test.YtckkeeicngblgaaPlainHear
import Derived.Test.YtckkeeicngblgaaPlainSame
import Derived.Test.YtckkeeicngblgaaPlainLabel
import Derived.Test.YtckkeeicngblgaaPlainPlace
import Derived.Test.YtckkeeicngblgaaFCom
namespace Go.Proofs.Ytckkeeicngblgaa.Pl
set_option linter.unusedVariables false
structure Sv where
  nd : ByteArray
  id : ByteArray
  nm : ByteArray
  tg : ByteArray
  ad : Int
  pt : Int
  ps : Bool
  vs : Int
  gn : Bool
def Sv.enc (m : Sv) : List Value := [.string m.nd, .string m.id, .string m.nm, .string m.tg, .int .i64 m.ad, .int .i64 m.pt, .bool m.ps, .int .i64 m.vs, .bool m.gn]
def Sv.row (m : Sv) : List V := [.v (.string m.nd), .v (.string m.id), .v (.string m.nm), .v (.string m.tg), .v (.int .i64 m.ad), .v (.int .i64 m.pt), .v (.bool m.ps), .v (.int .i64 m.vs), .v (.bool m.gn)]
theorem Sv.enc_len (m : Sv) : m.enc.length = 9 := rfl
theorem Sv.enc_one (m : Sv) : ∀ u ∈ m.enc, u.oneCell' = true := by
  intro u hu
  simp [Sv.enc] at hu
  rcases hu with rfl | rfl | rfl | rfl | rfl | rfl | rfl | rfl | rfl <;> rfl
instance : FlatRow Sv.row := ⟨fun x u hu => by simp [Sv.row] at hu; rcases hu with rfl | rfl | rfl | rfl | rfl | rfl | rfl | rfl | rfl <;> exact ⟨_, rfl⟩⟩
def Sv.ok (m : Sv) : Prop := m.nd.size ≤ 9223372036854775807 ∧ m.id.size ≤ 9223372036854775807 ∧ m.nm.size ≤ 9223372036854775807 ∧ m.tg.size ≤ 9223372036854775807
def emp (s : ByteArray) : Bool := s.toList == (ByteArray.mk #[]).toList
/-- none or a label -/
def mayb (s : ByteArray) : Bool := emp s || lab s.data.toList
/-- what is wrong with one service -/
def Sv.err (m : Sv) : Int := if lab m.nd.data.toList then (if lab m.id.data.toList then (if lab m.nm.data.toList then (if mayb m.tg then (if wi m.ad 0 4294967295 then (if wi m.pt 0 65535 then (if wi m.vs 1 1000000 then 0 else 3) else 3) else 3) else 1) else 1) else 1) else 1
def Sv.cf (nd id : ByteArray) (x : Sv) : Int := firstNZ [scmp x.nd nd, scmp x.id id]
def Sv.kf (g x : Sv) : Int := Sv.cf g.nd g.id x
def Sv.lt (g h : Sv) : Bool := decide (Sv.cf h.nd h.id g < 0)
def ckSv (l : List Sv) : Int := ckL 40 Sv.err Sv.lt l
/-- the comparison of two of one node and id -/
def Sv.cmp (g x : Sv) : Int := firstNZ [icmp g.vs x.vs, icmp (b2i g.gn) (b2i x.gn), scmp g.nm x.nm, scmp g.tg x.tg, icmp g.ad x.ad, icmp g.pt x.pt, icmp (b2i g.ps) (b2i x.ps)]
def Sv.nw (g x : Sv) : Bool := decide (0 < Sv.cmp g x)
def Sv.is (nd id : ByteArray) (m : Sv) : Bool := (m.nd.toList == nd.toList) && (m.id.toList == id.toList)
def Sv.same (g h : Sv) : Bool := (g.nd.toList == h.nd.toList) && ((g.id.toList == h.id.toList) && ((g.nm.toList == h.nm.toList) && ((g.tg.toList == h.tg.toList) && ((g.ad == h.ad) && ((g.pt == h.pt) && ((g.ps == h.ps) && ((g.vs == h.vs) && ((g.gn == h.gn) && true))))))))
theorem Sv.same_iff {g h : Sv} : Sv.same g h = true ↔ g = h := by
  obtain ⟨a, b, c, d, e, f, i, j, k⟩ := g
  obtain ⟨a', b', c', d', e', f', i', j', k'⟩ := h
  have tl : ∀ a b : ByteArray, a.toList = b.toList ↔ a = b := fun a b => ⟨toList_inj, fun h => by rw [h]⟩
  simp only [Sv.same, Bool.and_true, Bool.and_eq_true, beq_iff_eq, tl, Sv.mk.injEq]
theorem Sv.err_cases (m : Sv) : m.err = 0 ∨ m.err = 1 ∨ m.err = 3 ∨ m.err = 7 := by
  unfold Sv.err
  repeat' split
  all_goals simp
theorem cf2_eq {a b c d : ByteArray} (h : a = b) : firstNZ [scmp a b, scmp c d] = scmp c d := by
  subst h
  by_cases h : scmp c d = 0 <;> simp [firstNZ, scmp_eq, h]
theorem cf2_ne {a b c d : ByteArray} (h : a ≠ b) : firstNZ [scmp a b, scmp c d] = scmp a b := by
  have : scmp a b ≠ 0 := fun e => h (scmp_zero.1 e)
  simp [firstNZ, this]
theorem Sv.cf_neg {nd id : ByteArray} {x : Sv} : Sv.cf nd id x < 0 ↔ slt x.nd nd = true ∨ (x.nd = nd ∧ slt x.id id = true) := by
  unfold Sv.cf
  by_cases h : x.nd = nd
  · rw [cf2_eq h, scmp_neg, h]; simp [slt_irrefl]
  · rw [cf2_ne h, scmp_neg]; simp [h]
theorem Sv.cf_pos {nd id : ByteArray} {x : Sv} : 0 < Sv.cf nd id x ↔ slt nd x.nd = true ∨ (x.nd = nd ∧ slt id x.id = true) := by
  unfold Sv.cf
  by_cases h : x.nd = nd
  · rw [cf2_eq h, scmp_pos, h]; simp [slt_irrefl]
  · rw [cf2_ne h, scmp_pos]; simp [h]
theorem Sv.cf_zero {nd id : ByteArray} {x : Sv} : Sv.cf nd id x = 0 ↔ x.nd = nd ∧ x.id = id := by
  unfold Sv.cf
  by_cases h : x.nd = nd
  · rw [cf2_eq h, scmp_zero]; simp [h]
  · rw [cf2_ne h, scmp_zero]; simp [h]
theorem Sv.lt_iff {x y : Sv} : Sv.lt x y = true ↔ slt x.nd y.nd = true ∨ (x.nd = y.nd ∧ slt x.id y.id = true) := by
  unfold Sv.lt; rw [decide_eq_true_iff, Sv.cf_neg]
theorem Sv.lt_trans (x y z : Sv) (h1 : Sv.lt x y = true) (h2 : Sv.lt y z = true) : Sv.lt x z = true := by
  rw [Sv.lt_iff] at *
  rcases h1 with h1 | ⟨e1, h1⟩ <;> rcases h2 with h2 | ⟨e2, h2⟩
  · exact .inl (slt_trans h1 h2)
  · exact .inl (e2 ▸ h1)
  · exact .inl (by rw [e1]; exact h2)
  · exact .inr ⟨e1.trans e2, slt_trans h1 h2⟩
theorem Sv.ord : Ord Sv.lt Sv.kf where
  neg := fun g x => by unfold Sv.lt Sv.kf; rw [decide_eq_true_iff]
  pos := fun g x => by unfold Sv.kf; rw [Sv.cf_pos, Sv.lt_iff]; constructor <;> (rintro (h | ⟨e, h⟩); exact .inl h; exact .inr ⟨e.symm, h⟩)
  trans := Sv.lt_trans
  left := fun g x y h => by
    obtain ⟨e1, e2⟩ := Sv.cf_zero.1 h
    unfold Sv.lt Sv.cf; rw [e1, e2]
  right := fun g x y h => by
    obtain ⟨e1, e2⟩ := Sv.cf_zero.1 h
    unfold Sv.lt; rw [e1, e2]
theorem Sv.lt_cf (nd id : ByteArray) (x y : Sv) (h : Sv.lt x y = true) (hy : Sv.cf nd id y ≤ 0) : Sv.cf nd id x < 0 := by
  rw [Sv.lt_iff] at h
  rw [Sv.cf_neg]
  rcases (by omega : Sv.cf nd id y < 0 ∨ Sv.cf nd id y = 0) with q | q
  · rw [Sv.cf_neg] at q
    rcases h with h1 | ⟨e1, h1⟩ <;> rcases q with h2 | ⟨e2, h2⟩
    · exact .inl (slt_trans h1 h2)
    · exact .inl (e2 ▸ h1)
    · exact .inl (by rw [e1]; exact h2)
    · exact .inr ⟨e1.trans e2, slt_trans h1 h2⟩
  · obtain ⟨e1, e2⟩ := Sv.cf_zero.1 q
    rw [← e1, ← e2]; exact h
theorem ckSv_inv {l : List Sv} (h : ckSv l = 0) : l.length ≤ 40 ∧ (∀ i, (hi : i < l.length) → (l[i]).err = 0) ∧ sorted Sv.lt l = true := ckL_inv Sv.err_cases h
theorem Sv.smono {l : List Sv} (h : sorted Sv.lt l = true) (nd id : ByteArray) : SMono (Sv.cf nd id) l := smono_of Sv.lt_trans (Sv.lt_cf nd id) h
/-- does one stand ahead, in the reference's words? -/
theorem Sv.ahead1 {x y : Sv} (h : Op.bytesLess x.nd.toList y.nd.toList = true) : Sv.lt x y = true := Sv.lt_iff.2 (.inl h)
theorem Sv.ahead2 {x y : Sv} (h : Op.bytesLess x.nd.toList y.nd.toList = false) (h2 : (x.nd.toList == y.nd.toList) = true) : Sv.lt x y = Op.bytesLess x.id.toList y.id.toList := by
  have e := seq_iff.1 h2
  have h' : slt x.nd y.nd = false := h
  have := Sv.lt_iff (x := x) (y := y)
  show Sv.lt x y = slt x.id y.id
  cases hb : slt x.id y.id with
  | true => exact this.2 (.inr ⟨e, hb⟩)
  | false =>
    cases hl : Sv.lt x y with
    | false => rfl
    | true => rcases this.1 hl with q | ⟨_, q⟩ <;> simp_all
theorem Sv.ahead3 {x y : Sv} (h : Op.bytesLess x.nd.toList y.nd.toList = false) (h2 : (x.nd.toList == y.nd.toList) = false) : Sv.lt x y = false := by
  have e : x.nd ≠ y.nd := fun e => by rw [e] at h2; simp at h2
  have h' : slt x.nd y.nd = false := h
  cases hl : Sv.lt x y with
  | false => rfl
  | true => rcases Sv.lt_iff.1 hl with q | ⟨q, _⟩ <;> simp_all
def Sv.ge (m x : Sv) : Bool := !(Sv.lt x m)
def Sv.ne (m x : Sv) : Bool := !(Sv.is m.nd m.id x)
theorem Sv.ge_eq (m : Sv) : Sv.ge m = fun x => decide (0 ≤ Sv.kf m x) := by
  funext x
  unfold Sv.ge Sv.lt Sv.kf
  by_cases h : Sv.cf m.nd m.id x < 0
  · simp [h]
  · simp [h]; omega
theorem Sv.is_eq (nd id : ByteArray) : Sv.is nd id = fun x => decide (Sv.cf nd id x = 0) := by
  funext x
  unfold Sv.is
  by_cases h : x.nd = nd ∧ x.id = id
  · rw [h.1, h.2]
    have : Sv.cf nd id x = 0 := Sv.cf_zero.2 h
    simp [this]
  · have h2 : ¬ Sv.cf nd id x = 0 := fun e => h (Sv.cf_zero.1 e)
    have h3 : (x.nd.toList == nd.toList && x.id.toList == id.toList) = false := by
      cases hb : (x.nd.toList == nd.toList && x.id.toList == id.toList) with
      | false => rfl
      | true => rw [Bool.and_eq_true, seq_iff, seq_iff] at hb; exact absurd hb h
    rw [h3]; simp [h2]
theorem Sv.ne_eq (m : Sv) : Sv.ne m = fun x => decide (Sv.kf m x ≠ 0) := by
  funext x
  have := congrFun (Sv.is_eq m.nd m.id) x
  unfold Sv.ne Sv.kf
  rw [this]; simp
theorem Sv.at_eq {l : List Sv} (hs : sorted Sv.lt l = true) (nd id : ByteArray) : at_ (Sv.is nd id) l = if hit (Sv.cf nd id) l = true then (low (Sv.cf nd id) l : Int) else -1 := by
  rw [Sv.is_eq]; exact at_sorted (Sv.smono hs nd id)
theorem Sv.putL_put {l : List Sv} (hs : sorted Sv.lt l = true) (m : Sv) : putL (Sv.ge m) (Sv.ne m) m l = putAt (Sv.kf m) m l := by
  rw [Sv.ge_eq, Sv.ne_eq]
  exact putL_sorted (Sv.smono hs m.nd m.id) m
theorem sv_dec (row : List V) (h : Fits [.s, .s, .s, .s, .i, .i, .b, .i, .b] row) : ∃ m : Sv, row = m.row ∧ m.ok := by
  obtain ⟨u0, _, rfl, f0, h⟩ := fits_cons h
  obtain ⟨u1, _, rfl, f1, h⟩ := fits_cons h
  obtain ⟨u2, _, rfl, f2, h⟩ := fits_cons h
  obtain ⟨u3, _, rfl, f3, h⟩ := fits_cons h
  obtain ⟨u4, _, rfl, f4, h⟩ := fits_cons h
  obtain ⟨u5, _, rfl, f5, h⟩ := fits_cons h
  obtain ⟨u6, _, rfl, f6, h⟩ := fits_cons h
  obtain ⟨u7, _, rfl, f7, h⟩ := fits_cons h
  obtain ⟨u8, _, rfl, f8, h⟩ := fits_cons h
  obtain rfl := fits_nil h
  obtain ⟨a, rfl, ha⟩ := fit_s f0
  obtain ⟨b, rfl, hb⟩ := fit_s f1
  obtain ⟨c, rfl, hc⟩ := fit_s f2
  obtain ⟨d, rfl, hd⟩ := fit_s f3
  obtain ⟨e, rfl, _⟩ := fit_i f4
  obtain ⟨f, rfl, _⟩ := fit_i f5
  obtain ⟨g, rfl⟩ := fit_b f6
  obtain ⟨i, rfl, _⟩ := fit_i f7
  obtain ⟨j, rfl⟩ := fit_b f8
  exact ⟨⟨a, b, c, d, e, f, g, i, j⟩, rfl, ha, hb, hc, hd⟩
theorem nzb_ne {p q : Bool} {r : List Int} (h : (p != q) = true) : decide (0 < firstNZ (icmp (b2i p) (b2i q) :: r)) = p := by cases p <;> cases q <;> first | (cases h; done) | simp [firstNZ, icmp, b2i]
theorem nzb_eq {p q : Bool} {r : List Int} (h : (p != q) = false) : firstNZ (icmp (b2i p) (b2i q) :: r) = firstNZ r := by cases p <;> cases q <;> first | (cases h; done) | simp [firstNZ, icmp, b2i]
theorem sgt_eq (a b : ByteArray) : (!(Op.bytesLess a.toList b.toList || a.toList == b.toList)) = slt b a := by rw [sle_eq]; simp
end Go.Proofs.Ytckkeeicngblgaa.Pl
