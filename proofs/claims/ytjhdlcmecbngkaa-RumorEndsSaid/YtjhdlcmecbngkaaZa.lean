/- Texts of this claim, joined. -/
import Derived.WalkKit
import Derived.Test.YtjhdlcmecbngkaaAbsQ
import Derived.Test.YtjhdlcmecbngkaaProg
import Derived.KernelRfl
import Derived.Test.YtjhdlcmecbngkaaRows
import Derived.ProofKit
import Derived.OpenShut
import Derived.Below
import Derived.ChangeSame
import Derived.Test.YtjhdlcmecbngkaaAbsG
import Derived.Deep.Slices
import Derived.Deep.Fields
import Derived.Lib.SmallJoins
import Derived.WalkSmall
import Derived.WalkLawsBesides
import Derived.BigGuardPart
import Derived.Deep.Light
import Derived.Laws.IdiomStrings
/- Plain: the order of texts, byte by byte. -/
namespace Go.Proofs.Ytjhdlcmecbngkaa.Pl
set_option linter.unusedVariables false

theorem bl_irrefl : ∀ x : List UInt8, Op.bytesLess x x = false
  | [] => rfl
  | a :: x => by simp [Op.bytesLess, bl_irrefl x, UInt8.lt_irrefl]
theorem bl_trans : ∀ {x y z : List UInt8}, Op.bytesLess x y = true → Op.bytesLess y z = true → Op.bytesLess x z = true
  | [], _ :: _, [], _, h => by simp [Op.bytesLess] at h
  | _, [], _, h, _ => by cases ‹List UInt8› <;> simp [Op.bytesLess] at h
  | [], b :: y, c :: z, _, _ => rfl
  | a :: x, b :: y, [], _, h => by simp [Op.bytesLess] at h
  | a :: x, b :: y, c :: z, h1, h2 => by
    simp only [Op.bytesLess, Bool.or_eq_true, decide_eq_true_eq, Bool.and_eq_true, beq_iff_eq] at h1 h2 ⊢
    rcases h1 with h1 | ⟨rfl, h1⟩
    · rcases h2 with h2 | ⟨rfl, h2⟩
      · exact .inl (UInt8.lt_trans h1 h2)
      · exact .inl h1
    · rcases h2 with h2 | ⟨rfl, h2⟩
      · exact .inl h2
      · exact .inr ⟨rfl, bl_trans h1 h2⟩
theorem bl_tri : ∀ {x y : List UInt8}, Op.bytesLess x y = false → Op.bytesLess y x = false → x = y
  | [], [], _, _ => rfl
  | [], b :: y, h, _ => by simp [Op.bytesLess] at h
  | a :: x, [], _, h => by simp [Op.bytesLess] at h
  | a :: x, b :: y, h1, h2 => by
    simp only [Op.bytesLess, Bool.or_eq_false_iff, decide_eq_false_iff_not, Bool.and_eq_false_iff] at h1 h2
    have hab : a = b := by
      have g1 : ¬ a.toNat < b.toNat := h1.1
      have g2 : ¬ b.toNat < a.toNat := h2.1
      exact UInt8.toNat_inj.1 (by omega)
    subst hab
    have e1 : Op.bytesLess x y = false := by rcases h1.2 with h | h <;> simp_all
    have e2 : Op.bytesLess y x = false := by rcases h2.2 with h | h <;> simp_all
    rw [bl_tri e1 e2]
/-- does one text stand ahead of another? -/
def slt (a b : ByteArray) : Bool := Op.bytesLess a.toList b.toList
theorem toList_inj {a b : ByteArray} (h : a.toList = b.toList) : a = b := by
  rw [ByteArray.toList_eq, ByteArray.toList_eq] at h
  cases a; cases b
  congr
  exact Array.toList_inj.1 h
theorem slt_irrefl (a : ByteArray) : slt a a = false := bl_irrefl _
theorem slt_trans {a b c : ByteArray} (h1 : slt a b = true) (h2 : slt b c = true) : slt a c = true := bl_trans h1 h2
theorem slt_tri {a b : ByteArray} (h1 : slt a b = false) (h2 : slt b a = false) : a = b := toList_inj (bl_tri h1 h2)
theorem slt_asymm {a b : ByteArray} (h1 : slt a b = true) : slt b a = false := by
  rcases Bool.eq_false_or_eq_true (slt b a) with h | h
  · have := slt_trans h1 h; rw [slt_irrefl] at this; cases this
  · exact h
theorem slt_ne {a b : ByteArray} (h1 : slt a b = true) : a ≠ b := by
  rintro rfl
  rw [slt_irrefl] at h1; cases h1
theorem seq_iff {a b : ByteArray} : (a.toList == b.toList) = true ↔ a = b := by
  rw [beq_iff_eq]; exact ⟨toList_inj, fun h => by rw [h]⟩
theorem seq_no {a b : ByteArray} (h : a ≠ b) : (a.toList == b.toList) = false := by
  rcases Bool.eq_false_or_eq_true (a.toList == b.toList) with g | g
  · exact absurd (seq_iff.1 g) h
  · exact g
/-- what '<=' says -/
theorem sle_eq (a b : ByteArray) : (Op.bytesLess a.toList b.toList || a.toList == b.toList) = !(slt b a) := by
  rcases Bool.eq_false_or_eq_true (slt b a) with h | h
  · rw [h]
    have h1 := slt_asymm h
    unfold slt at h1
    rw [h1, seq_no (fun e => by subst e; rw [slt_irrefl] at h; cases h)]
    rfl
  · rw [h]
    rcases Bool.eq_false_or_eq_true (slt a b) with g | g
    · unfold slt at g; rw [g]; rfl
    · have := slt_tri g h
      subst this
      simp
end Go.Proofs.Ytjhdlcmecbngkaa.Pl
/- Plain: maps with texts for keys, as lists. -/
namespace Go.Proofs.Ytjhdlcmecbngkaa.Pl
set_option linter.unusedVariables false
/-- the entries, as the walk has them -/
def ents (l : List (ByteArray × V)) : List (Value × V) := l.map fun p => (.string p.1, p.2)
def look (k : ByteArray) : List (ByteArray × V) → Nat → Option (Nat × V)
  | [], _ => none
  | (a, v) :: es, i => if k = a then some (i, v) else look k es (i + 1)
theorem findE_str (k : ByteArray) : ∀ (l : List (ByteArray × V)) (i : Nat), findE .string (.string k) (ents l) i = some (look k l i)
  | [], i => rfl
  | (a, v) :: es, i => by
    have ih := findE_str k es (i + 1)
    unfold ents at ih
    by_cases h : k = a
    · subst h
      have hb : (k == k) = true := (Go.MapKept.bytes_beq k k).2 rfl
      simp [ents, findE, look, Instr.sameNow, hb]
    · have hb : (k == a) = false := by
        cases q : (k == a) with
        | true => exact absurd ((Go.MapKept.bytes_beq k a).1 q) h
        | false => rfl
      simp only [ents, List.map_cons, findE, look, Instr.sameNow, hb, if_neg h]
      exact ih
def put (l : List (ByteArray × V)) (k : ByteArray) (v : V) : List (ByteArray × V) := match look k l 0 with
  | some (i, _) => l.set i (k, v)
  | none => l ++ [(k, v)]
theorem putE_str (l : List (ByteArray × V)) (k : ByteArray) (v : V) : putE (ents l) (.string k) v (look k l 0) = ents (put l k v) := by
  unfold put putE
  cases h : look k l 0 with
  | none => simp [ents]
  | some p => obtain ⟨i, u⟩ := p; simp [ents, List.map_set]
theorem ents_len (l : List (ByteArray × V)) : (ents l).length = l.length := by simp [ents]
theorem look_some {k : ByteArray} : ∀ {l : List (ByteArray × V)} {i j : Nat} {v : V}, look k l i = some (j, v) → i ≤ j ∧ l[j - i]? = some (k, v)
  | [], i, j, v, h => by simp [look] at h
  | (a, u) :: es, i, j, v, h => by
    unfold look at h
    split at h
    · rename_i e
      simp only [Option.some.injEq, Prod.mk.injEq] at h
      obtain ⟨rfl, rfl⟩ := h
      subst e
      exact ⟨Nat.le_refl _, by simp⟩
    · obtain ⟨h1, h2⟩ := look_some h
      exact ⟨by omega, by rw [show j - i = (j - (i + 1)) + 1 by omega]; simpa using h2⟩
theorem look_none {k : ByteArray} : ∀ {l : List (ByteArray × V)} {i : Nat}, look k l i = none ↔ k ∉ l.map (·.1)
  | [], i => by simp [look]
  | (a, u) :: es, i => by
    unfold look
    split
    · rename_i e; subst e; simp
    · rename_i e
      rw [look_none (l := es) (i := i + 1)]
      simp [e]
open Classical in
/-- keys stay apart -/
theorem put_keys {l : List (ByteArray × V)} {k : ByteArray} {v : V} : (put l k v).map (·.1) = if k ∈ l.map (·.1) then l.map (·.1) else l.map (·.1) ++ [k] := by
  unfold put
  cases h : look k l 0 with
  | none => rw [if_neg (look_none.1 h)]; simp
  | some p =>
    obtain ⟨i, u⟩ := p
    have hk : k ∈ l.map (·.1) := Classical.byContradiction fun q => by rw [look_none.2 q] at h; cases h
    rw [if_pos hk]
    obtain ⟨_, h2⟩ := look_some h
    simp only [Nat.sub_zero] at h2
    show (l.set i (k, v)).map (·.1) = l.map (·.1)
    rw [List.map_set]
    apply List.ext_getElem? ; intro j
    rw [List.getElem?_set]
    split
    · rename_i e; subst e
      split
      · simp [h2]
      · rename_i q; simp at q; simp [q]
    · rfl
/-- so many keys as texts: none stands twice -/
structure Names (l : List (ByteArray × V)) (ns : List ByteArray) : Prop where
  mem : ∀ n, n ∈ l.map (·.1) ↔ n ∈ ns
  le : l.length ≤ ns.length
  all : l.length = ns.length ↔ ns.Nodup
  cl : ∀ p ∈ l, Cl p.2
theorem Names.nil : Names [] [] := ⟨by simp, by simp, by simp, by simp⟩
theorem Names.put {l : List (ByteArray × V)} {ns : List ByteArray} (h : Names l ns) (k : ByteArray) (v : V) (hv : Cl v) : Names (put l k v) (ns ++ [k]) := by
  have hk := put_keys (l := l) (k := k) (v := v)
  have hlen : (Pl.put l k v).length = ((Pl.put l k v).map (·.1)).length := by simp
  have hm := h.mem k
  refine ⟨fun n => ?_, ?_, ?_, fun p hp => ?_⟩
  · rw [hk]
    split
    · rename_i q
      rw [h.mem n]; simp
      intro e; subst e; exact hm.1 q
    · simp only [List.mem_append, h.mem n]
  · rw [hlen, hk]
    have := h.le
    split <;> simp <;> omega
  · rw [hlen, hk]
    split
    · rename_i q
      have := h.le
      constructor
      · intro e; simp at e; omega
      · intro e
        have := (List.nodup_append.1 e).2.2 k (hm.1 q) k (by simp)
        exact absurd rfl this
    · rename_i q
      have hq : k ∉ ns := fun e => q (hm.2 e)
      simp only [List.length_append, List.length_map, List.length_cons, List.length_nil]
      rw [List.nodup_append]
      constructor
      · intro e
        refine ⟨h.all.1 (by omega), by simp, ?_⟩
        intro a ha b hb e'
        simp at hb; subst hb; subst e'; exact hq ha
      · intro e
        have := h.all.2 e.1
        omega
  · unfold Pl.put at hp
    split at hp
    · rcases List.mem_or_eq_of_mem_set hp with q | rfl
      · exact h.cl p q
      · exact hv
    · rcases List.mem_append.1 hp with q | q
      · exact h.cl p q
      · simp at q; subst q; exact hv
end Go.Proofs.Ytjhdlcmecbngkaa.Pl
/- Plain: looking a thing up in a sorted list. No program in sight (but for the order of texts). -/
namespace Go.Proofs.Ytjhdlcmecbngkaa.Pl
set_option linter.unusedVariables false

/-- three ways -/
def scmp (a b : ByteArray) : Int := if slt a b then -1 else if slt b a then 1 else 0
theorem scmp_lt {a b : ByteArray} (h : slt a b = true) : scmp a b = -1 := by simp [scmp, h]
theorem scmp_gt {a b : ByteArray} (h : slt b a = true) : scmp a b = 1 := by simp [scmp, slt_asymm h, h]
theorem scmp_eq (a : ByteArray) : scmp a a = 0 := by simp [scmp, slt_irrefl]
theorem scmp_neg {a b : ByteArray} : scmp a b < 0 ↔ slt a b = true := by
  unfold scmp
  split
  · simp_all
  · split <;> simp_all
theorem scmp_zero {a b : ByteArray} : scmp a b = 0 ↔ a = b := by
  unfold scmp
  split
  · rename_i h
    exact ⟨fun e => by omega, fun e => by subst e; rw [slt_irrefl] at h; cases h⟩
  · split
    · rename_i h
      exact ⟨fun e => by omega, fun e => by subst e; rw [slt_irrefl] at h; cases h⟩
    · rename_i h1 h2
      exact ⟨fun _ => slt_tri (by simpa using h1) (by simpa using h2), fun _ => rfl⟩
theorem scmp_bd (a b : ByteArray) : -1 ≤ scmp a b ∧ scmp a b ≤ 1 := by
  unfold scmp; split
  · omega
  · split <;> omega

section
variable {α : Type} {cf : α → Int} {l : List α}
/-- how many stand ahead -/
def low (cf : α → Int) : List α → Nat
  | [] => 0
  | x :: r => if cf x < 0 then low cf r + 1 else 0
/-- those ahead stand ahead of all others -/
def Mono (cf : α → Int) (l : List α) : Prop := ∀ i j, (hi : i < l.length) → (hj : j < l.length) → i ≤ j → cf l[j] < 0 → cf l[i] < 0
theorem low_le : ∀ l : List α, low cf l ≤ l.length
  | [] => Nat.le_refl _
  | x :: r => by simp only [low, List.length_cons]; split <;> have := low_le r <;> omega
theorem low_lt : ∀ {l : List α} {i : Nat} (hi : i < l.length), i < low cf l → cf l[i] < 0
  | x :: r, 0, _, h => by
    simp only [low] at h
    split at h
    · assumption
    · omega
  | x :: r, i + 1, hi, h => by
    simp only [low] at h
    split at h
    · exact low_lt (l := r) (by simpa using hi) (by omega)
    · omega
theorem low_ge : ∀ {l : List α} (h : low cf l < l.length), 0 ≤ cf l[low cf l]
  | [], h => by simp at h
  | x :: r, h => by
    by_cases hx : cf x < 0
    · have e : low cf (x :: r) = low cf r + 1 := by simp [low, hx]
      have h' : low cf r < r.length := by rw [e] at h; simpa using h
      have := low_ge h'
      simp only [e, List.getElem_cons_succ]
      exact this
    · have e : low cf (x :: r) = 0 := by simp [low, hx]
      simp only [e, List.getElem_cons_zero]
      omega
/-- what the search leaves: all below a stand ahead, none from a on -/
theorem low_uniq {a : Nat} (ha : a ≤ l.length) (h1 : ∀ i, (hi : i < l.length) → i < a → cf l[i] < 0) (h2 : ∀ i, (hi : i < l.length) → a ≤ i → 0 ≤ cf l[i]) : a = low cf l := by
  have hl := low_le (cf := cf) l
  rcases Nat.lt_trichotomy a (low cf l) with h | h | h
  · have := low_lt (cf := cf) (l := l) (i := a) (by omega) h
    have := h2 a (by omega) (Nat.le_refl _)
    omega
  · exact h
  · have := low_ge (cf := cf) (l := l) (by omega)
    have := h1 (low cf l) (by omega) h
    omega
/-- is it there? -/
def hit (cf : α → Int) (l : List α) : Bool := match l[low cf l]? with
  | some x => decide (cf x = 0)
  | none => false
theorem hit_in (h : low cf l < l.length) : hit cf l = decide (cf l[low cf l] = 0) := by simp [hit, h]
theorem hit_out (h : ¬ low cf l < l.length) : hit cf l = false := by
  have : l[low cf l]? = none := List.getElem?_eq_none (by omega)
  simp [hit, this]
end
end Go.Proofs.Ytjhdlcmecbngkaa.Pl
/- Plain: lists that are checked element by element, and for order. No program in sight. -/
namespace Go.Proofs.Ytjhdlcmecbngkaa.Pl
set_option linter.unusedVariables false
section
variable {α : Type}

/-- the first thing that is wrong; 0: nothing is -/
def firstErr (e : α → Int) : List α → Int
  | [] => 0
  | x :: r => if e x = 0 then firstErr e r else e x
/-- does each stand ahead of the next? -/
def sorted (lt : α → α → Bool) : List α → Bool
  | [] => true
  | [_] => true
  | x :: y :: r => lt x y && sorted lt (y :: r)
/-- what is wrong with a list of so many at most -/
def ckL (mx : Nat) (e : α → Int) (lt : α → α → Bool) (l : List α) : Int :=
  if mx < l.length then 2 else if firstErr e l = 0 then (if sorted lt l then 0 else 4) else firstErr e l

theorem firstErr_zero {e : α → Int} : ∀ {l : List α}, (∀ i, (h : i < l.length) → e l[i] = 0) → firstErr e l = 0
  | [], _ => rfl
  | x :: r, h => by
    have h0 : e x = 0 := h 0 (by simp)
    simp only [firstErr, h0, if_true]
    exact firstErr_zero fun i hi => h (i + 1) (by simpa using hi)
theorem firstErr_at {e : α → Int} : ∀ {l : List α} {k : Nat} (hk : k < l.length), (∀ i, (h : i < l.length) → i < k → e l[i] = 0) → e l[k] ≠ 0 → firstErr e l = e l[k]
  | x :: r, 0, _, _, hne => by
    simp only [List.getElem_cons_zero] at hne ⊢
    simp [firstErr, hne]
  | x :: r, k + 1, hk, h, hne => by
    have h0 : e x = 0 := h 0 (by simp) (by omega)
    simp only [firstErr, h0, if_true, List.getElem_cons_succ] at hne ⊢
    exact firstErr_at (by simpa using hk) (fun i hi hik => h (i + 1) (by simpa using hi) (by omega)) hne
theorem sorted_of {lt : α → α → Bool} : ∀ {l : List α}, (∀ i, (h : i + 1 < l.length) → lt l[i] l[i + 1] = true) → sorted lt l = true
  | [], _ => rfl
  | [_], _ => rfl
  | x :: y :: r, h => by
    simp only [sorted, Bool.and_eq_true_iff]
    exact ⟨h 0 (by simp), sorted_of fun i hi => h (i + 1) (by simpa using hi)⟩
theorem sorted_not {lt : α → α → Bool} : ∀ {l : List α} {k : Nat} (hk : k + 1 < l.length), lt l[k] l[k + 1] = false → sorted lt l = false
  | [_], k, hk, _ => by simp at hk
  | x :: y :: r, 0, _, h => by
    simp only [List.getElem_cons_zero, List.getElem_cons_succ] at h
    simp [sorted, h]
  | x :: y :: r, k + 1, hk, h => by
    have : sorted lt (y :: r) = false := sorted_not (k := k) (by simpa using hk) (by simpa using h)
    simp [sorted, this]
theorem sorted_get {lt : α → α → Bool} : ∀ {l : List α}, sorted lt l = true → ∀ i, (h : i + 1 < l.length) → lt l[i] l[i + 1] = true
  | [], _, i, h => by simp at h
  | [_], _, i, h => by simp at h
  | x :: y :: r, hs, 0, _ => by
    simp only [sorted, Bool.and_eq_true_iff] at hs
    exact hs.1
  | x :: y :: r, hs, i + 1, h => by
    simp only [sorted, Bool.and_eq_true_iff] at hs
    exact sorted_get hs.2 i (by simpa using h)
theorem firstErr_get {e : α → Int} : ∀ {l : List α}, firstErr e l = 0 → ∀ i, (h : i < l.length) → e l[i] = 0
  | [], _, i, h => by simp at h
  | x :: r, hs, i, h => by
    by_cases h0 : e x = 0
    · simp only [firstErr, h0, if_true] at hs
      cases i with
      | zero => exact h0
      | succ i => exact firstErr_get hs i (by simpa using h)
    · simp [firstErr, h0] at hs

variable {mx : Nat} {e : α → Int} {lt : α → α → Bool} {l : List α}
theorem ckL_long (h : mx < l.length) : ckL mx e lt l = 2 := by simp [ckL, h]
theorem ckL_err {k : Nat} (h : l.length ≤ mx) (hk : k < l.length) (h0 : ∀ i, (hi : i < l.length) → i < k → e l[i] = 0) (h1 : e l[k] ≠ 0) : ckL mx e lt l = e l[k] := by
  have hf := firstErr_at hk h0 h1
  unfold ckL
  rw [if_neg (by omega), if_neg (by rw [hf]; exact h1), hf]
theorem ckL_unsorted {k : Nat} (h : l.length ≤ mx) (h0 : ∀ i, (hi : i < l.length) → e l[i] = 0) (hk : k + 1 < l.length) (h1 : lt l[k] l[k + 1] = false) : ckL mx e lt l = 4 := by
  unfold ckL
  rw [if_neg (by omega), if_pos (firstErr_zero h0), sorted_not hk h1]
  rfl
theorem ckL_ok (h : l.length ≤ mx) (h0 : ∀ i, (hi : i < l.length) → e l[i] = 0) (h1 : ∀ i, (hi : i + 1 < l.length) → lt l[i] l[i + 1] = true) : ckL mx e lt l = 0 := by
  unfold ckL
  rw [if_neg (by omega), if_pos (firstErr_zero h0), sorted_of h1]
  rfl
theorem ckL_inv (he : ∀ x, e x = 0 ∨ e x = 1 ∨ e x = 3 ∨ e x = 7) (h : ckL mx e lt l = 0) : l.length ≤ mx ∧ (∀ i, (hi : i < l.length) → e l[i] = 0) ∧ sorted lt l = true := by
  unfold ckL at h
  split at h
  · omega
  · split at h
    · rename_i h1 h2
      split at h
      · rename_i h3
        exact ⟨by omega, firstErr_get h2, h3⟩
      · omega
    · rename_i h1 h2
      exact absurd h h2
end
end Go.Proofs.Ytjhdlcmecbngkaa.Pl
/- Plain: a list into which a thing is put in its place. No program in sight. -/
namespace Go.Proofs.Ytjhdlcmecbngkaa.Pl
set_option linter.unusedVariables false
section
variable {α : Type}

/-- the first place at which p holds; -1: there is none -/
def at_ (p : α → Bool) (l : List α) : Int := match l.findIdx? p with
  | some i => (i : Int)
  | none => -1
theorem at_yes {p : α → Bool} {l : List α} {k : Nat} (hk : k < l.length) (h0 : ∀ i, (h : i < l.length) → i < k → p l[i] = false) (h1 : p l[k] = true) : at_ p l = k := by
  have : l.findIdx? p = some k := by
    rw [List.findIdx?_eq_some_iff_getElem]
    exact ⟨hk, h1, fun j hj => by simp [h0 j (by omega) hj]⟩
  simp [at_, this]
theorem at_no {p : α → Bool} {l : List α} (h0 : ∀ i, (h : i < l.length) → p l[i] = false) : at_ p l = -1 := by
  have : l.findIdx? p = none := by
    rw [List.findIdx?_eq_none_iff]
    intro x hx
    obtain ⟨i, hi, rfl⟩ := List.getElem_of_mem hx
    exact h0 i hi
  simp [at_, this]
theorem at_inv {p : α → Bool} {l : List α} : (at_ p l = -1 ∧ ∀ i, (h : i < l.length) → p l[i] = false) ∨ ∃ k, ∃ hk : k < l.length, at_ p l = (k : Int) ∧ p l[k] = true ∧ ∀ i, (h : i < l.length) → i < k → p l[i] = false := by
  cases h : l.findIdx? p with
  | none =>
    left
    refine ⟨by simp [at_, h], fun i hi => ?_⟩
    rw [List.findIdx?_eq_none_iff] at h
    exact h _ (List.getElem_mem hi)
  | some k =>
    right
    rw [List.findIdx?_eq_some_iff_getElem] at h
    obtain ⟨hk, h1, h2⟩ := h
    refine ⟨k, hk, ?_, h1, fun i hi hik => by simpa using h2 i hik⟩
    have : l.findIdx? p = some k := by
      rw [List.findIdx?_eq_some_iff_getElem]
      exact ⟨hk, h1, h2⟩
    simp [at_, this]

/-- one round: ahead of the first that does not stand ahead (ge) the new one is put; what has its key (not ne) is left out -/
def putStep (ge ne : α → Bool) (g : α) (st : List α × Bool) (x : α) : List α × Bool :=
  if (!st.2 && ge x) = true then (if ne x = true then (st.1 ++ [g] ++ [x], true) else (st.1 ++ [g], true))
  else (if ne x = true then (st.1 ++ [x], st.2) else st)
def putTo (ge ne : α → Bool) (g : α) (l : List α) : List α × Bool := l.foldl (putStep ge ne g) ([], false)
def putL (ge ne : α → Bool) (g : α) (l : List α) : List α := if (putTo ge ne g l).2 = true then (putTo ge ne g l).1 else (putTo ge ne g l).1 ++ [g]

theorem putTo_snoc {ge ne : α → Bool} {g : α} (l : List α) (x : α) : putTo ge ne g (l ++ [x]) = putStep ge ne g (putTo ge ne g l) x := by
  simp [putTo, List.foldl_append]
theorem take_snoc_ {l : List α} {k : Nat} (hk : k < l.length) : l.take (k + 1) = l.take k ++ [l[k]] := by
  rw [List.take_succ_eq_append_getElem hk]
theorem putTo_next {ge ne : α → Bool} {g : α} {l : List α} {k : Nat} (hk : k < l.length) : putTo ge ne g (l.take (k + 1)) = putStep ge ne g (putTo ge ne g (l.take k)) l[k] := by
  rw [take_snoc_ hk, putTo_snoc]
theorem putStep_len {ge ne : α → Bool} {g : α} (st : List α × Bool) (x : α) : (putStep ge ne g st x).1.length ≤ st.1.length + 2 := by
  unfold putStep
  split <;> split <;> simp
theorem putTo_len {ge ne : α → Bool} {g : α} : ∀ (n : Nat) (l : List α), l.length = n → (putTo ge ne g l).1.length ≤ 2 * n := by
  intro n
  induction n with
  | zero => intro l h; obtain rfl := List.eq_nil_of_length_eq_zero h; simp [putTo]
  | succ n ih =>
    intro l h
    have hk : n < l.length := by omega
    have e : l = l.take (n + 1) := (List.take_of_length_le (by omega)).symm
    rw [e, putTo_next hk]
    have h1 := ih (l.take n) (by rw [List.length_take]; omega)
    have h2 := putStep_len (ge := ge) (ne := ne) (g := g) (putTo ge ne g (l.take n)) l[n]
    omega

/-- all ahead of it: nothing is put yet -/
theorem putTo_ahead {ge ne : α → Bool} {g : α} {l : List α} (h1 : ∀ x ∈ l, ge x = false) (h2 : ∀ x ∈ l, ne x = true) : ∀ (k : Nat), k ≤ l.length → putTo ge ne g (l.take k) = (l.take k, false) := by
  intro k
  induction k with
  | zero => intro _; simp [putTo]
  | succ k ih =>
    intro hk
    have hk' : k < l.length := hk
    rw [putTo_next hk', ih (by omega), take_snoc_ hk']
    simp [putStep, h1 _ (List.getElem_mem hk'), h2 _ (List.getElem_mem hk')]
/-- behind: what is left is taken over -/
theorem putTo_behind {ge ne : α → Bool} {g : α} {pre : List α} {out : List α} (hp : putTo ge ne g pre = (out, true)) {r : List α} (h2 : ∀ x ∈ r, ne x = true) : ∀ (k : Nat), k ≤ r.length → putTo ge ne g (pre ++ r.take k) = (out ++ r.take k, true) := by
  intro k
  induction k with
  | zero => intro _; simp [hp]
  | succ k ih =>
    intro hk
    have hk' : k < r.length := hk
    rw [take_snoc_ hk', ← List.append_assoc, putTo_snoc, ih (by omega)]
    simp [putStep, h2 _ (List.getElem_mem hk')]

/-- put, where those ahead stand in front: not there: in between -/
theorem putL_new {ge ne : α → Bool} {g : α} {pre r : List α} (h1 : ∀ x ∈ pre, ge x = false) (h2 : ∀ x ∈ pre, ne x = true) (h3 : ∀ x ∈ r, ge x = true) (h4 : ∀ x ∈ r, ne x = true) :
    putL ge ne g (pre ++ r) = pre ++ [g] ++ r := by
  have hp : putTo ge ne g pre = (pre, false) := by simpa using putTo_ahead h1 h2 pre.length (Nat.le_refl _)
  cases r with
  | nil => simp [putL, hp]
  | cons x r =>
    have hx : putTo ge ne g (pre ++ [x]) = (pre ++ [g] ++ [x], true) := by
      rw [putTo_snoc, hp]
      simp [putStep, h3 x (by simp), h4 x (by simp)]
    have := putTo_behind hx (r := r) (fun y hy => h4 y (by simp [hy])) r.length (Nat.le_refl _)
    rw [List.take_length] at this
    have e : pre ++ x :: r = pre ++ [x] ++ r := by simp
    rw [e]
    unfold putL
    rw [this]
    simp
/-- there already: in its place -/
theorem putL_set {ge ne : α → Bool} {g x : α} {pre r : List α} (h1 : ∀ x ∈ pre, ge x = false) (h2 : ∀ x ∈ pre, ne x = true) (hx : ge x = true) (hx' : ne x = false) (h4 : ∀ x ∈ r, ne x = true) :
    putL ge ne g (pre ++ x :: r) = pre ++ g :: r := by
  have hp : putTo ge ne g pre = (pre, false) := by simpa using putTo_ahead h1 h2 pre.length (Nat.le_refl _)
  have hx2 : putTo ge ne g (pre ++ [x]) = (pre ++ [g], true) := by
    rw [putTo_snoc, hp]
    simp [putStep, hx, hx']
  have := putTo_behind hx2 (r := r) h4 r.length (Nat.le_refl _)
  rw [List.take_length] at this
  have e : pre ++ x :: r = pre ++ [x] ++ r := by simp
  rw [e]
  unfold putL
  rw [this]
  simp
end
end Go.Proofs.Ytjhdlcmecbngkaa.Pl
/- Plain: lists, and what slices' functions make of them. No program in sight. -/
namespace Go.Proofs.Ytjhdlcmecbngkaa.Pl
set_option linter.unusedVariables false
theorem any_at {α : Type} (p : α → Bool) (l : List α) : decide (0 ≤ at_ p l) = l.any p := by
  rcases at_inv (p := p) (l := l) with ⟨h1, h2⟩ | ⟨k, hk, h1, h2, _⟩
  · rw [h1]
    cases hq : l.any p with
    | false => rfl
    | true =>
      obtain ⟨x, hx, hp⟩ := List.any_eq_true.1 hq
      obtain ⟨i, hi, rfl⟩ := List.getElem_of_mem hx
      rw [h2 i hi] at hp; cases hp
  · rw [h1]
    have : l.any p = true := List.any_eq_true.2 ⟨_, List.getElem_mem hk, h2⟩
    rw [this]; simp
/-- those that stay -/
def keep {α : Type} (p : α → Bool) (l : List α) : List α := l.filter fun x => !p x
theorem keep_all {α : Type} {p : α → Bool} {l : List α} (h : ∀ i, (h : i < l.length) → p l[i] = false) : keep p l = l := by
  unfold keep; rw [List.filter_eq_self]; intro x hx
  obtain ⟨i, hi, rfl⟩ := List.getElem_of_mem hx
  simp [h i hi]
theorem keep_take {α : Type} {p : α → Bool} {l : List α} {k : Nat} (h : k < l.length) : keep p (l.take (k + 1)) = if p l[k] = true then keep p (l.take k) else keep p (l.take k) ++ [l[k]] := by
  unfold keep
  rw [List.take_add_one, List.getElem?_eq_getElem h, List.filter_append]
  cases q : p l[k] <;> simp [q]
/-- what stays, moved up -/
structure Moved {α : Type} (p : α → Bool) (l l' : List α) (i j : Nat) : Prop where
  ij : i < j
  jl : j ≤ l.length
  len : l'.length = l.length
  ahead : l'.take i = keep p (l.take j)
  behind : ∀ k, (h : k < l.length) → j ≤ k → l'[k]'(by rw [len]; exact h) = l[k]
theorem Moved.start {α : Type} {p : α → Bool} {l : List α} {k : Nat} (hk : k < l.length) (h1 : p l[k] = true) (h0 : ∀ i, (h : i < l.length) → i < k → p l[i] = false) : Moved p l l k (k + 1) := by
  refine ⟨by omega, by omega, rfl, ?_, fun _ _ _ => rfl⟩
  rw [keep_take hk, if_pos h1, keep_all]
  intro i hi
  simp at hi
  simp only [List.getElem_take]
  exact h0 i (by omega) (by omega)
theorem Moved.gone {α : Type} {p : α → Bool} {l l' : List α} {i j : Nat} (h : Moved p l l' i j) (hj : j < l.length) (hp : p l[j] = true) : Moved p l l' i (j + 1) := by
  refine ⟨by have := h.ij; omega, by omega, h.len, ?_, fun k hk hkj => h.behind k hk (by omega)⟩
  rw [keep_take hj, if_pos hp]; exact h.ahead
theorem Moved.stays {α : Type} {p : α → Bool} {l l' : List α} {i j : Nat} (h : Moved p l l' i j) (hj : j < l.length) (hp : p l[j] = false) : Moved p l (l'.set i l[j]) (i + 1) (j + 1) := by
  have hij := h.ij
  have hlen := h.len
  refine ⟨by omega, by omega, by simp [hlen], ?_, fun k hk hkj => ?_⟩
  · rw [keep_take hj, if_neg (by simp [hp]), List.take_add_one, List.take_set_of_le (Nat.le_refl _), h.ahead]
    congr 1
    rw [List.getElem?_set_self (by omega)]; rfl
  · rw [List.getElem_set_ne (by omega)]
    exact h.behind k hk (by omega)
theorem Moved.fin {α : Type} {p : α → Bool} {l l' : List α} {i j : Nat} (h : Moved p l l' i j) (hj : ¬ j < l.length) : l'.take i = keep p l := by
  rw [h.ahead, List.take_of_length_le (by omega)]
theorem erase_cut {α : Type} (l : List α) (i : Nat) : l.eraseIdx i = l.take i ++ l.drop (i + 1) := List.eraseIdx_eq_take_drop_succ l i
theorem erase_rows {α β : Type} {f : α → β} {l : List α} {i : Nat} (hi : i < l.length) {z : β} {t : List β} {k : Nat} :
    (l.eraseIdx i).map f = (((((l.map f).take i ++ ((l.map f).drop (i + 1)).take ((l.map f).length - (i + 1)) ++ (l.map f).drop (i + ((l.map f).length - (i + 1)))).take (0 + (i + ((l.map f).length - (i + 1))))) ++ List.replicate k z ++ t)).take (i + ((l.map f).length - (i + 1))) := by
  have h1 : ((l.map f).drop (i + 1)).take ((l.map f).length - (i + 1)) = (l.map f).drop (i + 1) := List.take_of_length_le (by simp)
  have h2 : ((l.map f).take i ++ (l.map f).drop (i + 1)).length = i + ((l.map f).length - (i + 1)) := by simp; omega
  rw [h1, Nat.zero_add, ← h2, List.take_left, List.append_assoc, List.take_left, erase_cut, List.map_append, List.map_take, List.map_drop]
end Go.Proofs.Ytjhdlcmecbngkaa.Pl
/- Plain: sorted lists, what is found in them, and what is put into them. No program in sight. -/
namespace Go.Proofs.Ytjhdlcmecbngkaa.Pl
set_option linter.unusedVariables false
section
variable {α : Type} {lt : α → α → Bool} {cf : α → Int} {l : List α}

theorem sorted_pair (htr : ∀ x y z, lt x y = true → lt y z = true → lt x z = true) (hs : sorted lt l = true) : ∀ j i, (hj : j < l.length) → (hij : i < j) → lt (l[i]'(by omega)) l[j] = true := by
  intro j
  induction j with
  | zero => intro i _ h; omega
  | succ j ih =>
    intro i hj hij
    have h1 := sorted_get hs j hj
    rcases (by omega : i < j ∨ i = j) with g | rfl
    · exact htr _ _ _ (ih i (by omega) g) h1
    · exact h1
/-- strictly: whoever stands ahead of one that is not behind the target stands ahead of the target -/
def SMono (cf : α → Int) (l : List α) : Prop := ∀ i j, (hj : j < l.length) → (hij : i < j) → cf l[j] ≤ 0 → cf (l[i]'(by omega)) < 0
theorem smono_of (htr : ∀ x y z, lt x y = true → lt y z = true → lt x z = true) (hcf : ∀ x y, lt x y = true → cf y ≤ 0 → cf x < 0) (hs : sorted lt l = true) : SMono cf l :=
  fun i j hj hij h => hcf _ _ (sorted_pair htr hs j i hj hij) h
theorem SMono.mono (h : SMono cf l) : Mono cf l := fun i j hi hj hij hc => by
  rcases (by omega : i < j ∨ i = j) with g | rfl
  · exact h i j hj g (by omega)
  · exact hc

theorem hit_lt (h : hit cf l = true) : low cf l < l.length := by
  rcases Nat.lt_or_ge (low cf l) l.length with g | g
  · exact g
  · rw [hit_out (by omega)] at h; cases h
theorem hit_zero (h : hit cf l = true) : cf (l[low cf l]'(hit_lt h)) = 0 := by
  have := hit_in (hit_lt h)
  rw [this] at h
  simpa using h
theorem low_ahead {x : α} (hx : x ∈ l.take (low cf l)) : cf x < 0 := by
  obtain ⟨i, hi, rfl⟩ := List.getElem_of_mem hx
  rw [List.length_take] at hi
  rw [List.getElem_take]
  exact low_lt (by omega) (by omega)
theorem low_behind (hm : SMono cf l) (h : hit cf l = false) {x : α} (hx : x ∈ l.drop (low cf l)) : 0 < cf x := by
  obtain ⟨i, hi, rfl⟩ := List.getElem_of_mem hx
  rw [List.length_drop] at hi
  rw [List.getElem_drop]
  have hlo : low cf l < l.length := by omega
  have h0 := low_ge hlo
  have h1 : cf l[low cf l] ≠ 0 := by
    rw [hit_in hlo] at h
    simpa using h
  rcases Nat.eq_zero_or_pos i with rfl | hp
  · simp only [Nat.add_zero]; omega
  · have := hm (low cf l) (low cf l + i) (by omega) (by omega)
    omega
theorem hit_behind (hm : SMono cf l) (h : hit cf l = true) {x : α} (hx : x ∈ l.drop (low cf l + 1)) : 0 < cf x := by
  obtain ⟨i, hi, rfl⟩ := List.getElem_of_mem hx
  rw [List.length_drop] at hi
  rw [List.getElem_drop]
  have h0 := hit_zero h
  have := hm (low cf l) (low cf l + 1 + i) (by omega) (by omega)
  omega
theorem split_at {k : Nat} (hk : k < l.length) : l = l.take k ++ l[k] :: l.drop (k + 1) := by
  rw [← List.drop_eq_getElem_cons hk, List.take_append_drop]

/-- what the reference finds -/
theorem at_sorted (hm : SMono cf l) : at_ (fun x => decide (cf x = 0)) l = if hit cf l = true then (low cf l : Int) else -1 := by
  split
  · rename_i h
    refine at_yes (hit_lt h) (fun i hi hlt => ?_) (by simpa using hit_zero h)
    have := low_lt (cf := cf) hi hlt
    simp; omega
  · rename_i h
    refine at_no fun i hi => ?_
    have hf : hit cf l = false := by simpa using h
    rcases Nat.lt_or_ge i (low cf l) with g | g
    · have := low_lt (cf := cf) hi g
      simp; omega
    · have hx : l[i] ∈ l.drop (low cf l) := by
        rw [List.mem_iff_getElem]
        exact ⟨i - low cf l, by rw [List.length_drop]; omega, by rw [List.getElem_drop]; congr 1; omega⟩
      have := low_behind hm hf hx
      simp; omega
/-- what the program puts: in its place, or in between -/
def putAt (cf : α → Int) (g : α) (l : List α) : List α := if hit cf l = true then l.set (low cf l) g else l.take (low cf l) ++ [g] ++ l.drop (low cf l)
theorem putL_sorted (hm : SMono cf l) (g : α) : putL (fun x => decide (0 ≤ cf x)) (fun x => decide (cf x ≠ 0)) g l = putAt cf g l := by
  unfold putAt
  split
  · rename_i h
    have hl := hit_lt h
    have e : l = l.take (low cf l) ++ l[low cf l] :: l.drop (low cf l + 1) := split_at hl
    have e2 : l.set (low cf l) g = l.take (low cf l) ++ g :: l.drop (low cf l + 1) := by
      rw [List.set_eq_take_append_cons_drop, if_pos hl]
    rw [e2]
    conv => lhs; arg 4; rw [e]
    refine putL_set (fun x hx => ?_) (fun x hx => ?_) ?_ ?_ (fun x hx => ?_)
    · have := low_ahead hx; simp; omega
    · have := low_ahead hx; simp; omega
    · have := hit_zero h; simp; omega
    · simpa using hit_zero h
    · have := hit_behind hm h hx; simp; omega
  · rename_i h
    have hf : hit cf l = false := by simpa using h
    conv => lhs; arg 4; rw [← List.take_append_drop (low cf l) l]
    refine putL_new (fun x hx => ?_) (fun x hx => ?_) (fun x hx => ?_) (fun x hx => ?_)
    · have := low_ahead hx; simp; omega
    · have := low_ahead hx; simp; omega
    · have := low_behind hm hf hx; simp; omega
    · have := low_behind hm hf hx; simp; omega
end
end Go.Proofs.Ytjhdlcmecbngkaa.Pl
/- Plain: sorted lists that are joined. No program in sight. -/
namespace Go.Proofs.Ytjhdlcmecbngkaa.Pl
set_option linter.unusedVariables false

/-- how things are held against each other: 'cf g x': x against g's key; 'lt': stands ahead -/
structure Ord {α : Type} (lt : α → α → Bool) (cf : α → α → Int) : Prop where
  neg : ∀ g x, cf g x < 0 ↔ lt x g = true
  pos : ∀ g x, 0 < cf g x ↔ lt g x = true
  trans : ∀ x y z, lt x y = true → lt y z = true → lt x z = true
  left : ∀ g x y, cf g x = 0 → lt x y = lt g y
  right : ∀ g x y, cf g x = 0 → lt y x = lt y g

section
variable {α : Type} {lt : α → α → Bool} {cf : α → α → Int} {l : List α}

theorem Ord.smono (o : Ord lt cf) (hs : sorted lt l = true) (g : α) : SMono (cf g) l :=
  smono_of o.trans (fun x y h hy => by
    rw [o.neg]
    rcases (by omega : cf g y < 0 ∨ cf g y = 0) with q | q
    · exact o.trans _ _ _ h ((o.neg g y).1 q)
    · rw [← o.right g y x q]; exact h) hs
theorem sorted_of_pair (h : ∀ j i, (hj : j < l.length) → (hij : i < j) → lt (l[i]'(by omega)) l[j] = true) : sorted lt l = true :=
  sorted_of fun i hi => h (i + 1) i hi (by omega)
theorem putAt_len (g : α) (cf : α → Int) : (putAt cf g l).length = if hit cf l = true then l.length else l.length + 1 := by
  unfold putAt
  have := low_le (cf := cf) l
  split
  · simp
  · simp; omega
theorem putAt_mem {cf : α → Int} {g x : α} (h : x ∈ putAt cf g l) : x = g ∨ x ∈ l := by
  unfold putAt at h
  split at h
  · rcases List.mem_or_eq_of_mem_set h with h | h
    · exact .inr h
    · exact .inl h
  · simp only [List.append_assoc, List.mem_append, List.mem_cons, List.not_mem_nil, or_false] at h
    rcases h with h | h | h
    · exact .inr (List.mem_of_mem_take h)
    · exact .inl h
    · exact .inr (List.mem_of_mem_drop h)
/-- sorted lists as chains -/
theorem sorted_iff (ht : ∀ x y z, lt x y = true → lt y z = true → lt x z = true) : sorted lt l = true ↔ l.Pairwise (fun x y => lt x y = true) := by
  constructor
  · intro h
    rw [List.pairwise_iff_getElem]
    intro i j hi hj hij
    exact sorted_pair ht h j i hj hij
  · intro h
    rw [List.pairwise_iff_getElem] at h
    exact sorted_of_pair fun j i hj hij => h i j (by omega) hj hij
theorem Ord.put (o : Ord lt cf) (hs : sorted lt l = true) (g : α) : sorted lt (putAt (cf g) g l) = true := by
  have hm := o.smono hs g
  rw [sorted_iff o.trans] at hs ⊢
  unfold putAt
  split
  · rename_i h
    have hl := hit_lt h
    have h0 := hit_zero h
    rw [List.set_eq_take_append_cons_drop, if_pos hl]
    have e := split_at hl
    rw [e] at hs
    rw [List.pairwise_append, List.pairwise_cons] at hs ⊢
    refine ⟨hs.1, ⟨fun y hy => ?_, hs.2.1.2⟩, fun x hx y hy => ?_⟩
    · rw [← o.left g _ y h0]; exact hs.2.1.1 y hy
    · rcases List.mem_cons.1 hy with rfl | hy
      · rw [← o.right _ _ x h0]; exact hs.2.2 x hx _ (List.mem_cons_self ..)
      · exact hs.2.2 x hx y (List.mem_cons_of_mem _ hy)
  · rename_i h
    have hf : hit (cf g) l = false := by simpa using h
    have e : l = l.take (low (cf g) l) ++ l.drop (low (cf g) l) := (List.take_append_drop _ _).symm
    rw [e, List.pairwise_append] at hs
    rw [List.append_assoc, List.pairwise_append, List.singleton_append, List.pairwise_cons]
    refine ⟨hs.1, ⟨fun y hy => (o.pos g y).1 (low_behind hm hf hy), hs.2.1⟩, fun x hx y hy => ?_⟩
    rcases List.mem_cons.1 hy with rfl | hy
    · exact (o.neg _ x).1 (low_ahead hx)
    · exact hs.2.2 x hx y hy

/-- put what is newer -/
def upd (cf : α → α → Int) (nw : α → α → Bool) (l : List α) (g : α) : List α :=
  match l[low (cf g) l]? with
  | some x => if hit (cf g) l = true ∧ nw g x = false then l else putAt (cf g) g l
  | none => putAt (cf g) g l
theorem upd_new {nw : α → α → Bool} {g : α} (h : hit (cf g) l = false) : upd cf nw l g = putAt (cf g) g l := by
  unfold upd; split <;> simp [h]
theorem upd_set {nw : α → α → Bool} {g : α} {lo : Nat} (hlo : low (cf g) l = lo) (hlt : lo < l.length) (h : nw g l[lo] = true) : upd cf nw l g = putAt (cf g) g l := by
  subst hlo
  unfold upd
  rw [List.getElem?_eq_getElem hlt]
  simp [h]
theorem upd_old {nw : α → α → Bool} {g : α} {lo : Nat} (hh : hit (cf g) l = true) (hlo : low (cf g) l = lo) (hlt : lo < l.length) (h : nw g l[lo] = false) : upd cf nw l g = l := by
  subst hlo
  unfold upd
  rw [List.getElem?_eq_getElem hlt]
  simp [h, hh]
theorem upd_cases (nw : α → α → Bool) (g : α) : upd cf nw l g = l ∨ upd cf nw l g = putAt (cf g) g l := by
  unfold upd
  split
  · split
    · exact .inl rfl
    · exact .inr rfl
  · exact .inr rfl
def joinL (cf : α → α → Int) (nw : α → α → Bool) (a b : List α) : List α := b.foldl (upd cf nw) a
theorem joinL_next {nw : α → α → Bool} {a b : List α} {k : Nat} (hk : k < b.length) : joinL cf nw a (b.take (k + 1)) = upd cf nw (joinL cf nw a (b.take k)) b[k] := by
  unfold joinL
  rw [take_snoc_ hk, List.foldl_append]
  rfl
theorem Ord.upd (o : Ord lt cf) (nw : α → α → Bool) (hs : sorted lt l = true) (g : α) : sorted lt (upd cf nw l g) = true := by
  rcases upd_cases (cf := cf) (l := l) nw g with h | h
  · rw [h]; exact hs
  · rw [h]; exact o.put hs g
theorem upd_len (nw : α → α → Bool) (g : α) : l.length ≤ (upd cf nw l g).length ∧ (upd cf nw l g).length ≤ l.length + 1 := by
  rcases upd_cases (cf := cf) (l := l) nw g with h | h
  · rw [h]; omega
  · rw [h, putAt_len]; split <;> omega
theorem upd_mem {nw : α → α → Bool} {g x : α} (h : x ∈ upd cf nw l g) : x = g ∨ x ∈ l := by
  rcases upd_cases (cf := cf) (l := l) nw g with e | e
  · rw [e] at h; exact .inr h
  · rw [e] at h; exact putAt_mem h
theorem Ord.join (o : Ord lt cf) (nw : α → α → Bool) : ∀ (b : List α) {a : List α}, sorted lt a = true → sorted lt (joinL cf nw a b) = true
  | [], a, h => h
  | g :: b, a, h => o.join nw b (o.upd nw h g)
theorem joinL_len (nw : α → α → Bool) : ∀ (b a : List α), a.length ≤ (joinL cf nw a b).length ∧ (joinL cf nw a b).length ≤ a.length + b.length
  | [], a => by simp [joinL]
  | g :: b, a => by
    have h1 := upd_len (cf := cf) (l := a) nw g
    have h2 := joinL_len nw b (upd cf nw a g)
    simp only [joinL, List.foldl_cons, List.length_cons] at *
    omega
theorem joinL_mem {nw : α → α → Bool} : ∀ {b a : List α} {x : α}, x ∈ joinL cf nw a b → x ∈ a ∨ x ∈ b
  | [], a, x, h => .inl h
  | g :: b, a, x, h => by
    rcases joinL_mem (b := b) (a := upd cf nw a g) h with h | h
    · rcases upd_mem h with rfl | h
      · exact .inr (by simp)
      · exact .inl h
    · exact .inr (by simp [h])
end
end Go.Proofs.Ytjhdlcmecbngkaa.Pl
/- Plain: hearing of one more. No program in sight. -/
namespace Go.Proofs.Ytjhdlcmecbngkaa.Pl
set_option linter.unusedVariables false
section
variable {α : Type} {cf : α → α → Int} {nw : α → α → Bool} {l : List α} {g : α}
/-- was it news? -/
def hearF (cf : α → α → Int) (nw : α → α → Bool) (l : List α) (g : α) : Bool := match l[low (cf g) l]? with
  | some x => !(hit (cf g) l) || nw g x
  | none => true
theorem hearF_miss (h : hit (cf g) l = false) : hearF cf nw l g = true := by unfold hearF; split <;> simp [h]
theorem hearF_hit (h : hit (cf g) l = true) : hearF cf nw l g = nw g (l[low (cf g) l]'(hit_lt h)) := by
  unfold hearF; rw [List.getElem?_eq_getElem (hit_lt h)]; simp [h]
theorem upd_miss (h : hit (cf g) l = false) : upd cf nw l g = l.take (low (cf g) l) ++ [g] ++ l.drop (low (cf g) l) := by
  rw [upd_new h]; simp [putAt, h]
theorem upd_newer (h : hit (cf g) l = true) (h2 : nw g (l[low (cf g) l]'(hit_lt h)) = true) : upd cf nw l g = l.set (low (cf g) l) g := by
  rw [upd_set rfl (hit_lt h) h2]; simp [putAt, h]
theorem upd_older (h : hit (cf g) l = true) (h2 : nw g (l[low (cf g) l]'(hit_lt h)) = false) : upd cf nw l g = l := upd_old h rfl (hit_lt h) h2
theorem upd_put (h : hearF cf nw l g = true) : upd cf nw l g = putAt (cf g) g l := by
  rcases Bool.eq_false_or_eq_true (hit (cf g) l) with q | q
  · rw [hearF_hit q] at h
    exact upd_set rfl (hit_lt q) h
  · exact upd_new q
end
end Go.Proofs.Ytjhdlcmecbngkaa.Pl
/- Plain: two lists that are the same, element by element. No program in sight. -/
namespace Go.Proofs.Ytjhdlcmecbngkaa.Pl
set_option linter.unusedVariables false
def sameL {α : Type} (e : α → α → Bool) (a b : List α) : Bool := decide (a.length = b.length) && (List.zip a b).all fun x => e x.1 x.2
theorem sameL_no {α : Type} {e : α → α → Bool} {a b : List α} (h : a.length ≠ b.length) : sameL e a b = false := by simp [sameL, h]
theorem sameL_at {α : Type} {e : α → α → Bool} {a b : List α} {k : Nat} (h1 : k < a.length) (h2 : k < b.length) (h : e a[k] b[k] = false) : sameL e a b = false := by
  unfold sameL
  rw [Bool.and_eq_false_iff]
  right
  rw [List.all_eq_false]
  have hz : k < (List.zip a b).length := by simp; omega
  exact ⟨(List.zip a b)[k], List.getElem_mem hz, by simp [h]⟩
theorem sameL_yes {α : Type} {e : α → α → Bool} {a b : List α} (hl : a.length = b.length) (h : ∀ k, (h1 : k < a.length) → (h2 : k < b.length) → e a[k] b[k] = true) : sameL e a b = true := by
  unfold sameL
  rw [Bool.and_eq_true_iff]
  refine ⟨by simpa using hl, List.all_eq_true.2 fun x hx => ?_⟩
  obtain ⟨k, hk, rfl⟩ := List.getElem_of_mem hx
  simp at hk ⊢
  exact h k (by omega) (by omega)
theorem sameL_refl {α : Type} {e : α → α → Bool} (he : ∀ x, e x x = true) (a : List α) : sameL e a a = true := sameL_yes rfl fun k _ _ => he _
theorem sameL_iff {α : Type} {e : α → α → Bool} (he : ∀ x y, e x y = true ↔ x = y) {a b : List α} : sameL e a b = true ↔ a = b := by
  constructor
  · intro h
    unfold sameL at h
    rw [Bool.and_eq_true_iff] at h
    have hl : a.length = b.length := by simpa using h.1
    apply List.ext_getElem hl
    intro i h1 h2
    have hz : i < (List.zip a b).length := by simp; omega
    have := List.all_eq_true.1 h.2 _ (List.getElem_mem hz)
    simp at this
    exact (he _ _).1 this
  · rintro rfl
    exact sameL_refl (fun x => (he x x).2 rfl) a
end Go.Proofs.Ytjhdlcmecbngkaa.Pl
/- Plain: what a label is. No program in sight. -/
namespace Go.Proofs.Ytjhdlcmecbngkaa.Pl
set_option linter.unusedVariables false

/-- may a byte stand in a label? -/
def okB (n : Int) : Bool := decide ((97 ≤ n ∧ n ≤ 122) ∨ (48 ≤ n ∧ n ≤ 57) ∨ n = 45 ∨ n = 95)
/-- is a text a label? -/
def lab (s : List UInt8) : Bool := s.all (fun c => okB c.toNat) && decide (1 ≤ s.length ∧ s.length ≤ 30)

theorem lab_yes {s : List UInt8} (h : ∀ i, (hi : i < s.length) → okB (s[i]).toNat = true) (h1 : 1 ≤ s.length) (h2 : s.length ≤ 30) : lab s = true := by
  unfold lab
  rw [Bool.and_eq_true_iff]
  refine ⟨List.all_eq_true.2 fun c hc => ?_, by simp; omega⟩
  obtain ⟨i, hi, rfl⟩ := List.getElem_of_mem hc
  exact h i hi
theorem lab_bad {s : List UInt8} {i : Nat} (hi : i < s.length) (h : okB (s[i]).toNat = false) : lab s = false := by
  unfold lab
  rw [Bool.and_eq_false_iff]
  left
  rw [List.all_eq_false]
  exact ⟨s[i], List.getElem_mem hi, by simp [h]⟩
theorem lab_long {s : List UInt8} (h : ¬ (1 ≤ s.length ∧ s.length ≤ 30)) : lab s = false := by
  unfold lab
  simp only [h, decide_false, Bool.and_false]
theorem lab_bd {s : List UInt8} (h : lab s = true) : 1 ≤ s.length ∧ s.length ≤ 30 := by
  unfold lab at h
  simp only [Bool.and_eq_true, decide_eq_true_eq] at h
  exact h.2
theorem okB_no {n : Int} (h : ¬ ((97 ≤ n ∧ n ≤ 122) ∨ (48 ≤ n ∧ n ≤ 57) ∨ n = 45 ∨ n = 95)) : okB n = false := by
  unfold okB; simpa using h
theorem okB_yes {n : Int} (h : (97 ≤ n ∧ n ≤ 122) ∨ (48 ≤ n ∧ n ≤ 57) ∨ n = 45 ∨ n = 95) : okB n = true := by
  unfold okB; simpa using h
end Go.Proofs.Ytjhdlcmecbngkaa.Pl
/- Plain functions of places: no program in sight. -/

namespace Go.Proofs.Ytjhdlcmecbngkaa.Pl
set_option linter.unusedVariables false

/-- within two bounds -/
def wi (n a b : Int) : Bool := decide (a ≤ n) && decide (n ≤ b)
theorem wi_iff {n a b : Int} : wi n a b = true ↔ a ≤ n ∧ n ≤ b := by simp [wi]
theorem wi_no {n a b : Int} : wi n a b = false ↔ ¬ (a ≤ n ∧ n ≤ b) := by rw [← wi_iff]; simp

def okPl (x y z h s : Int) : Bool := wi x (-10000000) 10000000 && wi y (-10000000) 10000000 && wi z (-10000000) 10000000 && wi h 0 1000000 && wi s 0 1000
/-- what is wrong with a place -/
def ckPl (x y z h s : Int) : Int := if okPl x y z h s then 0 else 3
end Go.Proofs.Ytjhdlcmecbngkaa.Pl
/- The code of the functions, resolved; printed by a program (mkrc.py) and held against the translation by the kernel. -/
namespace Go.Proofs.Ytjhdlcmecbngkaa
set_option linter.unusedVariables false
/-- hearsay/hearsaylaw.PlaceSorts -/
def rc_hearsaylaw_PlaceSorts : RCode :=
  .seq (.reg [⟨(some 3), none, .box 23 5 (.tmp 0)⟩,
     ⟨(some 6), none, .mv (.const (.bool false))⟩])
  (.seq (.reg [⟨(some 13), none, .load true 5 (.tmp 3)⟩,
     ⟨(some 14), none, .mv (.tmp 1)⟩,
     ⟨(some 15), none, .mv (.tmp 2)⟩,
     ⟨(some 16), none, .call (.func 8) [(.tmp 13), (.tmp 14), (.tmp 15)]⟩,
     ⟨(some 12), none, .mv (.tmp 16)⟩,
     ⟨(some 17), none, .ext (.tmp 12) 0⟩,
     ⟨(some 18), none, .ext (.tmp 12) 1⟩,
     ⟨(some 7), none, .mv (.tmp 17)⟩,
     ⟨(some 8), none, .mv (.tmp 18)⟩])
  (.seq (.reg [⟨(some 9), none, .mv (.const (.int .i64 0))⟩])
  (.seq (.seq (.reg [⟨(some 19), none, .mv (.tmp 1)⟩,
      ⟨(some 20), none, .len false (.tmp 19)⟩,
      ⟨(some 21), none, .bin .gtr (.tmp 20) (.const (.int .i64 100))⟩,
      ⟨(some 22), none, .mv (.tmp 21)⟩,
      ⟨(some 23), (some (22, false)), .mv (.tmp 2)⟩,
      ⟨(some 24), (some (22, false)), .len false (.tmp 23)⟩,
      ⟨(some 25), (some (22, false)), .bin .gtr (.tmp 24) (.const (.int .i64 100))⟩,
      ⟨(some 26), none, .pick (.tmp 22) (.const (.bool true)) (.tmp 25)⟩])
   (.cond (.tmp 26)
    (.reg [⟨(some 9), none, .mv (.const (.int .i64 2))⟩])
    (.reg [⟨(some 27), none, .load true 5 (.tmp 3)⟩,
       ⟨(some 28), none, .call (.func 9) [(.tmp 27)]⟩,
       ⟨(some 9), none, .mv (.tmp 28)⟩])))
  (.seq (.seq (.reg [⟨(some 10), none, .mv (.const (.int .i64 0))⟩])
   (.block 0
    (.loop
     (.seq (.seq (.reg [⟨(some 29), none, .mv (.tmp 10)⟩,
         ⟨(some 30), none, .mv (.tmp 1)⟩,
         ⟨(some 31), none, .len false (.tmp 30)⟩,
         ⟨(some 32), none, .bin .lss (.tmp 29) (.tmp 31)⟩,
         ⟨(some 33), none, .mv (.tmp 32)⟩,
         ⟨(some 34), (some (33, true)), .mv (.tmp 9)⟩,
         ⟨(some 35), (some (33, true)), .bin .eql (.tmp 34) (.const (.int .i64 0))⟩,
         ⟨(some 36), none, .pick (.tmp 33) (.tmp 35) (.const (.bool false))⟩])
      (.cond (.tmp 36)
       (.skip)
       (.exit 0)))
     (.seq (.block 1
       (.reg [⟨(some 39), none, .mv (.tmp 1)⟩,
         ⟨(some 40), none, .mv (.tmp 10)⟩,
         ⟨(some 41), none, .idxA 6 (.tmp 39) (.tmp 40)⟩,
         ⟨(some 42), none, .fldA 1 (.tmp 41)⟩,
         ⟨(some 43), none, .load true 5 (.tmp 42)⟩,
         ⟨(some 44), none, .call (.func 9) [(.tmp 43)]⟩,
         ⟨(some 9), none, .mv (.tmp 44)⟩]))
     (.reg [⟨(some 37), none, .mv (.tmp 10)⟩,
       ⟨(some 38), none, .bin .add (.tmp 37) (.const (.int .i64 1))⟩,
       ⟨(some 10), none, .mv (.tmp 38)⟩]))))))
  (.seq (.reg [⟨(some 11), none, .mv (.const (.slice none 0 0))⟩])
  (.seq (.seq (.reg [⟨(some 45), none, .mv (.tmp 9)⟩,
      ⟨(some 46), none, .bin .eql (.tmp 45) (.const (.int .i64 0))⟩])
   (.cond (.tmp 46)
    (.reg [⟨(some 47), none, .load true 5 (.tmp 3)⟩,
       ⟨(some 48), none, .mv (.tmp 1)⟩,
       ⟨(some 49), none, .mv (.tmp 2)⟩,
       ⟨(some 50), none, .call (.func 10) [(.tmp 47), (.tmp 48), (.tmp 49)]⟩,
       ⟨(some 11), none, .mv (.tmp 50)⟩])
    (.skip)))
  (.seq (.reg [⟨(some 51), none, .call (.func 11) []⟩,
     ⟨(some 52), none, .mv (.tmp 51)⟩,
     ⟨(some 53), (some (52, true)), .mv (.tmp 8)⟩,
     ⟨(some 54), (some (52, true)), .mv (.tmp 9)⟩,
     ⟨(some 55), (some (52, true)), .bin .eql (.tmp 53) (.tmp 54)⟩,
     ⟨(some 56), none, .pick (.tmp 52) (.tmp 55) (.const (.bool false))⟩,
     ⟨(some 57), none, .mv (.tmp 56)⟩,
     ⟨(some 58), (some (57, true)), .mv (.tmp 7)⟩,
     ⟨(some 59), (some (57, true)), .mv (.tmp 11)⟩,
     ⟨(some 60), (some (57, true)), .call (.func 12) [(.tmp 58), (.tmp 59)]⟩,
     ⟨(some 61), none, .pick (.tmp 57) (.tmp 60) (.const (.bool false))⟩,
     ⟨(some 6), none, .mv (.tmp 61)⟩])
  (.ret))))))))
theorem ck_hearsaylaw_PlaceSorts : chkFun Try.prog 3 3 = some (rc_hearsaylaw_PlaceSorts, [6]) := by kernel_rfl
/-- hearsay/hearsaylaw.RumorPuts -/
def rc_hearsaylaw_RumorPuts : RCode :=
  .seq (.reg [⟨(some 3), none, .box 38 5 (.tmp 1)⟩,
     ⟨(some 4), none, .mv (.const (.bool false))⟩])
  (.seq (.reg [⟨(some 11), none, .mv (.tmp 0)⟩,
     ⟨(some 12), none, .load true 5 (.tmp 3)⟩,
     ⟨(some 13), none, .call (.func 13) [(.tmp 11), (.tmp 12)]⟩,
     ⟨(some 10), none, .mv (.tmp 13)⟩,
     ⟨(some 14), none, .ext (.tmp 10) 0⟩,
     ⟨(some 15), none, .ext (.tmp 10) 1⟩,
     ⟨(some 5), none, .mv (.tmp 14)⟩,
     ⟨(some 6), none, .mv (.tmp 15)⟩])
  (.seq (.reg [⟨(some 16), none, .mv (.tmp 0)⟩,
     ⟨(some 17), none, .call (.func 14) [(.tmp 16)]⟩,
     ⟨(some 7), none, .mv (.tmp 17)⟩])
  (.seq (.reg [⟨(some 18), none, .mv (.tmp 7)⟩,
     ⟨(some 8), none, .mv (.tmp 18)⟩])
  (.seq (.seq (.reg [⟨(some 19), none, .mv (.tmp 8)⟩,
      ⟨(some 20), none, .bin .eql (.tmp 19) (.const (.int .i64 0))⟩])
   (.cond (.tmp 20)
    (.reg [⟨(some 21), none, .load true 5 (.tmp 3)⟩,
       ⟨(some 22), none, .call (.func 15) [(.tmp 21)]⟩,
       ⟨(some 8), none, .mv (.tmp 22)⟩])
    (.skip)))
  (.seq (.reg [⟨(some 9), none, .mv (.const (.slice none 0 0))⟩])
  (.seq (.seq (.reg [⟨(some 23), none, .mv (.tmp 8)⟩,
      ⟨(some 24), none, .bin .eql (.tmp 23) (.const (.int .i64 0))⟩])
   (.cond (.tmp 24)
    (.reg [⟨(some 26), none, .mv (.tmp 0)⟩,
       ⟨(some 27), none, .load true 5 (.tmp 3)⟩,
       ⟨(some 28), none, .call (.func 16) [(.tmp 26), (.tmp 27)]⟩,
       ⟨(some 25), none, .mv (.tmp 28)⟩,
       ⟨(some 29), none, .ext (.tmp 25) 0⟩,
       ⟨(some 30), none, .ext (.tmp 25) 1⟩,
       ⟨(some 9), none, .mv (.tmp 29)⟩,
       ⟨(some 8), none, .mv (.tmp 30)⟩])
    (.skip)))
  (.seq (.reg [⟨(some 31), none, .call (.func 17) []⟩,
     ⟨(some 32), none, .mv (.tmp 31)⟩,
     ⟨(some 33), (some (32, true)), .mv (.tmp 0)⟩,
     ⟨(some 34), (some (32, true)), .call (.func 18) [(.tmp 33)]⟩,
     ⟨(some 35), (some (32, true)), .mv (.tmp 7)⟩,
     ⟨(some 36), (some (32, true)), .bin .eql (.tmp 34) (.tmp 35)⟩,
     ⟨(some 37), none, .pick (.tmp 32) (.tmp 36) (.const (.bool false))⟩,
     ⟨(some 38), none, .mv (.tmp 37)⟩,
     ⟨(some 39), (some (38, true)), .mv (.tmp 6)⟩,
     ⟨(some 40), (some (38, true)), .mv (.tmp 8)⟩,
     ⟨(some 41), (some (38, true)), .bin .eql (.tmp 39) (.tmp 40)⟩,
     ⟨(some 42), none, .pick (.tmp 38) (.tmp 41) (.const (.bool false))⟩,
     ⟨(some 43), none, .mv (.tmp 42)⟩,
     ⟨(some 44), (some (43, true)), .mv (.tmp 5)⟩,
     ⟨(some 45), (some (43, true)), .mv (.tmp 9)⟩,
     ⟨(some 46), (some (43, true)), .call (.func 19) [(.tmp 44), (.tmp 45)]⟩,
     ⟨(some 47), none, .pick (.tmp 43) (.tmp 46) (.const (.bool false))⟩,
     ⟨(some 4), none, .mv (.tmp 47)⟩])
  (.ret))))))))
theorem ck_hearsaylaw_RumorPuts : chkFun Try.prog 4 2 = some (rc_hearsaylaw_RumorPuts, [4]) := by kernel_rfl
/-- hearsay/hearsaylaw.RumorTakes -/
def rc_hearsaylaw_RumorTakes : RCode :=
  .seq (.reg [⟨(some 6), none, .mv (.const (.bool false))⟩])
  (.seq (.reg [⟨(some 14), none, .mv (.tmp 0)⟩,
     ⟨(some 15), none, .mv (.tmp 1)⟩,
     ⟨(some 16), none, .mv (.tmp 2)⟩,
     ⟨(some 17), none, .call (.func 20) [(.tmp 14), (.tmp 15), (.tmp 16)]⟩,
     ⟨(some 13), none, .mv (.tmp 17)⟩,
     ⟨(some 18), none, .ext (.tmp 13) 0⟩,
     ⟨(some 19), none, .ext (.tmp 13) 1⟩,
     ⟨(some 20), none, .ext (.tmp 13) 2⟩,
     ⟨(some 7), none, .mv (.tmp 18)⟩,
     ⟨(some 8), none, .mv (.tmp 19)⟩,
     ⟨(some 9), none, .mv (.tmp 20)⟩])
  (.seq (.reg [⟨(some 21), none, .mv (.tmp 0)⟩,
     ⟨(some 22), none, .call (.func 14) [(.tmp 21)]⟩,
     ⟨(some 10), none, .mv (.tmp 22)⟩])
  (.seq (.seq (.reg [⟨(some 23), none, .mv (.tmp 10)⟩,
      ⟨(some 24), none, .bin .eql (.tmp 23) (.const (.int .i64 0))⟩,
      ⟨(some 25), none, .mv (.tmp 24)⟩,
      ⟨(some 26), (some (25, true)), .mv (.tmp 1)⟩,
      ⟨(some 27), (some (25, true)), .bin .lss (.tmp 26) (.const (.int .i64 1))⟩,
      ⟨(some 28), (some (25, true)), .mv (.tmp 27)⟩,
      ⟨(some 29), (some (28, false)), .mv (.tmp 1)⟩,
      ⟨(some 30), (some (28, false)), .bin .gtr (.tmp 29) (.const (.int .i64 20))⟩,
      ⟨(some 31), (some (25, true)), .pick (.tmp 28) (.const (.bool true)) (.tmp 30)⟩,
      ⟨(some 32), (some (25, true)), .mv (.tmp 31)⟩,
      ⟨(some 33), (some (32, false)), .mv (.tmp 2)⟩,
      ⟨(some 34), (some (32, false)), .bin .lss (.tmp 33) (.const (.int .i64 1))⟩,
      ⟨(some 35), (some (25, true)), .pick (.tmp 32) (.const (.bool true)) (.tmp 34)⟩,
      ⟨(some 36), (some (25, true)), .mv (.tmp 35)⟩,
      ⟨(some 37), (some (36, false)), .mv (.tmp 2)⟩,
      ⟨(some 38), (some (36, false)), .bin .gtr (.tmp 37) (.const (.int .i64 100))⟩,
      ⟨(some 39), (some (25, true)), .pick (.tmp 36) (.const (.bool true)) (.tmp 38)⟩,
      ⟨(some 40), none, .pick (.tmp 25) (.tmp 39) (.const (.bool false))⟩])
   (.cond (.tmp 40)
    (.reg [⟨(some 10), none, .mv (.const (.int .i64 3))⟩])
    (.skip)))
  (.seq (.reg [⟨(some 11), none, .mv (.const (.slice none 0 0))⟩])
  (.seq (.reg [⟨(some 12), none, .mv (.const (.slice none 0 0))⟩])
  (.seq (.seq (.reg [⟨(some 41), none, .mv (.tmp 10)⟩,
      ⟨(some 42), none, .bin .eql (.tmp 41) (.const (.int .i64 0))⟩])
   (.cond (.tmp 42)
    (.reg [⟨(some 44), none, .mv (.tmp 0)⟩,
       ⟨(some 45), none, .mv (.tmp 1)⟩,
       ⟨(some 46), none, .mv (.tmp 2)⟩,
       ⟨(some 47), none, .call (.func 21) [(.tmp 44), (.tmp 45), (.tmp 46)]⟩,
       ⟨(some 43), none, .mv (.tmp 47)⟩,
       ⟨(some 48), none, .ext (.tmp 43) 0⟩,
       ⟨(some 49), none, .ext (.tmp 43) 1⟩,
       ⟨(some 11), none, .mv (.tmp 48)⟩,
       ⟨(some 12), none, .mv (.tmp 49)⟩])
    (.skip)))
  (.seq (.reg [⟨(some 50), none, .call (.func 17) []⟩,
     ⟨(some 51), none, .mv (.tmp 50)⟩,
     ⟨(some 52), (some (51, true)), .mv (.tmp 9)⟩,
     ⟨(some 53), (some (51, true)), .mv (.tmp 10)⟩,
     ⟨(some 54), (some (51, true)), .bin .eql (.tmp 52) (.tmp 53)⟩,
     ⟨(some 55), none, .pick (.tmp 51) (.tmp 54) (.const (.bool false))⟩,
     ⟨(some 56), none, .mv (.tmp 55)⟩,
     ⟨(some 57), (some (56, true)), .mv (.tmp 7)⟩,
     ⟨(some 58), (some (56, true)), .mv (.tmp 11)⟩,
     ⟨(some 59), (some (56, true)), .call (.func 22) [(.tmp 57), (.tmp 58)]⟩,
     ⟨(some 60), none, .pick (.tmp 56) (.tmp 59) (.const (.bool false))⟩,
     ⟨(some 61), none, .mv (.tmp 60)⟩,
     ⟨(some 62), (some (61, true)), .mv (.tmp 8)⟩,
     ⟨(some 63), (some (61, true)), .mv (.tmp 12)⟩,
     ⟨(some 64), (some (61, true)), .call (.func 19) [(.tmp 62), (.tmp 63)]⟩,
     ⟨(some 65), none, .pick (.tmp 61) (.tmp 64) (.const (.bool false))⟩,
     ⟨(some 6), none, .mv (.tmp 65)⟩])
  (.ret))))))))
theorem ck_hearsaylaw_RumorTakes : chkFun Try.prog 5 3 = some (rc_hearsaylaw_RumorTakes, [6]) := by kernel_rfl
/-- hearsay/hearsaylaw.RumorEnds -/
def rc_hearsaylaw_RumorEnds : RCode :=
  .seq (.reg [⟨(some 6), none, .mv (.const (.bool false))⟩])
  (.seq (.seq (.reg [⟨(some 18), none, .call (.func 17) []⟩,
      ⟨(some 19), none, .not (.tmp 18)⟩])
   (.cond (.tmp 19)
    (.seq (.reg [⟨(some 6), none, .mv (.const (.bool false))⟩])
     (.ret))
    (.skip)))
  (.seq (.reg [⟨(some 20), none, .mv (.tmp 1)⟩,
     ⟨(some 21), none, .call (.func 23) [(.tmp 20), (.const (.int .i64 20))]⟩,
     ⟨(some 22), none, .bin .add (.const (.int .i64 1)) (.tmp 21)⟩,
     ⟨(some 23), none, .mv (.tmp 2)⟩,
     ⟨(some 24), none, .call (.func 23) [(.tmp 23), (.const (.int .i64 12))]⟩,
     ⟨(some 25), none, .bin .add (.const (.int .i64 1)) (.tmp 24)⟩,
     ⟨(some 1), none, .mv (.tmp 22)⟩,
     ⟨(some 2), none, .mv (.tmp 25)⟩])
  (.seq (.reg [⟨(some 26), none, .mv (.tmp 0)⟩,
     ⟨(some 27), none, .len false (.tmp 26)⟩,
     ⟨(some 28), none, .mkn 3 1 8 [(.int .i64 0)] (.tmp 27) (.tmp 27)⟩,
     ⟨(some 7), none, .mv (.tmp 28)⟩])
  (.seq (.reg [⟨(some 29), none, .mv (.tmp 0)⟩,
     ⟨(some 8), none, .mv (.tmp 29)⟩])
  (.seq (.seq (.reg [⟨(some 9), none, .mv (.const (.int .i64 0))⟩])
   (.block 0
    (.loop
     (.seq (.seq (.reg [⟨(some 30), none, .mv (.tmp 9)⟩,
         ⟨(some 31), none, .bin .leq (.tmp 30) (.const (.int .i64 240))⟩])
      (.cond (.tmp 31)
       (.skip)
       (.exit 0)))
     (.seq (.block 1
       (.seq (.reg [⟨(some 35), none, .mv (.tmp 8)⟩,
          ⟨(some 36), none, .mv (.tmp 1)⟩,
          ⟨(some 37), none, .mv (.tmp 2)⟩,
          ⟨(some 38), none, .call (.func 20) [(.tmp 35), (.tmp 36), (.tmp 37)]⟩,
          ⟨(some 34), none, .mv (.tmp 38)⟩,
          ⟨(some 39), none, .ext (.tmp 34) 0⟩,
          ⟨(some 40), none, .ext (.tmp 34) 1⟩,
          ⟨(some 41), none, .ext (.tmp 34) 2⟩,
          ⟨(some 10), none, .mv (.tmp 39)⟩,
          ⟨(some 11), none, .mv (.tmp 40)⟩,
          ⟨(some 12), none, .mv (.tmp 41)⟩])
       (.seq (.seq (.reg [⟨(some 42), none, .mv (.tmp 12)⟩,
           ⟨(some 43), none, .bin .neq (.tmp 42) (.const (.int .i64 0))⟩])
        (.cond (.tmp 43)
         (.seq (.reg [⟨(some 44), none, .mv (.tmp 9)⟩,
             ⟨(some 45), none, .bin .eql (.tmp 44) (.const (.int .i64 0))⟩,
             ⟨(some 46), none, .mv (.tmp 45)⟩,
             ⟨(some 47), (some (46, true)), .mv (.tmp 0)⟩,
             ⟨(some 48), (some (46, true)), .call (.func 14) [(.tmp 47)]⟩,
             ⟨(some 49), (some (46, true)), .bin .neq (.tmp 48) (.const (.int .i64 0))⟩,
             ⟨(some 50), none, .pick (.tmp 46) (.tmp 49) (.const (.bool false))⟩,
             ⟨(some 6), none, .mv (.tmp 50)⟩])
          (.ret))
         (.skip)))
       (.seq (.seq (.reg [⟨(some 51), none, .mv (.tmp 11)⟩,
           ⟨(some 52), none, .call (.func 18) [(.tmp 51)]⟩,
           ⟨(some 53), none, .bin .neq (.tmp 52) (.const (.int .i64 0))⟩,
           ⟨(some 54), none, .mv (.tmp 53)⟩,
           ⟨(some 55), (some (54, false)), .mv (.tmp 10)⟩,
           ⟨(some 56), (some (54, false)), .len false (.tmp 55)⟩,
           ⟨(some 57), (some (54, false)), .mv (.tmp 1)⟩,
           ⟨(some 58), (some (54, false)), .bin .gtr (.tmp 56) (.tmp 57)⟩,
           ⟨(some 59), none, .pick (.tmp 54) (.const (.bool true)) (.tmp 58)⟩])
        (.cond (.tmp 59)
         (.seq (.reg [⟨(some 6), none, .mv (.const (.bool false))⟩])
          (.ret))
         (.skip)))
       (.seq (.seq (.reg [⟨(some 13), none, .mv (.const (.int .i64 0))⟩])
        (.block 2
         (.loop
          (.seq (.seq (.reg [⟨(some 60), none, .mv (.tmp 13)⟩,
              ⟨(some 61), none, .mv (.tmp 10)⟩,
              ⟨(some 62), none, .len false (.tmp 61)⟩,
              ⟨(some 63), none, .bin .lss (.tmp 60) (.tmp 62)⟩])
           (.cond (.tmp 63)
            (.skip)
            (.exit 2)))
          (.seq (.block 3
            (.seq (.reg [⟨(some 14), none, .mv (.const (.int .i64 (-1)))⟩])
            (.seq (.seq (.reg [⟨(some 15), none, .mv (.const (.int .i64 0))⟩])
             (.block 4
              (.loop
               (.seq (.seq (.reg [⟨(some 66), none, .mv (.tmp 15)⟩,
                   ⟨(some 67), none, .mv (.tmp 0)⟩,
                   ⟨(some 68), none, .len false (.tmp 67)⟩,
                   ⟨(some 69), none, .bin .lss (.tmp 66) (.tmp 68)⟩])
                (.cond (.tmp 69)
                 (.skip)
                 (.exit 4)))
               (.seq (.block 5
                 (.seq (.dreg [[⟨(some 72), none, .mv (.tmp 0)⟩,
                     ⟨(some 73), none, .mv (.tmp 15)⟩,
                     ⟨(some 74), none, .idxA 6 (.tmp 72) (.tmp 73)⟩,
                     ⟨(some 75), none, .fldA 0 (.tmp 74)⟩,
                     ⟨(some 76), none, .load true 5 (.tmp 75)⟩,
                     ⟨(some 77), none, .mv (.tmp 10)⟩,
                     ⟨(some 78), none, .mv (.tmp 13)⟩,
                     ⟨(some 79), none, .idxA 5 (.tmp 77) (.tmp 78)⟩,
                     ⟨(some 80), none, .load true 5 (.tmp 79)⟩],
                    [⟨(some 81), none, .eqS false [1, 0, 0, 0, 2] (.tmp 76) (.tmp 80)⟩]])
                 (.cond (.tmp 81)
                  (.reg [⟨(some 82), none, .mv (.tmp 15)⟩,
                     ⟨(some 14), none, .mv (.tmp 82)⟩])
                  (.skip))))
               (.reg [⟨(some 70), none, .mv (.tmp 15)⟩,
                 ⟨(some 71), none, .bin .add (.tmp 70) (.const (.int .i64 1))⟩,
                 ⟨(some 15), none, .mv (.tmp 71)⟩]))))))
            (.seq (.seq (.reg [⟨(some 83), none, .mv (.tmp 14)⟩,
                ⟨(some 84), none, .bin .lss (.tmp 83) (.const (.int .i64 0))⟩])
             (.cond (.tmp 84)
              (.seq (.reg [⟨(some 6), none, .mv (.const (.bool false))⟩])
               (.ret))
              (.skip)))
            (.reg [⟨(some 85), none, .mv (.tmp 7)⟩,
              ⟨(some 86), none, .mv (.tmp 14)⟩,
              ⟨(some 87), none, .idxA 1 (.tmp 85) (.tmp 86)⟩,
              ⟨(some 88), none, .load false 1 (.tmp 87)⟩,
              ⟨(some 89), none, .bin .add (.tmp 88) (.const (.int .i64 1))⟩,
              ⟨(some 90), none, .idxA 1 (.tmp 85) (.tmp 86)⟩,
              ⟨none, none, .store 1 (.tmp 90) (.tmp 89)⟩])))))
          (.reg [⟨(some 64), none, .mv (.tmp 13)⟩,
            ⟨(some 65), none, .bin .add (.tmp 64) (.const (.int .i64 1))⟩,
            ⟨(some 13), none, .mv (.tmp 65)⟩]))))))
       (.seq (.reg [⟨(some 91), none, .mv (.tmp 11)⟩,
          ⟨(some 8), none, .mv (.tmp 91)⟩])
       (.seq (.reg [⟨(some 92), none, .mv (.tmp 8)⟩,
          ⟨(some 93), none, .len false (.tmp 92)⟩,
          ⟨(some 94), none, .bin .eql (.tmp 93) (.const (.int .i64 0))⟩])
       (.cond (.tmp 94)
        (.exit 0)
        (.skip)))))))))
     (.reg [⟨(some 32), none, .mv (.tmp 9)⟩,
       ⟨(some 33), none, .bin .add (.tmp 32) (.const (.int .i64 1))⟩,
       ⟨(some 9), none, .mv (.tmp 33)⟩]))))))
  (.seq (.seq (.reg [⟨(some 16), none, .mv (.const (.int .i64 0))⟩])
   (.block 6
    (.loop
     (.seq (.seq (.reg [⟨(some 95), none, .mv (.tmp 16)⟩,
         ⟨(some 96), none, .mv (.tmp 0)⟩,
         ⟨(some 97), none, .len false (.tmp 96)⟩,
         ⟨(some 98), none, .bin .lss (.tmp 95) (.tmp 97)⟩])
      (.cond (.tmp 98)
       (.skip)
       (.exit 6)))
     (.seq (.block 7
       (.seq (.reg [⟨(some 101), none, .mv (.tmp 2)⟩,
          ⟨(some 102), none, .mv (.tmp 0)⟩,
          ⟨(some 103), none, .mv (.tmp 16)⟩,
          ⟨(some 104), none, .idxA 6 (.tmp 102) (.tmp 103)⟩,
          ⟨(some 105), none, .fldA 5 (.tmp 104)⟩,
          ⟨(some 106), none, .load false 1 (.tmp 105)⟩,
          ⟨(some 107), none, .bin .sub (.tmp 101) (.tmp 106)⟩,
          ⟨(some 17), none, .mv (.tmp 107)⟩])
       (.seq (.reg [⟨(some 108), none, .mv (.tmp 7)⟩,
          ⟨(some 109), none, .mv (.tmp 16)⟩,
          ⟨(some 110), none, .idxA 1 (.tmp 108) (.tmp 109)⟩,
          ⟨(some 111), none, .load false 1 (.tmp 110)⟩,
          ⟨(some 112), none, .mv (.tmp 17)⟩,
          ⟨(some 113), none, .mm true (.const (.int .i64 1)) (.tmp 112)⟩,
          ⟨(some 114), none, .bin .gtr (.tmp 111) (.tmp 113)⟩,
          ⟨(some 115), none, .mv (.tmp 114)⟩,
          ⟨(some 116), (some (115, false)), .mv (.tmp 17)⟩,
          ⟨(some 117), (some (115, false)), .bin .gtr (.tmp 116) (.const (.int .i64 0))⟩,
          ⟨(some 118), (some (115, false)), .mv (.tmp 117)⟩,
          ⟨(some 119), (some (118, true)), .mv (.tmp 7)⟩,
          ⟨(some 120), (some (118, true)), .mv (.tmp 16)⟩,
          ⟨(some 121), (some (118, true)), .idxA 1 (.tmp 119) (.tmp 120)⟩,
          ⟨(some 122), (some (118, true)), .load false 1 (.tmp 121)⟩,
          ⟨(some 123), (some (118, true)), .mv (.tmp 17)⟩,
          ⟨(some 124), (some (118, true)), .bin .neq (.tmp 122) (.tmp 123)⟩,
          ⟨(some 125), (some (115, false)), .pick (.tmp 118) (.tmp 124) (.const (.bool false))⟩,
          ⟨(some 126), none, .pick (.tmp 115) (.const (.bool true)) (.tmp 125)⟩])
       (.cond (.tmp 126)
        (.seq (.reg [⟨(some 6), none, .mv (.const (.bool false))⟩])
         (.ret))
        (.skip)))))
     (.reg [⟨(some 99), none, .mv (.tmp 16)⟩,
       ⟨(some 100), none, .bin .add (.tmp 99) (.const (.int .i64 1))⟩,
       ⟨(some 16), none, .mv (.tmp 100)⟩]))))))
  (.seq (.reg [⟨(some 127), none, .mv (.tmp 8)⟩,
     ⟨(some 128), none, .len false (.tmp 127)⟩,
     ⟨(some 129), none, .bin .eql (.tmp 128) (.const (.int .i64 0))⟩,
     ⟨(some 6), none, .mv (.tmp 129)⟩])
  (.ret))))))))
theorem ck_hearsaylaw_RumorEnds : chkFun Try.prog 6 3 = some (rc_hearsaylaw_RumorEnds, [6]) := by kernel_rfl
/-- hearsay/hearsaylaw.RumorTimes -/
def rc_hearsaylaw_RumorTimes : RCode :=
  .seq (.reg [⟨(some 2), none, .mv (.const (.bool false))⟩])
  (.seq (.reg [⟨(some 8), none, .mv (.tmp 0)⟩,
     ⟨(some 9), none, .call (.func 24) [(.tmp 8)]⟩,
     ⟨(some 7), none, .mv (.tmp 9)⟩,
     ⟨(some 10), none, .ext (.tmp 7) 0⟩,
     ⟨(some 11), none, .ext (.tmp 7) 1⟩,
     ⟨(some 3), none, .mv (.tmp 10)⟩,
     ⟨(some 4), none, .mv (.tmp 11)⟩])
  (.seq (.reg [⟨(some 5), none, .mv (.const (.int .i64 0))⟩,
     ⟨(some 6), none, .mv (.const (.int .i64 0))⟩])
  (.seq (.seq (.reg [⟨(some 12), none, .mv (.tmp 0)⟩,
      ⟨(some 13), none, .bin .lss (.tmp 12) (.const (.int .i64 0))⟩,
      ⟨(some 14), none, .mv (.tmp 13)⟩,
      ⟨(some 15), (some (14, false)), .mv (.tmp 0)⟩,
      ⟨(some 16), (some (14, false)), .bin .gtr (.tmp 15) (.const (.int .i64 20))⟩,
      ⟨(some 17), none, .pick (.tmp 14) (.const (.bool true)) (.tmp 16)⟩])
   (.cond (.tmp 17)
    (.reg [⟨(some 5), none, .mv (.const (.int .i64 3))⟩])
    (.reg [⟨(some 18), none, .mv (.tmp 0)⟩,
       ⟨(some 19), none, .call (.func 25) [(.tmp 18)]⟩,
       ⟨(some 6), none, .mv (.tmp 19)⟩])))
  (.seq (.reg [⟨(some 20), none, .call (.func 17) []⟩,
     ⟨(some 21), none, .mv (.tmp 20)⟩,
     ⟨(some 22), (some (21, true)), .mv (.tmp 4)⟩,
     ⟨(some 23), (some (21, true)), .mv (.tmp 5)⟩,
     ⟨(some 24), (some (21, true)), .bin .eql (.tmp 22) (.tmp 23)⟩,
     ⟨(some 25), none, .pick (.tmp 21) (.tmp 24) (.const (.bool false))⟩,
     ⟨(some 26), none, .mv (.tmp 25)⟩,
     ⟨(some 27), (some (26, true)), .mv (.tmp 3)⟩,
     ⟨(some 28), (some (26, true)), .mv (.tmp 6)⟩,
     ⟨(some 29), (some (26, true)), .bin .eql (.tmp 27) (.tmp 28)⟩,
     ⟨(some 30), none, .pick (.tmp 26) (.tmp 29) (.const (.bool false))⟩,
     ⟨(some 2), none, .mv (.tmp 30)⟩])
  (.ret)))))
theorem ck_hearsaylaw_RumorTimes : chkFun Try.prog 7 1 = some (rc_hearsaylaw_RumorTimes, [2]) := by kernel_rfl
/-- hearsay/place.Sort -/
def rc_place_Sort : RCode :=
  .seq (.reg [⟨(some 3), none, .box 23 5 (.tmp 0)⟩,
     ⟨(some 6), none, .mv (.const (.slice none 0 0))⟩,
     ⟨(some 7), none, .mv (.const (.int .i64 0))⟩])
  (.seq (.seq (.reg [⟨(some 16), none, .mv (.tmp 1)⟩,
      ⟨(some 17), none, .len false (.tmp 16)⟩,
      ⟨(some 18), none, .bin .gtr (.tmp 17) (.const (.int .i64 100))⟩,
      ⟨(some 19), none, .mv (.tmp 18)⟩,
      ⟨(some 20), (some (19, false)), .mv (.tmp 2)⟩,
      ⟨(some 21), (some (19, false)), .len false (.tmp 20)⟩,
      ⟨(some 22), (some (19, false)), .bin .gtr (.tmp 21) (.const (.int .i64 100))⟩,
      ⟨(some 23), none, .pick (.tmp 19) (.const (.bool true)) (.tmp 22)⟩])
   (.cond (.tmp 23)
    (.seq (.reg [⟨(some 6), none, .mv (.const (.slice none 0 0))⟩,
        ⟨(some 7), none, .mv (.const (.int .i64 2))⟩])
     (.ret))
    (.skip)))
  (.seq (.seq (.reg [⟨(some 24), none, .load true 5 (.tmp 3)⟩,
      ⟨(some 25), none, .call (.func 26) [(.tmp 24)]⟩,
      ⟨(some 8), none, .mv (.tmp 25)⟩])
   (.seq (.reg [⟨(some 26), none, .mv (.tmp 8)⟩,
      ⟨(some 27), none, .bin .neq (.tmp 26) (.const (.int .i64 0))⟩])
   (.cond (.tmp 27)
    (.seq (.reg [⟨(some 28), none, .mv (.tmp 8)⟩,
        ⟨(some 6), none, .mv (.const (.slice none 0 0))⟩,
        ⟨(some 7), none, .mv (.tmp 28)⟩])
     (.ret))
    (.skip))))
  (.seq (.reg [⟨(some 29), none, .mkm⟩,
     ⟨(some 9), none, .zbox 60 [(.map none)]⟩,
     ⟨none, none, .store 1 (.tmp 9) (.tmp 29)⟩])
  (.seq (.seq (.reg [⟨(some 30), none, .mv (.tmp 1)⟩,
      ⟨(some 31), none, .len false (.tmp 30)⟩,
      ⟨(some 32), none, .mv (.const (.int .i64 0))⟩])
   (.block 0
    (.loop
     (.seq (.reg [⟨(some 33), none, .bin .lss (.tmp 32) (.tmp 31)⟩])
     (.seq (.cond (.tmp 33)
       (.skip)
       (.exit 0))
     (.seq (.block 1
       (.seq (.reg [⟨(some 34), none, .idxA 6 (.tmp 30) (.tmp 32)⟩,
          ⟨(some 35), none, .load true 6 (.tmp 34)⟩,
          ⟨(some 11), none, .zbox 31 [(.string ⟨#[]⟩), (.int .i64 0), (.int .i64 0), (.int .i64 0), (.int .i64 0), (.int .i64 0)]⟩,
          ⟨none, none, .store 6 (.tmp 11) (.tmp 35)⟩])
       (.seq (.seq (.reg [⟨(some 36), none, .fldA 1 (.tmp 11)⟩,
           ⟨(some 37), none, .load true 5 (.tmp 36)⟩,
           ⟨(some 38), none, .call (.func 26) [(.tmp 37)]⟩,
           ⟨(some 12), none, .mv (.tmp 38)⟩])
        (.seq (.reg [⟨(some 39), none, .mv (.tmp 12)⟩,
           ⟨(some 40), none, .bin .neq (.tmp 39) (.const (.int .i64 0))⟩])
        (.cond (.tmp 40)
         (.seq (.reg [⟨(some 41), none, .mv (.tmp 12)⟩,
             ⟨(some 6), none, .mv (.const (.slice none 0 0))⟩,
             ⟨(some 7), none, .mv (.tmp 41)⟩])
          (.ret))
         (.skip))))
       (.seq (.reg [⟨(some 43), none, .load false 1 (.tmp 9)⟩,
          ⟨(some 44), none, .fldA 0 (.tmp 11)⟩,
          ⟨(some 45), none, .load false 1 (.tmp 44)⟩,
          ⟨(some 46), none, .mlook .string true (.int .i64 0) (.tmp 43) (.tmp 45)⟩,
          ⟨(some 42), none, .mv (.tmp 46)⟩,
          ⟨(some 47), none, .ext (.tmp 42) 0⟩,
          ⟨(some 48), none, .ext (.tmp 42) 1⟩,
          ⟨(some 13), none, .mv (.tmp 47)⟩,
          ⟨(some 14), none, .mv (.tmp 48)⟩])
       (.seq (.reg [⟨(some 49), none, .mv (.tmp 14)⟩,
          ⟨(some 50), none, .not (.tmp 49)⟩])
       (.cond (.tmp 50)
        (.dreg [[⟨(some 51), none, .load false 1 (.tmp 9)⟩,
            ⟨(some 52), none, .fldA 0 (.tmp 11)⟩,
            ⟨(some 53), none, .load false 1 (.tmp 52)⟩,
            ⟨(some 54), none, .load true 5 (.tmp 3)⟩,
            ⟨(some 55), none, .fldA 1 (.tmp 11)⟩,
            ⟨(some 56), none, .load true 5 (.tmp 55)⟩,
            ⟨(some 57), none, .call (.func 27) [(.tmp 54), (.tmp 56)]⟩],
           [⟨none, none, .mupd .string (.tmp 51) (.tmp 53) (.tmp 57)⟩]])
        (.skip)))))))
     (.reg [⟨(some 58), none, .bin .add (.tmp 32) (.const (.int .i64 1))⟩,
       ⟨(some 32), none, .mv (.tmp 58)⟩])))))))
  (.seq (.reg [⟨(some 59), none, .mv (.tmp 2)⟩,
     ⟨(some 60), none, .call (.func 28) [(.tmp 59)]⟩,
     ⟨(some 15), none, .mv (.tmp 60)⟩])
  (.seq (.reg [⟨(some 61), none, .mv (.tmp 15)⟩,
     ⟨(some 62), none, .mkfn 30 [(.tmp 9)]⟩,
     ⟨(some 63), none, .call (.func 29) [(.tmp 61), (.tmp 62)]⟩])
  (.seq (.reg [⟨(some 64), none, .mv (.tmp 15)⟩,
     ⟨(some 6), none, .mv (.tmp 64)⟩,
     ⟨(some 7), none, .mv (.const (.int .i64 0))⟩])
  (.ret))))))))
theorem ck_place_Sort : chkFun Try.prog 8 3 = some (rc_place_Sort, [6, 7]) := by kernel_rfl
/-- hearsay/hearsayref.CheckPlace -/
def rc_hearsayref_CheckPlace : RCode :=
  .seq (.reg [⟨(some 1), none, .box 23 5 (.tmp 0)⟩,
     ⟨(some 2), none, .mv (.const (.int .i64 0))⟩])
  (.seq (.seq (.reg [⟨(some 3), none, .fldA 0 (.tmp 1)⟩,
      ⟨(some 4), none, .load false 1 (.tmp 3)⟩,
      ⟨(some 5), none, .call (.func 34) [(.tmp 4), (.const (.int .i64 (-10000000))), (.const (.int .i64 10000000))]⟩,
      ⟨(some 6), none, .not (.tmp 5)⟩,
      ⟨(some 7), none, .mv (.tmp 6)⟩,
      ⟨(some 8), (some (7, false)), .fldA 1 (.tmp 1)⟩,
      ⟨(some 9), (some (7, false)), .load false 1 (.tmp 8)⟩,
      ⟨(some 10), (some (7, false)), .call (.func 34) [(.tmp 9), (.const (.int .i64 (-10000000))), (.const (.int .i64 10000000))]⟩,
      ⟨(some 11), (some (7, false)), .not (.tmp 10)⟩,
      ⟨(some 12), none, .pick (.tmp 7) (.const (.bool true)) (.tmp 11)⟩,
      ⟨(some 13), none, .mv (.tmp 12)⟩,
      ⟨(some 14), (some (13, false)), .fldA 2 (.tmp 1)⟩,
      ⟨(some 15), (some (13, false)), .load false 1 (.tmp 14)⟩,
      ⟨(some 16), (some (13, false)), .call (.func 34) [(.tmp 15), (.const (.int .i64 (-10000000))), (.const (.int .i64 10000000))]⟩,
      ⟨(some 17), (some (13, false)), .not (.tmp 16)⟩,
      ⟨(some 18), none, .pick (.tmp 13) (.const (.bool true)) (.tmp 17)⟩,
      ⟨(some 19), none, .mv (.tmp 18)⟩,
      ⟨(some 20), (some (19, false)), .fldA 3 (.tmp 1)⟩,
      ⟨(some 21), (some (19, false)), .load false 1 (.tmp 20)⟩,
      ⟨(some 22), (some (19, false)), .call (.func 34) [(.tmp 21), (.const (.int .i64 0)), (.const (.int .i64 1000000))]⟩,
      ⟨(some 23), (some (19, false)), .not (.tmp 22)⟩,
      ⟨(some 24), none, .pick (.tmp 19) (.const (.bool true)) (.tmp 23)⟩,
      ⟨(some 25), none, .mv (.tmp 24)⟩,
      ⟨(some 26), (some (25, false)), .fldA 4 (.tmp 1)⟩,
      ⟨(some 27), (some (25, false)), .load false 1 (.tmp 26)⟩,
      ⟨(some 28), (some (25, false)), .call (.func 34) [(.tmp 27), (.const (.int .i64 0)), (.const (.int .i64 1000))]⟩,
      ⟨(some 29), (some (25, false)), .not (.tmp 28)⟩,
      ⟨(some 30), none, .pick (.tmp 25) (.const (.bool true)) (.tmp 29)⟩])
   (.cond (.tmp 30)
    (.seq (.reg [⟨(some 2), none, .mv (.const (.int .i64 3))⟩])
     (.ret))
    (.skip)))
  (.seq (.reg [⟨(some 2), none, .mv (.const (.int .i64 0))⟩])
  (.ret)))
theorem ck_hearsayref_CheckPlace : chkFun Try.prog 9 1 = some (rc_hearsayref_CheckPlace, [2]) := by kernel_rfl
/-- hearsay/hearsaylaw.placeBegun -/
def rc_hearsaylaw_placeBegun : RCode :=
  .seq (.reg [⟨(some 0), none, .mv (.const (.bool false))⟩])
  (.seq (.reg [⟨(some 6), none, .call (.func 36) [(.const (.int .i64 17))]⟩,
     ⟨(some 5), none, .mv (.tmp 6)⟩,
     ⟨(some 7), none, .ext (.tmp 5) 0⟩,
     ⟨(some 8), none, .ext (.tmp 5) 1⟩,
     ⟨(some 1), none, .mv (.tmp 7)⟩,
     ⟨(some 2), none, .mv (.tmp 8)⟩])
  (.seq (.reg [⟨(some 10), none, .build [(.int .i64 0), (.int .i64 0), (.int .i64 0), (.int .i64 0), (.int .i64 0)] [(0, 1, (.const (.int .i64 3))), (3, 1, (.const (.int .i64 1)))]⟩,
     ⟨(some 11), none, .build [(.int .i64 0), (.int .i64 0), (.int .i64 0), (.int .i64 0), (.int .i64 0)] [(1, 1, (.const (.int .i64 4))), (3, 1, (.const (.int .i64 2)))]⟩,
     ⟨(some 12), none, .call (.func 37) [(.tmp 10), (.tmp 11)]⟩,
     ⟨(some 9), none, .mv (.tmp 12)⟩,
     ⟨(some 13), none, .ext (.tmp 9) 0⟩,
     ⟨(some 14), none, .ext (.tmp 9) 1⟩,
     ⟨(some 3), none, .mv (.tmp 13)⟩,
     ⟨(some 4), none, .mv (.tmp 14)⟩])
  (.seq (.reg [⟨(some 15), none, .mv (.tmp 2)⟩,
     ⟨(some 16), none, .bin .eql (.tmp 15) (.const (.int .i64 0))⟩,
     ⟨(some 17), none, .mv (.tmp 16)⟩,
     ⟨(some 18), (some (17, true)), .mv (.tmp 4)⟩,
     ⟨(some 19), (some (17, true)), .bin .eql (.tmp 18) (.const (.int .i64 0))⟩,
     ⟨(some 20), none, .pick (.tmp 17) (.tmp 19) (.const (.bool false))⟩,
     ⟨(some 21), none, .mv (.tmp 20)⟩,
     ⟨(some 22), (some (21, true)), .mv (.tmp 1)⟩,
     ⟨(some 23), (some (21, true)), .bin .eql (.tmp 22) (.const (.int .i64 4))⟩,
     ⟨(some 24), none, .pick (.tmp 21) (.tmp 23) (.const (.bool false))⟩,
     ⟨(some 25), none, .mv (.tmp 24)⟩,
     ⟨(some 26), (some (25, true)), .mv (.tmp 3)⟩,
     ⟨(some 27), (some (25, true)), .bin .eql (.tmp 26) (.const (.int .i64 8))⟩,
     ⟨(some 28), none, .pick (.tmp 25) (.tmp 27) (.const (.bool false))⟩,
     ⟨(some 0), none, .mv (.tmp 28)⟩])
  (.ret))))
theorem ck_hearsaylaw_placeBegun : chkFun Try.prog 11 0 = some (rc_hearsaylaw_placeBegun, [0]) := by kernel_rfl
/-- hearsay/hearsayref.SameTexts -/
def rc_hearsayref_SameTexts : RCode :=
  .seq (.reg [⟨(some 4), none, .mv (.const (.bool false))⟩])
  (.seq (.seq (.reg [⟨(some 6), none, .mv (.tmp 0)⟩,
      ⟨(some 7), none, .len false (.tmp 6)⟩,
      ⟨(some 8), none, .mv (.tmp 1)⟩,
      ⟨(some 9), none, .len false (.tmp 8)⟩,
      ⟨(some 10), none, .bin .neq (.tmp 7) (.tmp 9)⟩])
   (.cond (.tmp 10)
    (.seq (.reg [⟨(some 4), none, .mv (.const (.bool false))⟩])
     (.ret))
    (.skip)))
  (.seq (.seq (.reg [⟨(some 5), none, .mv (.const (.int .i64 0))⟩])
   (.block 0
    (.loop
     (.seq (.seq (.reg [⟨(some 11), none, .mv (.tmp 5)⟩,
         ⟨(some 12), none, .mv (.tmp 0)⟩,
         ⟨(some 13), none, .len false (.tmp 12)⟩,
         ⟨(some 14), none, .bin .lss (.tmp 11) (.tmp 13)⟩])
      (.cond (.tmp 14)
       (.skip)
       (.exit 0)))
     (.seq (.block 1
       (.seq (.dreg [[⟨(some 17), none, .mv (.tmp 0)⟩,
           ⟨(some 18), none, .mv (.tmp 5)⟩,
           ⟨(some 19), none, .idxA 1 (.tmp 17) (.tmp 18)⟩,
           ⟨(some 20), none, .load false 1 (.tmp 19)⟩,
           ⟨(some 21), none, .mv (.tmp 1)⟩,
           ⟨(some 22), none, .mv (.tmp 5)⟩,
           ⟨(some 23), none, .idxA 1 (.tmp 21) (.tmp 22)⟩,
           ⟨(some 24), none, .load false 1 (.tmp 23)⟩],
          [⟨(some 25), none, .bin .neq (.tmp 20) (.tmp 24)⟩]])
       (.cond (.tmp 25)
        (.seq (.reg [⟨(some 4), none, .mv (.const (.bool false))⟩])
         (.ret))
        (.skip))))
     (.reg [⟨(some 15), none, .mv (.tmp 5)⟩,
       ⟨(some 16), none, .bin .add (.tmp 15) (.const (.int .i64 1))⟩,
       ⟨(some 5), none, .mv (.tmp 16)⟩]))))))
  (.seq (.reg [⟨(some 4), none, .mv (.const (.bool true))⟩])
  (.ret))))
theorem ck_hearsayref_SameTexts : chkFun Try.prog 12 2 = some (rc_hearsayref_SameTexts, [4]) := by kernel_rfl
/-- hearsay/rumor.Put -/
def rc_rumor_Put : RCode :=
  .seq (.reg [⟨(some 3), none, .box 38 5 (.tmp 1)⟩,
     ⟨(some 4), none, .mv (.const (.slice none 0 0))⟩,
     ⟨(some 5), none, .mv (.const (.int .i64 0))⟩])
  (.seq (.reg [⟨(some 8), none, .mv (.tmp 0)⟩,
     ⟨(some 9), none, .call (.func 18) [(.tmp 8)]⟩,
     ⟨(some 6), none, .mv (.tmp 9)⟩])
  (.seq (.seq (.reg [⟨(some 10), none, .mv (.tmp 6)⟩,
      ⟨(some 11), none, .bin .eql (.tmp 10) (.const (.int .i64 0))⟩])
   (.cond (.tmp 11)
    (.reg [⟨(some 12), none, .load true 5 (.tmp 3)⟩,
       ⟨(some 13), none, .call (.func 38) [(.tmp 12)]⟩,
       ⟨(some 6), none, .mv (.tmp 13)⟩])
    (.skip)))
  (.seq (.seq (.reg [⟨(some 14), none, .mv (.tmp 6)⟩,
      ⟨(some 15), none, .bin .neq (.tmp 14) (.const (.int .i64 0))⟩])
   (.cond (.tmp 15)
    (.seq (.reg [⟨(some 16), none, .mv (.tmp 6)⟩,
        ⟨(some 4), none, .mv (.const (.slice none 0 0))⟩,
        ⟨(some 5), none, .mv (.tmp 16)⟩])
     (.ret))
    (.skip)))
  (.seq (.reg [⟨(some 17), none, .mv (.tmp 0)⟩,
     ⟨(some 18), none, .call (.func 39) [(.tmp 17)]⟩,
     ⟨(some 0), none, .mv (.tmp 18)⟩])
  (.seq (.seq (.reg [⟨(some 19), none, .mv (.tmp 0)⟩,
      ⟨(some 20), none, .mkfn 41 [(.tmp 3)]⟩,
      ⟨(some 21), none, .call (.func 40) [(.tmp 19), (.tmp 20)]⟩,
      ⟨(some 7), none, .mv (.tmp 21)⟩])
   (.seq (.reg [⟨(some 22), none, .mv (.tmp 7)⟩,
      ⟨(some 23), none, .bin .geq (.tmp 22) (.const (.int .i64 0))⟩])
   (.cond (.tmp 23)
    (.seq (.seq (.dreg [[⟨(some 24), none, .load true 5 (.tmp 3)⟩,
          ⟨(some 25), none, .mv (.tmp 0)⟩,
          ⟨(some 26), none, .mv (.tmp 7)⟩,
          ⟨(some 27), none, .idxA 6 (.tmp 25) (.tmp 26)⟩,
          ⟨(some 28), none, .fldA 0 (.tmp 27)⟩,
          ⟨(some 29), none, .load true 5 (.tmp 28)⟩],
         [⟨(some 30), none, .call (.func 42) [(.tmp 24), (.tmp 29)]⟩],
         [⟨(some 31), none, .bin .leq (.tmp 30) (.const (.int .i64 0))⟩]])
      (.cond (.tmp 31)
       (.seq (.reg [⟨(some 32), none, .mv (.tmp 0)⟩,
           ⟨(some 4), none, .mv (.tmp 32)⟩,
           ⟨(some 5), none, .mv (.const (.int .i64 0))⟩])
        (.ret))
       (.skip)))
     (.reg [⟨(some 33), none, .mv (.tmp 0)⟩,
       ⟨(some 34), none, .mv (.tmp 7)⟩,
       ⟨(some 35), none, .mv (.tmp 7)⟩,
       ⟨(some 36), none, .bin .add (.tmp 35) (.const (.int .i64 1))⟩,
       ⟨(some 37), none, .call (.func 43) [(.tmp 33), (.tmp 34), (.tmp 36)]⟩,
       ⟨(some 0), none, .mv (.tmp 37)⟩]))
    (.skip))))
  (.seq (.seq (.reg [⟨(some 38), none, .mv (.tmp 0)⟩,
      ⟨(some 39), none, .len false (.tmp 38)⟩,
      ⟨(some 40), none, .bin .eql (.tmp 39) (.const (.int .i64 20))⟩])
   (.cond (.tmp 40)
    (.seq (.reg [⟨(some 4), none, .mv (.const (.slice none 0 0))⟩,
        ⟨(some 5), none, .mv (.const (.int .i64 2))⟩])
     (.ret))
    (.skip)))
  (.seq (.reg [⟨(some 41), none, .mv (.tmp 0)⟩,
     ⟨(some 42), none, .load true 5 (.tmp 3)⟩,
     ⟨(some 43), none, .build [(.string ⟨#[]⟩), (.int .i64 0), (.int .i64 0), (.int .i64 0), (.bool false), (.int .i64 0)] [(0, 5, (.tmp 42))]⟩,
     ⟨(some 44), none, .mks 55 6 1 [(.string ⟨#[]⟩), (.int .i64 0), (.int .i64 0), (.int .i64 0), (.bool false), (.int .i64 0)] [(0, (.tmp 43))]⟩,
     ⟨(some 45), none, .app 55 6 56 (.agg #[(.string ⟨#[]⟩), (.int .i64 0), (.int .i64 0), (.int .i64 0), (.bool false), (.int .i64 0)]) (.tmp 41) (.tmp 44)⟩,
     ⟨(some 4), none, .mv (.tmp 45)⟩,
     ⟨(some 5), none, .mv (.const (.int .i64 0))⟩])
  (.ret))))))))
theorem ck_rumor_Put : chkFun Try.prog 13 2 = some (rc_rumor_Put, [4, 5]) := by kernel_rfl
/-- hearsay/hearsayref.CheckRumors -/
def rc_hearsayref_CheckRumors : RCode :=
  .seq (.reg [⟨(some 2), none, .mv (.const (.int .i64 0))⟩])
  (.seq (.seq (.reg [⟨(some 8), none, .mv (.tmp 0)⟩,
      ⟨(some 9), none, .len false (.tmp 8)⟩,
      ⟨(some 10), none, .bin .gtr (.tmp 9) (.const (.int .i64 20))⟩])
   (.cond (.tmp 10)
    (.seq (.reg [⟨(some 2), none, .mv (.const (.int .i64 2))⟩])
     (.ret))
    (.skip)))
  (.seq (.seq (.reg [⟨(some 3), none, .mv (.const (.int .i64 0))⟩])
   (.block 0
    (.loop
     (.seq (.seq (.reg [⟨(some 11), none, .mv (.tmp 3)⟩,
         ⟨(some 12), none, .mv (.tmp 0)⟩,
         ⟨(some 13), none, .len false (.tmp 12)⟩,
         ⟨(some 14), none, .bin .lss (.tmp 11) (.tmp 13)⟩])
      (.cond (.tmp 14)
       (.skip)
       (.exit 0)))
     (.seq (.block 1
       (.seq (.reg [⟨(some 17), none, .mv (.tmp 0)⟩,
          ⟨(some 18), none, .mv (.tmp 3)⟩,
          ⟨(some 19), none, .idxA 6 (.tmp 17) (.tmp 18)⟩,
          ⟨(some 20), none, .fldA 0 (.tmp 19)⟩,
          ⟨(some 21), none, .load true 5 (.tmp 20)⟩,
          ⟨(some 22), none, .call (.func 15) [(.tmp 21)]⟩,
          ⟨(some 4), none, .mv (.tmp 22)⟩])
       (.seq (.reg [⟨(some 23), none, .mv (.tmp 4)⟩,
          ⟨(some 24), none, .bin .neq (.tmp 23) (.const (.int .i64 0))⟩])
       (.cond (.tmp 24)
        (.seq (.reg [⟨(some 25), none, .mv (.tmp 4)⟩,
            ⟨(some 2), none, .mv (.tmp 25)⟩])
         (.ret))
        (.skip)))))
     (.reg [⟨(some 15), none, .mv (.tmp 3)⟩,
       ⟨(some 16), none, .bin .add (.tmp 15) (.const (.int .i64 1))⟩,
       ⟨(some 3), none, .mv (.tmp 16)⟩]))))))
  (.seq (.seq (.reg [⟨(some 5), none, .mv (.const (.int .i64 0))⟩])
   (.block 2
    (.loop
     (.seq (.seq (.reg [⟨(some 26), none, .mv (.tmp 5)⟩,
         ⟨(some 27), none, .mv (.tmp 0)⟩,
         ⟨(some 28), none, .len false (.tmp 27)⟩,
         ⟨(some 29), none, .bin .lss (.tmp 26) (.tmp 28)⟩])
      (.cond (.tmp 29)
       (.skip)
       (.exit 2)))
     (.seq (.block 3
       (.seq (.reg [⟨(some 32), none, .mv (.tmp 0)⟩,
          ⟨(some 33), none, .mv (.tmp 5)⟩,
          ⟨(some 34), none, .idxA 6 (.tmp 32) (.tmp 33)⟩,
          ⟨(some 35), none, .fldA 5 (.tmp 34)⟩,
          ⟨(some 36), none, .load false 1 (.tmp 35)⟩,
          ⟨(some 37), none, .call (.func 34) [(.tmp 36), (.const (.int .i64 0)), (.const (.int .i64 100))]⟩,
          ⟨(some 38), none, .not (.tmp 37)⟩])
       (.cond (.tmp 38)
        (.seq (.reg [⟨(some 2), none, .mv (.const (.int .i64 3))⟩])
         (.ret))
        (.skip))))
     (.reg [⟨(some 30), none, .mv (.tmp 5)⟩,
       ⟨(some 31), none, .bin .add (.tmp 30) (.const (.int .i64 1))⟩,
       ⟨(some 5), none, .mv (.tmp 31)⟩]))))))
  (.seq (.seq (.reg [⟨(some 6), none, .mv (.const (.int .i64 0))⟩])
   (.block 4
    (.loop
     (.seq (.seq (.reg [⟨(some 39), none, .mv (.tmp 6)⟩,
         ⟨(some 40), none, .mv (.tmp 0)⟩,
         ⟨(some 41), none, .len false (.tmp 40)⟩,
         ⟨(some 42), none, .bin .lss (.tmp 39) (.tmp 41)⟩])
      (.cond (.tmp 42)
       (.skip)
       (.exit 4)))
     (.seq (.block 5
       (.seq (.reg [⟨(some 7), none, .mv (.const (.int .i64 0))⟩])
       (.block 6
        (.loop
         (.seq (.seq (.reg [⟨(some 45), none, .mv (.tmp 7)⟩,
             ⟨(some 46), none, .mv (.tmp 6)⟩,
             ⟨(some 47), none, .bin .lss (.tmp 45) (.tmp 46)⟩])
          (.cond (.tmp 47)
           (.skip)
           (.exit 6)))
         (.seq (.block 7
           (.seq (.dreg [[⟨(some 50), none, .mv (.tmp 0)⟩,
               ⟨(some 51), none, .mv (.tmp 7)⟩,
               ⟨(some 52), none, .idxA 6 (.tmp 50) (.tmp 51)⟩,
               ⟨(some 53), none, .fldA 0 (.tmp 52)⟩,
               ⟨(some 54), none, .fldA 0 (.tmp 53)⟩,
               ⟨(some 55), none, .load false 1 (.tmp 54)⟩,
               ⟨(some 56), none, .mv (.tmp 0)⟩,
               ⟨(some 57), none, .mv (.tmp 6)⟩,
               ⟨(some 58), none, .idxA 6 (.tmp 56) (.tmp 57)⟩,
               ⟨(some 59), none, .fldA 0 (.tmp 58)⟩,
               ⟨(some 60), none, .fldA 0 (.tmp 59)⟩,
               ⟨(some 61), none, .load false 1 (.tmp 60)⟩],
              [⟨(some 62), none, .bin .eql (.tmp 55) (.tmp 61)⟩]])
           (.cond (.tmp 62)
            (.seq (.reg [⟨(some 2), none, .mv (.const (.int .i64 6))⟩])
             (.ret))
            (.skip))))
         (.reg [⟨(some 48), none, .mv (.tmp 7)⟩,
           ⟨(some 49), none, .bin .add (.tmp 48) (.const (.int .i64 1))⟩,
           ⟨(some 7), none, .mv (.tmp 49)⟩])))))))
     (.reg [⟨(some 43), none, .mv (.tmp 6)⟩,
       ⟨(some 44), none, .bin .add (.tmp 43) (.const (.int .i64 1))⟩,
       ⟨(some 6), none, .mv (.tmp 44)⟩]))))))
  (.seq (.reg [⟨(some 2), none, .mv (.const (.int .i64 0))⟩])
  (.ret))))))
theorem ck_hearsayref_CheckRumors : chkFun Try.prog 14 1 = some (rc_hearsayref_CheckRumors, [2]) := by kernel_rfl
/-- hearsay/hearsayref.OneMember -/
def rc_hearsayref_OneMember : RCode :=
  .seq (.reg [⟨(some 1), none, .box 38 5 (.tmp 0)⟩,
     ⟨(some 2), none, .mv (.const (.int .i64 0))⟩])
  (.seq (.block 0
    (.seq (.reg [⟨(some 4), none, .fldA 0 (.tmp 1)⟩,
       ⟨(some 5), none, .load false 1 (.tmp 4)⟩,
       ⟨(some 6), none, .call (.func 44) [(.tmp 5)]⟩,
       ⟨(some 7), none, .not (.tmp 6)⟩,
       ⟨(some 3), none, .mv (.tmp 7)⟩])
    (.cond (.tmp 3)
     (.seq (.reg [⟨(some 2), none, .mv (.const (.int .i64 1))⟩])
      (.ret))
     (.seq (.reg [⟨(some 9), none, .fldA 1 (.tmp 1)⟩,
         ⟨(some 10), none, .load false 1 (.tmp 9)⟩,
         ⟨(some 11), none, .call (.func 34) [(.tmp 10), (.const (.int .i64 1)), (.const (.int .i64 4))]⟩,
         ⟨(some 12), none, .not (.tmp 11)⟩,
         ⟨(some 8), none, .mv (.tmp 12)⟩])
      (.cond (.tmp 8)
       (.seq (.reg [⟨(some 2), none, .mv (.const (.int .i64 7))⟩])
        (.ret))
       (.seq (.seq (.reg [⟨(some 14), none, .fldA 2 (.tmp 1)⟩,
            ⟨(some 15), none, .load false 1 (.tmp 14)⟩,
            ⟨(some 16), none, .call (.func 34) [(.tmp 15), (.const (.int .i64 1)), (.const (.int .i64 1000000))]⟩,
            ⟨(some 17), none, .not (.tmp 16)⟩,
            ⟨(some 13), none, .mv (.tmp 17)⟩])
         (.cond (.tmp 13)
          (.skip)
          (.reg [⟨(some 18), none, .fldA 3 (.tmp 1)⟩,
             ⟨(some 19), none, .load false 1 (.tmp 18)⟩,
             ⟨(some 20), none, .call (.func 45) [(.tmp 19)]⟩,
             ⟨(some 21), none, .not (.tmp 20)⟩,
             ⟨(some 13), none, .mv (.tmp 21)⟩])))
        (.cond (.tmp 13)
         (.seq (.reg [⟨(some 2), none, .mv (.const (.int .i64 3))⟩])
          (.ret))
         (.skip))))))))
  (.seq (.reg [⟨(some 2), none, .mv (.const (.int .i64 0))⟩])
  (.ret)))
theorem ck_hearsayref_OneMember : chkFun Try.prog 15 1 = some (rc_hearsayref_OneMember, [2]) := by kernel_rfl
/-- hearsay/hearsayref.PutRumor -/
def rc_hearsayref_PutRumor : RCode :=
  .seq (.reg [⟨(some 3), none, .box 38 5 (.tmp 1)⟩,
     ⟨(some 4), none, .mv (.const (.slice none 0 0))⟩,
     ⟨(some 5), none, .mv (.const (.int .i64 0))⟩])
  (.seq (.reg [⟨(some 6), none, .mv (.const (.slice none 0 0))⟩])
  (.seq (.seq (.reg [⟨(some 7), none, .mv (.const (.int .i64 0))⟩])
   (.block 0
    (.loop
     (.seq (.seq (.reg [⟨(some 8), none, .mv (.tmp 7)⟩,
         ⟨(some 9), none, .mv (.tmp 0)⟩,
         ⟨(some 10), none, .len false (.tmp 9)⟩,
         ⟨(some 11), none, .bin .lss (.tmp 8) (.tmp 10)⟩])
      (.cond (.tmp 11)
       (.skip)
       (.exit 0)))
     (.seq (.block 1
       (.seq (.dreg [[⟨(some 14), none, .mv (.tmp 0)⟩,
           ⟨(some 15), none, .mv (.tmp 7)⟩,
           ⟨(some 16), none, .idxA 6 (.tmp 14) (.tmp 15)⟩,
           ⟨(some 17), none, .fldA 0 (.tmp 16)⟩,
           ⟨(some 18), none, .fldA 0 (.tmp 17)⟩,
           ⟨(some 19), none, .load false 1 (.tmp 18)⟩,
           ⟨(some 20), none, .fldA 0 (.tmp 3)⟩,
           ⟨(some 21), none, .load false 1 (.tmp 20)⟩],
          [⟨(some 22), none, .bin .neq (.tmp 19) (.tmp 21)⟩]])
       (.cond (.tmp 22)
        (.reg [⟨(some 23), none, .mv (.tmp 6)⟩,
           ⟨(some 24), none, .mv (.tmp 0)⟩,
           ⟨(some 25), none, .mv (.tmp 7)⟩,
           ⟨(some 26), none, .idxA 6 (.tmp 24) (.tmp 25)⟩,
           ⟨(some 27), none, .load true 6 (.tmp 26)⟩,
           ⟨(some 28), none, .mks 55 6 1 [(.string ⟨#[]⟩), (.int .i64 0), (.int .i64 0), (.int .i64 0), (.bool false), (.int .i64 0)] [(0, (.tmp 27))]⟩,
           ⟨(some 29), none, .app 55 6 56 (.agg #[(.string ⟨#[]⟩), (.int .i64 0), (.int .i64 0), (.int .i64 0), (.bool false), (.int .i64 0)]) (.tmp 23) (.tmp 28)⟩,
           ⟨(some 6), none, .mv (.tmp 29)⟩])
        (.seq (.dreg [[⟨(some 30), none, .load true 5 (.tmp 3)⟩,
             ⟨(some 31), none, .mv (.tmp 0)⟩,
             ⟨(some 32), none, .mv (.tmp 7)⟩,
             ⟨(some 33), none, .idxA 6 (.tmp 31) (.tmp 32)⟩,
             ⟨(some 34), none, .fldA 0 (.tmp 33)⟩,
             ⟨(some 35), none, .load true 5 (.tmp 34)⟩],
            [⟨(some 36), none, .call (.func 46) [(.tmp 30), (.tmp 35)]⟩],
            [⟨(some 37), none, .not (.tmp 36)⟩]])
         (.cond (.tmp 37)
          (.seq (.reg [⟨(some 38), none, .mv (.tmp 0)⟩,
              ⟨(some 4), none, .mv (.tmp 38)⟩,
              ⟨(some 5), none, .mv (.const (.int .i64 0))⟩])
           (.ret))
          (.skip))))))
     (.reg [⟨(some 12), none, .mv (.tmp 7)⟩,
       ⟨(some 13), none, .bin .add (.tmp 12) (.const (.int .i64 1))⟩,
       ⟨(some 7), none, .mv (.tmp 13)⟩]))))))
  (.seq (.seq (.reg [⟨(some 39), none, .mv (.tmp 6)⟩,
      ⟨(some 40), none, .len false (.tmp 39)⟩,
      ⟨(some 41), none, .bin .eql (.tmp 40) (.const (.int .i64 20))⟩])
   (.cond (.tmp 41)
    (.seq (.reg [⟨(some 4), none, .mv (.const (.slice none 0 0))⟩,
        ⟨(some 5), none, .mv (.const (.int .i64 2))⟩])
     (.ret))
    (.skip)))
  (.seq (.reg [⟨(some 42), none, .mv (.tmp 6)⟩,
     ⟨(some 43), none, .load true 5 (.tmp 3)⟩,
     ⟨(some 44), none, .build [(.string ⟨#[]⟩), (.int .i64 0), (.int .i64 0), (.int .i64 0), (.bool false), (.int .i64 0)] [(0, 5, (.tmp 43))]⟩,
     ⟨(some 45), none, .mks 55 6 1 [(.string ⟨#[]⟩), (.int .i64 0), (.int .i64 0), (.int .i64 0), (.bool false), (.int .i64 0)] [(0, (.tmp 44))]⟩,
     ⟨(some 46), none, .app 55 6 56 (.agg #[(.string ⟨#[]⟩), (.int .i64 0), (.int .i64 0), (.int .i64 0), (.bool false), (.int .i64 0)]) (.tmp 42) (.tmp 45)⟩,
     ⟨(some 4), none, .mv (.tmp 46)⟩,
     ⟨(some 5), none, .mv (.const (.int .i64 0))⟩])
  (.ret)))))
theorem ck_hearsayref_PutRumor : chkFun Try.prog 16 2 = some (rc_hearsayref_PutRumor, [4, 5]) := by kernel_rfl
/-- hearsay/hearsaylaw.rumorBegun -/
def rc_hearsaylaw_rumorBegun : RCode :=
  .seq (.reg [⟨(some 0), none, .mv (.const (.bool false))⟩])
  (.seq (.reg [⟨(some 7), none, .build [(.string ⟨#[]⟩), (.int .i64 0), (.int .i64 0), (.int .i64 0), (.bool false)] [(0, 1, (.const (.string ⟨#[97]⟩))), (1, 1, (.const (.int .i64 1))), (2, 1, (.const (.int .i64 1)))]⟩,
     ⟨(some 8), none, .call (.func 13) [(.const (.slice none 0 0)), (.tmp 7)]⟩,
     ⟨(some 6), none, .mv (.tmp 8)⟩,
     ⟨(some 9), none, .ext (.tmp 6) 0⟩,
     ⟨(some 10), none, .ext (.tmp 6) 1⟩,
     ⟨(some 1), none, .mv (.tmp 9)⟩,
     ⟨(some 2), none, .mv (.tmp 10)⟩])
  (.seq (.reg [⟨(some 12), none, .mv (.tmp 1)⟩,
     ⟨(some 13), none, .call (.func 20) [(.tmp 12), (.const (.int .i64 5)), (.const (.int .i64 2))]⟩,
     ⟨(some 11), none, .mv (.tmp 13)⟩,
     ⟨(some 14), none, .ext (.tmp 11) 0⟩,
     ⟨(some 15), none, .ext (.tmp 11) 1⟩,
     ⟨(some 16), none, .ext (.tmp 11) 2⟩,
     ⟨(some 3), none, .mv (.tmp 14)⟩,
     ⟨(some 4), none, .mv (.tmp 15)⟩,
     ⟨(some 5), none, .mv (.tmp 16)⟩])
  (.seq (.reg [⟨(some 17), none, .mv (.tmp 2)⟩,
     ⟨(some 18), none, .bin .eql (.tmp 17) (.const (.int .i64 0))⟩,
     ⟨(some 19), none, .mv (.tmp 18)⟩,
     ⟨(some 20), (some (19, true)), .mv (.tmp 5)⟩,
     ⟨(some 21), (some (19, true)), .bin .eql (.tmp 20) (.const (.int .i64 0))⟩,
     ⟨(some 22), none, .pick (.tmp 19) (.tmp 21) (.const (.bool false))⟩,
     ⟨(some 23), none, .mv (.tmp 22)⟩,
     ⟨(some 24), (some (23, true)), .mv (.tmp 3)⟩,
     ⟨(some 25), (some (23, true)), .len false (.tmp 24)⟩,
     ⟨(some 26), (some (23, true)), .bin .eql (.tmp 25) (.const (.int .i64 1))⟩,
     ⟨(some 27), none, .pick (.tmp 23) (.tmp 26) (.const (.bool false))⟩,
     ⟨(some 28), none, .mv (.tmp 27)⟩,
     ⟨(some 29), (some (28, true)), .mv (.tmp 4)⟩,
     ⟨(some 30), (some (28, true)), .len false (.tmp 29)⟩,
     ⟨(some 31), (some (28, true)), .bin .eql (.tmp 30) (.const (.int .i64 1))⟩,
     ⟨(some 32), none, .pick (.tmp 28) (.tmp 31) (.const (.bool false))⟩,
     ⟨(some 33), none, .mv (.tmp 32)⟩,
     ⟨(some 34), (some (33, true)), .mv (.tmp 4)⟩,
     ⟨(some 35), (some (33, true)), .idxA 6 (.tmp 34) (.const (.int .i64 0))⟩,
     ⟨(some 36), (some (33, true)), .fldA 5 (.tmp 35)⟩,
     ⟨(some 37), (some (33, true)), .load false 1 (.tmp 36)⟩,
     ⟨(some 38), (some (33, true)), .bin .eql (.tmp 37) (.const (.int .i64 1))⟩,
     ⟨(some 39), none, .pick (.tmp 33) (.tmp 38) (.const (.bool false))⟩,
     ⟨(some 0), none, .mv (.tmp 39)⟩])
  (.ret))))
theorem ck_hearsaylaw_rumorBegun : chkFun Try.prog 17 0 = some (rc_hearsaylaw_rumorBegun, [0]) := by kernel_rfl
/-- hearsay/rumor.Check -/
def rc_rumor_Check : RCode :=
  .seq (.reg [⟨(some 2), none, .mv (.const (.int .i64 0))⟩])
  (.seq (.seq (.reg [⟨(some 7), none, .mv (.tmp 0)⟩,
      ⟨(some 8), none, .len false (.tmp 7)⟩,
      ⟨(some 9), none, .bin .gtr (.tmp 8) (.const (.int .i64 20))⟩])
   (.cond (.tmp 9)
    (.seq (.reg [⟨(some 2), none, .mv (.const (.int .i64 2))⟩])
     (.ret))
    (.skip)))
  (.seq (.reg [⟨(some 10), none, .mkm⟩,
     ⟨(some 3), none, .mv (.tmp 10)⟩])
  (.seq (.seq (.reg [⟨(some 11), none, .mv (.tmp 0)⟩,
      ⟨(some 12), none, .len false (.tmp 11)⟩,
      ⟨(some 13), none, .mv (.const (.int .i64 0))⟩])
   (.block 0
    (.loop
     (.seq (.reg [⟨(some 14), none, .bin .lss (.tmp 13) (.tmp 12)⟩])
     (.seq (.cond (.tmp 14)
       (.skip)
       (.exit 0))
     (.seq (.block 1
       (.seq (.reg [⟨(some 15), none, .idxA 6 (.tmp 11) (.tmp 13)⟩,
          ⟨(some 16), none, .load true 6 (.tmp 15)⟩,
          ⟨(some 5), none, .zbox 55 [(.string ⟨#[]⟩), (.int .i64 0), (.int .i64 0), (.int .i64 0), (.bool false), (.int .i64 0)]⟩,
          ⟨none, none, .store 6 (.tmp 5) (.tmp 16)⟩])
       (.seq (.seq (.reg [⟨(some 17), none, .fldA 0 (.tmp 5)⟩,
           ⟨(some 18), none, .load true 5 (.tmp 17)⟩,
           ⟨(some 19), none, .call (.func 38) [(.tmp 18)]⟩,
           ⟨(some 6), none, .mv (.tmp 19)⟩])
        (.seq (.reg [⟨(some 20), none, .mv (.tmp 6)⟩,
           ⟨(some 21), none, .bin .neq (.tmp 20) (.const (.int .i64 0))⟩])
        (.cond (.tmp 21)
         (.seq (.reg [⟨(some 22), none, .mv (.tmp 6)⟩,
             ⟨(some 2), none, .mv (.tmp 22)⟩])
          (.ret))
         (.skip))))
       (.reg [⟨(some 23), none, .mv (.tmp 3)⟩,
         ⟨(some 24), none, .fldA 0 (.tmp 5)⟩,
         ⟨(some 25), none, .fldA 0 (.tmp 24)⟩,
         ⟨(some 26), none, .load false 1 (.tmp 25)⟩,
         ⟨none, none, .mupd .string (.tmp 23) (.tmp 26) (.const (.bool true))⟩]))))
     (.reg [⟨(some 27), none, .bin .add (.tmp 13) (.const (.int .i64 1))⟩,
       ⟨(some 13), none, .mv (.tmp 27)⟩])))))))
  (.seq (.block 2
    (.seq (.reg [⟨(some 29), none, .mv (.tmp 0)⟩,
       ⟨(some 30), none, .call (.func 47) [(.tmp 29), (.func 48)]⟩,
       ⟨(some 28), none, .mv (.tmp 30)⟩])
    (.cond (.tmp 28)
     (.seq (.reg [⟨(some 2), none, .mv (.const (.int .i64 3))⟩])
      (.ret))
     (.seq (.reg [⟨(some 32), none, .mv (.tmp 3)⟩,
         ⟨(some 33), none, .mlen (.tmp 32)⟩,
         ⟨(some 34), none, .mv (.tmp 0)⟩,
         ⟨(some 35), none, .len false (.tmp 34)⟩,
         ⟨(some 36), none, .bin .lss (.tmp 33) (.tmp 35)⟩,
         ⟨(some 31), none, .mv (.tmp 36)⟩])
      (.cond (.tmp 31)
       (.seq (.reg [⟨(some 2), none, .mv (.const (.int .i64 6))⟩])
        (.ret))
       (.skip))))))
  (.seq (.reg [⟨(some 2), none, .mv (.const (.int .i64 0))⟩])
  (.ret))))))
theorem ck_rumor_Check : chkFun Try.prog 18 1 = some (rc_rumor_Check, [2]) := by kernel_rfl
/-- hearsay/hearsayref.SameRumors -/
def rc_hearsayref_SameRumors : RCode :=
  .seq (.reg [⟨(some 4), none, .mv (.const (.bool false))⟩])
  (.seq (.seq (.reg [⟨(some 6), none, .mv (.tmp 0)⟩,
      ⟨(some 7), none, .len false (.tmp 6)⟩,
      ⟨(some 8), none, .mv (.tmp 1)⟩,
      ⟨(some 9), none, .len false (.tmp 8)⟩,
      ⟨(some 10), none, .bin .neq (.tmp 7) (.tmp 9)⟩])
   (.cond (.tmp 10)
    (.seq (.reg [⟨(some 4), none, .mv (.const (.bool false))⟩])
     (.ret))
    (.skip)))
  (.seq (.seq (.reg [⟨(some 5), none, .mv (.const (.int .i64 0))⟩])
   (.block 0
    (.loop
     (.seq (.seq (.reg [⟨(some 11), none, .mv (.tmp 5)⟩,
         ⟨(some 12), none, .mv (.tmp 0)⟩,
         ⟨(some 13), none, .len false (.tmp 12)⟩,
         ⟨(some 14), none, .bin .lss (.tmp 11) (.tmp 13)⟩])
      (.cond (.tmp 14)
       (.skip)
       (.exit 0)))
     (.seq (.block 1
       (.seq (.dreg [[⟨(some 17), none, .mv (.tmp 0)⟩,
           ⟨(some 18), none, .mv (.tmp 5)⟩,
           ⟨(some 19), none, .idxA 6 (.tmp 17) (.tmp 18)⟩,
           ⟨(some 20), none, .load true 6 (.tmp 19)⟩,
           ⟨(some 21), none, .mv (.tmp 1)⟩,
           ⟨(some 22), none, .mv (.tmp 5)⟩,
           ⟨(some 23), none, .idxA 6 (.tmp 21) (.tmp 22)⟩,
           ⟨(some 24), none, .load true 6 (.tmp 23)⟩],
          [⟨(some 25), none, .eqS true [1, 0, 0, 0, 2, 0] (.tmp 20) (.tmp 24)⟩]])
       (.cond (.tmp 25)
        (.seq (.reg [⟨(some 4), none, .mv (.const (.bool false))⟩])
         (.ret))
        (.skip))))
     (.reg [⟨(some 15), none, .mv (.tmp 5)⟩,
       ⟨(some 16), none, .bin .add (.tmp 15) (.const (.int .i64 1))⟩,
       ⟨(some 5), none, .mv (.tmp 16)⟩]))))))
  (.seq (.reg [⟨(some 4), none, .mv (.const (.bool true))⟩])
  (.ret))))
theorem ck_hearsayref_SameRumors : chkFun Try.prog 19 2 = some (rc_hearsayref_SameRumors, [4]) := by kernel_rfl
/-- hearsay/rumor.Take -/
def rc_rumor_Take : RCode :=
  .seq (.reg [⟨(some 3), none, .box 36 1 (.tmp 0)⟩,
     ⟨(some 5), none, .box 3 1 (.tmp 2)⟩,
     ⟨(some 6), none, .mv (.const (.slice none 0 0))⟩,
     ⟨(some 7), none, .mv (.const (.slice none 0 0))⟩,
     ⟨(some 8), none, .mv (.const (.int .i64 0))⟩])
  (.seq (.seq (.reg [⟨(some 15), none, .load false 1 (.tmp 3)⟩,
      ⟨(some 16), none, .call (.func 18) [(.tmp 15)]⟩,
      ⟨(some 9), none, .mv (.tmp 16)⟩])
   (.seq (.reg [⟨(some 17), none, .mv (.tmp 9)⟩,
      ⟨(some 18), none, .bin .neq (.tmp 17) (.const (.int .i64 0))⟩])
   (.cond (.tmp 18)
    (.seq (.reg [⟨(some 19), none, .mv (.tmp 9)⟩,
        ⟨(some 6), none, .mv (.const (.slice none 0 0))⟩,
        ⟨(some 7), none, .mv (.const (.slice none 0 0))⟩,
        ⟨(some 8), none, .mv (.tmp 19)⟩])
     (.ret))
    (.skip))))
  (.seq (.seq (.reg [⟨(some 20), none, .mv (.tmp 1)⟩,
      ⟨(some 21), none, .bin .lss (.tmp 20) (.const (.int .i64 1))⟩,
      ⟨(some 22), none, .mv (.tmp 21)⟩,
      ⟨(some 23), (some (22, false)), .mv (.tmp 1)⟩,
      ⟨(some 24), (some (22, false)), .bin .gtr (.tmp 23) (.const (.int .i64 20))⟩,
      ⟨(some 25), none, .pick (.tmp 22) (.const (.bool true)) (.tmp 24)⟩,
      ⟨(some 26), none, .mv (.tmp 25)⟩,
      ⟨(some 27), (some (26, false)), .load false 1 (.tmp 5)⟩,
      ⟨(some 28), (some (26, false)), .bin .lss (.tmp 27) (.const (.int .i64 1))⟩,
      ⟨(some 29), none, .pick (.tmp 26) (.const (.bool true)) (.tmp 28)⟩,
      ⟨(some 30), none, .mv (.tmp 29)⟩,
      ⟨(some 31), (some (30, false)), .load false 1 (.tmp 5)⟩,
      ⟨(some 32), (some (30, false)), .bin .gtr (.tmp 31) (.const (.int .i64 100))⟩,
      ⟨(some 33), none, .pick (.tmp 30) (.const (.bool true)) (.tmp 32)⟩])
   (.cond (.tmp 33)
    (.seq (.reg [⟨(some 6), none, .mv (.const (.slice none 0 0))⟩,
        ⟨(some 7), none, .mv (.const (.slice none 0 0))⟩,
        ⟨(some 8), none, .mv (.const (.int .i64 3))⟩])
     (.ret))
    (.skip)))
  (.seq (.reg [⟨(some 34), none, .load false 1 (.tmp 3)⟩,
     ⟨(some 35), none, .len false (.tmp 34)⟩,
     ⟨(some 36), none, .mkn 3 1 8 [(.int .i64 0)] (.tmp 35) (.tmp 35)⟩,
     ⟨(some 10), none, .mv (.tmp 36)⟩])
  (.seq (.seq (.reg [⟨(some 37), none, .mv (.tmp 10)⟩,
      ⟨(some 38), none, .len false (.tmp 37)⟩,
      ⟨(some 39), none, .mv (.const (.int .i64 0))⟩])
   (.block 0
    (.loop
     (.seq (.reg [⟨(some 40), none, .bin .lss (.tmp 39) (.tmp 38)⟩])
     (.seq (.cond (.tmp 40)
       (.skip)
       (.exit 0))
     (.seq (.block 1
       (.seq (.reg [⟨(some 41), none, .mv (.tmp 39)⟩,
          ⟨(some 11), none, .mv (.tmp 41)⟩])
       (.reg [⟨(some 42), none, .mv (.tmp 10)⟩,
         ⟨(some 43), none, .mv (.tmp 11)⟩,
         ⟨(some 44), none, .mv (.tmp 11)⟩,
         ⟨(some 45), none, .idxA 1 (.tmp 42) (.tmp 43)⟩,
         ⟨none, none, .store 1 (.tmp 45) (.tmp 44)⟩])))
     (.reg [⟨(some 46), none, .bin .add (.tmp 39) (.const (.int .i64 1))⟩,
       ⟨(some 39), none, .mv (.tmp 46)⟩])))))))
  (.seq (.reg [⟨(some 47), none, .mv (.tmp 10)⟩,
     ⟨(some 48), none, .mkfn 50 [(.tmp 3)]⟩,
     ⟨(some 49), none, .call (.func 49) [(.tmp 47), (.tmp 48)]⟩])
  (.seq (.reg [⟨(some 50), none, .load false 1 (.tmp 3)⟩,
     ⟨(some 51), none, .call (.func 39) [(.tmp 50)]⟩,
     ⟨none, none, .store 1 (.tmp 3) (.tmp 51)⟩])
  (.seq (.reg [⟨(some 12), none, .mv (.const (.slice none 0 0))⟩])
  (.seq (.seq (.reg [⟨(some 52), none, .mv (.tmp 10)⟩,
      ⟨(some 53), none, .mv (.tmp 1)⟩,
      ⟨(some 54), none, .load false 1 (.tmp 3)⟩,
      ⟨(some 55), none, .len false (.tmp 54)⟩,
      ⟨(some 56), none, .mm false (.tmp 53) (.tmp 55)⟩,
      ⟨(some 57), none, .slcL 1 (.tmp 52) none (some (.tmp 56)) none⟩,
      ⟨(some 58), none, .len false (.tmp 57)⟩,
      ⟨(some 59), none, .mv (.const (.int .i64 0))⟩])
   (.block 2
    (.loop
     (.seq (.reg [⟨(some 60), none, .bin .lss (.tmp 59) (.tmp 58)⟩])
     (.seq (.cond (.tmp 60)
       (.skip)
       (.exit 2))
     (.seq (.block 3
       (.seq (.reg [⟨(some 61), none, .idxA 1 (.tmp 57) (.tmp 59)⟩,
          ⟨(some 62), none, .load false 1 (.tmp 61)⟩,
          ⟨(some 14), none, .mv (.tmp 62)⟩])
       (.seq (.reg [⟨(some 63), none, .mv (.tmp 12)⟩,
          ⟨(some 64), none, .load false 1 (.tmp 3)⟩,
          ⟨(some 65), none, .mv (.tmp 14)⟩,
          ⟨(some 66), none, .idxA 6 (.tmp 64) (.tmp 65)⟩,
          ⟨(some 67), none, .fldA 0 (.tmp 66)⟩,
          ⟨(some 68), none, .load true 5 (.tmp 67)⟩,
          ⟨(some 69), none, .mks 38 5 1 [(.string ⟨#[]⟩), (.int .i64 0), (.int .i64 0), (.int .i64 0), (.bool false)] [(0, (.tmp 68))]⟩,
          ⟨(some 70), none, .app 38 5 48 (.agg #[(.string ⟨#[]⟩), (.int .i64 0), (.int .i64 0), (.int .i64 0), (.bool false)]) (.tmp 63) (.tmp 69)⟩,
          ⟨(some 12), none, .mv (.tmp 70)⟩])
       (.reg [⟨(some 71), none, .load false 1 (.tmp 3)⟩,
         ⟨(some 72), none, .mv (.tmp 14)⟩,
         ⟨(some 73), none, .idxA 6 (.tmp 71) (.tmp 72)⟩,
         ⟨(some 74), none, .fldA 5 (.tmp 73)⟩,
         ⟨(some 75), none, .load false 1 (.tmp 74)⟩,
         ⟨(some 76), none, .bin .add (.tmp 75) (.const (.int .i64 1))⟩,
         ⟨(some 77), none, .idxA 6 (.tmp 71) (.tmp 72)⟩,
         ⟨(some 78), none, .fldA 5 (.tmp 77)⟩,
         ⟨none, none, .store 1 (.tmp 78) (.tmp 76)⟩]))))
     (.reg [⟨(some 79), none, .bin .add (.tmp 59) (.const (.int .i64 1))⟩,
       ⟨(some 59), none, .mv (.tmp 79)⟩])))))))
  (.seq (.reg [⟨(some 80), none, .mv (.tmp 12)⟩,
     ⟨(some 81), none, .load false 1 (.tmp 3)⟩,
     ⟨(some 82), none, .mkfn 52 [(.tmp 5)]⟩,
     ⟨(some 83), none, .call (.func 51) [(.tmp 81), (.tmp 82)]⟩,
     ⟨(some 6), none, .mv (.tmp 80)⟩,
     ⟨(some 7), none, .mv (.tmp 83)⟩,
     ⟨(some 8), none, .mv (.const (.int .i64 0))⟩])
  (.ret))))))))))
theorem ck_rumor_Take : chkFun Try.prog 20 3 = some (rc_rumor_Take, [6, 7, 8]) := by kernel_rfl
/-- hearsay/hearsayref.TakeRumors -/
def rc_hearsayref_TakeRumors : RCode :=
  .seq (.reg [⟨(some 6), none, .mv (.const (.slice none 0 0))⟩,
     ⟨(some 7), none, .mv (.const (.slice none 0 0))⟩])
  (.seq (.reg [⟨(some 15), none, .mks 55 6 0 [(.string ⟨#[]⟩), (.int .i64 0), (.int .i64 0), (.int .i64 0), (.bool false), (.int .i64 0)] []⟩,
     ⟨(some 16), none, .mv (.tmp 0)⟩,
     ⟨(some 17), none, .app 55 6 56 (.agg #[(.string ⟨#[]⟩), (.int .i64 0), (.int .i64 0), (.int .i64 0), (.bool false), (.int .i64 0)]) (.tmp 15) (.tmp 16)⟩,
     ⟨(some 8), none, .mv (.tmp 17)⟩])
  (.seq (.reg [⟨(some 9), none, .mv (.const (.slice none 0 0))⟩])
  (.seq (.reg [⟨(some 18), none, .mv (.tmp 0)⟩,
     ⟨(some 19), none, .len false (.tmp 18)⟩,
     ⟨(some 20), none, .mkn 4 1 1 [(.bool false)] (.tmp 19) (.tmp 19)⟩,
     ⟨(some 10), none, .mv (.tmp 20)⟩])
  (.seq (.block 0
    (.loop
     (.seq (.seq (.reg [⟨(some 21), none, .mv (.tmp 9)⟩,
         ⟨(some 22), none, .len false (.tmp 21)⟩,
         ⟨(some 23), none, .mv (.tmp 1)⟩,
         ⟨(some 24), none, .bin .lss (.tmp 22) (.tmp 23)⟩,
         ⟨(some 25), none, .mv (.tmp 24)⟩,
         ⟨(some 26), (some (25, true)), .mv (.tmp 9)⟩,
         ⟨(some 27), (some (25, true)), .len false (.tmp 26)⟩,
         ⟨(some 28), (some (25, true)), .mv (.tmp 0)⟩,
         ⟨(some 29), (some (25, true)), .len false (.tmp 28)⟩,
         ⟨(some 30), (some (25, true)), .bin .lss (.tmp 27) (.tmp 29)⟩,
         ⟨(some 31), none, .pick (.tmp 25) (.tmp 30) (.const (.bool false))⟩])
      (.cond (.tmp 31)
       (.skip)
       (.exit 0)))
     (.block 1
      (.seq (.reg [⟨(some 11), none, .mv (.const (.int .i64 (-1)))⟩])
      (.seq (.seq (.reg [⟨(some 12), none, .mv (.const (.int .i64 0))⟩])
       (.block 2
        (.loop
         (.seq (.seq (.reg [⟨(some 32), none, .mv (.tmp 12)⟩,
             ⟨(some 33), none, .mv (.tmp 0)⟩,
             ⟨(some 34), none, .len false (.tmp 33)⟩,
             ⟨(some 35), none, .bin .lss (.tmp 32) (.tmp 34)⟩])
          (.cond (.tmp 35)
           (.skip)
           (.exit 2)))
         (.seq (.block 3
           (.seq (.dreg [[⟨(some 38), none, .mv (.tmp 10)⟩,
               ⟨(some 39), none, .mv (.tmp 12)⟩],
              [⟨(some 40), none, .idxA 1 (.tmp 38) (.tmp 39)⟩],
              [⟨(some 41), none, .load false 1 (.tmp 40)⟩],
              [⟨(some 42), none, .not (.tmp 41)⟩],
              [⟨(some 43), none, .mv (.tmp 42)⟩],
              [⟨(some 44), (some (43, true)), .mv (.tmp 11)⟩],
              [⟨(some 45), (some (43, true)), .bin .lss (.tmp 44) (.const (.int .i64 0))⟩],
              [⟨(some 46), (some (43, true)), .mv (.tmp 45)⟩],
              [⟨(some 47), (some (46, false)), .mv (.tmp 0)⟩,
               ⟨(some 48), (some (46, false)), .mv (.tmp 12)⟩,
               ⟨(some 49), (some (46, false)), .idxA 6 (.tmp 47) (.tmp 48)⟩,
               ⟨(some 50), (some (46, false)), .fldA 5 (.tmp 49)⟩,
               ⟨(some 51), (some (46, false)), .load false 1 (.tmp 50)⟩,
               ⟨(some 52), (some (46, false)), .mv (.tmp 0)⟩,
               ⟨(some 53), (some (46, false)), .mv (.tmp 11)⟩,
               ⟨(some 54), (some (46, false)), .idxA 6 (.tmp 52) (.tmp 53)⟩,
               ⟨(some 55), (some (46, false)), .fldA 5 (.tmp 54)⟩,
               ⟨(some 56), (some (46, false)), .load false 1 (.tmp 55)⟩],
              [⟨(some 57), (some (46, false)), .bin .leq (.tmp 51) (.tmp 56)⟩],
              [⟨(some 58), (some (43, true)), .pick (.tmp 46) (.const (.bool true)) (.tmp 57)⟩],
              [⟨(some 59), none, .pick (.tmp 43) (.tmp 58) (.const (.bool false))⟩]])
           (.cond (.tmp 59)
            (.reg [⟨(some 60), none, .mv (.tmp 12)⟩,
               ⟨(some 11), none, .mv (.tmp 60)⟩])
            (.skip))))
         (.reg [⟨(some 36), none, .mv (.tmp 12)⟩,
           ⟨(some 37), none, .bin .add (.tmp 36) (.const (.int .i64 1))⟩,
           ⟨(some 12), none, .mv (.tmp 37)⟩]))))))
      (.seq (.reg [⟨(some 61), none, .mv (.tmp 10)⟩,
         ⟨(some 62), none, .mv (.tmp 11)⟩,
         ⟨(some 63), none, .idxA 1 (.tmp 61) (.tmp 62)⟩,
         ⟨none, none, .store 1 (.tmp 63) (.const (.bool true))⟩])
      (.seq (.reg [⟨(some 64), none, .mv (.tmp 9)⟩,
         ⟨(some 65), none, .mv (.tmp 0)⟩,
         ⟨(some 66), none, .mv (.tmp 11)⟩,
         ⟨(some 67), none, .idxA 6 (.tmp 65) (.tmp 66)⟩,
         ⟨(some 68), none, .fldA 0 (.tmp 67)⟩,
         ⟨(some 69), none, .load true 5 (.tmp 68)⟩,
         ⟨(some 70), none, .mks 38 5 1 [(.string ⟨#[]⟩), (.int .i64 0), (.int .i64 0), (.int .i64 0), (.bool false)] [(0, (.tmp 69))]⟩,
         ⟨(some 71), none, .app 38 5 48 (.agg #[(.string ⟨#[]⟩), (.int .i64 0), (.int .i64 0), (.int .i64 0), (.bool false)]) (.tmp 64) (.tmp 70)⟩,
         ⟨(some 9), none, .mv (.tmp 71)⟩])
      (.reg [⟨(some 72), none, .mv (.tmp 8)⟩,
        ⟨(some 73), none, .mv (.tmp 11)⟩,
        ⟨(some 74), none, .idxA 6 (.tmp 72) (.tmp 73)⟩,
        ⟨(some 75), none, .fldA 5 (.tmp 74)⟩,
        ⟨(some 76), none, .load false 1 (.tmp 75)⟩,
        ⟨(some 77), none, .bin .add (.tmp 76) (.const (.int .i64 1))⟩,
        ⟨(some 78), none, .idxA 6 (.tmp 72) (.tmp 73)⟩,
        ⟨(some 79), none, .fldA 5 (.tmp 78)⟩,
        ⟨none, none, .store 1 (.tmp 79) (.tmp 77)⟩])))))))))
  (.seq (.reg [⟨(some 13), none, .mv (.const (.slice none 0 0))⟩])
  (.seq (.seq (.reg [⟨(some 14), none, .mv (.const (.int .i64 0))⟩])
   (.block 4
    (.loop
     (.seq (.seq (.reg [⟨(some 80), none, .mv (.tmp 14)⟩,
         ⟨(some 81), none, .mv (.tmp 8)⟩,
         ⟨(some 82), none, .len false (.tmp 81)⟩,
         ⟨(some 83), none, .bin .lss (.tmp 80) (.tmp 82)⟩])
      (.cond (.tmp 83)
       (.skip)
       (.exit 4)))
     (.seq (.block 5
       (.seq (.reg [⟨(some 86), none, .mv (.tmp 8)⟩,
          ⟨(some 87), none, .mv (.tmp 14)⟩,
          ⟨(some 88), none, .idxA 6 (.tmp 86) (.tmp 87)⟩,
          ⟨(some 89), none, .fldA 5 (.tmp 88)⟩,
          ⟨(some 90), none, .load false 1 (.tmp 89)⟩,
          ⟨(some 91), none, .mv (.tmp 2)⟩,
          ⟨(some 92), none, .bin .lss (.tmp 90) (.tmp 91)⟩])
       (.cond (.tmp 92)
        (.reg [⟨(some 93), none, .mv (.tmp 13)⟩,
           ⟨(some 94), none, .mv (.tmp 8)⟩,
           ⟨(some 95), none, .mv (.tmp 14)⟩,
           ⟨(some 96), none, .idxA 6 (.tmp 94) (.tmp 95)⟩,
           ⟨(some 97), none, .load true 6 (.tmp 96)⟩,
           ⟨(some 98), none, .mks 55 6 1 [(.string ⟨#[]⟩), (.int .i64 0), (.int .i64 0), (.int .i64 0), (.bool false), (.int .i64 0)] [(0, (.tmp 97))]⟩,
           ⟨(some 99), none, .app 55 6 56 (.agg #[(.string ⟨#[]⟩), (.int .i64 0), (.int .i64 0), (.int .i64 0), (.bool false), (.int .i64 0)]) (.tmp 93) (.tmp 98)⟩,
           ⟨(some 13), none, .mv (.tmp 99)⟩])
        (.skip))))
     (.reg [⟨(some 84), none, .mv (.tmp 14)⟩,
       ⟨(some 85), none, .bin .add (.tmp 84) (.const (.int .i64 1))⟩,
       ⟨(some 14), none, .mv (.tmp 85)⟩]))))))
  (.seq (.reg [⟨(some 100), none, .mv (.tmp 9)⟩,
     ⟨(some 101), none, .mv (.tmp 13)⟩,
     ⟨(some 6), none, .mv (.tmp 100)⟩,
     ⟨(some 7), none, .mv (.tmp 101)⟩])
  (.ret))))))))
theorem ck_hearsayref_TakeRumors : chkFun Try.prog 21 3 = some (rc_hearsayref_TakeRumors, [6, 7]) := by kernel_rfl
/-- hearsay/hearsayref.SameMembers -/
def rc_hearsayref_SameMembers : RCode :=
  .seq (.reg [⟨(some 4), none, .mv (.const (.bool false))⟩])
  (.seq (.seq (.reg [⟨(some 6), none, .mv (.tmp 0)⟩,
      ⟨(some 7), none, .len false (.tmp 6)⟩,
      ⟨(some 8), none, .mv (.tmp 1)⟩,
      ⟨(some 9), none, .len false (.tmp 8)⟩,
      ⟨(some 10), none, .bin .neq (.tmp 7) (.tmp 9)⟩])
   (.cond (.tmp 10)
    (.seq (.reg [⟨(some 4), none, .mv (.const (.bool false))⟩])
     (.ret))
    (.skip)))
  (.seq (.seq (.reg [⟨(some 5), none, .mv (.const (.int .i64 0))⟩])
   (.block 0
    (.loop
     (.seq (.seq (.reg [⟨(some 11), none, .mv (.tmp 5)⟩,
         ⟨(some 12), none, .mv (.tmp 0)⟩,
         ⟨(some 13), none, .len false (.tmp 12)⟩,
         ⟨(some 14), none, .bin .lss (.tmp 11) (.tmp 13)⟩])
      (.cond (.tmp 14)
       (.skip)
       (.exit 0)))
     (.seq (.block 1
       (.seq (.dreg [[⟨(some 17), none, .mv (.tmp 0)⟩,
           ⟨(some 18), none, .mv (.tmp 5)⟩,
           ⟨(some 19), none, .idxA 5 (.tmp 17) (.tmp 18)⟩,
           ⟨(some 20), none, .load true 5 (.tmp 19)⟩,
           ⟨(some 21), none, .mv (.tmp 1)⟩,
           ⟨(some 22), none, .mv (.tmp 5)⟩,
           ⟨(some 23), none, .idxA 5 (.tmp 21) (.tmp 22)⟩,
           ⟨(some 24), none, .load true 5 (.tmp 23)⟩],
          [⟨(some 25), none, .eqS true [1, 0, 0, 0, 2] (.tmp 20) (.tmp 24)⟩]])
       (.cond (.tmp 25)
        (.seq (.reg [⟨(some 4), none, .mv (.const (.bool false))⟩])
         (.ret))
        (.skip))))
     (.reg [⟨(some 15), none, .mv (.tmp 5)⟩,
       ⟨(some 16), none, .bin .add (.tmp 15) (.const (.int .i64 1))⟩,
       ⟨(some 5), none, .mv (.tmp 16)⟩]))))))
  (.seq (.reg [⟨(some 4), none, .mv (.const (.bool true))⟩])
  (.ret))))
theorem ck_hearsayref_SameMembers : chkFun Try.prog 22 2 = some (rc_hearsayref_SameMembers, [4]) := by kernel_rfl
/-- hearsay/hearsaylaw.choose -/
def rc_hearsaylaw_choose : RCode :=
  .seq (.reg [⟨(some 4), none, .mv (.const (.int .i64 0))⟩])
  (.seq (.seq (.reg [⟨(some 5), none, .mv (.tmp 0)⟩,
      ⟨(some 6), none, .bin .lss (.tmp 5) (.const (.int .i64 0))⟩])
   (.cond (.tmp 6)
    (.reg [⟨(some 7), none, .mv (.tmp 0)⟩,
       ⟨(some 8), none, .bin .add (.tmp 7) (.const (.int .i64 1))⟩,
       ⟨(some 9), none, .neg (.tmp 8)⟩,
       ⟨(some 0), none, .mv (.tmp 9)⟩])
    (.skip)))
  (.seq (.reg [⟨(some 10), none, .mv (.tmp 0)⟩,
     ⟨(some 11), none, .mv (.tmp 1)⟩,
     ⟨(some 12), none, .bin .rem (.tmp 10) (.tmp 11)⟩,
     ⟨(some 4), none, .mv (.tmp 12)⟩])
  (.ret)))
theorem ck_hearsaylaw_choose : chkFun Try.prog 23 2 = some (rc_hearsaylaw_choose, [4]) := by kernel_rfl
/-- hearsay/rumor.Times -/
def rc_rumor_Times : RCode :=
  .seq (.reg [⟨(some 2), none, .mv (.const (.int .i64 0))⟩,
     ⟨(some 3), none, .mv (.const (.int .i64 0))⟩])
  (.seq (.seq (.reg [⟨(some 5), none, .mv (.tmp 0)⟩,
      ⟨(some 6), none, .bin .lss (.tmp 5) (.const (.int .i64 0))⟩,
      ⟨(some 7), none, .mv (.tmp 6)⟩,
      ⟨(some 8), (some (7, false)), .mv (.tmp 0)⟩,
      ⟨(some 9), (some (7, false)), .bin .gtr (.tmp 8) (.const (.int .i64 20))⟩,
      ⟨(some 10), none, .pick (.tmp 7) (.const (.bool true)) (.tmp 9)⟩])
   (.cond (.tmp 10)
    (.seq (.reg [⟨(some 2), none, .mv (.const (.int .i64 0))⟩,
        ⟨(some 3), none, .mv (.const (.int .i64 3))⟩])
     (.ret))
    (.skip)))
  (.seq (.reg [⟨(some 4), none, .mv (.const (.int .i64 0))⟩])
  (.seq (.block 0
    (.loop
     (.seq (.seq (.reg [⟨(some 11), none, .mv (.tmp 4)⟩,
         ⟨(some 12), none, .bin .shl (.const (.int .i64 1)) (.tmp 11)⟩,
         ⟨(some 13), none, .mv (.tmp 0)⟩,
         ⟨(some 14), none, .bin .leq (.tmp 12) (.tmp 13)⟩])
      (.cond (.tmp 14)
       (.skip)
       (.exit 0)))
     (.block 1
      (.reg [⟨(some 15), none, .mv (.tmp 4)⟩,
        ⟨(some 16), none, .bin .add (.tmp 15) (.const (.int .i64 1))⟩,
        ⟨(some 4), none, .mv (.tmp 16)⟩])))))
  (.seq (.reg [⟨(some 17), none, .mv (.tmp 4)⟩,
     ⟨(some 18), none, .bin .mul (.const (.int .i64 3)) (.tmp 17)⟩,
     ⟨(some 2), none, .mv (.tmp 18)⟩,
     ⟨(some 3), none, .mv (.const (.int .i64 0))⟩])
  (.ret)))))
theorem ck_rumor_Times : chkFun Try.prog 24 1 = some (rc_rumor_Times, [2, 3]) := by kernel_rfl
/-- hearsay/hearsayref.TimesOf -/
def rc_hearsayref_TimesOf : RCode :=
  .seq (.reg [⟨(some 2), none, .mv (.const (.int .i64 0))⟩])
  (.seq (.reg [⟨(some 3), none, .mv (.const (.int .i64 0))⟩,
     ⟨(some 4), none, .mv (.const (.int .i64 1))⟩])
  (.seq (.block 0
    (.loop
     (.seq (.seq (.reg [⟨(some 5), none, .mv (.tmp 4)⟩,
         ⟨(some 6), none, .mv (.tmp 0)⟩,
         ⟨(some 7), none, .bin .leq (.tmp 5) (.tmp 6)⟩])
      (.cond (.tmp 7)
       (.skip)
       (.exit 0)))
     (.block 1
      (.seq (.reg [⟨(some 8), none, .mv (.tmp 3)⟩,
         ⟨(some 9), none, .bin .add (.tmp 8) (.const (.int .i64 1))⟩,
         ⟨(some 3), none, .mv (.tmp 9)⟩])
      (.reg [⟨(some 10), none, .mv (.tmp 4)⟩,
        ⟨(some 11), none, .bin .mul (.const (.int .i64 2)) (.tmp 10)⟩,
        ⟨(some 4), none, .mv (.tmp 11)⟩]))))))
  (.seq (.reg [⟨(some 12), none, .mv (.tmp 3)⟩,
     ⟨(some 13), none, .bin .mul (.const (.int .i64 3)) (.tmp 12)⟩,
     ⟨(some 2), none, .mv (.tmp 13)⟩])
  (.ret))))
theorem ck_hearsayref_TimesOf : chkFun Try.prog 25 1 = some (rc_hearsayref_TimesOf, [2]) := by kernel_rfl
/-- hearsay/place.Check -/
def rc_place_Check : RCode :=
  .seq (.reg [⟨(some 1), none, .box 23 5 (.tmp 0)⟩,
     ⟨(some 2), none, .mv (.const (.int .i64 0))⟩])
  (.seq (.reg [⟨(some 3), none, .mv (.func 53)⟩])
  (.seq (.seq (.reg [⟨(some 4), none, .mv (.tmp 3)⟩,
      ⟨(some 5), none, .fldA 0 (.tmp 1)⟩,
      ⟨(some 6), none, .load false 1 (.tmp 5)⟩,
      ⟨(some 7), none, .call (.tmp 4) [(.tmp 6)]⟩,
      ⟨(some 8), none, .not (.tmp 7)⟩,
      ⟨(some 9), none, .mv (.tmp 8)⟩,
      ⟨(some 10), (some (9, false)), .mv (.tmp 3)⟩,
      ⟨(some 11), (some (9, false)), .fldA 1 (.tmp 1)⟩,
      ⟨(some 12), (some (9, false)), .load false 1 (.tmp 11)⟩,
      ⟨(some 13), (some (9, false)), .call (.tmp 10) [(.tmp 12)]⟩,
      ⟨(some 14), (some (9, false)), .not (.tmp 13)⟩,
      ⟨(some 15), none, .pick (.tmp 9) (.const (.bool true)) (.tmp 14)⟩,
      ⟨(some 16), none, .mv (.tmp 15)⟩,
      ⟨(some 17), (some (16, false)), .mv (.tmp 3)⟩,
      ⟨(some 18), (some (16, false)), .fldA 2 (.tmp 1)⟩,
      ⟨(some 19), (some (16, false)), .load false 1 (.tmp 18)⟩,
      ⟨(some 20), (some (16, false)), .call (.tmp 17) [(.tmp 19)]⟩,
      ⟨(some 21), (some (16, false)), .not (.tmp 20)⟩,
      ⟨(some 22), none, .pick (.tmp 16) (.const (.bool true)) (.tmp 21)⟩,
      ⟨(some 23), none, .mv (.tmp 22)⟩,
      ⟨(some 24), (some (23, false)), .fldA 3 (.tmp 1)⟩,
      ⟨(some 25), (some (23, false)), .load false 1 (.tmp 24)⟩,
      ⟨(some 26), (some (23, false)), .call (.func 54) [(.tmp 25), (.const (.int .i64 0)), (.const (.int .i64 1000000))]⟩,
      ⟨(some 27), (some (23, false)), .not (.tmp 26)⟩,
      ⟨(some 28), none, .pick (.tmp 23) (.const (.bool true)) (.tmp 27)⟩,
      ⟨(some 29), none, .mv (.tmp 28)⟩,
      ⟨(some 30), (some (29, false)), .fldA 4 (.tmp 1)⟩,
      ⟨(some 31), (some (29, false)), .load false 1 (.tmp 30)⟩,
      ⟨(some 32), (some (29, false)), .call (.func 54) [(.tmp 31), (.const (.int .i64 0)), (.const (.int .i64 1000))]⟩,
      ⟨(some 33), (some (29, false)), .not (.tmp 32)⟩,
      ⟨(some 34), none, .pick (.tmp 29) (.const (.bool true)) (.tmp 33)⟩])
   (.cond (.tmp 34)
    (.seq (.reg [⟨(some 2), none, .mv (.const (.int .i64 3))⟩])
     (.ret))
    (.skip)))
  (.seq (.reg [⟨(some 2), none, .mv (.const (.int .i64 0))⟩])
  (.ret))))
theorem ck_place_Check : chkFun Try.prog 26 1 = some (rc_place_Check, [2]) := by kernel_rfl
/-- hearsay/place.RawFar -/
def rc_place_RawFar : RCode :=
  .seq (.reg [⟨(some 2), none, .box 23 5 (.tmp 0)⟩,
     ⟨(some 3), none, .box 23 5 (.tmp 1)⟩,
     ⟨(some 4), none, .mv (.const (.int .i64 0))⟩])
  (.seq (.dreg [[⟨(some 5), none, .load true 5 (.tmp 2)⟩,
      ⟨(some 6), none, .load true 5 (.tmp 3)⟩,
      ⟨(some 7), none, .call (.func 55) [(.tmp 5), (.tmp 6)]⟩,
      ⟨(some 8), none, .fldA 3 (.tmp 2)⟩,
      ⟨(some 9), none, .load false 1 (.tmp 8)⟩,
      ⟨(some 10), none, .bin .add (.tmp 7) (.tmp 9)⟩,
      ⟨(some 11), none, .fldA 3 (.tmp 3)⟩,
      ⟨(some 12), none, .load false 1 (.tmp 11)⟩],
     [⟨(some 13), none, .bin .add (.tmp 10) (.tmp 12)⟩],
     [⟨(some 4), none, .mv (.tmp 13)⟩]])
  (.ret))
theorem ck_place_RawFar : chkFun Try.prog 27 2 = some (rc_place_RawFar, [4]) := by kernel_rfl
/-- slices.Clone(()string,string) -/
def rc_slices_Clone_string_string : RCode :=
  .seq (.reg [⟨(some 2), none, .mv (.const (.slice none 0 0))⟩])
  (.seq (.seq (.reg [⟨(some 3), none, .mv (.tmp 0)⟩,
      ⟨(some 4), none, .isnil false (.tmp 3)⟩])
   (.cond (.tmp 4)
    (.seq (.reg [⟨(some 2), none, .mv (.const (.slice none 0 0))⟩])
     (.ret))
    (.skip)))
  (.seq (.reg [⟨(some 5), none, .mks 9 1 0 [(.string ⟨#[]⟩)] []⟩,
     ⟨(some 6), none, .mv (.tmp 0)⟩,
     ⟨(some 7), none, .app 9 1 16 (.string ⟨#[]⟩) (.tmp 5) (.tmp 6)⟩,
     ⟨(some 2), none, .mv (.tmp 7)⟩])
  (.ret)))
theorem ck_slices_Clone_string_string : chkFun Try.prog 28 1 = some (rc_slices_Clone_string_string, [2]) := by kernel_rfl
/-- hearsay/place.Sort$1 -/
def rc_place_Sort_1 : RCode :=
  .seq (.reg [⟨(some 5), none, .mv (.const (.int .i64 0))⟩])
  (.seq (.reg [⟨(some 11), none, .load false 1 (.tmp 2)⟩,
     ⟨(some 12), none, .mv (.tmp 0)⟩,
     ⟨(some 13), none, .mlook .string true (.int .i64 0) (.tmp 11) (.tmp 12)⟩,
     ⟨(some 10), none, .mv (.tmp 13)⟩,
     ⟨(some 14), none, .ext (.tmp 10) 0⟩,
     ⟨(some 15), none, .ext (.tmp 10) 1⟩,
     ⟨(some 6), none, .mv (.tmp 14)⟩,
     ⟨(some 7), none, .mv (.tmp 15)⟩])
  (.seq (.reg [⟨(some 17), none, .load false 1 (.tmp 2)⟩,
     ⟨(some 18), none, .mv (.tmp 1)⟩,
     ⟨(some 19), none, .mlook .string true (.int .i64 0) (.tmp 17) (.tmp 18)⟩,
     ⟨(some 16), none, .mv (.tmp 19)⟩,
     ⟨(some 20), none, .ext (.tmp 16) 0⟩,
     ⟨(some 21), none, .ext (.tmp 16) 1⟩,
     ⟨(some 8), none, .mv (.tmp 20)⟩,
     ⟨(some 9), none, .mv (.tmp 21)⟩])
  (.seq (.block 0
    (.seq (.reg [⟨(some 23), none, .mv (.tmp 7)⟩,
       ⟨(some 24), none, .mv (.tmp 23)⟩,
       ⟨(some 25), (some (24, true)), .mv (.tmp 9)⟩,
       ⟨(some 26), (some (24, true)), .not (.tmp 25)⟩,
       ⟨(some 27), none, .pick (.tmp 24) (.tmp 26) (.const (.bool false))⟩,
       ⟨(some 22), none, .mv (.tmp 27)⟩])
    (.cond (.tmp 22)
     (.seq (.reg [⟨(some 5), none, .mv (.const (.int .i64 (-1)))⟩])
      (.ret))
     (.seq (.reg [⟨(some 29), none, .mv (.tmp 9)⟩,
         ⟨(some 30), none, .mv (.tmp 29)⟩,
         ⟨(some 31), (some (30, true)), .mv (.tmp 7)⟩,
         ⟨(some 32), (some (30, true)), .not (.tmp 31)⟩,
         ⟨(some 33), none, .pick (.tmp 30) (.tmp 32) (.const (.bool false))⟩,
         ⟨(some 28), none, .mv (.tmp 33)⟩])
      (.cond (.tmp 28)
       (.seq (.reg [⟨(some 5), none, .mv (.const (.int .i64 1))⟩])
        (.ret))
       (.skip))))))
  (.seq (.reg [⟨(some 34), none, .mv (.tmp 6)⟩,
     ⟨(some 35), none, .mv (.tmp 8)⟩,
     ⟨(some 36), none, .call (.func 32) [(.tmp 34), (.tmp 35)]⟩,
     ⟨(some 37), none, .mv (.tmp 0)⟩,
     ⟨(some 38), none, .mv (.tmp 1)⟩,
     ⟨(some 39), none, .call (.func 33) [(.tmp 37), (.tmp 38)]⟩,
     ⟨(some 40), none, .mks 3 1 2 [(.int .i64 0)] [(0, (.tmp 36)), (1, (.tmp 39))]⟩,
     ⟨(some 41), none, .call (.func 31) [(.tmp 40)]⟩,
     ⟨(some 5), none, .mv (.tmp 41)⟩])
  (.ret)))))
theorem ck_place_Sort_1 : chkFun Try.prog 30 3 = some (rc_place_Sort_1, [5]) := by kernel_rfl
/-- cmp.Or(int) -/
def rc_cmp_Or_int : RCode :=
  .seq (.reg [⟨(some 2), none, .mv (.const (.int .i64 0))⟩])
  (.seq (.reg [⟨(some 3), none, .mv (.const (.int .i64 0))⟩])
  (.seq (.seq (.reg [⟨(some 6), none, .mv (.tmp 0)⟩,
      ⟨(some 7), none, .len false (.tmp 6)⟩,
      ⟨(some 8), none, .mv (.const (.int .i64 0))⟩])
   (.block 0
    (.loop
     (.seq (.reg [⟨(some 9), none, .bin .lss (.tmp 8) (.tmp 7)⟩])
     (.seq (.cond (.tmp 9)
       (.skip)
       (.exit 0))
     (.seq (.block 1
       (.seq (.reg [⟨(some 10), none, .idxA 1 (.tmp 6) (.tmp 8)⟩,
          ⟨(some 11), none, .load false 1 (.tmp 10)⟩,
          ⟨(some 5), none, .mv (.tmp 11)⟩])
       (.seq (.reg [⟨(some 12), none, .mv (.tmp 5)⟩,
          ⟨(some 13), none, .mv (.tmp 3)⟩,
          ⟨(some 14), none, .bin .neq (.tmp 12) (.tmp 13)⟩])
       (.cond (.tmp 14)
        (.seq (.reg [⟨(some 15), none, .mv (.tmp 5)⟩,
            ⟨(some 2), none, .mv (.tmp 15)⟩])
         (.ret))
        (.skip)))))
     (.reg [⟨(some 16), none, .bin .add (.tmp 8) (.const (.int .i64 1))⟩,
       ⟨(some 8), none, .mv (.tmp 16)⟩])))))))
  (.seq (.reg [⟨(some 17), none, .mv (.tmp 3)⟩,
     ⟨(some 2), none, .mv (.tmp 17)⟩])
  (.ret))))
theorem ck_cmp_Or_int : chkFun Try.prog 31 1 = some (rc_cmp_Or_int, [2]) := by kernel_rfl
/-- cmp.Compare(int) -/
def rc_cmp_Compare_int : RCode :=
  .seq (.reg [⟨(some 4), none, .mv (.const (.int .i64 0))⟩])
  (.seq (.reg [⟨(some 7), none, .mv (.tmp 0)⟩,
     ⟨(some 8), none, .call (.func 58) [(.tmp 7)]⟩,
     ⟨(some 5), none, .mv (.tmp 8)⟩])
  (.seq (.reg [⟨(some 9), none, .mv (.tmp 1)⟩,
     ⟨(some 10), none, .call (.func 58) [(.tmp 9)]⟩,
     ⟨(some 6), none, .mv (.tmp 10)⟩])
  (.seq (.seq (.reg [⟨(some 11), none, .mv (.tmp 5)⟩])
   (.cond (.tmp 11)
    (.seq (.seq (.reg [⟨(some 12), none, .mv (.tmp 6)⟩])
      (.cond (.tmp 12)
       (.seq (.reg [⟨(some 4), none, .mv (.const (.int .i64 0))⟩])
        (.ret))
       (.skip)))
     (.seq (.reg [⟨(some 4), none, .mv (.const (.int .i64 (-1)))⟩])
     (.ret)))
    (.skip)))
  (.seq (.seq (.reg [⟨(some 13), none, .mv (.tmp 6)⟩])
   (.cond (.tmp 13)
    (.seq (.reg [⟨(some 4), none, .mv (.const (.int .i64 1))⟩])
     (.ret))
    (.skip)))
  (.seq (.seq (.reg [⟨(some 14), none, .mv (.tmp 0)⟩,
      ⟨(some 15), none, .mv (.tmp 1)⟩,
      ⟨(some 16), none, .bin .lss (.tmp 14) (.tmp 15)⟩])
   (.cond (.tmp 16)
    (.seq (.reg [⟨(some 4), none, .mv (.const (.int .i64 (-1)))⟩])
     (.ret))
    (.skip)))
  (.seq (.seq (.reg [⟨(some 17), none, .mv (.tmp 0)⟩,
      ⟨(some 18), none, .mv (.tmp 1)⟩,
      ⟨(some 19), none, .bin .gtr (.tmp 17) (.tmp 18)⟩])
   (.cond (.tmp 19)
    (.seq (.reg [⟨(some 4), none, .mv (.const (.int .i64 1))⟩])
     (.ret))
    (.skip)))
  (.seq (.reg [⟨(some 4), none, .mv (.const (.int .i64 0))⟩])
  (.ret))))))))
theorem ck_cmp_Compare_int : chkFun Try.prog 32 2 = some (rc_cmp_Compare_int, [4]) := by kernel_rfl
/-- cmp.Compare(string) -/
def rc_cmp_Compare_string : RCode :=
  .seq (.reg [⟨(some 4), none, .mv (.const (.int .i64 0))⟩])
  (.seq (.reg [⟨(some 7), none, .mv (.tmp 0)⟩,
     ⟨(some 8), none, .call (.func 59) [(.tmp 7)]⟩,
     ⟨(some 5), none, .mv (.tmp 8)⟩])
  (.seq (.reg [⟨(some 9), none, .mv (.tmp 1)⟩,
     ⟨(some 10), none, .call (.func 59) [(.tmp 9)]⟩,
     ⟨(some 6), none, .mv (.tmp 10)⟩])
  (.seq (.seq (.reg [⟨(some 11), none, .mv (.tmp 5)⟩])
   (.cond (.tmp 11)
    (.seq (.seq (.reg [⟨(some 12), none, .mv (.tmp 6)⟩])
      (.cond (.tmp 12)
       (.seq (.reg [⟨(some 4), none, .mv (.const (.int .i64 0))⟩])
        (.ret))
       (.skip)))
     (.seq (.reg [⟨(some 4), none, .mv (.const (.int .i64 (-1)))⟩])
     (.ret)))
    (.skip)))
  (.seq (.seq (.reg [⟨(some 13), none, .mv (.tmp 6)⟩])
   (.cond (.tmp 13)
    (.seq (.reg [⟨(some 4), none, .mv (.const (.int .i64 1))⟩])
     (.ret))
    (.skip)))
  (.seq (.seq (.reg [⟨(some 14), none, .mv (.tmp 0)⟩,
      ⟨(some 15), none, .mv (.tmp 1)⟩,
      ⟨(some 16), none, .bin .lss (.tmp 14) (.tmp 15)⟩])
   (.cond (.tmp 16)
    (.seq (.reg [⟨(some 4), none, .mv (.const (.int .i64 (-1)))⟩])
     (.ret))
    (.skip)))
  (.seq (.seq (.reg [⟨(some 17), none, .mv (.tmp 0)⟩,
      ⟨(some 18), none, .mv (.tmp 1)⟩,
      ⟨(some 19), none, .bin .gtr (.tmp 17) (.tmp 18)⟩])
   (.cond (.tmp 19)
    (.seq (.reg [⟨(some 4), none, .mv (.const (.int .i64 1))⟩])
     (.ret))
    (.skip)))
  (.seq (.reg [⟨(some 4), none, .mv (.const (.int .i64 0))⟩])
  (.ret))))))))
theorem ck_cmp_Compare_string : chkFun Try.prog 33 2 = some (rc_cmp_Compare_string, [4]) := by kernel_rfl
/-- hearsay/hearsayref.between -/
def rc_hearsayref_between : RCode :=
  .seq (.reg [⟨(some 6), none, .mv (.const (.bool false))⟩])
  (.seq (.reg [⟨(some 7), none, .mv (.tmp 0)⟩,
     ⟨(some 8), none, .mv (.tmp 1)⟩,
     ⟨(some 9), none, .bin .geq (.tmp 7) (.tmp 8)⟩,
     ⟨(some 10), none, .mv (.tmp 9)⟩,
     ⟨(some 11), (some (10, true)), .mv (.tmp 0)⟩,
     ⟨(some 12), (some (10, true)), .mv (.tmp 2)⟩,
     ⟨(some 13), (some (10, true)), .bin .leq (.tmp 11) (.tmp 12)⟩,
     ⟨(some 14), none, .pick (.tmp 10) (.tmp 13) (.const (.bool false))⟩,
     ⟨(some 6), none, .mv (.tmp 14)⟩])
  (.ret))
theorem ck_hearsayref_between : chkFun Try.prog 34 3 = some (rc_hearsayref_between, [6]) := by kernel_rfl
/-- hearsay/hearsayref.farName -/
def rc_hearsayref_farName : RCode :=
  .seq (.reg [⟨(some 3), none, .box 23 5 (.tmp 0)⟩,
     ⟨(some 6), none, .mv (.const (.int .i64 0))⟩])
  (.seq (.seq (.reg [⟨(some 7), none, .mv (.const (.int .i64 0))⟩])
   (.block 0
    (.loop
     (.seq (.seq (.reg [⟨(some 8), none, .mv (.tmp 7)⟩,
         ⟨(some 9), none, .mv (.tmp 1)⟩,
         ⟨(some 10), none, .len false (.tmp 9)⟩,
         ⟨(some 11), none, .bin .lss (.tmp 8) (.tmp 10)⟩])
      (.cond (.tmp 11)
       (.skip)
       (.exit 0)))
     (.seq (.block 1
       (.seq (.reg [⟨(some 14), none, .mv (.tmp 1)⟩,
          ⟨(some 15), none, .mv (.tmp 7)⟩,
          ⟨(some 16), none, .idxA 6 (.tmp 14) (.tmp 15)⟩,
          ⟨(some 17), none, .fldA 0 (.tmp 16)⟩,
          ⟨(some 18), none, .load false 1 (.tmp 17)⟩,
          ⟨(some 19), none, .mv (.tmp 2)⟩,
          ⟨(some 20), none, .bin .eql (.tmp 18) (.tmp 19)⟩])
       (.cond (.tmp 20)
        (.seq (.dreg [[⟨(some 21), none, .load true 5 (.tmp 3)⟩,
             ⟨(some 22), none, .mv (.tmp 1)⟩,
             ⟨(some 23), none, .mv (.tmp 7)⟩,
             ⟨(some 24), none, .idxA 6 (.tmp 22) (.tmp 23)⟩,
             ⟨(some 25), none, .fldA 1 (.tmp 24)⟩,
             ⟨(some 26), none, .load true 5 (.tmp 25)⟩],
            [⟨(some 27), none, .call (.func 60) [(.tmp 21), (.tmp 26)]⟩],
            [⟨(some 6), none, .mv (.tmp 27)⟩]])
         (.ret))
        (.skip))))
     (.reg [⟨(some 12), none, .mv (.tmp 7)⟩,
       ⟨(some 13), none, .bin .add (.tmp 12) (.const (.int .i64 1))⟩,
       ⟨(some 7), none, .mv (.tmp 13)⟩]))))))
  (.seq (.reg [⟨(some 6), none, .mv (.const (.int .i64 (-1)))⟩])
  (.ret)))
theorem ck_hearsayref_farName : chkFun Try.prog 35 3 = some (rc_hearsayref_farName, [6]) := by kernel_rfl
/-- hearsay/place.Root -/
def rc_place_Root : RCode :=
  .seq (.reg [⟨(some 2), none, .mv (.const (.int .i64 0))⟩,
     ⟨(some 3), none, .mv (.const (.int .i64 0))⟩])
  (.seq (.seq (.reg [⟨(some 4), none, .mv (.tmp 0)⟩,
      ⟨(some 5), none, .bin .lss (.tmp 4) (.const (.int .i64 0))⟩])
   (.cond (.tmp 5)
    (.seq (.reg [⟨(some 2), none, .mv (.const (.int .i64 0))⟩,
        ⟨(some 3), none, .mv (.const (.int .i64 3))⟩])
     (.ret))
    (.skip)))
  (.seq (.reg [⟨(some 6), none, .mv (.tmp 0)⟩,
     ⟨(some 7), none, .call (.func 61) [(.tmp 6)]⟩,
     ⟨(some 2), none, .mv (.tmp 7)⟩,
     ⟨(some 3), none, .mv (.const (.int .i64 0))⟩])
  (.ret)))
theorem ck_place_Root : chkFun Try.prog 36 1 = some (rc_place_Root, [2, 3]) := by kernel_rfl
/-- hearsay/place.Far -/
def rc_place_Far : RCode :=
  .seq (.reg [⟨(some 2), none, .box 23 5 (.tmp 0)⟩,
     ⟨(some 3), none, .box 23 5 (.tmp 1)⟩,
     ⟨(some 4), none, .mv (.const (.int .i64 0))⟩,
     ⟨(some 5), none, .mv (.const (.int .i64 0))⟩])
  (.seq (.seq (.reg [⟨(some 7), none, .load true 5 (.tmp 2)⟩,
      ⟨(some 8), none, .load true 5 (.tmp 3)⟩,
      ⟨(some 9), none, .mks 23 5 2 [(.int .i64 0), (.int .i64 0), (.int .i64 0), (.int .i64 0), (.int .i64 0)] [(0, (.tmp 7)), (1, (.tmp 8))]⟩,
      ⟨(some 10), none, .call (.func 62) [(.tmp 9)]⟩,
      ⟨(some 6), none, .mv (.tmp 10)⟩])
   (.seq (.reg [⟨(some 11), none, .mv (.tmp 6)⟩,
      ⟨(some 12), none, .bin .neq (.tmp 11) (.const (.int .i64 0))⟩])
   (.cond (.tmp 12)
    (.seq (.reg [⟨(some 13), none, .mv (.tmp 6)⟩,
        ⟨(some 4), none, .mv (.const (.int .i64 0))⟩,
        ⟨(some 5), none, .mv (.tmp 13)⟩])
     (.ret))
    (.skip))))
  (.seq (.reg [⟨(some 14), none, .load true 5 (.tmp 2)⟩,
     ⟨(some 15), none, .load true 5 (.tmp 3)⟩,
     ⟨(some 16), none, .call (.func 27) [(.tmp 14), (.tmp 15)]⟩,
     ⟨(some 4), none, .mv (.tmp 16)⟩,
     ⟨(some 5), none, .mv (.const (.int .i64 0))⟩])
  (.ret)))
theorem ck_place_Far : chkFun Try.prog 37 2 = some (rc_place_Far, [4, 5]) := by kernel_rfl
/-- hearsay/member.One -/
def rc_member_One : RCode :=
  .seq (.reg [⟨(some 1), none, .box 38 5 (.tmp 0)⟩,
     ⟨(some 2), none, .mv (.const (.int .i64 0))⟩])
  (.seq (.reg [⟨(some 3), none, .load true 5 (.tmp 1)⟩,
     ⟨(some 4), none, .call (.func 63) [(.tmp 3)]⟩,
     ⟨(some 2), none, .mv (.tmp 4)⟩])
  (.ret))
theorem ck_member_One : chkFun Try.prog 38 1 = some (rc_member_One, [2]) := by kernel_rfl
/-- slices.Clone(()hearsay/api.Rumor,hearsay/api.Rumor) -/
def rc_slices_Clone_api_Rumor_api_Rumor : RCode :=
  .seq (.reg [⟨(some 2), none, .mv (.const (.slice none 0 0))⟩])
  (.seq (.seq (.reg [⟨(some 3), none, .mv (.tmp 0)⟩,
      ⟨(some 4), none, .isnil false (.tmp 3)⟩])
   (.cond (.tmp 4)
    (.seq (.reg [⟨(some 2), none, .mv (.const (.slice none 0 0))⟩])
     (.ret))
    (.skip)))
  (.seq (.reg [⟨(some 5), none, .mks 55 6 0 [(.string ⟨#[]⟩), (.int .i64 0), (.int .i64 0), (.int .i64 0), (.bool false), (.int .i64 0)] []⟩,
     ⟨(some 6), none, .mv (.tmp 0)⟩,
     ⟨(some 7), none, .app 55 6 56 (.agg #[(.string ⟨#[]⟩), (.int .i64 0), (.int .i64 0), (.int .i64 0), (.bool false), (.int .i64 0)]) (.tmp 5) (.tmp 6)⟩,
     ⟨(some 2), none, .mv (.tmp 7)⟩])
  (.ret)))
theorem ck_slices_Clone_api_Rumor_api_Rumor : chkFun Try.prog 39 1 = some (rc_slices_Clone_api_Rumor_api_Rumor, [2]) := by kernel_rfl
/-- slices.IndexFunc(()hearsay/api.Rumor,hearsay/api.Rumor) -/
def rc_slices_IndexFunc_api_Rumor_api_Rumor : RCode :=
  .seq (.reg [⟨(some 4), none, .mv (.const (.int .i64 0))⟩])
  (.seq (.seq (.reg [⟨(some 6), none, .mv (.tmp 0)⟩,
      ⟨(some 7), none, .len false (.tmp 6)⟩,
      ⟨(some 8), none, .mv (.const (.int .i64 0))⟩])
   (.block 0
    (.loop
     (.seq (.reg [⟨(some 9), none, .bin .lss (.tmp 8) (.tmp 7)⟩])
     (.seq (.cond (.tmp 9)
       (.skip)
       (.exit 0))
     (.seq (.block 1
       (.seq (.reg [⟨(some 10), none, .mv (.tmp 8)⟩,
          ⟨(some 5), none, .mv (.tmp 10)⟩])
       (.seq (.reg [⟨(some 11), none, .mv (.tmp 1)⟩,
          ⟨(some 12), none, .mv (.tmp 0)⟩,
          ⟨(some 13), none, .mv (.tmp 5)⟩,
          ⟨(some 14), none, .idxA 6 (.tmp 12) (.tmp 13)⟩,
          ⟨(some 15), none, .load true 6 (.tmp 14)⟩,
          ⟨(some 16), none, .call (.tmp 11) [(.tmp 15)]⟩])
       (.cond (.tmp 16)
        (.seq (.reg [⟨(some 17), none, .mv (.tmp 5)⟩,
            ⟨(some 4), none, .mv (.tmp 17)⟩])
         (.ret))
        (.skip)))))
     (.reg [⟨(some 18), none, .bin .add (.tmp 8) (.const (.int .i64 1))⟩,
       ⟨(some 8), none, .mv (.tmp 18)⟩])))))))
  (.seq (.reg [⟨(some 4), none, .mv (.const (.int .i64 (-1)))⟩])
  (.ret)))
theorem ck_slices_IndexFunc_api_Rumor_api_Rumor : chkFun Try.prog 40 2 = some (rc_slices_IndexFunc_api_Rumor_api_Rumor, [4]) := by kernel_rfl
/-- hearsay/rumor.Put$1 -/
def rc_rumor_Put_1 : RCode :=
  .seq (.reg [⟨(some 2), none, .box 55 6 (.tmp 0)⟩,
     ⟨(some 3), none, .mv (.const (.bool false))⟩])
  (.seq (.reg [⟨(some 4), none, .fldA 0 (.tmp 2)⟩,
     ⟨(some 5), none, .fldA 0 (.tmp 4)⟩,
     ⟨(some 6), none, .load false 1 (.tmp 5)⟩,
     ⟨(some 7), none, .fldA 0 (.tmp 1)⟩,
     ⟨(some 8), none, .load false 1 (.tmp 7)⟩,
     ⟨(some 9), none, .bin .eql (.tmp 6) (.tmp 8)⟩,
     ⟨(some 3), none, .mv (.tmp 9)⟩])
  (.ret))
theorem ck_rumor_Put_1 : chkFun Try.prog 41 2 = some (rc_rumor_Put_1, [3]) := by kernel_rfl
/-- hearsay/member.Compare -/
def rc_member_Compare : RCode :=
  .seq (.reg [⟨(some 2), none, .box 38 5 (.tmp 0)⟩,
     ⟨(some 3), none, .box 38 5 (.tmp 1)⟩,
     ⟨(some 4), none, .mv (.const (.int .i64 0))⟩])
  (.seq (.dreg [[⟨(some 5), none, .fldA 2 (.tmp 2)⟩,
      ⟨(some 6), none, .load false 1 (.tmp 5)⟩,
      ⟨(some 7), none, .fldA 2 (.tmp 3)⟩,
      ⟨(some 8), none, .load false 1 (.tmp 7)⟩,
      ⟨(some 9), none, .call (.func 32) [(.tmp 6), (.tmp 8)]⟩,
      ⟨(some 10), none, .fldA 1 (.tmp 2)⟩,
      ⟨(some 11), none, .load false 1 (.tmp 10)⟩,
      ⟨(some 12), none, .fldA 1 (.tmp 3)⟩,
      ⟨(some 13), none, .load false 1 (.tmp 12)⟩,
      ⟨(some 14), none, .call (.func 32) [(.tmp 11), (.tmp 13)]⟩,
      ⟨(some 15), none, .fldA 3 (.tmp 2)⟩,
      ⟨(some 16), none, .load false 1 (.tmp 15)⟩,
      ⟨(some 17), none, .fldA 3 (.tmp 3)⟩,
      ⟨(some 18), none, .load false 1 (.tmp 17)⟩,
      ⟨(some 19), none, .call (.func 32) [(.tmp 16), (.tmp 18)]⟩,
      ⟨(some 20), none, .fldA 4 (.tmp 2)⟩,
      ⟨(some 21), none, .load false 1 (.tmp 20)⟩,
      ⟨(some 22), none, .call (.func 64) [(.tmp 21)]⟩,
      ⟨(some 23), none, .fldA 4 (.tmp 3)⟩,
      ⟨(some 24), none, .load false 1 (.tmp 23)⟩],
     [⟨(some 25), none, .call (.func 64) [(.tmp 24)]⟩],
     [⟨(some 26), none, .call (.func 32) [(.tmp 22), (.tmp 25)]⟩],
     [⟨(some 27), none, .mks 3 1 4 [(.int .i64 0)] [(0, (.tmp 9)), (1, (.tmp 14)), (2, (.tmp 19)), (3, (.tmp 26))]⟩],
     [⟨(some 28), none, .call (.func 31) [(.tmp 27)]⟩],
     [⟨(some 4), none, .mv (.tmp 28)⟩]])
  (.ret))
theorem ck_member_Compare : chkFun Try.prog 42 2 = some (rc_member_Compare, [4]) := by kernel_rfl
/-- slices.Delete(()hearsay/api.Rumor,hearsay/api.Rumor) -/
def rc_slices_Delete_api_Rumor_api_Rumor : RCode :=
  .seq (.reg [⟨(some 6), none, .mv (.const (.slice none 0 0))⟩])
  (.seq (.reg [⟨(some 8), none, .mv (.tmp 0)⟩,
     ⟨(some 9), none, .mv (.tmp 1)⟩,
     ⟨(some 10), none, .mv (.tmp 2)⟩,
     ⟨(some 11), none, .mv (.tmp 0)⟩,
     ⟨(some 12), none, .len false (.tmp 11)⟩,
     ⟨(some 13), none, .slcL 6 (.tmp 8) (some (.tmp 9)) (some (.tmp 10)) (some (.tmp 12))⟩])
  (.seq (.seq (.reg [⟨(some 14), none, .mv (.tmp 1)⟩,
      ⟨(some 15), none, .mv (.tmp 2)⟩,
      ⟨(some 16), none, .bin .eql (.tmp 14) (.tmp 15)⟩])
   (.cond (.tmp 16)
    (.seq (.reg [⟨(some 17), none, .mv (.tmp 0)⟩,
        ⟨(some 6), none, .mv (.tmp 17)⟩])
     (.ret))
    (.skip)))
  (.seq (.reg [⟨(some 18), none, .mv (.tmp 0)⟩,
     ⟨(some 19), none, .len false (.tmp 18)⟩,
     ⟨(some 7), none, .mv (.tmp 19)⟩])
  (.seq (.dreg [[⟨(some 20), none, .mv (.tmp 0)⟩,
      ⟨(some 21), none, .mv (.tmp 1)⟩,
      ⟨(some 22), none, .slcL 6 (.tmp 20) none (some (.tmp 21)) none⟩,
      ⟨(some 23), none, .mv (.tmp 0)⟩,
      ⟨(some 24), none, .mv (.tmp 2)⟩,
      ⟨(some 25), none, .slcL 6 (.tmp 23) (some (.tmp 24)) none none⟩],
     [⟨(some 26), none, .app 55 6 56 (.agg #[(.string ⟨#[]⟩), (.int .i64 0), (.int .i64 0), (.int .i64 0), (.bool false), (.int .i64 0)]) (.tmp 22) (.tmp 25)⟩],
     [⟨(some 0), none, .mv (.tmp 26)⟩]])
  (.seq (.reg [⟨(some 27), none, .mv (.tmp 0)⟩,
     ⟨(some 28), none, .mv (.tmp 0)⟩,
     ⟨(some 29), none, .len false (.tmp 28)⟩,
     ⟨(some 30), none, .mv (.tmp 7)⟩,
     ⟨(some 31), none, .slcL 6 (.tmp 27) (some (.tmp 29)) (some (.tmp 30)) none⟩,
     ⟨none, none, .clr 6 [(.string ⟨#[]⟩), (.int .i64 0), (.int .i64 0), (.int .i64 0), (.bool false), (.int .i64 0)] (.tmp 31)⟩])
  (.seq (.reg [⟨(some 32), none, .mv (.tmp 0)⟩,
     ⟨(some 6), none, .mv (.tmp 32)⟩])
  (.ret)))))))
theorem ck_slices_Delete_api_Rumor_api_Rumor : chkFun Try.prog 43 3 = some (rc_slices_Delete_api_Rumor_api_Rumor, [6]) := by kernel_rfl
/-- hearsay/hearsayref.IsLabel -/
def rc_hearsayref_IsLabel : RCode :=
  .seq (.reg [⟨(some 2), none, .mv (.const (.bool false))⟩])
  (.seq (.seq (.reg [⟨(some 3), none, .mv (.const (.int .i64 0))⟩])
   (.block 0
    (.loop
     (.seq (.seq (.reg [⟨(some 5), none, .mv (.tmp 3)⟩,
         ⟨(some 6), none, .mv (.tmp 0)⟩,
         ⟨(some 7), none, .len true (.tmp 6)⟩,
         ⟨(some 8), none, .bin .lss (.tmp 5) (.tmp 7)⟩])
      (.cond (.tmp 8)
       (.skip)
       (.exit 0)))
     (.seq (.block 1
       (.seq (.reg [⟨(some 11), none, .mv (.tmp 0)⟩,
          ⟨(some 12), none, .mv (.tmp 3)⟩,
          ⟨(some 13), none, .idxS (.tmp 11) (.tmp 12)⟩,
          ⟨(some 4), none, .mv (.tmp 13)⟩])
       (.seq (.reg [⟨(some 14), none, .mv (.tmp 4)⟩,
          ⟨(some 15), none, .bin .geq (.tmp 14) (.const (.int .u8 97))⟩,
          ⟨(some 16), none, .mv (.tmp 15)⟩,
          ⟨(some 17), (some (16, true)), .mv (.tmp 4)⟩,
          ⟨(some 18), (some (16, true)), .bin .leq (.tmp 17) (.const (.int .u8 122))⟩,
          ⟨(some 19), none, .pick (.tmp 16) (.tmp 18) (.const (.bool false))⟩,
          ⟨(some 20), none, .mv (.tmp 19)⟩,
          ⟨(some 21), (some (20, false)), .mv (.tmp 4)⟩,
          ⟨(some 22), (some (20, false)), .bin .geq (.tmp 21) (.const (.int .u8 48))⟩,
          ⟨(some 23), (some (20, false)), .mv (.tmp 22)⟩,
          ⟨(some 24), (some (23, true)), .mv (.tmp 4)⟩,
          ⟨(some 25), (some (23, true)), .bin .leq (.tmp 24) (.const (.int .u8 57))⟩,
          ⟨(some 26), (some (20, false)), .pick (.tmp 23) (.tmp 25) (.const (.bool false))⟩,
          ⟨(some 27), none, .pick (.tmp 20) (.const (.bool true)) (.tmp 26)⟩,
          ⟨(some 28), none, .mv (.tmp 27)⟩,
          ⟨(some 29), (some (28, false)), .mv (.tmp 4)⟩,
          ⟨(some 30), (some (28, false)), .bin .eql (.tmp 29) (.const (.int .u8 45))⟩,
          ⟨(some 31), none, .pick (.tmp 28) (.const (.bool true)) (.tmp 30)⟩,
          ⟨(some 32), none, .mv (.tmp 31)⟩,
          ⟨(some 33), (some (32, false)), .mv (.tmp 4)⟩,
          ⟨(some 34), (some (32, false)), .bin .eql (.tmp 33) (.const (.int .u8 95))⟩,
          ⟨(some 35), none, .pick (.tmp 32) (.const (.bool true)) (.tmp 34)⟩,
          ⟨(some 36), none, .not (.tmp 35)⟩])
       (.cond (.tmp 36)
        (.seq (.reg [⟨(some 2), none, .mv (.const (.bool false))⟩])
         (.ret))
        (.skip)))))
     (.reg [⟨(some 9), none, .mv (.tmp 3)⟩,
       ⟨(some 10), none, .bin .add (.tmp 9) (.const (.int .i64 1))⟩,
       ⟨(some 3), none, .mv (.tmp 10)⟩]))))))
  (.seq (.reg [⟨(some 37), none, .mv (.tmp 0)⟩,
     ⟨(some 38), none, .len true (.tmp 37)⟩,
     ⟨(some 39), none, .bin .geq (.tmp 38) (.const (.int .i64 1))⟩,
     ⟨(some 40), none, .mv (.tmp 39)⟩,
     ⟨(some 41), (some (40, true)), .mv (.tmp 0)⟩,
     ⟨(some 42), (some (40, true)), .len true (.tmp 41)⟩,
     ⟨(some 43), (some (40, true)), .bin .leq (.tmp 42) (.const (.int .i64 30))⟩,
     ⟨(some 44), none, .pick (.tmp 40) (.tmp 43) (.const (.bool false))⟩,
     ⟨(some 2), none, .mv (.tmp 44)⟩])
  (.ret)))
theorem ck_hearsayref_IsLabel : chkFun Try.prog 44 1 = some (rc_hearsayref_IsLabel, [2]) := by kernel_rfl
/-- hearsay/hearsayref.IsAddress -/
def rc_hearsayref_IsAddress : RCode :=
  .seq (.reg [⟨(some 2), none, .mv (.const (.bool false))⟩])
  (.seq (.reg [⟨(some 3), none, .mv (.tmp 0)⟩,
     ⟨(some 4), none, .call (.func 34) [(.tmp 3), (.const (.int .i64 0)), (.const (.int .i64 4294967295))]⟩,
     ⟨(some 2), none, .mv (.tmp 4)⟩])
  (.ret))
theorem ck_hearsayref_IsAddress : chkFun Try.prog 45 1 = some (rc_hearsayref_IsAddress, [2]) := by kernel_rfl
/-- hearsay/hearsayref.NewerMember -/
def rc_hearsayref_NewerMember : RCode :=
  .seq (.reg [⟨(some 2), none, .box 38 5 (.tmp 0)⟩,
     ⟨(some 3), none, .box 38 5 (.tmp 1)⟩,
     ⟨(some 4), none, .mv (.const (.bool false))⟩])
  (.seq (.seq (.reg [⟨(some 5), none, .fldA 2 (.tmp 2)⟩,
      ⟨(some 6), none, .load false 1 (.tmp 5)⟩,
      ⟨(some 7), none, .fldA 2 (.tmp 3)⟩,
      ⟨(some 8), none, .load false 1 (.tmp 7)⟩,
      ⟨(some 9), none, .bin .neq (.tmp 6) (.tmp 8)⟩])
   (.cond (.tmp 9)
    (.seq (.reg [⟨(some 10), none, .fldA 2 (.tmp 2)⟩,
        ⟨(some 11), none, .load false 1 (.tmp 10)⟩,
        ⟨(some 12), none, .fldA 2 (.tmp 3)⟩,
        ⟨(some 13), none, .load false 1 (.tmp 12)⟩,
        ⟨(some 14), none, .bin .gtr (.tmp 11) (.tmp 13)⟩,
        ⟨(some 4), none, .mv (.tmp 14)⟩])
     (.ret))
    (.skip)))
  (.seq (.seq (.reg [⟨(some 15), none, .fldA 1 (.tmp 2)⟩,
      ⟨(some 16), none, .load false 1 (.tmp 15)⟩,
      ⟨(some 17), none, .fldA 1 (.tmp 3)⟩,
      ⟨(some 18), none, .load false 1 (.tmp 17)⟩,
      ⟨(some 19), none, .bin .neq (.tmp 16) (.tmp 18)⟩])
   (.cond (.tmp 19)
    (.seq (.reg [⟨(some 20), none, .fldA 1 (.tmp 2)⟩,
        ⟨(some 21), none, .load false 1 (.tmp 20)⟩,
        ⟨(some 22), none, .fldA 1 (.tmp 3)⟩,
        ⟨(some 23), none, .load false 1 (.tmp 22)⟩,
        ⟨(some 24), none, .bin .gtr (.tmp 21) (.tmp 23)⟩,
        ⟨(some 4), none, .mv (.tmp 24)⟩])
     (.ret))
    (.skip)))
  (.seq (.seq (.reg [⟨(some 25), none, .fldA 3 (.tmp 2)⟩,
      ⟨(some 26), none, .load false 1 (.tmp 25)⟩,
      ⟨(some 27), none, .fldA 3 (.tmp 3)⟩,
      ⟨(some 28), none, .load false 1 (.tmp 27)⟩,
      ⟨(some 29), none, .bin .neq (.tmp 26) (.tmp 28)⟩])
   (.cond (.tmp 29)
    (.seq (.reg [⟨(some 30), none, .fldA 3 (.tmp 2)⟩,
        ⟨(some 31), none, .load false 1 (.tmp 30)⟩,
        ⟨(some 32), none, .fldA 3 (.tmp 3)⟩,
        ⟨(some 33), none, .load false 1 (.tmp 32)⟩,
        ⟨(some 34), none, .bin .gtr (.tmp 31) (.tmp 33)⟩,
        ⟨(some 4), none, .mv (.tmp 34)⟩])
     (.ret))
    (.skip)))
  (.seq (.reg [⟨(some 35), none, .fldA 4 (.tmp 2)⟩,
     ⟨(some 36), none, .load false 1 (.tmp 35)⟩,
     ⟨(some 37), none, .mv (.tmp 36)⟩,
     ⟨(some 38), (some (37, true)), .fldA 4 (.tmp 3)⟩,
     ⟨(some 39), (some (37, true)), .load false 1 (.tmp 38)⟩,
     ⟨(some 40), (some (37, true)), .not (.tmp 39)⟩,
     ⟨(some 41), none, .pick (.tmp 37) (.tmp 40) (.const (.bool false))⟩,
     ⟨(some 4), none, .mv (.tmp 41)⟩])
  (.ret)))))
theorem ck_hearsayref_NewerMember : chkFun Try.prog 46 2 = some (rc_hearsayref_NewerMember, [4]) := by kernel_rfl
/-- slices.ContainsFunc(()hearsay/api.Rumor,hearsay/api.Rumor) -/
def rc_slices_ContainsFunc_api_Rumor_api_Rumor : RCode :=
  .seq (.reg [⟨(some 4), none, .mv (.const (.bool false))⟩])
  (.seq (.reg [⟨(some 5), none, .mv (.tmp 0)⟩,
     ⟨(some 6), none, .mv (.tmp 1)⟩,
     ⟨(some 7), none, .call (.func 40) [(.tmp 5), (.tmp 6)]⟩,
     ⟨(some 8), none, .bin .geq (.tmp 7) (.const (.int .i64 0))⟩,
     ⟨(some 4), none, .mv (.tmp 8)⟩])
  (.ret))
theorem ck_slices_ContainsFunc_api_Rumor_api_Rumor : chkFun Try.prog 47 2 = some (rc_slices_ContainsFunc_api_Rumor_api_Rumor, [4]) := by kernel_rfl
/-- hearsay/rumor.Check$1 -/
def rc_rumor_Check_1 : RCode :=
  .seq (.reg [⟨(some 1), none, .box 55 6 (.tmp 0)⟩,
     ⟨(some 2), none, .mv (.const (.bool false))⟩])
  (.seq (.reg [⟨(some 3), none, .fldA 5 (.tmp 1)⟩,
     ⟨(some 4), none, .load false 1 (.tmp 3)⟩,
     ⟨(some 5), none, .bin .lss (.tmp 4) (.const (.int .i64 0))⟩,
     ⟨(some 6), none, .mv (.tmp 5)⟩,
     ⟨(some 7), (some (6, false)), .fldA 5 (.tmp 1)⟩,
     ⟨(some 8), (some (6, false)), .load false 1 (.tmp 7)⟩,
     ⟨(some 9), (some (6, false)), .bin .gtr (.tmp 8) (.const (.int .i64 100))⟩,
     ⟨(some 10), none, .pick (.tmp 6) (.const (.bool true)) (.tmp 9)⟩,
     ⟨(some 2), none, .mv (.tmp 10)⟩])
  (.ret))
theorem ck_rumor_Check_1 : chkFun Try.prog 48 1 = some (rc_rumor_Check_1, [2]) := by kernel_rfl
/-- hearsay/rumor.Take$1 -/
def rc_rumor_Take_1 : RCode :=
  .seq (.reg [⟨(some 5), none, .mv (.const (.int .i64 0))⟩])
  (.seq (.dreg [[⟨(some 6), none, .load false 1 (.tmp 2)⟩,
      ⟨(some 7), none, .mv (.tmp 0)⟩,
      ⟨(some 8), none, .idxA 6 (.tmp 6) (.tmp 7)⟩,
      ⟨(some 9), none, .fldA 5 (.tmp 8)⟩,
      ⟨(some 10), none, .load false 1 (.tmp 9)⟩,
      ⟨(some 11), none, .load false 1 (.tmp 2)⟩,
      ⟨(some 12), none, .mv (.tmp 1)⟩,
      ⟨(some 13), none, .idxA 6 (.tmp 11) (.tmp 12)⟩,
      ⟨(some 14), none, .fldA 5 (.tmp 13)⟩,
      ⟨(some 15), none, .load false 1 (.tmp 14)⟩,
      ⟨(some 16), none, .call (.func 32) [(.tmp 10), (.tmp 15)]⟩,
      ⟨(some 17), none, .mv (.tmp 1)⟩,
      ⟨(some 18), none, .mv (.tmp 0)⟩],
     [⟨(some 19), none, .call (.func 32) [(.tmp 17), (.tmp 18)]⟩],
     [⟨(some 20), none, .mks 3 1 2 [(.int .i64 0)] [(0, (.tmp 16)), (1, (.tmp 19))]⟩],
     [⟨(some 21), none, .call (.func 31) [(.tmp 20)]⟩],
     [⟨(some 5), none, .mv (.tmp 21)⟩]])
  (.ret))
theorem ck_rumor_Take_1 : chkFun Try.prog 50 3 = some (rc_rumor_Take_1, [5]) := by kernel_rfl
/-- slices.DeleteFunc(()hearsay/api.Rumor,hearsay/api.Rumor) -/
def rc_slices_DeleteFunc_api_Rumor_api_Rumor : RCode :=
  .seq (.reg [⟨(some 4), none, .mv (.const (.slice none 0 0))⟩])
  (.seq (.reg [⟨(some 8), none, .mv (.tmp 0)⟩,
     ⟨(some 9), none, .mv (.tmp 1)⟩,
     ⟨(some 10), none, .call (.func 40) [(.tmp 8), (.tmp 9)]⟩,
     ⟨(some 5), none, .mv (.tmp 10)⟩])
  (.seq (.seq (.reg [⟨(some 11), none, .mv (.tmp 5)⟩,
      ⟨(some 12), none, .bin .eql (.tmp 11) (.const (.int .i64 (-1)))⟩])
   (.cond (.tmp 12)
    (.seq (.reg [⟨(some 13), none, .mv (.tmp 0)⟩,
        ⟨(some 4), none, .mv (.tmp 13)⟩])
     (.ret))
    (.skip)))
  (.seq (.seq (.reg [⟨(some 14), none, .mv (.tmp 5)⟩,
      ⟨(some 15), none, .bin .add (.tmp 14) (.const (.int .i64 1))⟩,
      ⟨(some 6), none, .mv (.tmp 15)⟩])
   (.block 0
    (.loop
     (.seq (.seq (.reg [⟨(some 16), none, .mv (.tmp 6)⟩,
         ⟨(some 17), none, .mv (.tmp 0)⟩,
         ⟨(some 18), none, .len false (.tmp 17)⟩,
         ⟨(some 19), none, .bin .lss (.tmp 16) (.tmp 18)⟩])
      (.cond (.tmp 19)
       (.skip)
       (.exit 0)))
     (.seq (.block 1
       (.seq (.reg [⟨(some 22), none, .mv (.tmp 0)⟩,
          ⟨(some 23), none, .mv (.tmp 6)⟩,
          ⟨(some 24), none, .idxA 6 (.tmp 22) (.tmp 23)⟩,
          ⟨(some 25), none, .load true 6 (.tmp 24)⟩,
          ⟨(some 7), none, .zbox 55 [(.string ⟨#[]⟩), (.int .i64 0), (.int .i64 0), (.int .i64 0), (.bool false), (.int .i64 0)]⟩,
          ⟨none, none, .store 6 (.tmp 7) (.tmp 25)⟩])
       (.seq (.reg [⟨(some 26), none, .mv (.tmp 1)⟩,
          ⟨(some 27), none, .load true 6 (.tmp 7)⟩,
          ⟨(some 28), none, .call (.tmp 26) [(.tmp 27)]⟩,
          ⟨(some 29), none, .not (.tmp 28)⟩])
       (.cond (.tmp 29)
        (.seq (.reg [⟨(some 30), none, .mv (.tmp 0)⟩,
            ⟨(some 31), none, .mv (.tmp 5)⟩,
            ⟨(some 32), none, .load true 6 (.tmp 7)⟩,
            ⟨(some 33), none, .idxA 6 (.tmp 30) (.tmp 31)⟩,
            ⟨none, none, .store 6 (.tmp 33) (.tmp 32)⟩])
         (.reg [⟨(some 34), none, .mv (.tmp 5)⟩,
           ⟨(some 35), none, .bin .add (.tmp 34) (.const (.int .i64 1))⟩,
           ⟨(some 5), none, .mv (.tmp 35)⟩]))
        (.skip)))))
     (.reg [⟨(some 20), none, .mv (.tmp 6)⟩,
       ⟨(some 21), none, .bin .add (.tmp 20) (.const (.int .i64 1))⟩,
       ⟨(some 6), none, .mv (.tmp 21)⟩]))))))
  (.seq (.reg [⟨(some 36), none, .mv (.tmp 0)⟩,
     ⟨(some 37), none, .mv (.tmp 5)⟩,
     ⟨(some 38), none, .slcL 6 (.tmp 36) (some (.tmp 37)) none none⟩,
     ⟨none, none, .clr 6 [(.string ⟨#[]⟩), (.int .i64 0), (.int .i64 0), (.int .i64 0), (.bool false), (.int .i64 0)] (.tmp 38)⟩])
  (.seq (.reg [⟨(some 39), none, .mv (.tmp 0)⟩,
     ⟨(some 40), none, .mv (.tmp 5)⟩,
     ⟨(some 41), none, .slcL 6 (.tmp 39) none (some (.tmp 40)) none⟩,
     ⟨(some 4), none, .mv (.tmp 41)⟩])
  (.ret))))))
theorem ck_slices_DeleteFunc_api_Rumor_api_Rumor : chkFun Try.prog 51 2 = some (rc_slices_DeleteFunc_api_Rumor_api_Rumor, [4]) := by kernel_rfl
/-- hearsay/rumor.Take$2 -/
def rc_rumor_Take_2 : RCode :=
  .seq (.reg [⟨(some 2), none, .box 55 6 (.tmp 0)⟩,
     ⟨(some 3), none, .mv (.const (.bool false))⟩])
  (.seq (.reg [⟨(some 4), none, .fldA 5 (.tmp 2)⟩,
     ⟨(some 5), none, .load false 1 (.tmp 4)⟩,
     ⟨(some 6), none, .load false 1 (.tmp 1)⟩,
     ⟨(some 7), none, .bin .geq (.tmp 5) (.tmp 6)⟩,
     ⟨(some 3), none, .mv (.tmp 7)⟩])
  (.ret))
theorem ck_rumor_Take_2 : chkFun Try.prog 52 2 = some (rc_rumor_Take_2, [3]) := by kernel_rfl
/-- hearsay/place.Check$1 -/
def rc_place_Check_1 : RCode :=
  .seq (.reg [⟨(some 2), none, .mv (.const (.bool false))⟩])
  (.seq (.reg [⟨(some 3), none, .mv (.tmp 0)⟩,
     ⟨(some 4), none, .call (.func 54) [(.tmp 3), (.const (.int .i64 (-10000000))), (.const (.int .i64 10000000))]⟩,
     ⟨(some 2), none, .mv (.tmp 4)⟩])
  (.ret))
theorem ck_place_Check_1 : chkFun Try.prog 53 1 = some (rc_place_Check_1, [2]) := by kernel_rfl
/-- hearsay/place.within -/
def rc_place_within : RCode :=
  .seq (.reg [⟨(some 6), none, .mv (.const (.bool false))⟩])
  (.seq (.reg [⟨(some 7), none, .mv (.tmp 0)⟩,
     ⟨(some 8), none, .mv (.tmp 1)⟩,
     ⟨(some 9), none, .bin .geq (.tmp 7) (.tmp 8)⟩,
     ⟨(some 10), none, .mv (.tmp 9)⟩,
     ⟨(some 11), (some (10, true)), .mv (.tmp 0)⟩,
     ⟨(some 12), (some (10, true)), .mv (.tmp 2)⟩,
     ⟨(some 13), (some (10, true)), .bin .leq (.tmp 11) (.tmp 12)⟩,
     ⟨(some 14), none, .pick (.tmp 10) (.tmp 13) (.const (.bool false))⟩,
     ⟨(some 6), none, .mv (.tmp 14)⟩])
  (.ret))
theorem ck_place_within : chkFun Try.prog 54 3 = some (rc_place_within, [6]) := by kernel_rfl
/-- hearsay/place.apart -/
def rc_place_apart : RCode :=
  .seq (.reg [⟨(some 2), none, .box 23 5 (.tmp 0)⟩,
     ⟨(some 3), none, .box 23 5 (.tmp 1)⟩,
     ⟨(some 4), none, .mv (.const (.int .i64 0))⟩])
  (.seq (.dreg [[⟨(some 8), none, .fldA 0 (.tmp 2)⟩,
      ⟨(some 9), none, .load false 1 (.tmp 8)⟩,
      ⟨(some 10), none, .fldA 0 (.tmp 3)⟩,
      ⟨(some 11), none, .load false 1 (.tmp 10)⟩,
      ⟨(some 12), none, .bin .sub (.tmp 9) (.tmp 11)⟩,
      ⟨(some 13), none, .fldA 1 (.tmp 2)⟩,
      ⟨(some 14), none, .load false 1 (.tmp 13)⟩,
      ⟨(some 15), none, .fldA 1 (.tmp 3)⟩,
      ⟨(some 16), none, .load false 1 (.tmp 15)⟩,
      ⟨(some 17), none, .bin .sub (.tmp 14) (.tmp 16)⟩,
      ⟨(some 18), none, .fldA 2 (.tmp 2)⟩,
      ⟨(some 19), none, .load false 1 (.tmp 18)⟩,
      ⟨(some 20), none, .fldA 2 (.tmp 3)⟩,
      ⟨(some 21), none, .load false 1 (.tmp 20)⟩,
      ⟨(some 22), none, .bin .sub (.tmp 19) (.tmp 21)⟩,
      ⟨(some 5), none, .mv (.tmp 12)⟩,
      ⟨(some 6), none, .mv (.tmp 17)⟩],
     [⟨(some 7), none, .mv (.tmp 22)⟩]])
  (.seq (.reg [⟨(some 23), none, .mv (.tmp 5)⟩,
     ⟨(some 24), none, .mv (.tmp 5)⟩,
     ⟨(some 25), none, .bin .mul (.tmp 23) (.tmp 24)⟩,
     ⟨(some 26), none, .mv (.tmp 6)⟩,
     ⟨(some 27), none, .mv (.tmp 6)⟩,
     ⟨(some 28), none, .bin .mul (.tmp 26) (.tmp 27)⟩,
     ⟨(some 29), none, .bin .add (.tmp 25) (.tmp 28)⟩,
     ⟨(some 30), none, .mv (.tmp 7)⟩,
     ⟨(some 31), none, .mv (.tmp 7)⟩,
     ⟨(some 32), none, .bin .mul (.tmp 30) (.tmp 31)⟩,
     ⟨(some 33), none, .bin .add (.tmp 29) (.tmp 32)⟩,
     ⟨(some 34), none, .call (.func 61) [(.tmp 33)]⟩,
     ⟨(some 4), none, .mv (.tmp 34)⟩])
  (.ret)))
theorem ck_place_apart : chkFun Try.prog 55 2 = some (rc_place_apart, [4]) := by kernel_rfl
/-- cmp.isNaN(int) -/
def rc_cmp_isNaN_int : RCode :=
  .seq (.reg [⟨(some 2), none, .mv (.const (.bool false))⟩])
  (.seq (.reg [⟨(some 3), none, .mv (.tmp 0)⟩,
     ⟨(some 4), none, .mv (.tmp 0)⟩,
     ⟨(some 5), none, .bin .neq (.tmp 3) (.tmp 4)⟩,
     ⟨(some 2), none, .mv (.tmp 5)⟩])
  (.ret))
theorem ck_cmp_isNaN_int : chkFun Try.prog 58 1 = some (rc_cmp_isNaN_int, [2]) := by kernel_rfl
/-- cmp.isNaN(string) -/
def rc_cmp_isNaN_string : RCode :=
  .seq (.reg [⟨(some 2), none, .mv (.const (.bool false))⟩])
  (.seq (.reg [⟨(some 3), none, .mv (.tmp 0)⟩,
     ⟨(some 4), none, .mv (.tmp 0)⟩,
     ⟨(some 5), none, .bin .neq (.tmp 3) (.tmp 4)⟩,
     ⟨(some 2), none, .mv (.tmp 5)⟩])
  (.ret))
theorem ck_cmp_isNaN_string : chkFun Try.prog 59 1 = some (rc_cmp_isNaN_string, [2]) := by kernel_rfl
/-- hearsay/hearsayref.FarOf -/
def rc_hearsayref_FarOf : RCode :=
  .seq (.reg [⟨(some 2), none, .box 23 5 (.tmp 0)⟩,
     ⟨(some 3), none, .box 23 5 (.tmp 1)⟩,
     ⟨(some 4), none, .mv (.const (.int .i64 0))⟩])
  (.seq (.dreg [[⟨(some 5), none, .load true 5 (.tmp 2)⟩,
      ⟨(some 6), none, .load true 5 (.tmp 3)⟩,
      ⟨(some 7), none, .call (.func 76) [(.tmp 5), (.tmp 6)]⟩,
      ⟨(some 8), none, .fldA 3 (.tmp 2)⟩,
      ⟨(some 9), none, .load false 1 (.tmp 8)⟩,
      ⟨(some 10), none, .bin .add (.tmp 7) (.tmp 9)⟩,
      ⟨(some 11), none, .fldA 3 (.tmp 3)⟩,
      ⟨(some 12), none, .load false 1 (.tmp 11)⟩],
     [⟨(some 13), none, .bin .add (.tmp 10) (.tmp 12)⟩],
     [⟨(some 4), none, .mv (.tmp 13)⟩]])
  (.ret))
theorem ck_hearsayref_FarOf : chkFun Try.prog 60 2 = some (rc_hearsayref_FarOf, [4]) := by kernel_rfl
/-- hearsay/place.root -/
def rc_place_root : RCode :=
  .seq (.reg [⟨(some 2), none, .mv (.const (.int .i64 0))⟩])
  (.seq (.seq (.reg [⟨(some 5), none, .mv (.tmp 0)⟩,
      ⟨(some 6), none, .bin .lss (.tmp 5) (.const (.int .i64 2))⟩])
   (.cond (.tmp 6)
    (.seq (.reg [⟨(some 7), none, .mv (.tmp 0)⟩,
        ⟨(some 2), none, .mv (.tmp 7)⟩])
     (.ret))
    (.skip)))
  (.seq (.reg [⟨(some 3), none, .mv (.const (.int .i64 1))⟩])
  (.seq (.block 0
    (.loop
     (.seq (.seq (.reg [⟨(some 8), none, .mv (.tmp 3)⟩,
         ⟨(some 9), none, .mv (.tmp 0)⟩,
         ⟨(some 10), none, .mv (.tmp 3)⟩,
         ⟨(some 11), none, .bin .quo (.tmp 9) (.tmp 10)⟩,
         ⟨(some 12), none, .bin .leq (.tmp 8) (.tmp 11)⟩])
      (.cond (.tmp 12)
       (.skip)
       (.exit 0)))
     (.block 1
      (.reg [⟨(some 13), none, .mv (.tmp 3)⟩,
        ⟨(some 14), none, .bin .mul (.tmp 13) (.const (.int .i64 2))⟩,
        ⟨(some 3), none, .mv (.tmp 14)⟩])))))
  (.block 2
   (.loop
    (.block 3
     (.seq (.reg [⟨(some 15), none, .mv (.tmp 3)⟩,
        ⟨(some 16), none, .mv (.tmp 0)⟩,
        ⟨(some 17), none, .mv (.tmp 3)⟩,
        ⟨(some 18), none, .bin .quo (.tmp 16) (.tmp 17)⟩,
        ⟨(some 19), none, .bin .add (.tmp 15) (.tmp 18)⟩,
        ⟨(some 20), none, .bin .quo (.tmp 19) (.const (.int .i64 2))⟩,
        ⟨(some 4), none, .mv (.tmp 20)⟩])
     (.seq (.seq (.reg [⟨(some 21), none, .mv (.tmp 4)⟩,
         ⟨(some 22), none, .mv (.tmp 3)⟩,
         ⟨(some 23), none, .bin .geq (.tmp 21) (.tmp 22)⟩])
      (.cond (.tmp 23)
       (.seq (.reg [⟨(some 24), none, .mv (.tmp 3)⟩,
           ⟨(some 2), none, .mv (.tmp 24)⟩])
        (.ret))
       (.skip)))
     (.reg [⟨(some 25), none, .mv (.tmp 4)⟩,
       ⟨(some 3), none, .mv (.tmp 25)⟩])))))))))
theorem ck_place_root : chkFun Try.prog 61 1 = some (rc_place_root, [2]) := by kernel_rfl
/-- hearsay/place.check -/
def rc_place_check : RCode :=
  .seq (.reg [⟨(some 2), none, .mv (.const (.int .i64 0))⟩])
  (.seq (.seq (.reg [⟨(some 6), none, .mv (.tmp 0)⟩,
      ⟨(some 7), none, .len false (.tmp 6)⟩,
      ⟨(some 8), none, .mv (.const (.int .i64 0))⟩])
   (.block 0
    (.loop
     (.seq (.reg [⟨(some 9), none, .bin .lss (.tmp 8) (.tmp 7)⟩])
     (.seq (.cond (.tmp 9)
       (.skip)
       (.exit 0))
     (.seq (.block 1
       (.seq (.reg [⟨(some 10), none, .idxA 5 (.tmp 6) (.tmp 8)⟩,
          ⟨(some 11), none, .load true 5 (.tmp 10)⟩,
          ⟨(some 4), none, .zbox 23 [(.int .i64 0), (.int .i64 0), (.int .i64 0), (.int .i64 0), (.int .i64 0)]⟩,
          ⟨none, none, .store 5 (.tmp 4) (.tmp 11)⟩])
       (.seq (.reg [⟨(some 12), none, .load true 5 (.tmp 4)⟩,
          ⟨(some 13), none, .call (.func 26) [(.tmp 12)]⟩,
          ⟨(some 5), none, .mv (.tmp 13)⟩])
       (.seq (.reg [⟨(some 14), none, .mv (.tmp 5)⟩,
          ⟨(some 15), none, .bin .neq (.tmp 14) (.const (.int .i64 0))⟩])
       (.cond (.tmp 15)
        (.seq (.reg [⟨(some 16), none, .mv (.tmp 5)⟩,
            ⟨(some 2), none, .mv (.tmp 16)⟩])
         (.ret))
        (.skip))))))
     (.reg [⟨(some 17), none, .bin .add (.tmp 8) (.const (.int .i64 1))⟩,
       ⟨(some 8), none, .mv (.tmp 17)⟩])))))))
  (.seq (.reg [⟨(some 2), none, .mv (.const (.int .i64 0))⟩])
  (.ret)))
theorem ck_place_check : chkFun Try.prog 62 1 = some (rc_place_check, [2]) := by kernel_rfl
/-- hearsay/member.one -/
def rc_member_one : RCode :=
  .seq (.reg [⟨(some 1), none, .box 38 5 (.tmp 0)⟩,
     ⟨(some 2), none, .mv (.const (.int .i64 0))⟩])
  (.seq (.block 0
    (.seq (.reg [⟨(some 4), none, .fldA 0 (.tmp 1)⟩,
       ⟨(some 5), none, .load false 1 (.tmp 4)⟩,
       ⟨(some 6), none, .call (.func 77) [(.tmp 5)]⟩,
       ⟨(some 7), none, .not (.tmp 6)⟩,
       ⟨(some 3), none, .mv (.tmp 7)⟩])
    (.cond (.tmp 3)
     (.seq (.reg [⟨(some 2), none, .mv (.const (.int .i64 1))⟩])
      (.ret))
     (.seq (.reg [⟨(some 9), none, .fldA 1 (.tmp 1)⟩,
         ⟨(some 10), none, .load false 1 (.tmp 9)⟩,
         ⟨(some 11), none, .call (.func 78) [(.tmp 10), (.const (.int .i64 1)), (.const (.int .i64 4))]⟩,
         ⟨(some 12), none, .not (.tmp 11)⟩,
         ⟨(some 8), none, .mv (.tmp 12)⟩])
      (.cond (.tmp 8)
       (.seq (.reg [⟨(some 2), none, .mv (.const (.int .i64 7))⟩])
        (.ret))
       (.seq (.reg [⟨(some 14), none, .fldA 2 (.tmp 1)⟩,
           ⟨(some 15), none, .load false 1 (.tmp 14)⟩,
           ⟨(some 16), none, .call (.func 78) [(.tmp 15), (.const (.int .i64 1)), (.const (.int .i64 1000000))]⟩,
           ⟨(some 17), none, .not (.tmp 16)⟩,
           ⟨(some 18), none, .mv (.tmp 17)⟩,
           ⟨(some 19), (some (18, false)), .fldA 3 (.tmp 1)⟩,
           ⟨(some 20), (some (18, false)), .load false 1 (.tmp 19)⟩,
           ⟨(some 21), (some (18, false)), .call (.func 78) [(.tmp 20), (.const (.int .i64 0)), (.const (.int .i64 4294967295))]⟩,
           ⟨(some 22), (some (18, false)), .not (.tmp 21)⟩,
           ⟨(some 23), none, .pick (.tmp 18) (.const (.bool true)) (.tmp 22)⟩,
           ⟨(some 13), none, .mv (.tmp 23)⟩])
        (.cond (.tmp 13)
         (.seq (.reg [⟨(some 2), none, .mv (.const (.int .i64 3))⟩])
          (.ret))
         (.skip))))))))
  (.seq (.reg [⟨(some 2), none, .mv (.const (.int .i64 0))⟩])
  (.ret)))
theorem ck_member_one : chkFun Try.prog 63 1 = some (rc_member_one, [2]) := by kernel_rfl
/-- hearsay/member.number -/
def rc_member_number : RCode :=
  .seq (.reg [⟨(some 2), none, .mv (.const (.int .i64 0))⟩])
  (.seq (.seq (.reg [⟨(some 3), none, .mv (.tmp 0)⟩])
   (.cond (.tmp 3)
    (.seq (.reg [⟨(some 2), none, .mv (.const (.int .i64 1))⟩])
     (.ret))
    (.skip)))
  (.seq (.reg [⟨(some 2), none, .mv (.const (.int .i64 0))⟩])
  (.ret)))
theorem ck_member_number : chkFun Try.prog 64 1 = some (rc_member_number, [2]) := by kernel_rfl
/-- hearsay/hearsayref.FlatFar -/
def rc_hearsayref_FlatFar : RCode :=
  .seq (.reg [⟨(some 2), none, .box 23 5 (.tmp 0)⟩,
     ⟨(some 3), none, .box 23 5 (.tmp 1)⟩,
     ⟨(some 4), none, .mv (.const (.int .i64 0))⟩])
  (.seq (.reg [⟨(some 5), none, .fldA 0 (.tmp 2)⟩,
     ⟨(some 6), none, .load false 1 (.tmp 5)⟩,
     ⟨(some 7), none, .fldA 0 (.tmp 3)⟩,
     ⟨(some 8), none, .load false 1 (.tmp 7)⟩,
     ⟨(some 9), none, .bin .sub (.tmp 6) (.tmp 8)⟩,
     ⟨(some 10), none, .fldA 0 (.tmp 2)⟩,
     ⟨(some 11), none, .load false 1 (.tmp 10)⟩,
     ⟨(some 12), none, .fldA 0 (.tmp 3)⟩,
     ⟨(some 13), none, .load false 1 (.tmp 12)⟩,
     ⟨(some 14), none, .bin .sub (.tmp 11) (.tmp 13)⟩,
     ⟨(some 15), none, .bin .mul (.tmp 9) (.tmp 14)⟩,
     ⟨(some 16), none, .fldA 1 (.tmp 2)⟩,
     ⟨(some 17), none, .load false 1 (.tmp 16)⟩,
     ⟨(some 18), none, .fldA 1 (.tmp 3)⟩,
     ⟨(some 19), none, .load false 1 (.tmp 18)⟩,
     ⟨(some 20), none, .bin .sub (.tmp 17) (.tmp 19)⟩,
     ⟨(some 21), none, .fldA 1 (.tmp 2)⟩,
     ⟨(some 22), none, .load false 1 (.tmp 21)⟩,
     ⟨(some 23), none, .fldA 1 (.tmp 3)⟩,
     ⟨(some 24), none, .load false 1 (.tmp 23)⟩,
     ⟨(some 25), none, .bin .sub (.tmp 22) (.tmp 24)⟩,
     ⟨(some 26), none, .bin .mul (.tmp 20) (.tmp 25)⟩,
     ⟨(some 27), none, .bin .add (.tmp 15) (.tmp 26)⟩,
     ⟨(some 28), none, .fldA 2 (.tmp 2)⟩,
     ⟨(some 29), none, .load false 1 (.tmp 28)⟩,
     ⟨(some 30), none, .fldA 2 (.tmp 3)⟩,
     ⟨(some 31), none, .load false 1 (.tmp 30)⟩,
     ⟨(some 32), none, .bin .sub (.tmp 29) (.tmp 31)⟩,
     ⟨(some 33), none, .fldA 2 (.tmp 2)⟩,
     ⟨(some 34), none, .load false 1 (.tmp 33)⟩,
     ⟨(some 35), none, .fldA 2 (.tmp 3)⟩,
     ⟨(some 36), none, .load false 1 (.tmp 35)⟩,
     ⟨(some 37), none, .bin .sub (.tmp 34) (.tmp 36)⟩,
     ⟨(some 38), none, .bin .mul (.tmp 32) (.tmp 37)⟩,
     ⟨(some 39), none, .bin .add (.tmp 27) (.tmp 38)⟩,
     ⟨(some 40), none, .call (.func 92) [(.tmp 39)]⟩,
     ⟨(some 4), none, .mv (.tmp 40)⟩])
  (.ret))
theorem ck_hearsayref_FlatFar : chkFun Try.prog 76 2 = some (rc_hearsayref_FlatFar, [4]) := by kernel_rfl
/-- hearsay/dns.IsLabel -/
def rc_dns_IsLabel : RCode :=
  .seq (.reg [⟨(some 2), none, .mv (.const (.bool false))⟩])
  (.seq (.seq (.reg [⟨(some 5), none, .mv (.tmp 0)⟩,
      ⟨(some 6), none, .toB (.tmp 5)⟩,
      ⟨(some 7), none, .len false (.tmp 6)⟩,
      ⟨(some 8), none, .mv (.const (.int .i64 0))⟩])
   (.block 0
    (.loop
     (.seq (.reg [⟨(some 9), none, .bin .lss (.tmp 8) (.tmp 7)⟩])
     (.seq (.cond (.tmp 9)
       (.skip)
       (.exit 0))
     (.seq (.block 1
       (.seq (.reg [⟨(some 10), none, .idxA 1 (.tmp 6) (.tmp 8)⟩,
          ⟨(some 11), none, .load false 1 (.tmp 10)⟩,
          ⟨(some 4), none, .mv (.tmp 11)⟩])
       (.seq (.reg [⟨(some 12), none, .mv (.tmp 4)⟩,
          ⟨(some 13), none, .bin .lss (.tmp 12) (.const (.int .u8 97))⟩,
          ⟨(some 14), none, .mv (.tmp 13)⟩,
          ⟨(some 15), (some (14, false)), .mv (.tmp 4)⟩,
          ⟨(some 16), (some (14, false)), .bin .gtr (.tmp 15) (.const (.int .u8 122))⟩,
          ⟨(some 17), none, .pick (.tmp 14) (.const (.bool true)) (.tmp 16)⟩,
          ⟨(some 18), none, .mv (.tmp 17)⟩,
          ⟨(some 19), (some (18, true)), .mv (.tmp 4)⟩,
          ⟨(some 20), (some (18, true)), .bin .lss (.tmp 19) (.const (.int .u8 48))⟩,
          ⟨(some 21), (some (18, true)), .mv (.tmp 20)⟩,
          ⟨(some 22), (some (21, false)), .mv (.tmp 4)⟩,
          ⟨(some 23), (some (21, false)), .bin .gtr (.tmp 22) (.const (.int .u8 57))⟩,
          ⟨(some 24), (some (18, true)), .pick (.tmp 21) (.const (.bool true)) (.tmp 23)⟩,
          ⟨(some 25), none, .pick (.tmp 18) (.tmp 24) (.const (.bool false))⟩,
          ⟨(some 26), none, .mv (.tmp 25)⟩,
          ⟨(some 27), (some (26, true)), .mv (.tmp 4)⟩,
          ⟨(some 28), (some (26, true)), .bin .neq (.tmp 27) (.const (.int .u8 45))⟩,
          ⟨(some 29), none, .pick (.tmp 26) (.tmp 28) (.const (.bool false))⟩,
          ⟨(some 30), none, .mv (.tmp 29)⟩,
          ⟨(some 31), (some (30, true)), .mv (.tmp 4)⟩,
          ⟨(some 32), (some (30, true)), .bin .neq (.tmp 31) (.const (.int .u8 95))⟩,
          ⟨(some 33), none, .pick (.tmp 30) (.tmp 32) (.const (.bool false))⟩])
       (.cond (.tmp 33)
        (.seq (.reg [⟨(some 2), none, .mv (.const (.bool false))⟩])
         (.ret))
        (.skip)))))
     (.reg [⟨(some 34), none, .bin .add (.tmp 8) (.const (.int .i64 1))⟩,
       ⟨(some 8), none, .mv (.tmp 34)⟩])))))))
  (.seq (.reg [⟨(some 35), none, .mv (.tmp 0)⟩,
     ⟨(some 36), none, .bin .neq (.tmp 35) (.const (.string ⟨#[]⟩))⟩,
     ⟨(some 37), none, .mv (.tmp 36)⟩,
     ⟨(some 38), (some (37, true)), .mv (.tmp 0)⟩,
     ⟨(some 39), (some (37, true)), .len true (.tmp 38)⟩,
     ⟨(some 40), (some (37, true)), .bin .leq (.tmp 39) (.const (.int .i64 30))⟩,
     ⟨(some 41), none, .pick (.tmp 37) (.tmp 40) (.const (.bool false))⟩,
     ⟨(some 2), none, .mv (.tmp 41)⟩])
  (.ret)))
theorem ck_dns_IsLabel : chkFun Try.prog 77 1 = some (rc_dns_IsLabel, [2]) := by kernel_rfl
/-- hearsay/member.within -/
def rc_member_within : RCode :=
  .seq (.reg [⟨(some 6), none, .mv (.const (.bool false))⟩])
  (.seq (.reg [⟨(some 7), none, .mv (.tmp 0)⟩,
     ⟨(some 8), none, .mv (.tmp 1)⟩,
     ⟨(some 9), none, .bin .geq (.tmp 7) (.tmp 8)⟩,
     ⟨(some 10), none, .mv (.tmp 9)⟩,
     ⟨(some 11), (some (10, true)), .mv (.tmp 0)⟩,
     ⟨(some 12), (some (10, true)), .mv (.tmp 2)⟩,
     ⟨(some 13), (some (10, true)), .bin .leq (.tmp 11) (.tmp 12)⟩,
     ⟨(some 14), none, .pick (.tmp 10) (.tmp 13) (.const (.bool false))⟩,
     ⟨(some 6), none, .mv (.tmp 14)⟩])
  (.ret))
theorem ck_member_within : chkFun Try.prog 78 3 = some (rc_member_within, [6]) := by kernel_rfl
/-- hearsay/hearsayref.RootOf -/
def rc_hearsayref_RootOf : RCode :=
  .seq (.reg [⟨(some 2), none, .mv (.const (.int .i64 0))⟩])
  (.seq (.reg [⟨(some 3), none, .mv (.const (.int .i64 0))⟩,
     ⟨(some 4), none, .mv (.const (.int .i64 2147483648))⟩])
  (.seq (.block 0
    (.loop
     (.seq (.seq (.reg [⟨(some 5), none, .mv (.tmp 4)⟩,
         ⟨(some 6), none, .bin .gtr (.tmp 5) (.const (.int .i64 0))⟩])
      (.cond (.tmp 6)
       (.skip)
       (.exit 0)))
     (.block 1
      (.seq (.seq (.reg [⟨(some 7), none, .mv (.tmp 3)⟩,
          ⟨(some 8), none, .mv (.tmp 4)⟩,
          ⟨(some 9), none, .bin .add (.tmp 7) (.tmp 8)⟩,
          ⟨(some 10), none, .bin .leq (.tmp 9) (.const (.int .i64 3037000499))⟩,
          ⟨(some 11), none, .mv (.tmp 10)⟩,
          ⟨(some 12), (some (11, true)), .mv (.tmp 3)⟩,
          ⟨(some 13), (some (11, true)), .mv (.tmp 4)⟩,
          ⟨(some 14), (some (11, true)), .bin .add (.tmp 12) (.tmp 13)⟩,
          ⟨(some 15), (some (11, true)), .mv (.tmp 3)⟩,
          ⟨(some 16), (some (11, true)), .mv (.tmp 4)⟩,
          ⟨(some 17), (some (11, true)), .bin .add (.tmp 15) (.tmp 16)⟩,
          ⟨(some 18), (some (11, true)), .bin .mul (.tmp 14) (.tmp 17)⟩,
          ⟨(some 19), (some (11, true)), .mv (.tmp 0)⟩,
          ⟨(some 20), (some (11, true)), .bin .leq (.tmp 18) (.tmp 19)⟩,
          ⟨(some 21), none, .pick (.tmp 11) (.tmp 20) (.const (.bool false))⟩])
       (.cond (.tmp 21)
        (.reg [⟨(some 22), none, .mv (.tmp 3)⟩,
           ⟨(some 23), none, .mv (.tmp 4)⟩,
           ⟨(some 24), none, .bin .add (.tmp 22) (.tmp 23)⟩,
           ⟨(some 3), none, .mv (.tmp 24)⟩])
        (.skip)))
      (.reg [⟨(some 25), none, .mv (.tmp 4)⟩,
        ⟨(some 26), none, .bin .quo (.tmp 25) (.const (.int .i64 2))⟩,
        ⟨(some 4), none, .mv (.tmp 26)⟩]))))))
  (.seq (.reg [⟨(some 27), none, .mv (.tmp 3)⟩,
     ⟨(some 2), none, .mv (.tmp 27)⟩])
  (.ret))))
theorem ck_hearsayref_RootOf : chkFun Try.prog 92 1 = some (rc_hearsayref_RootOf, [2]) := by kernel_rfl

end Go.Proofs.Ytjhdlcmecbngkaa
/- The frame that every law of mine shares: the call returned true and below the heap's old size nothing has turned; so the row's post holds, whatever the arguments are. -/
namespace Go.Proofs.Ytjhdlcmecbngkaa
open Go.ChangeShapes Go.WideShapes Go.ChangeAt Go.RowKit
set_option linter.unusedVariables false
section
variable {H : Type} {enc : TypeId × Value → H} {P : Program}

theorem trodAll_stays (hl : laidOutB P = true) {W W' : World} {B : Nat} (hb : Below B W W') (sp : Nat → Bool) :
    ∀ {ts : List TypeId} {vs : List Value} {ds : List (DataW H)} {p : List MemPlace}, (∀ t ∈ ts, P.readableRec t = true ∧ t < P.types.size) →
      DataW.TrodAll enc P W 0 (fun _ => true) true ts vs ds p → (∀ x ∈ p, sp x.block = true) → (∀ x ∈ p, x.block < B) → B = W.heap.size → DataW.TrodAll enc P W' 0 sp true ts vs ds p
  | [], _, _, _, _, h, _, _, _ => by
    obtain ⟨rfl, rfl, rfl⟩ := trodAll_nil h
    exact trodAll_mk0
  | t :: ts, _, _, _, ht, h, hs, hlt, hB => by
    obtain ⟨v, vs1, d, ds1, a, b, rfl, rfl, rfl, h1, h2⟩ := trodAll_cons h
    obtain ⟨hr, hrow⟩ := ht t (by simp)
    subst hB
    refine ⟨a, b, WideElems.Trod_stays hl hr hrow h1 (fun x hx => hb.same (hlt x (by simp [hx]))) (fun x hx => hs x (by simp [hx])), ?_, rfl⟩
    exact trodAll_stays hl hb sp (fun t h => ht t (by simp [h])) h2 (fun x hx => hs x (by simp [hx])) (fun x hx => hlt x (by simp [hx])) rfl

theorem law_post {f : Func} {s : ChangeSpec} {apart fresh handsOn again : Bool} {W W' : World} {args : Array Value} {ds gs : List (DataW H)} {before : List MemPlace} {tb : TypeId}
    (hW : DataW.Whole enc P f.params.toList s.vars apart W args.toList ds gs before) (hl : laidOutB P = true) (hr : ∀ t ∈ f.params.toList, P.readableRec t = true ∧ t < P.types.size)
    (hv : s.vars = []) (hf : s.fn H (ds ++ gs) = { results := [.lit (.bool true)], args := ds }) (hres : f.resultTypes = #[tb]) (hbool : P.underlying tb = some .bool)
    (hb : Below W.heap.size W W') : s.post enc P f apart fresh handsOn again W args (.bool true) W' := by
  have hW0 := hW
  have hlt : ∀ p ∈ before, p.block < W.heap.size := fun p hp => hW.lt p hp
  obtain ⟨p, q, hA, hV, rfl, hz, hn⟩ := hW
  rw [hv] at hV
  obtain ⟨rfl, rfl⟩ := trodVars_none hV
  simp only [List.append_nil] at *
  have hst : ∀ sp : Nat → Bool, (∀ x ∈ p, sp x.block = true) → DataW.TrodAll enc P W' 0 sp true f.params.toList args.toList ds p := fun sp hs => trodAll_stays hl hb sp hr hA hs hlt rfl
  have hold : ∀ x ∈ p, (fun b => decide (b < W.heap.size)) x.block = true := fun x hx => by simpa using hlt x hx
  have hR : ∀ (b : Nat) (sp : Nat → Bool) (hd : Bool), DataW.TrodAll enc P W' b sp hd f.resultTypes.toList ((Value.bool true).resultList f.resultTypes.size) [.lit (.bool true)] [] := fun b sp hd => by
    rw [hres]
    exact trodAll_cons_mk (shut_bool hbool _) trodAll_mk0
  refine ⟨ds, [], p, [], p, [], hW0, ?_, ?_, ?_, ?_, fun _ => ?_⟩
  · rw [List.append_nil, hf]; exact hR _ _ _
  · rw [List.append_nil, hf]; exact hst _ hold
  · rw [List.append_nil, hv, hf]; rfl
  · exact World.keptBut_mono (fun x hx => ⟨hx, by simp [hx]⟩) (hb.frame (· ∈ p))
  · obtain ⟨_, _, _, _, _, hz', hn'⟩ := hW0
    refine ⟨ok_one hres rfl (okWide_bool_mk hbool _), _, [], ([] ++ p) ++ [], ⟨[] ++ p, [], trodAll_append (hst _ (fun _ _ => rfl)) (hR _ _ _), ?_, rfl, ?_, ?_⟩, ?_⟩
    · rw [hv]; rfl
    · intro b off hp
      rw [hb.frozen (hlt _ (by simpa using hp))]
      exact hz b off (by simpa using hp)
    · intro ha
      simpa using hn ha
    · intro x hx _
      simpa using hx
end
end Go.Proofs.Ytjhdlcmecbngkaa
/- Arguments of any type made of numbers, texts, yes or no, structs and slices: what is known of them. -/
namespace Go.Proofs.Ytjhdlcmecbngkaa
open Go.Joins Go.ChangeShapes Go.WideShapes Go.RowKit Go.Deep
set_option linter.unusedVariables false
inductive Ty where
  | i
  | s
  | b
  | l (row : List Ty)
inductive FitV : Ty → V → Prop where
  | i (n : Int) (h1 : -9223372036854775808 ≤ n) (h2 : n ≤ 9223372036854775807) : FitV .i (.v (.int .i64 n))
  | s (x : ByteArray) (h : x.size ≤ 9223372036854775807) : FitV .s (.v (.string x))
  | b (x : Bool) : FitV .b (.v (.bool x))
  | l (tys : List Ty) (rows : List (List V)) (hl : rows.length ≤ 9223372036854775807) (hr : ∀ row ∈ rows, tys.length = row.length) (h : ∀ row ∈ rows, ∀ (j : Nat) (t : Ty) (u : V), tys[j]? = some t → row[j]? = some u → FitV t u) : FitV (.l tys) (.sl false rows)
def Fits (tys : List Ty) (us : List V) : Prop := tys.length = us.length ∧ ∀ (j : Nat) (t : Ty) (u : V), tys[j]? = some t → us[j]? = some u → FitV t u
def tyFs (P : Program) (rc : TypeId → Option (List Ty)) : List Field → Nat → Option (List Ty)
  | [], _ => some []
  | f :: fs, off => match rc f.type with
    | some ts => if f.offset == off && P.cellsOf f.type == ts.length then (match tyFs P rc fs (off + ts.length) with
      | some r => some (ts ++ r)
      | none => none) else none
    | none => none
def tyOf (P : Program) : Nat → TypeId → Option (List Ty)
  | 0, _ => none
  | d + 1, t => match P.underlying t with
    | some (.int .i64) => some [.i]
    | some .string => some [.s]
    | some .bool => some [.b]
    | some (.struct fs) => match tyFs P (tyOf P d) fs.toList 0 with
      | some ts => if P.cellsOf t == ts.length then some ts else none
      | none => none
    | some (.slice e) => match tyOf P d e with
      | some ts => if P.cellsOf e == ts.length && 0 < ts.length then some [.l ts] else none
      | none => none
    | _ => none
section
variable {H : Type} {enc : TypeId × Value → H} {P : Program} {w : World} {base : Nat} {spare : Nat → Bool} {held : Bool}
/-- cells that read as what is known -/
def Reads (w : World) (tys : List Ty) (cs : List Value) (us : List V) : Prop :=
  Fits tys us ∧ cs.length = us.length ∧ ∀ (j : Nat) (u : V) (x : Value), us[j]? = some u → cs[j]? = some x → RV w (fun b => b < w.heap.size) noG u x
theorem Reads.app {t1 t2 : List Ty} {c1 c2 : List Value} {u1 u2 : List V} (h1 : Reads w t1 c1 u1) (h2 : Reads w t2 c2 u2) : Reads w (t1 ++ t2) (c1 ++ c2) (u1 ++ u2) := by
  obtain ⟨⟨a1, a2⟩, a3, a4⟩ := h1
  obtain ⟨⟨b1, b2⟩, b3, b4⟩ := h2
  refine ⟨⟨by simp [a1, b1], fun j t u g1 g2 => ?_⟩, by simp [a3, b3], fun j u x g1 g2 => ?_⟩
  · by_cases hj : j < t1.length
    · rw [List.getElem?_append_left hj] at g1
      rw [List.getElem?_append_left (by omega)] at g2
      exact a2 j t u g1 g2
    · rw [List.getElem?_append_right (by omega)] at g1 g2
      rw [← a1] at g2
      exact b2 _ t u g1 g2
  · by_cases hj : j < u1.length
    · rw [List.getElem?_append_left hj] at g1
      rw [List.getElem?_append_left (by omega)] at g2
      exact a4 j u x g1 g2
    · rw [List.getElem?_append_right (by omega)] at g1 g2
      rw [a3] at g2
      exact b4 _ u x g1 g2
theorem reads_one {t : Ty} {x : Value} {u : V} (h : FitV t u) (hr : RV w (fun b => b < w.heap.size) noG u x) : Reads w [t] [x] [u] := by
  refine ⟨⟨rfl, fun j t' u' g1 g2 => ?_⟩, rfl, fun j u' x' g1 g2 => ?_⟩
  · cases j with
    | zero => simp at g1 g2; subst g1 g2; exact h
    | succ j => simp at g1
  · cases j with
    | zero => simp at g1 g2; subst g1 g2; exact hr
    | succ j => simp at g1
theorem add_full (a : Addr) (n : Nat) (h : a.spot = none) : a.add n = ⟨a.block, a.off + n, none⟩ := by
  obtain ⟨b, o, sp⟩ := a
  simp only at h; subst h
  unfold Addr.add
  split <;> simp_all
theorem reads_fields {d fuel : Nat} {cs : List Value} (rc : ∀ (t : TypeId) (tys : List Ty) (cs : List Value) (x : DataW H × List MemPlace), tyOf P d t = some tys → DataW.trod enc P w base spare held fuel t cs = some x → ∃ us, Reads w tys cs us) :
    ∀ (fs : List Field) (off : Nat) (tys : List Ty) (xs : List (DataW H × List MemPlace)), tyFs P (tyOf P d) fs off = some tys → (∀ (i : Nat) (f : Field), fs[i]? = some f → ∃ x, DataW.trod enc P w base spare held fuel f.type ((cs.drop f.offset).take (P.cellsOf f.type)) = some x) →
      ∃ us, Reads w tys ((cs.drop off).take tys.length) us := by
  intro fs
  induction fs with
  | nil =>
    intro off tys xs h _
    simp only [tyFs, Option.some.injEq] at h; subst h
    exact ⟨[], ⟨rfl, by simp⟩, by simp, by simp⟩
  | cons f fs ih =>
    intro off tys xs h hf
    simp only [tyFs] at h
    split at h
    · rename_i ts hts
      split at h
      · rename_i hc
        simp only [Bool.and_eq_true, beq_iff_eq] at hc
        split at h
        · rename_i r hr
          injection h with h; subst h
          obtain ⟨x0, hx0⟩ := hf 0 f rfl
          obtain ⟨us1, h1⟩ := rc _ _ _ _ hts hx0
          obtain ⟨us2, h2⟩ := ih _ _ xs hr (fun i g hg => hf (i + 1) g (by simpa using hg))
          rw [hc.1, hc.2] at h1
          have hlen : ((cs.drop off).take ts.length).length = ts.length := by rw [h1.2.1, ← h1.1.1]
          refine ⟨us1 ++ us2, ?_⟩
          have e : (cs.drop off).take (ts ++ r).length = (cs.drop off).take ts.length ++ (cs.drop (off + ts.length)).take r.length := by
            rw [List.length_append, List.take_add, List.drop_drop]
          rw [e]
          exact h1.app h2
        · cases h
      · cases h
    · cases h
theorem reads_of : ∀ (d fuel : Nat) (t : TypeId) (tys : List Ty) (cs : List Value) (x : DataW H × List MemPlace), tyOf P d t = some tys → DataW.trod enc P w base spare held fuel t cs = some x → ∃ us, Reads w tys cs us := by
  intro d
  induction d with
  | zero => intro fuel t tys cs x h; cases h
  | succ d ih =>
    intro fuel t tys cs x h hd
    simp only [tyOf] at h
    split at h
    · rename_i hu
      injection h with h; subst h
      obtain ⟨n, rfl, _, hw⟩ := DataW.trod_int hu hd
      have hb : -9223372036854775808 ≤ n ∧ n ≤ 9223372036854775807 := by simpa [Lit.wf, IntKind.min, IntKind.max, IntKind.signed, IntKind.bits] using hw
      exact ⟨_, reads_one (.i n hb.1 hb.2) (.v _)⟩
    · rename_i hu
      injection h with h; subst h
      obtain ⟨s, rfl, _, hs⟩ := DataW.trod_string hu hd
      exact ⟨_, reads_one (.s s (by simpa [maxLen] using hs)) (.v _)⟩
    · rename_i hu
      injection h with h; subst h
      obtain ⟨s, rfl, _⟩ := DataW.trod_bool hu hd
      exact ⟨_, reads_one (.b s) (.v _)⟩
    · rename_i fs hu
      split at h
      · rename_i ts hts
        split at h
        · rename_i hc
          simp only [beq_iff_eq] at hc
          injection h with h; subst h
          obtain ⟨xs, n, rfl, _, hcl, hxl, hf⟩ := DataW.trod_struct hu hd
          obtain ⟨us, hus⟩ := reads_fields (cs := cs) (fun t tys cs x h1 h2 => ih n t tys cs x h1 h2) fs.toList 0 ts xs hts (fun i f hi => by
            have hi' : fs[i]? = some f := by simpa using hi
            have hlt : i < xs.length := by rw [hxl]; exact (Array.getElem?_eq_some_iff.1 hi').1
            exact ⟨_, (hf i f hi').trans (List.getElem?_eq_getElem hlt)⟩)
          refine ⟨us, ?_⟩
          rwa [List.drop_zero, ← hc, ← hcl, List.take_length] at hus
        · cases h
      · cases h
    · rename_i e hu
      split at h
      · rename_i ts hts
        split at h
        · rename_i hc
          simp only [Bool.and_eq_true, beq_iff_eq, decide_eq_true_eq] at hc
          injection h with h; subst h
          rcases open_slice hu hd with ⟨rfl, _⟩ | ⟨a, len, cap, m, n, D, Pl, rfl, hb, hl, hm, hmm, _, hi⟩
          · exact ⟨[.sl false []], reads_one (.l _ [] (by simp) (by simp) (by simp)) (.nil _ _ _ (by simp))⟩
          · have hlm : len ≤ m := by rw [hmm]; split <;> omega
            have hall : ∀ i : Nat, ∃ p : List Value × List V, i < len → Reads w ts p.1 p.2 ∧ ∀ j, j < ts.length → w.cell? (a.add (i * ts.length + j)) = p.1[j]? := fun i => by
              by_cases hil : i < len
              · obtain ⟨cs', h1, h2⟩ := hi i (by omega)
                obtain ⟨us, hus⟩ := ih n e ts cs' _ hts h2
                obtain ⟨_, h3, h4⟩ := World.cells?_some h1
                rw [hc.1] at h3 h4
                exact ⟨(cs', us), fun _ => ⟨hus, fun j hj => by rw [← Go.Deep.add_add]; exact h4 j hj⟩⟩
              · exact ⟨([], []), fun h => absurd h hil⟩
            obtain ⟨f, hf⟩ := Classical.axiomOfChoice hall
            have hsp : 0 < len → a.spot = none ∧ a.block < w.heap.size := fun h0 => by
              obtain ⟨h1, h2⟩ := hf 0 h0
              have hx := h2 0 hc.2
              have hlt : 0 < (f 0).1.length := by rw [h1.2.1, ← h1.1.1]; exact hc.2
              rw [List.getElem?_eq_getElem hlt] at hx
              have e : a.add (0 * ts.length + 0) = a := by simp [Addr.add]
              rw [e] at hx
              refine ⟨?_, World.block_lt_of_cell? w _ hx⟩
              unfold World.cell? at hx
              split at hx
              · cases hq : a.spot with
                | none => rfl
                | some k => simp [hq] at hx
              · cases hx
            refine ⟨[.sl false ((List.range len).map fun i => (f i).2)], reads_one (.l _ _ (by simp only [List.length_map, List.length_range]; simp only [maxLen] at hm; omega) ?_ ?_) ?_⟩
            · intro row hrow
              simp only [List.mem_map, List.mem_range] at hrow
              obtain ⟨i, hil, rfl⟩ := hrow
              exact (hf i hil).1.1.1
            · intro row hrow j t u g1 g2
              simp only [List.mem_map, List.mem_range] at hrow
              obtain ⟨i, hil, rfl⟩ := hrow
              exact (hf i hil).1.1.2 j t u g1 g2
            · rcases Nat.eq_zero_or_pos len with h0 | h0
              · subst h0; exact .nil _ _ _ (by simp)
              · obtain ⟨h1, h2⟩ := hsp h0
                obtain ⟨b, off, sp⟩ := a
                simp only at h1 h2
                subst h1
                have hrows : ∀ (i : Nat) (row : List V), ((List.range len).map fun i => (f i).2)[i]? = some row → i < len ∧ row = (f i).2 := fun i row h => by
                  have hlt := (List.getElem?_eq_some_iff.1 h).1
                  simp only [List.length_map, List.length_range] at hlt
                  simp [hlt] at h
                  exact ⟨hlt, h.symm⟩
                have e := RV.sl (w := w) (R := fun b => b < w.heap.size) (G := noG) false ((List.range len).map fun i => (f i).2) b off cap ts.length (fun i j => ((f i).1[j]?).getD undef) h2 (by simpa using hl) (by simp) (by
                    intro row hrow
                    simp only [List.mem_map, List.mem_range] at hrow
                    obtain ⟨i, hil, rfl⟩ := hrow
                    exact (hf i hil).1.1.1.symm) (by
                    intro i j row u g1 g2
                    obtain ⟨hil, rfl⟩ := hrows i row g1
                    have hj : j < ts.length := by have := (List.getElem?_eq_some_iff.1 g2).1; rw [(hf i hil).1.1.1]; exact this
                    have hjl : j < (f i).1.length := by rw [(hf i hil).1.2.1, ← (hf i hil).1.1.1]; exact hj
                    have hx := (hf i hil).2 j hj
                    rw [add_full _ _ rfl, List.getElem?_eq_getElem hjl] at hx
                    rw [List.getElem?_eq_getElem hjl]
                    simp only [Option.getD_some]
                    rw [Nat.add_assoc]; exact hx) (by
                    intro i j row u g1 g2
                    obtain ⟨hil, rfl⟩ := hrows i row g1
                    have hj : j < ts.length := by have := (List.getElem?_eq_some_iff.1 g2).1; rw [(hf i hil).1.1.1]; exact this
                    have hjl : j < (f i).1.length := by rw [(hf i hil).1.2.1, ← (hf i hil).1.1.1]; exact hj
                    rw [List.getElem?_eq_getElem hjl]
                    exact (hf i hil).1.2.2 j u _ g2 (List.getElem?_eq_getElem hjl))
                have e2 : ((List.range len).map fun i => (f i).2).length = len := by simp
                rw [e2] at e
                exact e
        · cases h
      · cases h
    · cases h
/-- an argument -/
theorem open_one {t : TypeId} {ty : Ty} {v : Value} {d : DataW H} {p : List MemPlace} {dp : Nat} (ht : tyOf P dp t = some [ty]) (hv : v.cells.toList = [v]) (h : DataW.Trod enc P w base spare held t v d p) :
    ∃ u, FitV ty u ∧ RV w (fun b => b < w.heap.size) noG u v := by
  obtain ⟨fuel, hf⟩ := h
  rw [hv] at hf
  obtain ⟨us, ⟨h1, h2⟩, h3, h4⟩ := reads_of dp fuel t _ _ _ ht hf
  match us, h3 with
  | [u], _ => exact ⟨u, h2 0 _ _ rfl rfl, h4 0 _ _ rfl rfl⟩
theorem open_struct {t : TypeId} {tys : List Ty} {r : Reach} {b0 : Nat} {v : Value} {fs : Array Field} {d : DataW H} {p : List MemPlace} {dp : Nat} (hs : P.underlying t = some (.struct fs)) (ht : tyOf P dp t = some tys) (hv : Value.okWide P w r b0 t v) (h : DataW.Trod enc P w base spare held t v d p) :
    ∃ us, Fits tys us ∧ RV w (fun b => b < w.heap.size) noG (.agg us) v := by
  obtain ⟨cs, rfl, hsz⟩ := okWide_struct hs hv
  obtain ⟨fuel, hf⟩ := h
  obtain ⟨us, h1, h3, h4⟩ := reads_of dp fuel t _ _ _ ht hf
  obtain ⟨cs⟩ := cs
  exact ⟨us, h1, .agg us cs h3.symm h4⟩
theorem open_list {t e : TypeId} {ty : Ty} {r : Reach} {b0 : Nat} {v : Value} {d : DataW H} {p : List MemPlace} {dp : Nat} (hs : P.underlying t = some (.slice e)) (ht : tyOf P dp t = some [ty]) (hv : Value.okWide P w r b0 t v) (h : DataW.Trod enc P w base spare held t v d p) :
    ∃ u, FitV ty u ∧ RV w (fun b => b < w.heap.size) noG u v := by
  obtain ⟨a, len, cap, rfl⟩ := okWide_slice hs hv
  exact open_one ht rfl h
end
/-! what fits, as data -/
theorem fits_cons {t : Ty} {ts : List Ty} {us : List V} (h : Fits (t :: ts) us) : ∃ u us', us = u :: us' ∧ FitV t u ∧ Fits ts us' := by
  obtain ⟨h1, h2⟩ := h
  match us, h1 with
  | u :: us', h1 => exact ⟨u, us', rfl, h2 0 _ _ rfl rfl, by simpa using h1, fun j t' u' g1 g2 => h2 (j + 1) t' u' (by simpa using g1) (by simpa using g2)⟩
theorem fits_nil {us : List V} (h : Fits [] us) : us = [] := List.eq_nil_of_length_eq_zero h.1.symm
theorem fit_i {u : V} (h : FitV .i u) : ∃ n : Int, u = .v (.int .i64 n) ∧ -9223372036854775808 ≤ n ∧ n ≤ 9223372036854775807 := by cases h with | i n h1 h2 => exact ⟨n, rfl, h1, h2⟩
theorem fit_s {u : V} (h : FitV .s u) : ∃ x : ByteArray, u = .v (.string x) ∧ x.size ≤ 9223372036854775807 := by cases h with | s x h => exact ⟨x, rfl, h⟩
theorem fit_b {u : V} (h : FitV .b u) : ∃ x : Bool, u = .v (.bool x) := by cases h with | b x => exact ⟨x, rfl⟩
theorem fit_l {tys : List Ty} {u : V} (h : FitV (.l tys) u) : ∃ rows, u = .sl false rows ∧ rows.length ≤ 9223372036854775807 ∧ ∀ row ∈ rows, Fits tys row := by
  cases h with | l tys rows hl hr h => exact ⟨rows, rfl, hl, fun row hm => ⟨hr row hm, h row hm⟩⟩
theorem rows_dec {α : Type} {enc : α → List V} {p : α → Prop} {tys : List Ty} (hd : ∀ row, Fits tys row → ∃ x : α, row = enc x ∧ p x) : ∀ (rows : List (List V)), (∀ row ∈ rows, Fits tys row) → ∃ l : List α, rows = l.map enc ∧ ∀ x ∈ l, p x
  | [], _ => ⟨[], rfl, by simp⟩
  | row :: rows, h => by
    obtain ⟨x, hx, px⟩ := hd row (h row (by simp))
    obtain ⟨l, hl, pl⟩ := rows_dec hd rows fun r hr => h r (by simp [hr])
    exact ⟨x :: l, by simp [hx, hl], by simpa using ⟨px, pl⟩⟩
theorem fit_list {α : Type} {enc : α → List V} {p : α → Prop} {tys : List Ty} {u : V} (hd : ∀ row, Fits tys row → ∃ x : α, row = enc x ∧ p x) (h : FitV (.l tys) u) : ∃ l : List α, u = .sl false (l.map enc) ∧ l.length ≤ 9223372036854775807 ∧ ∀ x ∈ l, p x := by
  obtain ⟨rows, rfl, hl, hr⟩ := fit_l h
  obtain ⟨l, rfl, hp⟩ := rows_dec hd rows hr
  exact ⟨l, rfl, by simpa using hl, hp⟩
/-! functions whose contracts are at hand in another form -/
theorem pars_v {w : World} {R : Nat → Prop} : ∀ {xs ys : List Value}, Pars w R (xs.map fun x => .c (.v x)) ys → ys = xs
  | xs, ys, h => by
    apply List.ext_getElem?
    intro i
    have hl := h.len
    rw [List.length_map] at hl
    by_cases hi : i < xs.length
    · have h1 : xs[i]? = some xs[i] := List.getElem?_eq_getElem hi
      have h2 : ys[i]? = some (ys[i]'(by omega)) := List.getElem?_eq_getElem (by omega)
      have h3 : ParOk w R (.c (.v xs[i])) (ys[i]'(by omega)) := h.ok i _ _ (by rw [List.getElem?_map, h1]; rfl) h2
      have h4 : RV w R noG (.v xs[i]) (ys[i]'(by omega)) := h3
      rw [h1, h2, rv_v h4]
    · rw [List.getElem?_eq_none (by omega), List.getElem?_eq_none (by omega)]
theorem no_blk {ps : List Par} {xs : List Value} {b : Nat} (h : ∀ p ∈ ps, ∃ u, p = .c u) : ¬ ParBlk ps xs b := by
  rintro ⟨i, T, sz, rows, x, h1, _⟩
  obtain ⟨u, hu⟩ := h _ (List.mem_of_getElem? h1)
  cases hu
theorem fr_of_below {L : Nat → Prop} {w w' : World} (h : Below w.heap.size w w') (hd : w.drawn ≤ w'.drawn) : Fr L w w' := ⟨h.os, h.tape, h.output, h.size, fun k hk _ => h.block k hk, hd⟩
theorem fun_flat {P : Program} {f : FuncId} {xs : List Value} {v : Value} (hc : Callable P f) (h : ∀ w, Calls P f xs.toArray w fun e w' => e = .returned v ∧ Below w.heap.size w w' ∧ w.drawn ≤ w'.drawn) : Fun P f (xs.map fun x => .c (.v x)) [.c (.v v)] := by
  refine ⟨hc, fun w R ys hlt hp => ?_⟩
  obtain rfl := pars_v hp
  refine (h w).mono fun e w' ⟨he, hb, hd⟩ => ⟨[v], R, by rw [he]; rfl, fr_of_below hb hd, fun _ h => h, fun b h => .inl h, ⟨rfl, ?_, ?_, ?_⟩, ?_⟩
  · intro i p x h1 h2
    cases i with
    | zero => simp at h1 h2; subst h1 h2; exact .v _
    | succ i => simp at h1
  · intro i j T sz rows T' sz' rows' x y b _ h1
    cases i with
    | zero => simp at h1
    | succ i => simp at h1
  · intro b hb'
    exact absurd hb' (no_blk (by simp))
  · intro b hb'
    exact absurd hb' (no_blk (by simp))
theorem callable {P : Program} {f : FuncId} {fn : Func} (h1 : P.funcs[f]? = some fn) (h2 : (fn.name == "runtime.NumGoroutine") = false) (h3 : fn.body.isNone = false) : Callable P f := ⟨fn, h1, h2, h3⟩
/-- a law's walk -/
theorem tie {P : Program} {f : FuncId} {ps : List Par} {xs : List Value} {v : Value} {w : World} (hF : Fun P f ps [.c (.v v)]) (hc : ∀ p ∈ ps, ∃ u, p = .c u) (hl : ps.length = xs.length)
    (hp : ∀ (i : Nat) (u : V) (x : Value), ps[i]? = some (.c u) → xs[i]? = some x → RV w (fun b => b < w.heap.size) noG u x) : Calls P f xs.toArray w fun e w' => e = .returned v ∧ Below w.heap.size w w' := by
  refine (hF.2 w (fun b => b < w.heap.size) xs (fun _ h => h) ⟨hl, ?_, ?_, ?_⟩).mono ?_
  · intro i p x h1 h2
    obtain ⟨u, rfl⟩ := hc p (List.mem_of_getElem? h1)
    exact hp i u x h1 h2
  · intro i j T sz rows T' sz' rows' x y b _ h1
    obtain ⟨u, hu⟩ := hc _ (List.mem_of_getElem? h1)
    cases hu
  · intro b hb; exact absurd hb (no_blk hc)
  · rintro e w' ⟨ys, R', rfl, hfr, _, _, hpr, _⟩
    have hy : ys.length = 1 := hpr.len.symm
    match ys, hy with
    | [y], _ =>
      have : RV w' R' noG (.v v) y := hpr.ok 0 _ y rfl rfl
      obtain rfl := rv_v this
      exact ⟨rfl, hfr.os, hfr.tape, hfr.output, hfr.size, fun k hk => hfr.block k hk (no_blk hc)⟩
def RVL (w : World) : List V → List Value → Prop
  | [], [] => True
  | u :: us, x :: xs => RV w (fun b => b < w.heap.size) noG u x ∧ RVL w us xs
  | _, _ => False
theorem rvl_len {w : World} : ∀ {us : List V} {xs : List Value}, RVL w us xs → us.length = xs.length
  | [], [], _ => rfl
  | u :: us, x :: xs, h => by simp [rvl_len h.2]
  | [], _ :: _, h => h.elim
  | _ :: _, [], h => h.elim
theorem rvl_at {w : World} : ∀ {us : List V} {xs : List Value}, RVL w us xs → ∀ (i : Nat) (u : V) (x : Value), us[i]? = some u → xs[i]? = some x → RV w (fun b => b < w.heap.size) noG u x
  | [], [], _, i, u, x, h1, _ => by simp at h1
  | u' :: us, x' :: xs, h, 0, u, x, h1, h2 => by simp at h1 h2; subst h1 h2; exact h.1
  | u' :: us, x' :: xs, h, i + 1, u, x, h1, h2 => rvl_at h.2 i u x (by simpa using h1) (by simpa using h2)
  | [], _ :: _, h, _, _, _, _, _ => h.elim
  | _ :: _, [], h, _, _, _, _, _ => h.elim
theorem tieL {P : Program} {f : FuncId} {us : List V} {xs : List Value} {v : Value} {w : World} (hF : Fun P f (us.map .c) [.c (.v v)]) (h : RVL w us xs) : Calls P f xs.toArray w fun e w' => e = .returned v ∧ Below w.heap.size w w' :=
  tie hF (by simp) (by rw [List.length_map]; exact rvl_len h) (fun i u x h1 h2 => by
    rw [List.getElem?_map] at h1
    cases hq : us[i]? with
    | none => rw [hq] at h1; cases h1
    | some u' => rw [hq] at h1; simp at h1; subst h1; exact rvl_at h i u' x hq h2)
theorem parsC {w : World} {R : Nat → Prop} : ∀ {us : List V} {xs : List Value}, us.length = xs.length → (∀ (i : Nat) (u : V) (x : Value), us[i]? = some u → xs[i]? = some x → RV w R noG u x) → True := fun _ _ => trivial
end Go.Proofs.Ytjhdlcmecbngkaa
/- Small words of mine for the walks. -/
namespace Go.Proofs.Ytjhdlcmecbngkaa
open Go.RowKit
set_option linter.unusedVariables false
theorem hid {p : Prop} (h : p) : Hid p := h
theorem ret_int {k : IntKind} {a b : Int} (h : a = b) : Ending.returned (.int k a) = .returned (.int k b) := by rw [h]
theorem ret_bool {a b : Bool} (h : a = b) : Ending.returned (.bool a) = .returned (.bool b) := by rw [h]
theorem bcell {W w1 : World} (hb : Below W.heap.size W w1) : (∀ b o, b < W.heap.size → w1.cell? ⟨b, o, none⟩ = W.cell? ⟨b, o, none⟩) ∧ (∀ b o, b < W.heap.size → w1.frozen? ⟨b, o, none⟩ = W.frozen? ⟨b, o, none⟩) :=
  ⟨fun b o h => hb.cell (p := ⟨b, o, none⟩) h, fun b o h => hb.frozen (p := ⟨b, o, none⟩) h⟩
theorem new_at {w : World} {o : Obj} {k : Nat} (h : k = w.heap.size) : (w.alloc o).heap[k]? = some o := by
  subst h; exact heap_alloc_new w o
theorem keep_all {W w1 : World} {g : Nat} {f : Nat → Option Value} (hb : Below W.heap.size W w1) (hlt : g < W.heap.size) (h : ∀ i, W.cell? ⟨g, i, none⟩ = f i) : ∀ i, w1.cell? ⟨g, i, none⟩ = f i :=
  fun i => (hb.cell (p := ⟨g, i, none⟩) hlt).trans (h i)
theorem keep_one {W w1 : World} {g i : Nat} {f : Option Value} (hb : Below W.heap.size W w1) (hlt : g < W.heap.size) (h : W.cell? ⟨g, i, none⟩ = f) : w1.cell? ⟨g, i, none⟩ = f :=
  (hb.cell (p := ⟨g, i, none⟩) hlt).trans h
theorem block_lt {w : World} {b : Nat} {o : Obj} (h : w.heap[b]? = some o) : b < w.heap.size := (Array.getElem?_eq_some_iff.1 h).1
theorem flat_len {α : Type} {enc : α → List Value} {sz : Nat} (hs : ∀ x, (enc x).length = sz) : ∀ l : List α, (l.flatMap enc).length = l.length * sz
  | [] => by simp
  | x :: r => by rw [List.flatMap_cons, List.length_append, hs, flat_len hs r, List.length_cons, Nat.add_mul]; omega
theorem flat_get {α : Type} {enc : α → List Value} {sz : Nat} (hs : ∀ x, (enc x).length = sz) : ∀ {l : List α} (i j : Nat) (hi : i < l.length) (hj : j < sz), (l.flatMap enc)[i * sz + j]? = (enc l[i])[j]?
  | x :: r, 0, j, _, hj => by
    rw [List.flatMap_cons, Nat.zero_mul, Nat.zero_add, List.getElem?_append_left (by rw [hs]; exact hj)]; rfl
  | x :: r, i + 1, j, hi, hj => by
    rw [List.flatMap_cons, List.getElem?_append_right (by rw [hs, Nat.add_mul]; omega), hs, show (i + 1) * sz + j - sz = i * sz + j by rw [Nat.add_mul]; omega]
    exact flat_get hs i j (by simpa using hi) hj
/-- a block that is known whole (after the guide's word) -/
def Blk (w : World) (g : Nat) (t : TypeId) (cs : Array Value) : Prop := w.heap[g]? = some (.cells cs t (0, 0))
section
variable {w w' : World} {g : Nat} {t : TypeId} {cs : Array Value}
theorem Blk.lt (h : Blk w g t cs) : g < w.heap.size := by
  rcases Nat.lt_or_ge g w.heap.size with hlt | hge
  · exact hlt
  · unfold Blk at h; rw [Array.getElem?_eq_none hge] at h; cases h
theorem Blk.cell (h : Blk w g t cs) (i : Nat) : w.cell? ⟨g, i, none⟩ = cs[i]? := by
  unfold Blk at h
  simp [World.cell?, h]
theorem Blk.frozen (h : Blk w g t cs) (i : Nat) : w.frozen? ⟨g, i, none⟩ = false := by
  unfold Blk at h
  simp [World.frozen?, h]
theorem Blk.new (w : World) (t : TypeId) (cs : Array Value) : Blk (w.alloc (.cells cs t)) w.heap.size t cs := heap_alloc_new w _
theorem Blk.new_ (w : World) (t : TypeId) (cs : Array Value) {g : Nat} (h : g = w.heap.size) : Blk (w.alloc (.cells cs t)) g t cs := h ▸ heap_alloc_new w _
theorem Blk.drew (h : Blk w g t cs) : Blk w.drew g t cs := h
theorem Blk.drewN (h : Blk w g t cs) (n : Nat) : Blk (w.drewN n) g t cs := h
theorem Blk.alloc (h : Blk w g t cs) (o : Obj) : Blk (w.alloc o) g t cs := (Below.heap_alloc w o g h.lt).trans h
theorem Blk.set_ (h : Blk w g t cs) (i : Nat) (u : Value) : Blk (w.setCell ⟨g, i, none⟩ u) g t (cs.setIfInBounds i u) := by
  unfold Blk at h ⊢
  simp [World.setCell, Array.getElem?_modify, h]
theorem Blk.far (h : Blk w g t cs) {p : Addr} (hp : g ≠ p.block) (u : Value) : Blk (w.setCell p u) g t cs := (Below.heap_setCell w p u g hp).trans h
theorem Blk.below {B : Nat} (h : Blk w g t cs) (hb : Below B w w') (hg : g < B) : Blk w' g t cs := (hb.block g hg).trans h
theorem Blk.below' (h : Blk w g t cs) (hb : Below w.heap.size w w') : Blk w' g t cs := (hb.block g h.lt).trans h
theorem Blk.grown {row : Option Nat} (h : Blk w g t cs) (hb : w.grownBy w' row) (hg : some g ≠ row) : Blk w' g t cs := (hb.block g h.lt hg).trans h
end
theorem news_at {w W : World} {T : TypeId} {cs : List Value} (hW : W.heap = (w.alloc (.cells cs.toArray T)).heap) : ∀ j u, cs[j]? = some u → W.cell? ((⟨w.heap.size, 0, none⟩ : Addr).add j) = some u := fun j u hu => by
  have e : (⟨w.heap.size, 0, none⟩ : Addr).add j = ⟨w.heap.size, j, none⟩ := by unfold Addr.add; split <;> simp_all
  have h : W.heap[w.heap.size]? = some (.cells cs.toArray T) := by rw [hW]; exact heap_alloc_new w _
  rw [e]
  unfold World.cell?
  simp only [h]
  simpa using hu
theorem own_heap {w W : World} {base : Nat} {e : TypeId} {size : Nat} {v : Value} {n : Nat} {xs : List Value} (h : w.ownsRow base e size v n xs) (hW : W.heap = w.heap) : W.ownsRow base e size v n xs := by
  unfold World.ownsRow at *
  rw [hW]
  exact h
theorem own_at {w W : World} {base : Nat} {e : TypeId} {size : Nat} {v : Value} {n : Nat} {xs : List Value} {o : Obj} (h : w.ownsRow base e size v n xs) (hW : W.heap = (w.alloc o).heap) : W.ownsRow base e size v n xs :=
  own_heap (h.alloc o) hW
theorem below_heap {B : Nat} {a w W : World} (h : Below B a w) (hW : W.heap = w.heap) (h1 : W.os = w.os) (h2 : W.tape = w.tape) (h3 : W.output = w.output) : Below B a W :=
  ⟨h1.trans h.os, h2.trans h.tape, h3.trans h.output, by rw [hW]; exact h.size, fun k hk => by rw [hW]; exact h.block k hk⟩
end Go.Proofs.Ytjhdlcmecbngkaa
/- The walk of cmp.Compare at texts. -/
namespace Go.Proofs.Ytjhdlcmecbngkaa
open Go.RowKit Pl
set_option linter.unusedVariables false
theorem isNaNs_any (a : ByteArray) (w : World) : Calls Try.prog 59 #[.string a] w fun e w' => e = .returned (.bool false) ∧ w = w' := by
  have h : (a.toList == a.toList) = true := by simp
  go_enter Try.func59, Try.ntmps59
  go_wp2
  go_ret
  exact ⟨ret_bool (by simp), rfl⟩
theorem cmps_any (a b : ByteArray) (w : World) : Calls Try.prog 33 #[.string a, .string b] w fun e w' => e = .returned (.int .i64 (scmp a b)) ∧ w = w' := by
  rcases Bool.eq_false_or_eq_true (slt a b) with h | h
  · have HE := hid (scmp_lt h)
    unfold slt at h
    go_enter Try.func33, Try.ntmps33
    go_wp2_with (go_at_call 59; refine (isNaNs_any _ _).mono ?_; rintro e w' ⟨rfl, rfl⟩)
    go_ret
    exact ⟨ret_int HE.out.symm, rfl⟩
  · rcases Bool.eq_false_or_eq_true (slt b a) with g | g
    · have HE := hid (scmp_gt g)
      have h2 : (a.toList == b.toList) = false := seq_no (fun e => by subst e; rw [slt_irrefl] at g; cases g)
      unfold slt at h
      clear g
      go_enter Try.func33, Try.ntmps33
      go_wp2_with (go_at_call 59; refine (isNaNs_any _ _).mono ?_; rintro e w' ⟨rfl, rfl⟩)
      go_ret
      exact ⟨ret_int HE.out.symm, rfl⟩
    · obtain rfl := slt_tri h g
      have HE := hid (scmp_eq a)
      have h2 : (a.toList == a.toList) = true := by simp
      unfold slt at h
      clear g
      go_enter Try.func33, Try.ntmps33
      go_wp2_with (go_at_call 59; refine (isNaNs_any _ _).mono ?_; rintro e w' ⟨rfl, rfl⟩)
      go_ret
      exact ⟨ret_int HE.out.symm, rfl⟩

/-- three ways, of numbers -/
def icmp (a b : Int) : Int := if a < b then -1 else if b < a then 1 else 0
theorem isNaNi_any (a : Int) (w : World) : Calls Try.prog 58 #[.int .i64 a] w fun e w' => e = .returned (.bool false) ∧ w = w' := by
  have h : (a == a) = true := by simp
  go_enter Try.func58, Try.ntmps58
  go_wp2
  go_ret
  exact ⟨ret_bool (by simp), rfl⟩
theorem cmpi_any (a b : Int) (w : World) : Calls Try.prog 32 #[.int .i64 a, .int .i64 b] w fun e w' => e = .returned (.int .i64 (icmp a b)) ∧ w = w' := by
  by_cases h : a < b
  · have HE : Hid (icmp a b = -1) := hid (by simp [icmp, h])
    go_enter Try.func32, Try.ntmps32
    go_wp2_with (go_at_call 58; refine (isNaNi_any _ _).mono ?_; rintro e w' ⟨rfl, rfl⟩)
    go_ret
    exact ⟨ret_int HE.out.symm, rfl⟩
  · by_cases g : b < a
    · have HE : Hid (icmp a b = 1) := hid (by simp [icmp, h, g])
      go_enter Try.func32, Try.ntmps32
      go_wp2_with (go_at_call 58; refine (isNaNi_any _ _).mono ?_; rintro e w' ⟨rfl, rfl⟩)
      go_ret
      exact ⟨ret_int HE.out.symm, rfl⟩
    · have HE : Hid (icmp a b = 0) := hid (by simp [icmp, h, g])
      go_enter Try.func32, Try.ntmps32
      go_wp2_with (go_at_call 58; refine (isNaNi_any _ _).mono ?_; rintro e w' ⟨rfl, rfl⟩)
      go_ret
      exact ⟨ret_int HE.out.symm, rfl⟩

/-- the first that is not nought -/
def firstNZ : List Int → Int
  | [] => 0
  | x :: r => if x = 0 then firstNZ r else x
theorem firstNZ_at : ∀ {l : List Int} {k : Nat} (hk : k < l.length), (∀ i, (h : i < l.length) → i < k → l[i] = 0) → l[k] ≠ 0 → firstNZ l = l[k]
  | x :: r, 0, _, _, hne => by
    simp only [List.getElem_cons_zero] at hne ⊢
    simp [firstNZ, hne]
  | x :: r, k + 1, hk, h, hne => by
    have h0 : x = 0 := h 0 (by simp) (by omega)
    subst h0
    simp only [firstNZ, if_true, List.getElem_cons_succ] at hne ⊢
    exact firstNZ_at (by simpa using hk) (fun i hi hik => h (i + 1) (by simpa using hi) (by omega)) hne
theorem firstNZ_zero : ∀ {l : List Int}, (∀ i, (h : i < l.length) → l[i] = 0) → firstNZ l = 0
  | [], _ => rfl
  | x :: r, h => by
    have h0 : x = 0 := h 0 (by simp)
    subst h0
    simp only [firstNZ, if_true]
    exact firstNZ_zero fun i hi => h (i + 1) (by simpa using hi)

def OrRel (l : List Int) (i : Value) : Prop := ∃ k : Nat, k ≤ l.length ∧ i = .int .i64 k ∧ ∀ j, (h : j < l.length) → j < k → l[j] = 0
set_option maxRecDepth 100000 in
theorem or_any (g : Nat) (vs : List Int) (w : World) (hg : Blk w g 3 (vs.map (Value.int .i64)).toArray) (hn : vs.length ≤ 1000) :
    Calls Try.prog 31 #[.slice (some ⟨g, 0, none⟩) vs.length vs.length] w fun e w' => e = .returned (.int .i64 (firstNZ vs)) ∧ w = w' := by
  have HG := hid hg
  clear hg
  go_enter Try.func31, Try.ntmps31
  go_wp2
  go_loop [8] (fun i => OrRel vs i) (fun i => vs.length - (intOf i).toNat)
  case atStart => exact ⟨0, Nat.zero_le _, rfl, fun j _ h => absurd h (by omega)⟩
  case round =>
    obtain ⟨k, hk, rfl, h0⟩ := hrel
    have H0 := hid h0
    clear h0
    by_cases hlt : k < vs.length
    · have g0 : w.cell? ⟨g, k, none⟩ = some (.int .i64 vs[k]) := by
        rw [HG.out.cell]
        simp [hlt]
      by_cases hz : vs[k] = 0
      · have hb : (vs[k] == 0) = true := by simpa using hz
        have HN : Hid (∀ j, (h : j < vs.length) → j < k + 1 → vs[j] = 0) := hid (fun j hj hjk => by
          rcases (by omega : j < k ∨ j = k) with q | rfl
          · exact H0.out j hj q
          · exact hz)
        clear hz
        generalize vs[k] = x at *
        go_wp2
        go_round
        case rel => exact ⟨k + 1, by omega, by go_num, HN.out⟩
        case measure => simp [intOf]; omega
      · have hb : (vs[k] == 0) = false := by simpa using hz
        have HE := hid (firstNZ_at hlt H0.out hz)
        clear hz
        generalize vs[k] = x at *
        go_wp2
        go_ret
        exact ⟨ret_int HE.out.symm, rfl⟩
    · have HE := hid (firstNZ_zero (l := vs) (fun j h => H0.out j h (by omega)))
      go_wp2
      go_ret
      exact ⟨ret_int HE.out.symm, rfl⟩
end Go.Proofs.Ytjhdlcmecbngkaa
/- Words for proofs over resolved code; no function of a program in sight. -/
namespace Go.Proofs.Ytjhdlcmecbngkaa
open Go.RowKit Pl
set_option linter.unusedVariables false
theorem wrap_u64 {n : Int} (h1 : 0 ≤ n) (h2 : n ≤ 18446744073709551615) : IntKind.u64.wrap n = n := IntWalk.u64_in n ⟨h1, h2⟩
theorem fdiv_half {n : Int} (h : 0 ≤ n) : n.fdiv (2 ^ (min (1 : Int).toNat IntKind.u64.bits)) = n / 2 := by
  have e : (2 : Int) ^ (min (1 : Int).toNat IntKind.u64.bits) = 2 := by decide
  rw [e, Int.fdiv_eq_ediv_of_nonneg _ (by decide)]
/-- a thing's cells are values -/
class FlatRow {α : Type} (enc : α → List V) : Prop where
  flat : ∀ x, ∀ u ∈ enc x, ∃ v, u = .v v
theorem row_map {α : Type} {f : α → List V} {l : List α} {k : Nat} (h : k < l.length) : (l.map f)[k]? = some (f l[k]) := by simp [h]
theorem fl_row {α : Type} {enc : α → List V} [hf : FlatRow enc] {x : α} : ∀ u ∈ enc x, Fl u := fun u hu => by
  obtain ⟨v, rfl⟩ := hf.flat x u hu
  exact fl_v v
theorem fl_rows {α : Type} {enc : α → List V} [FlatRow enc] {l : List α} : ∀ row ∈ l.map enc, ∀ u ∈ row, Fl u := fun row hr u hu => by
  obtain ⟨x, _, rfl⟩ := List.mem_map.1 hr
  exact fl_row u hu
theorem cl_rows {α : Type} {enc : α → List V} [FlatRow enc] {l : List α} : ∀ row ∈ l.map enc, ∀ u ∈ row, Cl u := fun row hr u hu => (fl_rows row hr u hu).cl
theorem cl_list {α : Type} {enc : α → List V} [FlatRow enc] {c : Bool} {l : List α} : Cl (.sl c (l.map enc)) := cl_sl cl_rows
theorem cl_nil {c : Bool} : Cl (.sl c []) := cl_sl (by simp)
theorem cl_one {α : Type} {enc : α → List V} [FlatRow enc] {x : α} : Cl (.agg (enc x)) := cl_agg fun u hu => (fl_row u hu).cl
theorem fl_one {α : Type} {enc : α → List V} [FlatRow enc] {x : α} : Fl (.agg (enc x)) := fl_agg fun u hu => fl_row u hu
def vB : V → Bool
  | .v _ => true
  | _ => false
def vsB : List V → Bool
  | [] => true
  | u :: us => bif vB u then vsB us else false
def clB : V → Bool
  | .v _ => true
  | .agg cs => vsB cs
  | .tup cs => vsB cs
  | .clo _ cs => vsB cs
  | .sl false [] => true
  | _ => false
def clRs : List (List V) → Bool
  | [] => true
  | r :: rs => bif vsB r then clRs rs else false
theorem vB_fl {u : V} (h : vB u = true) : Fl u := by
  cases u <;> first | exact fl_v _ | cases h
theorem vsB_fl : ∀ {us : List V}, vsB us = true → ∀ u ∈ us, Fl u
  | [], _, u, hu => by cases hu
  | v :: us, h, u, hu => by
    unfold vsB at h
    cases hv : vB v with
    | false => rw [hv] at h; cases h
    | true =>
      rw [hv] at h
      rcases List.mem_cons.1 hu with rfl | hu
      · exact vB_fl hv
      · exact vsB_fl h u hu
theorem clRs_fl : ∀ {rs : List (List V)}, clRs rs = true → ∀ r ∈ rs, ∀ u ∈ r, Fl u
  | [], _, r, hr => by cases hr
  | r' :: rs, h, r, hr => by
    unfold clRs at h
    cases hv : vsB r' with
    | false => rw [hv] at h; cases h
    | true =>
      rw [hv] at h
      rcases List.mem_cons.1 hr with rfl | hr
      · exact vsB_fl hv
      · exact clRs_fl h r hr
theorem fl_clo {f : FuncId} {cs : List V} (h : ∀ u ∈ cs, Fl u) : Fl (.clo f cs) := fun w w' R R' G G' x hx => by
  cases hx with
  | clo f cs xs hl hh => exact .clo f cs xs hl fun i u x h1 h2 => h u (List.mem_of_getElem? h1) _ _ _ _ _ _ _ (hh i u x h1 h2)
theorem fl_b {u : V} (h : clB u = true) : Fl u := by
  cases u with
  | v x => exact fl_v x
  | agg cs => exact fl_agg (vsB_fl h)
  | tup cs => exact fl_tup (vsB_fl h)
  | clo f cs => exact fl_clo (vsB_fl h)
  | sl c rows => cases c <;> cases rows <;> first | exact fl_nil | cases h
  | _ => cases h
theorem cl_b {u : V} (h : clB u = true) : Cl u := (fl_b h).cl
theorem cl_rs {rs : List (List V)} (h : clRs rs = true) : ∀ r ∈ rs, ∀ u ∈ r, Cl u := fun r hr u hu => (clRs_fl h r hr u hu).cl
theorem cl_rl1 {α : Type} {enc : α → List V} [FlatRow enc] {c : Bool} {l : List α} : ∀ row ∈ [[V.sl c (l.map enc)]], ∀ u ∈ row, Cl u := by
  intro row hr u hu
  simp only [List.mem_cons, List.not_mem_nil, or_false] at hr; subst hr
  simp only [List.mem_cons, List.not_mem_nil, or_false] at hu; subst hu
  exact cl_list
theorem cl_rl2 {α : Type} {enc : α → List V} [FlatRow enc] {c d : Bool} {l m : List α} : ∀ row ∈ [[V.sl c (l.map enc)], [V.sl d (m.map enc)]], ∀ u ∈ row, Cl u := by
  intro row hr u hu
  simp only [List.mem_cons, List.not_mem_nil, or_false] at hr
  rcases hr with rfl | rfl <;> (simp only [List.mem_cons, List.not_mem_nil, or_false] at hu; subst hu; exact cl_list)
theorem cl_ll1 {α : Type} {enc : α → List V} [FlatRow enc] {c e : Bool} {l : List α} : Cl (.sl e [[V.sl c (l.map enc)]]) := cl_sl cl_rl1
theorem cl_ll2 {α : Type} {enc : α → List V} [FlatRow enc] {c d e : Bool} {l m : List α} : Cl (.sl e [[V.sl c (l.map enc)], [V.sl d (m.map enc)]]) := cl_sl cl_rl2
def flB : List Par → Bool
  | [] => true
  | .c u :: ps => bif clB u then flB ps else false
  | _ => false
theorem flat_b : ∀ {rs : List Par}, flB rs = true → flatRes rs
  | [], _ => fun r hr => by cases hr
  | .c u :: ps, h => by
    unfold flB at h
    cases hv : clB u with
    | false => rw [hv] at h; cases h
    | true =>
      rw [hv] at h
      intro r hr
      rcases List.mem_cons.1 hr with rfl | hr
      · exact fl_b hv
      · exact flat_b h r hr
  | .o _ _ _ :: _, h => by cases h
theorem flat_own {α : Type} {enc : α → List V} [FlatRow enc] {T : TypeId} {sz : Nat} {l : List α} : flatRes [.o T sz (l.map enc)] := by
  intro r hr
  simp only [List.mem_cons, List.not_mem_nil, or_false] at hr; subst hr
  exact fl_rows
theorem flat_own1 {α : Type} {enc : α → List V} [FlatRow enc] {T : TypeId} {sz : Nat} {l : List α} {ps : List Par} (h : flB ps = true) : flatRes (.o T sz (l.map enc) :: ps) := by
  intro r hr
  rcases List.mem_cons.1 hr with rfl | hr
  · exact fl_rows
  · exact flat_b h r hr
theorem cl_setB {α : Type} {enc : α → List V} [FlatRow enc] {l : List α} {i : Nat} {row : List V} (h : vsB row = true) : ∀ r ∈ (l.map enc).set i row, ∀ u ∈ r, Cl u := fun r hr u hu => by
  rcases List.mem_or_eq_of_mem_set hr with h1 | rfl
  · exact cl_rows r h1 u hu
  · exact (vsB_fl h u hu).cl
theorem cl_setG {rows : List (List V)} {i : Nat} {row : List V} (h0 : ∀ r ∈ rows, ∀ u ∈ r, Cl u) (h : vsB row = true) : ∀ r ∈ rows.set i row, ∀ u ∈ r, Cl u := fun r hr u hu => by
  rcases List.mem_or_eq_of_mem_set hr with h1 | rfl
  · exact h0 r h1 u hu
  · exact (vsB_fl h u hu).cl
theorem set_at {α : Type} {f : α → List V} {l : List α} {k : Nat} {r : List V} (h : k < l.length) : ((l.map f).set k r)[k]? = some r := by simp [h]
theorem cl_appB {rs rs' : List (List V)} (h : ∀ r ∈ rs, ∀ u ∈ r, Cl u) (h' : ∀ r ∈ rs', ∀ u ∈ r, Cl u) : ∀ r ∈ rs ++ rs', ∀ u ∈ r, Cl u := fun r hr u hu => by
  rcases List.mem_append.1 hr with h1 | h1
  · exact h r h1 u hu
  · exact h' r h1 u hu
theorem give' {H : Nat → Option Ent} {all : List Nat} {bor : Bool} {gone : List Nat} {id g : Nat} {T : TypeId} {sz : Nat} {rows : List (List V)} {us : List V} {ps : List Par} (he : H id = some ⟨g, .t T, sz, rows⟩) (hr : ∀ row ∈ rows, ∀ u ∈ row, Cl u) (hn : id ∉ gone) (ha : id ∈ all) (h : ArgsOk H all bor gone us ps) : ArgsOk H all bor (id :: gone) (.own id g :: us) (.o T sz rows :: ps) :=
  ArgsOk.give (e := ⟨g, .t T, sz, rows⟩) he rfl rfl hr hn ha h
theorem not_t {b : Bool} (h : (!b) = true) : b = false := by cases b; rfl; cases h
theorem not_f {b : Bool} (h : (!b) = false) : b = true := by cases b; cases h; rfl
theorem nobor {p : Prop} : false = true → p := by simp
theorem wi_t {n a b : Int} (h : decide (a ≤ n) = true) : wi n a b = decide (n ≤ b) := by simp [wi, h]
theorem wi_f {n a b : Int} (h : decide (a ≤ n) = false) : wi n a b = false := by simp [wi, h]
theorem up1 {n k : Nat} {p : (j : Nat) → (j < n) → Prop} (h0 : ∀ j (h : j < n), j < k → p j h) (hk : ∀ h : k < n, p k h) : ∀ j (h : j < n), j < k + 1 → p j h := fun j h hj => by
  rcases (by omega : j < k ∨ j = k) with g | rfl
  · exact h0 j h g
  · exact hk h
theorem up2 {n k : Nat} {p : (j : Nat) → (j + 1 < n) → Prop} (h0 : ∀ j (h : j + 1 < n), j < k → p j h) (hk : ∀ h : k + 1 < n, p k h) : ∀ j (h : j + 1 < n), j < k + 1 → p j h := fun j h hj => by
  rcases (by omega : j < k ∨ j = k) with g | rfl
  · exact h0 j h g
  · exact hk h
theorem cl_row {row : List V} (h : clRs [row] = true) : ∀ u ∈ row, Cl u := fun u hu => cl_rs h row (by simp) u hu
theorem GetR.cell1 {env : Nat → V} {H : Nat → Option Ent} {a id gen k off sz : Nat} {agg : Bool} {e : Ent} {row : List V} {r : List RT} {u : V} {us : List V} (h1 : env a = .ptr id gen k off) (h2 : H id = some e) (h3 : e.gen = gen) (h4 : e.rows[k]? = some row) (h5 : Nat.ble (off + sz) row.length = true) (hu : u = mkV agg ((row.drop off).take sz)) (h : GetR env H r us) :
    GetR env H ((a, some (agg, sz)) :: r) (u :: us) := by rw [hu]; exact .cell h1 h2 h3 h4 (Nat.le_of_ble_eq_true h5) h
theorem GetR.tmp1 {env : Nat → V} {H : Nat → Option Ent} {t : Nat} {r : List RT} {u : V} {us : List V} (hu : u = env t) (h : GetR env H r us) : GetR env H ((t, none) :: r) (u :: us) := by rw [hu]; exact .tmp h
theorem retc2 {env : Nat → V} {H : Nat → Option Ent} {ts : List RT} {u v : V} (h1 : Cl u) (h2 : Cl v) (hG : GetR env H ts [u, v]) : ∃ us gone, GetR env H ts us ∧ ArgsOk H gone true gone us [.c u, .c v] := ⟨_, [], hG, .same h1 (.same h2 (.nil _))⟩
theorem retc1 {env : Nat → V} {H : Nat → Option Ent} {ts : List RT} {u : V} (h1 : Cl u) (hG : GetR env H ts [u]) : ∃ us gone, GetR env H ts us ∧ ArgsOk H gone true gone us [.c u] := ⟨_, [], hG, .same h1 (.nil _)⟩
/-- a thing's cells are one cell each, so many -/
class OneRow {α : Type} (enc : α → List V) (sz : outParam Nat) : Prop where
  len : ∀ x, (enc x).length = sz
  one : ∀ x, ∀ u ∈ enc x, ∃ v, u = .v v ∧ v.oneCell' = true
theorem ones_of {H : Nat → Option Ent} : ∀ {us : List V}, (∀ u ∈ us, ∃ v, u = .v v ∧ v.oneCell' = true) → ones H us
  | [], _ => trivial
  | u :: us, h => by
    obtain ⟨v, rfl, hv⟩ := h u (List.mem_cons_self ..)
    exact ⟨hv, ones_of fun w hw => h w (List.mem_cons_of_mem _ hw)⟩
theorem ones_rows {α : Type} {enc : α → List V} {sz : Nat} [OneRow enc sz] {H : Nat → Option Ent} {l : List α} : ∀ row ∈ l.map enc, row.length = sz ∧ ones H row := fun row hr => by
  obtain ⟨x, _, rfl⟩ := List.mem_map.1 hr
  exact ⟨OneRow.len x, ones_of (OneRow.one x)⟩
theorem outs_b {rs : List ParM} (h : rs.all outM = true) : ∀ p ∈ rs, outM p = true := List.all_eq_true.1 h
theorem cl_r1 {c : Bool} {rows : List (List V)} (h : clRs rows = true) : ∀ u ∈ [V.sl c rows], Cl u := fun u hu => by
  simp only [List.mem_cons, List.not_mem_nil, or_false] at hu; subst hu
  exact cl_sl (cl_rs h)
theorem cl_r1b {α : Type} {enc : α → List V} [FlatRow enc] {c : Bool} {l : List α} : ∀ u ∈ [V.sl c (l.map enc)], Cl u := fun u hu => by
  simp only [List.mem_cons, List.not_mem_nil, or_false] at hu; subst hu
  exact cl_list
theorem cl_rowF {α : Type} {enc : α → List V} [FlatRow enc] {x : α} : ∀ u ∈ enc x, Cl u := fun u hu => (fl_row u hu).cl
theorem pair_eq {α β : Type} {p : α × β} {a : α} {b : β} (h : p = (a, b)) : p.1 = a ∧ p.2 = b := by rw [h]; exact ⟨rfl, rfl⟩
/-- rows without things of our own -/
theorem cr_app {rs rs' : List (List V)} (h : ∀ r ∈ rs, ∀ u ∈ r, Cl u) (h' : ∀ r ∈ rs', ∀ u ∈ r, Cl u) : ∀ r ∈ rs ++ rs', ∀ u ∈ r, Cl u := cl_appB h h'
theorem cr_take {rs : List (List V)} {n : Nat} (h : ∀ r ∈ rs, ∀ u ∈ r, Cl u) : ∀ r ∈ rs.take n, ∀ u ∈ r, Cl u := fun r hr => h r (List.mem_of_mem_take hr)
theorem cr_drop {rs : List (List V)} {n : Nat} (h : ∀ r ∈ rs, ∀ u ∈ r, Cl u) : ∀ r ∈ rs.drop n, ∀ u ∈ r, Cl u := fun r hr => h r (List.mem_of_mem_drop hr)
theorem cr_repl {row : List V} {n : Nat} (h : clRs [row] = true) : ∀ r ∈ List.replicate n row, ∀ u ∈ r, Cl u := fun r hr => by
  obtain ⟨_, rfl⟩ := List.mem_replicate.1 hr
  exact cl_row h
theorem ret_osub {H : Nat → Option Ent} {id g n sz : Nat} {e : Ent} {T : TypeId} {rows : List (List V)} {us : List V} (hu : us = [.osub id g 0 n]) (he : H id = some e) (hg : e.gen = g) (hT : e.T = .t T) (hs : e.sz = sz) (hl : n ≤ e.rows.length) (hr : ∀ row ∈ e.rows, ∀ u ∈ row, Cl u) (hq : rows = e.rows.take n) : ArgsOk H [id] true [id] us [.o T sz rows] := by
  rw [hu, hq, ← hs]; exact .givv he hg hT hl hr (by simp) (by simp) (.nil _)
theorem ret_own {H : Nat → Option Ent} {id g sz : Nat} {e : Ent} {T : TypeId} {rows : List (List V)} {us : List V} (hu : us = [.own id g]) (he : H id = some e) (hg : e.gen = g) (hT : e.T = .t T) (hs : e.sz = sz) (hr : ∀ row ∈ rows, ∀ u ∈ row, Cl u) (hq : e.rows = rows) : ArgsOk H [id] true [id] us [.o T sz rows] := by
  subst hq; rw [hu, ← hs]; exact .give he hg hT hr (by simp) (by simp) (.nil _)
theorem flat_own2 {α β : Type} {enc : α → List V} {enc' : β → List V} [FlatRow enc] [FlatRow enc'] {T T' : TypeId} {sz sz' : Nat} {l : List α} {l' : List β} {ps : List Par} (h : flB ps = true) : flatRes (.o T sz (l.map enc) :: .o T' sz' (l'.map enc') :: ps) := by
  intro r hr
  rcases List.mem_cons.1 hr with rfl | hr
  · exact fl_rows
  · exact flat_own1 h r hr
end Go.Proofs.Ytjhdlcmecbngkaa
/- The walks of dns.IsLabel and of the reference's IsLabel. -/
namespace Go.Proofs.Ytjhdlcmecbngkaa
open Go.RowKit Pl
set_option linter.unusedVariables false

theorem lab_step {s : ByteArray} {k : Nat} (h : ∀ j, (hj : j < s.data.toList.length) → j < k → okB (s.data.toList[j]).toNat = true) (hlt : k < s.size) (hk : okB (s[k]).toNat = true) :
    ∀ j, (hj : j < s.data.toList.length) → j < k + 1 → okB (s.data.toList[j]).toNat = true := by
  intro j hj hjk
  rcases (by omega : j < k ∨ j = k) with g | rfl
  · exact h j hj g
  · exact hk
theorem isEmpty_size (s : ByteArray) : s.toList.isEmpty = decide (s.size = 0) := by
  rw [ByteArray.toList_eq, Bool.eq_iff_iff, List.isEmpty_iff_length_eq_zero, decide_eq_true_eq, Array.length_toList]
  rfl
theorem lab_endA {s : ByteArray} (h1 : 1 ≤ s.size ∧ s.size ≤ 30 → lab s.data.toList = true) (h2 : ¬ (1 ≤ s.size ∧ s.size ≤ 30) → lab s.data.toList = false) (e : s.toList.isEmpty = false) : decide ((s.size : Int) ≤ 30) = lab s.data.toList := by
  have e0 : s.size ≠ 0 := by simpa [isEmpty_size] using e
  by_cases g : s.size ≤ 30
  · rw [h1 ⟨by omega, g⟩]; simp; omega
  · rw [h2 (by omega)]; simp; omega
theorem lab_endB {s : ByteArray} (h2 : ¬ (1 ≤ s.size ∧ s.size ≤ 30) → lab s.data.toList = false) (e : s.toList.isEmpty = true) : false = lab s.data.toList := by
  have e0 : s.size = 0 := by simpa [isEmpty_size] using e
  rw [h2 (by omega)]
theorem cell_new (w : World) (C : Array Value) (t : TypeId) (fr : Nat × Nat) (k : Nat) : (w.alloc (.cells C t fr)).drew.cell? ⟨w.heap.size, k, none⟩ = C[k]? := by
  have h : (w.alloc (.cells C t fr)).drew.heap[w.heap.size]? = some (.cells C t fr) := heap_alloc_new w _
  unfold World.cell?
  rw [h]
  rfl
theorem lab_out {s : ByteArray} {k : Nat} (hlt : k < s.size) (hk : okB (s[k]).toNat = false) : false = lab s.data.toList :=
  (lab_bad (i := k) (s := s.data.toList) (by simpa using hlt) hk).symm

theorem refIsLabel_any (s : ByteArray) (w : World) (hs : s.size ≤ 9223372036854775807) :
    Calls Try.prog 44 #[.string s] w fun e w' => e = .returned (.bool (lab s.data.toList)) ∧ w = w' := by
  go_enter Try.func44, Try.ntmps44
  go_wp2
  go_loop [3] (fun i => ∃ k : Nat, k ≤ s.size ∧ i = .int .i64 k ∧ ∀ j, (hj : j < s.data.toList.length) → j < k → okB (s.data.toList[j]).toNat = true) (fun i => s.size - (intOf i).toNat)
  case atStart => exact ⟨0, Nat.zero_le _, rfl, fun j _ h => absurd h (by omega)⟩
  case round =>
    obtain ⟨k, hk, rfl, hall⟩ := hrel
    have HA := hid hall
    clear hall
    by_cases hlt : k < s.size
    · go_wp2
      all_goals first
        | (go_round
           case rel => exact ⟨k + 1, by omega, by go_num, lab_step HA.out hlt (okB_yes (by go_light; clear HA; first | omega | (simp_all; done) | (simp_all; omega)))⟩
           case measure => simp [intOf]; omega)
        | (go_ret
           exact ⟨ret_bool (lab_out hlt (okB_no (by go_light; clear HA; first | omega | (simp_all; done) | (simp_all; omega)))), rfl⟩)
    · have HL := fun (g : 1 ≤ s.size ∧ s.size ≤ 30) => lab_yes (s := s.data.toList) (fun i hi => HA.out i hi (by simp at hi; omega)) (by simpa using g.1) (by simpa using g.2)
      have HN := fun (g : ¬ (1 ≤ s.size ∧ s.size ≤ 30)) => lab_long (s := s.data.toList) (by simpa using g)
      have HL := hid HL
      have HN := hid HN
      clear HA
      go_wp2
      all_goals go_ret
      all_goals exact ⟨ret_bool (by
        go_light
        by_cases g : 1 ≤ s.size ∧ s.size ≤ 30
        · rw [HL.out g] <;> first | rfl | (simp <;> omega)
        · rw [HN.out g] <;> first | rfl | (simp <;> omega)), rfl⟩

/-- the bytes of a text in a block of the call's own, as the walk wants them -/
theorem bytes_run (s : ByteArray) (w : World) : ∃ (cap : Nat) (C : Array Value) (fr : Nat × Nat),
    (convert 9 111 (.string s)).run Try.prog w = .ok (.slice (some ⟨w.heap.size, 0, none⟩) s.size cap) (w.drew.alloc (.cells C 5 fr)) ∧
    ∀ j, (h : j < s.size) → C[j]? = some (.int .u8 ((s[j]).toNat : Int)) := by
  refine ⟨_, _, _, run_bytes_of_string w 9 111 5 s Try.underlying9 Try.underlying111 Try.underlying5, ?_⟩
  intro j h
  exact bytesRow_at s _ j h

set_option maxRecDepth 100000 in
theorem IsLabel_any (s : ByteArray) (w : World) (hs : s.size ≤ 9223372036854775807) :
    Calls Try.prog 77 #[.string s] w fun e w' => e = .returned (.bool (lab s.data.toList)) ∧ Below w.heap.size w w' ∧ w.drawn ≤ w'.drawn := by
  obtain ⟨cap, C, fr, hrun, hC⟩ := bytes_run s w
  have HC := hid hC
  clear hC
  have hB : Below w.heap.size w (w.alloc (.cells C 5 fr)).drew ∧ w.drawn ≤ (w.alloc (.cells C 5 fr)).drew.drawn := ⟨(by repeat (first | exact Below.refl _ _ | assumption | refine Below.drew ?_ | refine below_drewN ?_ _ | refine Below.alloc ?_ (by simp; try omega) _ | refine Below.setCell ?_ (by simp; try omega) _)), Nat.le_succ _⟩
  have HB := hid hB
  clear hB
  go_enter Try.func77, Try.ntmps77
  go_wp2
  go_loop [8] (fun i => ∃ k : Nat, k ≤ s.size ∧ i = .int .i64 k ∧ ∀ j, (hj : j < s.data.toList.length) → j < k → okB (s.data.toList[j]).toNat = true) (fun i => s.size - (intOf i).toNat)
  case atStart => exact ⟨0, Nat.zero_le _, rfl, fun j _ h => absurd h (by omega)⟩
  case round =>
    obtain ⟨k, hk, rfl, hall⟩ := hrel
    have HA := hid hall
    clear hall
    by_cases hlt : k < s.size
    · have hcell : (w.alloc (.cells C 5 fr)).drew.cell? ⟨w.heap.size, k, none⟩ = some (.int .u8 ((s[k]).toNat : Int)) := (cell_new w C 5 fr k).trans (HC.out k hlt)
      have hby : ((s[k]).toNat : Int) ≤ 255 := by have := (s[k]).toNat_lt; omega
      clear hrun
      go_wp2
      all_goals first
        | (go_round
           case rel => exact ⟨k + 1, by omega, by go_num, lab_step HA.out hlt (okB_yes (by go_light; clear HA; first | omega | (simp_all; done) | (simp_all; omega)))⟩
           case measure => simp [intOf]; omega)
        | (go_ret
           exact ⟨ret_bool (lab_out hlt (okB_no (by go_light; clear HA; first | omega | (simp_all; done) | (simp_all; omega)))), HB.out⟩)
    · have HL := fun (g : 1 ≤ s.size ∧ s.size ≤ 30) => lab_yes (s := s.data.toList) (fun i hi => HA.out i hi (by simp at hi; omega)) (by simpa using g.1) (by simpa using g.2)
      have HN := fun (g : ¬ (1 ≤ s.size ∧ s.size ≤ 30)) => lab_long (s := s.data.toList) (by simpa using g)
      have HL := hid HL
      have HN := hid HN
      clear HA
      go_wp2
      all_goals go_ret
      all_goals first
        | exact ⟨ret_bool (lab_endA HL.out HN.out ‹s.toList.isEmpty = false›), HB.out⟩
        | exact ⟨ret_bool (lab_endB HN.out ‹s.toList.isEmpty = true›), HB.out⟩
end Go.Proofs.Ytjhdlcmecbngkaa
/- Contracts of the two functions that know labels. -/
namespace Go.Proofs.Ytjhdlcmecbngkaa
open Go.RowKit Pl
set_option linter.unusedVariables false
theorem label_fun (s : ByteArray) (hs : s.size ≤ 9223372036854775807) : Fun Try.prog 77 [.c (.v (.string s))] [.c (.v (.bool (lab s.data.toList)))] :=
  fun_flat (xs := [.string s]) (callable Try.func77 (by kernel_rfl) (by kernel_rfl)) fun w => (IsLabel_any s w hs).mono fun e w' h => ⟨h.1, h.2.1, h.2.2⟩
theorem rlabel_fun (s : ByteArray) (hs : s.size ≤ 9223372036854775807) : Fun Try.prog 44 [.c (.v (.string s))] [.c (.v (.bool (lab s.data.toList)))] :=
  fun_flat (xs := [.string s]) (callable Try.func44 (by kernel_rfl) (by kernel_rfl)) fun w => (refIsLabel_any s w hs).mono fun e w' ⟨h1, h2⟩ => ⟨h1, h2 ▸ Below.refl _ _, h2 ▸ Nat.le_refl _⟩
end Go.Proofs.Ytjhdlcmecbngkaa
/- Contracts of small functions: labels, numbers within bounds, comparing. -/
namespace Go.Proofs.Ytjhdlcmecbngkaa
open Go.RowKit Pl
set_option linter.unusedVariables false
/-! comparing -/
theorem cmps_fun (a b : ByteArray) : Fun Try.prog 33 [.c (.v (.string a)), .c (.v (.string b))] [.c (.v (.int .i64 (scmp a b)))] :=
  fun_flat (xs := [.string a, .string b]) (callable Try.func33 (by kernel_rfl) (by kernel_rfl)) fun w => (cmps_any a b w).mono fun e w' ⟨h1, h2⟩ => ⟨h1, h2 ▸ Below.refl _ _, h2 ▸ Nat.le_refl _⟩
theorem cmpi_fun (a b : Int) : Fun Try.prog 32 [.c (.v (.int .i64 a)), .c (.v (.int .i64 b))] [.c (.v (.int .i64 (icmp a b)))] :=
  fun_flat (xs := [.int .i64 a, .int .i64 b]) (callable Try.func32 (by kernel_rfl) (by kernel_rfl)) fun w => (cmpi_any a b w).mono fun e w' ⟨h1, h2⟩ => ⟨h1, h2 ▸ Below.refl _ _, h2 ▸ Nat.le_refl _⟩
theorem between_fun (n a b : Int) : Fun Try.prog 34 [.c (.v (.int .i64 n)), .c (.v (.int .i64 a)), .c (.v (.int .i64 b))] [.c (.v (.bool (wi n a b)))] := by
  refine fun_x ck_hearsayref_between rfl ?_
  ((conv => whnf); repeat' ((first | refine ⟨rfl, ?_⟩ | refine ⟨_, row_map (by assumption), ?_⟩ | refine ⟨_, (by exact some_rfl), ?_⟩ | refine ⟨_, wrap_ok (by omega) (by omega), ?_⟩ | refine ⟨_, wrap_u64 (by omega) (by omega), ?_⟩ | refine ⟨by decide, _, fdiv_half (by omega), ?_⟩ | (intro gg)); (conv => whnf)))
  (refine bIf_of (fun h => ?_) (fun h => ?_) <;> rw [h])
  · ((conv => whnf); repeat' ((first | refine ⟨rfl, ?_⟩ | refine ⟨_, row_map (by assumption), ?_⟩ | refine ⟨_, (by exact some_rfl), ?_⟩ | refine ⟨_, wrap_ok (by omega) (by omega), ?_⟩ | refine ⟨_, wrap_u64 (by omega) (by omega), ?_⟩ | refine ⟨by decide, _, fdiv_half (by omega), ?_⟩ | (intro gg)); (conv => whnf)))
    rw [wi_t h]
    (exact ⟨[], by (repeat' (first | exact ArgsOk.nil _ | exact argsOk_cells (by assumption) | refine ArgsOk.same (by first | exact cl_b rfl | exact cl_list | exact cl_nil | exact cl_one | exact cl_ll1 | exact cl_ll2 | exact cl_clo (by assumption)) ?_ | refine ArgsOk.nilsl _ ?_ | refine ArgsOk.nilown _ _ (by decide) ?_ | refine ArgsOk.borp rfl rfl rfl (cl_row rfl) (by decide) ?_ | refine ArgsOk.borc (by %caps) ?_ | refine ArgsOk.bor rfl rfl (deref_flat (by first | exact cl_rs rfl | exact cl_rows | exact cl_setB rfl | exact cl_setG (cl_setB rfl) rfl | exact cl_appB cl_rows (cl_rs rfl) | exact cl_rl1 | exact cl_rl2)) (by decide) ?_ | refine give' rfl (by first | exact cl_rs rfl | exact cl_rows | exact cl_setB rfl | exact cl_setG (cl_setB rfl) rfl | exact cl_appB cl_rows (cl_rs rfl) | exact cl_rl1 | exact cl_rl2) (by decide) (by decide) ?_))⟩)
  · ((conv => whnf); repeat' ((first | refine ⟨rfl, ?_⟩ | refine ⟨_, row_map (by assumption), ?_⟩ | refine ⟨_, (by exact some_rfl), ?_⟩ | refine ⟨_, wrap_ok (by omega) (by omega), ?_⟩ | refine ⟨_, wrap_u64 (by omega) (by omega), ?_⟩ | refine ⟨by decide, _, fdiv_half (by omega), ?_⟩ | (intro gg)); (conv => whnf)))
    rw [wi_f h]
    (exact ⟨[], by (repeat' (first | exact ArgsOk.nil _ | exact argsOk_cells (by assumption) | refine ArgsOk.same (by first | exact cl_b rfl | exact cl_list | exact cl_nil | exact cl_one | exact cl_ll1 | exact cl_ll2 | exact cl_clo (by assumption)) ?_ | refine ArgsOk.nilsl _ ?_ | refine ArgsOk.nilown _ _ (by decide) ?_ | refine ArgsOk.borp rfl rfl rfl (cl_row rfl) (by decide) ?_ | refine ArgsOk.borc (by %caps) ?_ | refine ArgsOk.bor rfl rfl (deref_flat (by first | exact cl_rs rfl | exact cl_rows | exact cl_setB rfl | exact cl_setG (cl_setB rfl) rfl | exact cl_appB cl_rows (cl_rs rfl) | exact cl_rl1 | exact cl_rl2)) (by decide) ?_ | refine give' rfl (by first | exact cl_rs rfl | exact cl_rows | exact cl_setB rfl | exact cl_setG (cl_setB rfl) rfl | exact cl_appB cl_rows (cl_rs rfl) | exact cl_rl1 | exact cl_rl2) (by decide) (by decide) ?_))⟩)
theorem address_fun (n : Int) : Fun Try.prog 45 [.c (.v (.int .i64 n))] [.c (.v (.bool (wi n 0 4294967295)))] := by
  refine fun_x ck_hearsayref_IsAddress rfl ?_
  ((conv => whnf); repeat' ((first | refine ⟨rfl, ?_⟩ | refine ⟨_, row_map (by assumption), ?_⟩ | refine ⟨_, (by exact some_rfl), ?_⟩ | refine ⟨_, wrap_ok (by omega) (by omega), ?_⟩ | refine ⟨_, wrap_u64 (by omega) (by omega), ?_⟩ | refine ⟨by decide, _, fdiv_half (by omega), ?_⟩ | (intro gg)); (conv => whnf)))
  (refine .inl ⟨_, _, false, [], (by (repeat' (first | exact ArgsOk.nil _ | exact argsOk_cells (by assumption) | refine ArgsOk.same (by first | exact cl_b rfl | exact cl_list | exact cl_nil | exact cl_one | exact cl_ll1 | exact cl_ll2 | exact cl_clo (by assumption)) ?_ | refine ArgsOk.nilsl _ ?_ | refine ArgsOk.nilown _ _ (by decide) ?_ | refine ArgsOk.borp rfl rfl rfl (cl_row rfl) (by decide) ?_ | refine ArgsOk.borc (by (repeat' (first | exact cap_n | refine cap_p rfl rfl rfl (by first | exact cl_row rfl | exact cl_r1 rfl | exact cl_r1b) ?_ ?_ | refine cap_m rfl (by decide) ?_ | refine cap_c (by first | exact cl_b rfl | exact cl_list | exact cl_nil | exact cl_one | exact cl_ll1 | exact cl_ll2 | exact cl_clo (by assumption)) ?_ | decide))) ?_ | refine ArgsOk.bor rfl rfl (deref_flat (by first | exact cl_rs rfl | exact cl_rows | exact cl_setB rfl | exact cl_setG (cl_setB rfl) rfl | exact cl_appB cl_rows (cl_rs rfl) | exact cl_rl1 | exact cl_rl2)) (by decide) ?_ | refine give' rfl (by first | exact cl_rs rfl | exact cl_rows | exact cl_setB rfl | exact cl_setG (cl_setB rfl) rfl | exact cl_appB cl_rows (cl_rs rfl) | exact cl_rl1 | exact cl_rl2) (by decide) (by decide) ?_))), between_fun _ _ _, nobor, (by exact Nat.le_of_ble_eq_true rfl), ?_⟩)
  ((conv => whnf); repeat' ((first | refine ⟨rfl, ?_⟩ | refine ⟨_, row_map (by assumption), ?_⟩ | refine ⟨_, (by exact some_rfl), ?_⟩ | refine ⟨_, wrap_ok (by omega) (by omega), ?_⟩ | refine ⟨_, wrap_u64 (by omega) (by omega), ?_⟩ | refine ⟨by decide, _, fdiv_half (by omega), ?_⟩ | (intro gg)); (conv => whnf)))
  (exact ⟨[], by (repeat' (first | exact ArgsOk.nil _ | exact argsOk_cells (by assumption) | refine ArgsOk.same (by first | exact cl_b rfl | exact cl_list | exact cl_nil | exact cl_one | exact cl_ll1 | exact cl_ll2 | exact cl_clo (by assumption)) ?_ | refine ArgsOk.nilsl _ ?_ | refine ArgsOk.nilown _ _ (by decide) ?_ | refine ArgsOk.borp rfl rfl rfl (cl_row rfl) (by decide) ?_ | refine ArgsOk.borc (by %caps) ?_ | refine ArgsOk.bor rfl rfl (deref_flat (by first | exact cl_rs rfl | exact cl_rows | exact cl_setB rfl | exact cl_setG (cl_setB rfl) rfl | exact cl_appB cl_rows (cl_rs rfl) | exact cl_rl1 | exact cl_rl2)) (by decide) ?_ | refine give' rfl (by first | exact cl_rs rfl | exact cl_rows | exact cl_setB rfl | exact cl_setG (cl_setB rfl) rfl | exact cl_appB cl_rows (cl_rs rfl) | exact cl_rl1 | exact cl_rl2) (by decide) (by decide) ?_))⟩)
/-- one more -/
theorem firstErr_one {α : Type} (e : α → Int) (a : α) : firstErr e [a] = e a := by
  by_cases h : e a = 0 <;> simp [firstErr, h]
theorem ckL_each {α : Type} {mx : Nat} {e : α → Int} {lt : α → α → Bool} {l : List α} (h1 : ¬ mx < l.length) (h2 : firstErr e l ≠ 0) : ckL mx e lt l = firstErr e l := by simp [ckL, h1, h2]
theorem ckL_no {α : Type} {mx : Nat} {e : α → Int} {lt : α → α → Bool} {l : List α} (h1 : ¬ mx < l.length) (h2 : firstErr e l = 0) (h3 : sorted lt l = false) : ckL mx e lt l = 4 := by simp [ckL, h1, h2, h3]
theorem ckL_yes {α : Type} {mx : Nat} {e : α → Int} {lt : α → α → Bool} {l : List α} (h1 : ¬ mx < l.length) (h2 : firstErr e l = 0) (h3 : sorted lt l = true) : ckL mx e lt l = 0 := by simp [ckL, h1, h2, h3]
theorem icmp_eq (a : Int) : icmp a a = 0 := by simp [icmp]
theorem icmp_ne {a b : Int} (h : a ≠ b) : icmp a b ≠ 0 := by
  unfold icmp; split
  · decide
  · split
    · decide
    · omega
theorem icmp_pos {a b : Int} : 0 < icmp a b ↔ b < a := by
  unfold icmp; split
  · constructor <;> intro h <;> omega
  · split <;> (constructor <;> intro h <;> omega)
theorem nz_ne {a b : Int} {r : List Int} (h : (a != b) = true) : decide (0 < firstNZ (icmp a b :: r)) = decide (b < a) := by
  have h : a ≠ b := by simpa using h
  simp [firstNZ, icmp_ne h, icmp_pos]
theorem nz_eq {a b : Int} {r : List Int} (h : (a != b) = false) : firstNZ (icmp a b :: r) = firstNZ r := by
  have h : a = b := by simpa using h
  subst h; simp [firstNZ, icmp_eq]
theorem scmp_pos {a b : ByteArray} : 0 < scmp a b ↔ slt b a = true := by
  constructor
  · intro h
    rcases Bool.eq_false_or_eq_true (slt b a) with q | q
    · exact q
    · rcases Bool.eq_false_or_eq_true (slt a b) with p | p
      · rw [scmp_lt p] at h; omega
      · have := slt_tri p q
        rw [this, scmp_eq] at h; omega
  · intro h; rw [scmp_gt h]; decide
theorem nzs_ne {a b : ByteArray} {r : List Int} (h : (!(a.toList == b.toList)) = true) : decide (0 < firstNZ (scmp a b :: r)) = slt b a := by
  have h : a ≠ b := fun e => by subst e; simp at h
  have h0 : scmp a b ≠ 0 := fun e => h (scmp_zero.1 e)
  simp [firstNZ, h0, scmp_pos]
theorem nzs_eq {a b : ByteArray} {r : List Int} (h : (!(a.toList == b.toList)) = false) : firstNZ (scmp a b :: r) = firstNZ r := by
  have h : a = b := seq_iff.1 (by simpa using h)
  subst h; simp [firstNZ, scmp_eq]
def b2i (b : Bool) : Int := if b then 1 else 0
theorem nzb_last {p q : Bool} : decide (0 < firstNZ [icmp (b2i p) (b2i q)]) = (p && !q) := by cases p <;> cases q <;> decide
def orRow (n : Int) : List V := [.v (.int .i64 n)]
instance : FlatRow orRow := ⟨fun x u hu => by simp [orRow] at hu; exact ⟨_, hu⟩⟩
theorem or_fun (c : Bool) (l : List Int) (hl : l.length ≤ 9223372036854775807) : Fun Try.prog 31 [.c (.sl c (l.map orRow))] [.c (.v (.int .i64 (firstNZ l)))] := by
  refine fun_x ck_cmp_Or_int rfl ?_
  ((conv => whnf); repeat' ((first | refine ⟨rfl, ?_⟩ | refine ⟨_, row_map (by assumption), ?_⟩ | refine ⟨_, (by exact some_rfl), ?_⟩ | refine ⟨_, wrap_ok (by omega) (by omega), ?_⟩ | refine ⟨_, wrap_u64 (by omega) (by omega), ?_⟩ | refine ⟨by decide, _, fdiv_half (by omega), ?_⟩ | (intro gg)); (conv => whnf)))
  (refine ⟨[], none, {k : Nat // k ≤ l.length ∧ ∀ j, (h : j < l.length) → j < k → l[j] = 0}, [3, 6, 7], fun ⟨k, hk, h0⟩ => [(8, .v (.int .i64 k))], [], fun ⟨k, hk, h0⟩ => [], fun ⟨k, hk, h0⟩ => l.length - k, trivial, fun _ => ⟨trivial, fun _ => ⟨⟨0, by omega, fun j _ h => by omega⟩, by (repeat' (first | exact trivial | refine ⟨rfl, ?_⟩)), keptE_refl _ _, by (repeat' (first | exact trivial | refine ⟨rfl, ?_⟩)), keptH_refl _ _⟩⟩, fun ⟨k, hk, h0⟩ => ?_⟩)
  ((conv => whnf); repeat' ((first | refine ⟨rfl, ?_⟩ | refine ⟨_, row_map (by assumption), ?_⟩ | refine ⟨_, (by exact some_rfl), ?_⟩ | refine ⟨_, wrap_ok (by omega) (by omega), ?_⟩ | refine ⟨_, wrap_u64 (by omega) (by omega), ?_⟩ | refine ⟨by decide, _, fdiv_half (by omega), ?_⟩ | (intro gg)); (conv => whnf)))
  rw [List.length_map]
  (refine bIf_of (fun h => ?_) (fun h => ?_) <;> rw [h])
  · have hlt : k < l.length := by simpa using h
    ((conv => whnf); repeat' ((first | refine ⟨rfl, ?_⟩ | refine ⟨_, row_map (by assumption), ?_⟩ | refine ⟨_, (by exact some_rfl), ?_⟩ | refine ⟨_, wrap_ok (by omega) (by omega), ?_⟩ | refine ⟨_, wrap_u64 (by omega) (by omega), ?_⟩ | refine ⟨by decide, _, fdiv_half (by omega), ?_⟩ | (intro gg)); (conv => whnf)))
    refine ⟨k, _, rfl, row_map hlt, ?_⟩
    ((conv => whnf); repeat' ((first | refine ⟨rfl, ?_⟩ | refine ⟨_, row_map (by assumption), ?_⟩ | refine ⟨_, (by exact some_rfl), ?_⟩ | refine ⟨_, wrap_ok (by omega) (by omega), ?_⟩ | refine ⟨_, wrap_u64 (by omega) (by omega), ?_⟩ | refine ⟨by decide, _, fdiv_half (by omega), ?_⟩ | (intro gg)); (conv => whnf)))
    (refine bIf_of (fun h => ?_) (fun h => ?_) <;> rw [h])
    · ((conv => whnf); repeat' ((first | refine ⟨rfl, ?_⟩ | refine ⟨_, row_map (by assumption), ?_⟩ | refine ⟨_, (by exact some_rfl), ?_⟩ | refine ⟨_, wrap_ok (by omega) (by omega), ?_⟩ | refine ⟨_, wrap_u64 (by omega) (by omega), ?_⟩ | refine ⟨by decide, _, fdiv_half (by omega), ?_⟩ | (intro gg)); (conv => whnf)))
      rw [firstNZ_at hlt h0 (by simpa using h)]
      (exact ⟨[], by (repeat' (first | exact ArgsOk.nil _ | exact argsOk_cells (by assumption) | refine ArgsOk.same (by first | exact cl_b rfl | exact cl_list | exact cl_nil | exact cl_one | exact cl_ll1 | exact cl_ll2 | exact cl_clo (by assumption)) ?_ | refine ArgsOk.nilsl _ ?_ | refine ArgsOk.nilown _ _ (by decide) ?_ | refine ArgsOk.borp rfl rfl rfl (cl_row rfl) (by decide) ?_ | refine ArgsOk.borc (by %caps) ?_ | refine ArgsOk.bor rfl rfl (deref_flat (by first | exact cl_rs rfl | exact cl_rows | exact cl_setB rfl | exact cl_setG (cl_setB rfl) rfl | exact cl_appB cl_rows (cl_rs rfl) | exact cl_rl1 | exact cl_rl2)) (by decide) ?_ | refine give' rfl (by first | exact cl_rs rfl | exact cl_rows | exact cl_setB rfl | exact cl_setG (cl_setB rfl) rfl | exact cl_appB cl_rows (cl_rs rfl) | exact cl_rl1 | exact cl_rl2) (by decide) (by decide) ?_))⟩)
    · ((conv => whnf); repeat' ((first | refine ⟨rfl, ?_⟩ | refine ⟨_, row_map (by assumption), ?_⟩ | refine ⟨_, (by exact some_rfl), ?_⟩ | refine ⟨_, wrap_ok (by omega) (by omega), ?_⟩ | refine ⟨_, wrap_u64 (by omega) (by omega), ?_⟩ | refine ⟨by decide, _, fdiv_half (by omega), ?_⟩ | (intro gg)); (conv => whnf)))
      (exact ⟨none, trivial, fun _ => ⟨⟨k + 1, by omega, up1 (p := fun j h => l[j] = 0) h0 (fun _ => by simpa using h)⟩, by show l.length - (k + 1) < l.length - k; omega, by (repeat' (first | exact trivial | refine ⟨rfl, ?_⟩)), by (repeat' (first | exact trivial | refine ⟨rfl, ?_⟩)), by (repeat' (first | exact trivial | refine ⟨rfl, ?_⟩)), by (repeat' (first | exact trivial | refine ⟨rfl, ?_⟩))⟩⟩)
  · have hge : ¬ k < l.length := by simpa using h
    ((conv => whnf); repeat' ((first | refine ⟨rfl, ?_⟩ | refine ⟨_, row_map (by assumption), ?_⟩ | refine ⟨_, (by exact some_rfl), ?_⟩ | refine ⟨_, wrap_ok (by omega) (by omega), ?_⟩ | refine ⟨_, wrap_u64 (by omega) (by omega), ?_⟩ | refine ⟨by decide, _, fdiv_half (by omega), ?_⟩ | (intro gg)); (conv => whnf)))
    rw [firstNZ_zero (l := l) (fun i hi => h0 i hi (by omega))]
    (exact ⟨[], by (repeat' (first | exact ArgsOk.nil _ | exact argsOk_cells (by assumption) | refine ArgsOk.same (by first | exact cl_b rfl | exact cl_list | exact cl_nil | exact cl_one | exact cl_ll1 | exact cl_ll2 | exact cl_clo (by assumption)) ?_ | refine ArgsOk.nilsl _ ?_ | refine ArgsOk.nilown _ _ (by decide) ?_ | refine ArgsOk.borp rfl rfl rfl (cl_row rfl) (by decide) ?_ | refine ArgsOk.borc (by %caps) ?_ | refine ArgsOk.bor rfl rfl (deref_flat (by first | exact cl_rs rfl | exact cl_rows | exact cl_setB rfl | exact cl_setG (cl_setB rfl) rfl | exact cl_appB cl_rows (cl_rs rfl) | exact cl_rl1 | exact cl_rl2)) (by decide) ?_ | refine give' rfl (by first | exact cl_rs rfl | exact cl_rows | exact cl_setB rfl | exact cl_setG (cl_setB rfl) rfl | exact cl_appB cl_rows (cl_rs rfl) | exact cl_rl1 | exact cl_rl2) (by decide) (by decide) ?_))⟩)
end Go.Proofs.Ytjhdlcmecbngkaa
/- Plain: members. No program in sight (but for the order of texts). -/
namespace Go.Proofs.Ytjhdlcmecbngkaa.Pl
set_option linter.unusedVariables false
structure Mb where
  n : ByteArray
  st : Int
  lf : Int
  ad : Int
  sv : Bool
def Mb.enc (m : Mb) : List Value := [.string m.n, .int .i64 m.st, .int .i64 m.lf, .int .i64 m.ad, .bool m.sv]
def Mb.row (m : Mb) : List V := [.v (.string m.n), .v (.int .i64 m.st), .v (.int .i64 m.lf), .v (.int .i64 m.ad), .v (.bool m.sv)]
theorem Mb.enc_len (m : Mb) : m.enc.length = 5 := rfl
theorem Mb.enc_one (m : Mb) : ∀ u ∈ m.enc, u.oneCell' = true := by
  intro u hu
  simp [Mb.enc] at hu
  rcases hu with rfl | rfl | rfl | rfl | rfl <;> rfl
instance : FlatRow Mb.row := ⟨fun x u hu => by simp [Mb.row] at hu; rcases hu with rfl | rfl | rfl | rfl | rfl <;> exact ⟨_, rfl⟩⟩
def Mb.ok (m : Mb) : Prop := m.n.size ≤ 9223372036854775807
/-- what is wrong with one member -/
def Mb.err (m : Mb) : Int := if lab m.n.data.toList then (if wi m.st 1 4 then (if wi m.lf 1 1000000 && wi m.ad 0 4294967295 then 0 else 3) else 7) else 1
def Mb.lt (g h : Mb) : Bool := slt g.n h.n
def ckMb (l : List Mb) : Int := ckL 20 Mb.err Mb.lt l
def Mb.cf (name : ByteArray) (g : Mb) : Int := scmp g.n name
def Mb.kf (g x : Mb) : Int := Mb.cf g.n x
/-- the comparison of two of one name -/
def Mb.cmp (g x : Mb) : Int := firstNZ [icmp g.lf x.lf, icmp g.st x.st, icmp g.ad x.ad, icmp (b2i g.sv) (b2i x.sv)]
def Mb.nw (g x : Mb) : Bool := decide (0 < Mb.cmp g x)
def Mb.is (name : ByteArray) (m : Mb) : Bool := m.n.toList == name.toList
def Mb.same (g h : Mb) : Bool := (g.n.toList == h.n.toList) && ((g.st == h.st) && ((g.lf == h.lf) && ((g.ad == h.ad) && ((g.sv == h.sv) && true))))
theorem Mb.same_iff {g h : Mb} : Mb.same g h = true ↔ g = h := by
  obtain ⟨a, b, c, d, e⟩ := g
  obtain ⟨a', b', c', d', e'⟩ := h
  have tl : ∀ a b : ByteArray, a.toList = b.toList ↔ a = b := fun a b => ⟨toList_inj, fun h => by rw [h]⟩
  simp only [Mb.same, Bool.and_true, Bool.and_eq_true, beq_iff_eq, tl, Mb.mk.injEq]
theorem Mb.err_cases (m : Mb) : m.err = 0 ∨ m.err = 1 ∨ m.err = 3 ∨ m.err = 7 := by
  unfold Mb.err
  split
  · split
    · split <;> simp
    · simp
  · simp
theorem Mb.lt_trans (x y z : Mb) (h1 : Mb.lt x y = true) (h2 : Mb.lt y z = true) : Mb.lt x z = true := slt_trans h1 h2
theorem Mb.ord : Ord Mb.lt Mb.kf where
  neg := fun g x => by unfold Mb.kf Mb.cf Mb.lt; exact scmp_neg
  pos := fun g x => by
    unfold Mb.kf Mb.cf Mb.lt
    constructor
    · intro h
      rcases Bool.eq_false_or_eq_true (slt g.n x.n) with q | q
      · exact q
      · rcases Bool.eq_false_or_eq_true (slt x.n g.n) with p | p
        · rw [scmp_lt p] at h; omega
        · have := slt_tri q p
          rw [this, scmp_eq] at h; omega
    · intro h; rw [scmp_gt h]; omega
  trans := Mb.lt_trans
  left := fun g x y h => by
    unfold Mb.kf Mb.cf at h
    rw [scmp_zero] at h
    unfold Mb.lt; rw [h]
  right := fun g x y h => by
    unfold Mb.kf Mb.cf at h
    rw [scmp_zero] at h
    unfold Mb.lt; rw [h]
theorem Mb.lt_cf (name : ByteArray) (x y : Mb) (h : Mb.lt x y = true) (hy : Mb.cf name y ≤ 0) : Mb.cf name x < 0 := by
  unfold Mb.cf at *
  rw [scmp_neg]
  rcases Bool.eq_false_or_eq_true (slt y.n name) with g | g
  · exact slt_trans h g
  · have h0 : scmp y.n name = 0 := by
      rcases (by omega : scmp y.n name < 0 ∨ scmp y.n name = 0) with q | q
      · rw [scmp_neg] at q; rw [q] at g; cases g
      · exact q
    rw [scmp_zero] at h0
    rw [← h0]
    exact h
theorem ckMb_inv {l : List Mb} (h : ckMb l = 0) : l.length ≤ 20 ∧ (∀ i, (hi : i < l.length) → (l[i]).err = 0) ∧ sorted Mb.lt l = true := ckL_inv Mb.err_cases h
theorem Mb.smono {l : List Mb} (h : sorted Mb.lt l = true) (name : ByteArray) : SMono (Mb.cf name) l := smono_of Mb.lt_trans (Mb.lt_cf name) h
/-- does one stand behind, or where the other one stands? -/
def Mb.ge (m x : Mb) : Bool := !(Op.bytesLess x.n.toList m.n.toList)
def Mb.ne (m x : Mb) : Bool := !(x.n.toList == m.n.toList)
theorem Mb.ge_eq (m : Mb) : Mb.ge m = fun x => decide (0 ≤ Mb.kf m x) := by
  funext x
  have h := scmp_neg (a := x.n) (b := m.n)
  unfold Mb.ge Mb.kf Mb.cf
  unfold slt at h
  cases hb : Op.bytesLess x.n.toList m.n.toList with
  | true => have := h.2 hb; simp; omega
  | false =>
    have : ¬ scmp x.n m.n < 0 := fun e => by rw [h.1 e] at hb; cases hb
    simp; omega
theorem Mb.is_eq (name : ByteArray) : Mb.is name = fun x => decide (Mb.cf name x = 0) := by
  funext x
  unfold Mb.is Mb.cf
  by_cases h : x.n = name
  · rw [h, scmp_eq]; simp
  · have h2 : scmp x.n name ≠ 0 := fun e => h (scmp_zero.1 e)
    rw [seq_no h]; simp [h2]
theorem Mb.ne_eq (m : Mb) : Mb.ne m = fun x => decide (Mb.kf m x ≠ 0) := by
  funext x
  have := congrFun (Mb.is_eq m.n) x
  unfold Mb.is at this
  unfold Mb.ne Mb.kf
  rw [this]; simp
theorem Mb.at_eq {l : List Mb} (hs : sorted Mb.lt l = true) (name : ByteArray) : at_ (Mb.is name) l = if hit (Mb.cf name) l = true then (low (Mb.cf name) l : Int) else -1 := by
  rw [Mb.is_eq]; exact at_sorted (Mb.smono hs name)
theorem Mb.putL_eq {l : List Mb} (hs : sorted Mb.lt l = true) {m : Mb} (h : hearF Mb.kf Mb.nw l m = true) : putL (Mb.ge m) (Mb.ne m) m l = upd Mb.kf Mb.nw l m := by
  rw [Mb.ge_eq, Mb.ne_eq, upd_put h]
  exact putL_sorted (Mb.smono hs m.n) m
/-- what Hear gives: what is wrong, the members, and whether it was news -/
def hearM (l : List Mb) (m : Mb) : Int × List Mb × Bool :=
  if ckMb l ≠ 0 then (ckMb l, [], false) else if m.err ≠ 0 then (m.err, [], false) else if 20 < (upd Mb.kf Mb.nw l m).length then (2, [], false) else (0, upd Mb.kf Mb.nw l m, hearF Mb.kf Mb.nw l m)
theorem hearM_ck {l : List Mb} {m : Mb} (h : ckMb l ≠ 0) : hearM l m = (ckMb l, [], false) := by simp [hearM, h]
theorem hearM_one {l : List Mb} {m : Mb} (h : ckMb l = 0) (h1 : m.err ≠ 0) : hearM l m = (m.err, [], false) := by simp [hearM, h, h1]
theorem hearM_many {l : List Mb} {m : Mb} (h : ckMb l = 0) (h1 : m.err = 0) (h2 : 20 < (upd Mb.kf Mb.nw l m).length) : hearM l m = (2, [], false) := by simp [hearM, h, h1, h2]
theorem hearM_ok {l : List Mb} {m : Mb} (h : ckMb l = 0) (h1 : m.err = 0) (h2 : ¬ 20 < (upd Mb.kf Mb.nw l m).length) : hearM l m = (0, upd Mb.kf Mb.nw l m, hearF Mb.kf Mb.nw l m) := by simp [hearM, h, h1, h2]
/-- what Join gives -/
def joinM (a b : List Mb) : Int × List Mb :=
  if ckMb a ≠ 0 then (ckMb a, []) else if ckMb b ≠ 0 then (ckMb b, []) else if 20 < (joinL Mb.kf Mb.nw a b).length then (2, []) else (0, joinL Mb.kf Mb.nw a b)
theorem joinM_bad {a b : List Mb} (h : firstErr ckMb [a, b] ≠ 0) : joinM a b = (firstErr ckMb [a, b], []) := by
  by_cases h1 : ckMb a = 0
  · by_cases h2 : ckMb b = 0
    · simp [firstErr, h1, h2] at h
    · simp [joinM, firstErr, h1, h2]
  · simp [joinM, firstErr, h1]
theorem first_two {α : Type} {e : α → Int} {a b : α} (h : firstErr e [a, b] = 0) : e a = 0 ∧ e b = 0 := by
  by_cases h1 : e a = 0
  · by_cases h2 : e b = 0
    · exact ⟨h1, h2⟩
    · simp [firstErr, h1, h2] at h
  · simp [firstErr, h1] at h
theorem joinM_many {a b : List Mb} (h : ckMb a = 0) (h1 : ckMb b = 0) (h2 : 20 < (joinL Mb.kf Mb.nw a b).length) : joinM a b = (2, []) := by simp [joinM, h, h1, h2]
theorem joinM_ok {a b : List Mb} (h : ckMb a = 0) (h1 : ckMb b = 0) (h2 : ¬ 20 < (joinL Mb.kf Mb.nw a b).length) : joinM a b = (0, joinL Mb.kf Mb.nw a b) := by simp [joinM, h, h1, h2]
/-- one that lives again -/
def Mb.up (x : Mb) : Mb := ⟨x.n, 1, x.lf + 1, x.ad, x.sv⟩
theorem Mb.up_nw (x : Mb) : Mb.nw x.up x = true := by
  have h : x.up.lf ≠ x.lf := by show x.lf + 1 ≠ x.lf; omega
  unfold Mb.nw Mb.cmp
  rw [nz_ne (by simpa using h)]
  exact decide_eq_true (by show x.lf < x.lf + 1; omega)
/-- what Refute gives, of members that are right -/
def refR (l : List Mb) (me : ByteArray) : Int × List Mb × Bool := match l[low (Mb.cf me) l]? with
  | some x => if hit (Mb.cf me) l = true then (if x.st = 1 then (0, l, false) else if x.st = 4 then (0, l, false) else if x.lf = 1000000 then (3, [], false) else (0, l.set (low (Mb.cf me) l) x.up, true)) else (0, l, false)
  | none => (0, l, false)
def refM (l : List Mb) (me : ByteArray) : Int × List Mb × Bool :=
  if ckMb l ≠ 0 then (ckMb l, [], false) else if lab me.data.toList = false then (1, [], false) else refR l me
theorem refR_miss {l : List Mb} {me : ByteArray} (h : hit (Mb.cf me) l = false) : refR l me = (0, l, false) := by unfold refR; split <;> simp [h]
theorem refR_hit {l : List Mb} {me : ByteArray} (h : hit (Mb.cf me) l = true) : refR l me = (if (l[low (Mb.cf me) l]'(hit_lt h)).st = 1 then (0, l, false) else if (l[low (Mb.cf me) l]'(hit_lt h)).st = 4 then (0, l, false) else if (l[low (Mb.cf me) l]'(hit_lt h)).lf = 1000000 then (3, [], false) else (0, l.set (low (Mb.cf me) l) (l[low (Mb.cf me) l]'(hit_lt h)).up, true)) := by
  unfold refR; rw [List.getElem?_eq_getElem (hit_lt h)]; simp [h]
theorem refM_ck {l : List Mb} {me : ByteArray} (h : ckMb l ≠ 0) : refM l me = (ckMb l, [], false) := by simp [refM, h]
theorem refM_lab {l : List Mb} {me : ByteArray} (h : ckMb l = 0) (h1 : lab me.data.toList = false) : refM l me = (1, [], false) := by simp [refM, h, h1]
theorem refM_ok {l : List Mb} {me : ByteArray} (h : ckMb l = 0) (h1 : lab me.data.toList = true) : refM l me = refR l me := by simp [refM, h, h1]
/-- the same key: the same place -/
theorem Mb.up_upd {l : List Mb} {me : ByteArray} (h : hit (Mb.cf me) l = true) : upd Mb.kf Mb.nw l (l[low (Mb.cf me) l]'(hit_lt h)).up = l.set (low (Mb.cf me) l) (l[low (Mb.cf me) l]'(hit_lt h)).up := by
  have h0 : (l[low (Mb.cf me) l]'(hit_lt h)).n = me := scmp_zero.1 (hit_zero h)
  have e : Mb.kf (l[low (Mb.cf me) l]'(hit_lt h)).up = Mb.cf me := by funext x; show Mb.cf (l[low (Mb.cf me) l]'(hit_lt h)).n x = _; rw [h0]
  have h1 : hit (Mb.kf (l[low (Mb.cf me) l]'(hit_lt h)).up) l = true := by rw [e]; exact h
  have hlow : low (Mb.kf (l[low (Mb.cf me) l]'(hit_lt h)).up) l = low (Mb.cf me) l := by rw [e]
  have := upd_set (nw := Mb.nw) (cf := Mb.kf) hlow (hit_lt h) (Mb.up_nw _)
  rw [this]; simp only [putAt, h1, hlow, if_true]
theorem Mb.up_hear {l : List Mb} {me : ByteArray} (h : hit (Mb.cf me) l = true) : hearF Mb.kf Mb.nw l (l[low (Mb.cf me) l]'(hit_lt h)).up = true := by
  have h0 : (l[low (Mb.cf me) l]'(hit_lt h)).n = me := scmp_zero.1 (hit_zero h)
  have e : Mb.kf (l[low (Mb.cf me) l]'(hit_lt h)).up = Mb.cf me := by funext x; show Mb.cf (l[low (Mb.cf me) l]'(hit_lt h)).n x = _; rw [h0]
  unfold hearF
  rw [e, List.getElem?_eq_getElem (hit_lt h)]
  simp [h, Mb.up_nw]
def liveS (l : List Mb) : List ByteArray := (l.filter fun m => decide (m.st ≤ 2)).map (·.n)
theorem liveS_next {l : List Mb} {k : Nat} (hk : k < l.length) : liveS (l.take (k + 1)) = if (l[k]).st ≤ 2 then liveS (l.take k) ++ [(l[k]).n] else liveS (l.take k) := by
  unfold liveS
  rw [take_snoc_ hk, List.filter_append, List.map_append]
  split <;> rename_i h <;> simp [h]
theorem liveS_len (l : List Mb) : (liveS l).length ≤ l.length := by unfold liveS; rw [List.length_map]; exact List.length_filter_le _ _
def liveM (l : List Mb) : Int × List ByteArray := if ckMb l ≠ 0 then (ckMb l, []) else (0, liveS l)
theorem Mb.err_inv {m : Mb} (h : m.err = 0) : lab m.n.data.toList = true ∧ (1 ≤ m.st ∧ m.st ≤ 4) ∧ (1 ≤ m.lf ∧ m.lf ≤ 1000000) ∧ (0 ≤ m.ad ∧ m.ad ≤ 4294967295) := by
  unfold Mb.err at h
  split at h
  · rename_i h1
    split at h
    · rename_i h2
      split at h
      · rename_i h3
        rw [Bool.and_eq_true, wi_iff, wi_iff] at h3
        exact ⟨h1, wi_iff.1 h2, h3⟩
      · omega
    · omega
  · omega
theorem refM_a {A : ByteArray} (h : lab A.data.toList = true) : refM [⟨A, 2, 1, 0, false⟩] A = (0, [⟨A, 1, 2, 0, false⟩], true) := by
  have h0 : ckMb [⟨A, 2, 1, 0, false⟩] = 0 := by
    simp [ckMb, ckL, firstErr, sorted, Mb.err, h, wi]
  rw [refM_ok h0 h]
  simp [refR, low, hit, Mb.cf, scmp_eq, Mb.up]
theorem mb_dec (row : List V) (h : Fits [.s, .i, .i, .i, .b] row) : ∃ m : Mb, row = m.row ∧ m.ok := by
  obtain ⟨u0, _, rfl, f0, h⟩ := fits_cons h
  obtain ⟨u1, _, rfl, f1, h⟩ := fits_cons h
  obtain ⟨u2, _, rfl, f2, h⟩ := fits_cons h
  obtain ⟨u3, _, rfl, f3, h⟩ := fits_cons h
  obtain ⟨u4, _, rfl, f4, h⟩ := fits_cons h
  obtain rfl := fits_nil h
  obtain ⟨n, rfl, hn⟩ := fit_s f0
  obtain ⟨a, rfl, _⟩ := fit_i f1
  obtain ⟨b, rfl, _⟩ := fit_i f2
  obtain ⟨c, rfl, _⟩ := fit_i f3
  obtain ⟨d, rfl⟩ := fit_b f4
  exact ⟨⟨n, a, b, c, d⟩, rfl, hn⟩
end Go.Proofs.Ytjhdlcmecbngkaa.Pl
/- Plain: rumors, as rows. -/
namespace Go.Proofs.Ytjhdlcmecbngkaa.Pl
set_option linter.unusedVariables false
structure Ru where
  m : Mb
  t : Int
def Ru.row (r : Ru) : List V := [.v (.string r.m.n), .v (.int .i64 r.m.st), .v (.int .i64 r.m.lf), .v (.int .i64 r.m.ad), .v (.bool r.m.sv), .v (.int .i64 r.t)]
instance : FlatRow Ru.row := ⟨fun x u hu => by simp [Ru.row] at hu; rcases hu with rfl | rfl | rfl | rfl | rfl | rfl <;> exact ⟨_, rfl⟩⟩
instance : OneRow Ru.row 6 := ⟨fun _ => rfl, fun x u hu => by simp [Ru.row] at hu; rcases hu with rfl | rfl | rfl | rfl | rfl | rfl <;> exact ⟨_, rfl, rfl⟩⟩
instance : OneRow Mb.row 5 := ⟨fun _ => rfl, fun x u hu => by simp [Mb.row] at hu; rcases hu with rfl | rfl | rfl | rfl | rfl <;> exact ⟨_, rfl, rfl⟩⟩
def Ru.ok (r : Ru) : Prop := r.m.ok
theorem ru_dec (row : List V) (h : Fits [.s, .i, .i, .i, .b, .i] row) : ∃ m : Ru, row = m.row ∧ m.ok := by
  obtain ⟨u0, _, rfl, f0, h⟩ := fits_cons h
  obtain ⟨u1, _, rfl, f1, h⟩ := fits_cons h
  obtain ⟨u2, _, rfl, f2, h⟩ := fits_cons h
  obtain ⟨u3, _, rfl, f3, h⟩ := fits_cons h
  obtain ⟨u4, _, rfl, f4, h⟩ := fits_cons h
  obtain ⟨u5, _, rfl, f5, h⟩ := fits_cons h
  obtain rfl := fits_nil h
  obtain ⟨n, rfl, hn⟩ := fit_s f0
  obtain ⟨a, rfl, _⟩ := fit_i f1
  obtain ⟨b, rfl, _⟩ := fit_i f2
  obtain ⟨c, rfl, _⟩ := fit_i f3
  obtain ⟨d, rfl⟩ := fit_b f4
  obtain ⟨e, rfl, _⟩ := fit_i f5
  exact ⟨⟨⟨n, a, b, c, d⟩, e⟩, rfl, hn⟩
end Go.Proofs.Ytjhdlcmecbngkaa.Pl
