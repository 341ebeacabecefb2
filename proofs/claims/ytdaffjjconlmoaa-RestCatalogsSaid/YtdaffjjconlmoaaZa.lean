/- Texts of this claim, joined. -/
import Derived.WalkKit
import Derived.Test.YtdaffjjconlmoaaProg
import Derived.Test.YtdaffjjconlmoaaAbsQ
import Derived.KernelRfl
import Derived.Test.YtdaffjjconlmoaaRows
import Derived.ProofKit
import Derived.OpenShut
import Derived.Below
import Derived.ChangeSame
import Derived.Test.YtdaffjjconlmoaaAbsG
import Derived.Deep.Slices
import Derived.Deep.Fields
import Derived.Lib.SmallJoins
import Derived.WalkSmall
import Derived.WalkLawsBesides
import Derived.BigGuardPart
import Derived.Deep.Light
import Derived.Laws.IdiomStrings
import Derived.Laws.CopyRow
import Derived.Laws.CopyOwn
import Derived.Deep.RegionLaw
import Derived.Lib.AppendZerosOnto
import Derived.Lib.Overlaps
import Derived.Laws.Externs
import Derived.OwnWalk
import Derived.Maps.AppendAt
import Derived.Deep.AppendLies
/- Plain: the order of texts, byte by byte. -/
namespace Go.Proofs.Ytdaffjjconlmoaa.Pl
set_option linter.unusedVariables false

theorem bl_irrefl : ∀ x : List UInt8, Op.bytesLess x x = false
  | [] => rfl
  | a :: x => by simp [Op.bytesLess, bl_irrefl x, UInt8.lt_irrefl]
theorem bl_trans : ∀ {x y z : List UInt8}, Op.bytesLess x y = true → Op.bytesLess y z = true → Op.bytesLess x z = true
  | [], _ :: _, [], _, h => by simp [Op.bytesLess] at h
  | _, [], _, h, _ => by cases ‹List UInt8› <;> simp [Op.bytesLess] at h
  | [], b :: y, c :: z, _, _ => rfl
  | a :: x, b :: y, [], _, h => by simp [Op.bytesLess] at h
  | a :: x, b :: y, c :: z, h1, h2 => by
    simp only [Op.bytesLess, Bool.or_eq_true, decide_eq_true_eq, Bool.and_eq_true, beq_iff_eq] at h1 h2 ⊢
    rcases h1 with h1 | ⟨rfl, h1⟩
    · rcases h2 with h2 | ⟨rfl, h2⟩
      · exact .inl (UInt8.lt_trans h1 h2)
      · exact .inl h1
    · rcases h2 with h2 | ⟨rfl, h2⟩
      · exact .inl h2
      · exact .inr ⟨rfl, bl_trans h1 h2⟩
theorem bl_tri : ∀ {x y : List UInt8}, Op.bytesLess x y = false → Op.bytesLess y x = false → x = y
  | [], [], _, _ => rfl
  | [], b :: y, h, _ => by simp [Op.bytesLess] at h
  | a :: x, [], _, h => by simp [Op.bytesLess] at h
  | a :: x, b :: y, h1, h2 => by
    simp only [Op.bytesLess, Bool.or_eq_false_iff, decide_eq_false_iff_not, Bool.and_eq_false_iff] at h1 h2
    have hab : a = b := by
      have g1 : ¬ a.toNat < b.toNat := h1.1
      have g2 : ¬ b.toNat < a.toNat := h2.1
      exact UInt8.toNat_inj.1 (by omega)
    subst hab
    have e1 : Op.bytesLess x y = false := by rcases h1.2 with h | h <;> simp_all
    have e2 : Op.bytesLess y x = false := by rcases h2.2 with h | h <;> simp_all
    rw [bl_tri e1 e2]
/-- does one text stand ahead of another? -/
def slt (a b : ByteArray) : Bool := Op.bytesLess a.toList b.toList
theorem toList_inj {a b : ByteArray} (h : a.toList = b.toList) : a = b := by
  rw [ByteArray.toList_eq, ByteArray.toList_eq] at h
  cases a; cases b
  congr
  exact Array.toList_inj.1 h
theorem slt_irrefl (a : ByteArray) : slt a a = false := bl_irrefl _
theorem slt_trans {a b c : ByteArray} (h1 : slt a b = true) (h2 : slt b c = true) : slt a c = true := bl_trans h1 h2
theorem slt_tri {a b : ByteArray} (h1 : slt a b = false) (h2 : slt b a = false) : a = b := toList_inj (bl_tri h1 h2)
theorem slt_asymm {a b : ByteArray} (h1 : slt a b = true) : slt b a = false := by
  rcases Bool.eq_false_or_eq_true (slt b a) with h | h
  · have := slt_trans h1 h; rw [slt_irrefl] at this; cases this
  · exact h
theorem slt_ne {a b : ByteArray} (h1 : slt a b = true) : a ≠ b := by
  rintro rfl
  rw [slt_irrefl] at h1; cases h1
theorem seq_iff {a b : ByteArray} : (a.toList == b.toList) = true ↔ a = b := by
  rw [beq_iff_eq]; exact ⟨toList_inj, fun h => by rw [h]⟩
theorem seq_no {a b : ByteArray} (h : a ≠ b) : (a.toList == b.toList) = false := by
  rcases Bool.eq_false_or_eq_true (a.toList == b.toList) with g | g
  · exact absurd (seq_iff.1 g) h
  · exact g
/-- what '<=' says -/
theorem sle_eq (a b : ByteArray) : (Op.bytesLess a.toList b.toList || a.toList == b.toList) = !(slt b a) := by
  rcases Bool.eq_false_or_eq_true (slt b a) with h | h
  · rw [h]
    have h1 := slt_asymm h
    unfold slt at h1
    rw [h1, seq_no (fun e => by subst e; rw [slt_irrefl] at h; cases h)]
    rfl
  · rw [h]
    rcases Bool.eq_false_or_eq_true (slt a b) with g | g
    · unfold slt at g; rw [g]; rfl
    · have := slt_tri g h
      subst this
      simp
end Go.Proofs.Ytdaffjjconlmoaa.Pl
/- Plain: looking a thing up in a sorted list. No program in sight (but for the order of texts). -/
namespace Go.Proofs.Ytdaffjjconlmoaa.Pl
set_option linter.unusedVariables false

/-- three ways -/
def scmp (a b : ByteArray) : Int := if slt a b then -1 else if slt b a then 1 else 0
theorem scmp_lt {a b : ByteArray} (h : slt a b = true) : scmp a b = -1 := by simp [scmp, h]
theorem scmp_gt {a b : ByteArray} (h : slt b a = true) : scmp a b = 1 := by simp [scmp, slt_asymm h, h]
theorem scmp_eq (a : ByteArray) : scmp a a = 0 := by simp [scmp, slt_irrefl]
theorem scmp_neg {a b : ByteArray} : scmp a b < 0 ↔ slt a b = true := by
  unfold scmp
  split
  · simp_all
  · split <;> simp_all
theorem scmp_zero {a b : ByteArray} : scmp a b = 0 ↔ a = b := by
  unfold scmp
  split
  · rename_i h
    exact ⟨fun e => by omega, fun e => by subst e; rw [slt_irrefl] at h; cases h⟩
  · split
    · rename_i h
      exact ⟨fun e => by omega, fun e => by subst e; rw [slt_irrefl] at h; cases h⟩
    · rename_i h1 h2
      exact ⟨fun _ => slt_tri (by simpa using h1) (by simpa using h2), fun _ => rfl⟩
theorem scmp_bd (a b : ByteArray) : -1 ≤ scmp a b ∧ scmp a b ≤ 1 := by
  unfold scmp; split
  · omega
  · split <;> omega

section
variable {α : Type} {cf : α → Int} {l : List α}
/-- how many stand ahead -/
def low (cf : α → Int) : List α → Nat
  | [] => 0
  | x :: r => if cf x < 0 then low cf r + 1 else 0
/-- those ahead stand ahead of all others -/
def Mono (cf : α → Int) (l : List α) : Prop := ∀ i j, (hi : i < l.length) → (hj : j < l.length) → i ≤ j → cf l[j] < 0 → cf l[i] < 0
theorem low_le : ∀ l : List α, low cf l ≤ l.length
  | [] => Nat.le_refl _
  | x :: r => by simp only [low, List.length_cons]; split <;> have := low_le r <;> omega
theorem low_lt : ∀ {l : List α} {i : Nat} (hi : i < l.length), i < low cf l → cf l[i] < 0
  | x :: r, 0, _, h => by
    simp only [low] at h
    split at h
    · assumption
    · omega
  | x :: r, i + 1, hi, h => by
    simp only [low] at h
    split at h
    · exact low_lt (l := r) (by simpa using hi) (by omega)
    · omega
theorem low_ge : ∀ {l : List α} (h : low cf l < l.length), 0 ≤ cf l[low cf l]
  | [], h => by simp at h
  | x :: r, h => by
    by_cases hx : cf x < 0
    · have e : low cf (x :: r) = low cf r + 1 := by simp [low, hx]
      have h' : low cf r < r.length := by rw [e] at h; simpa using h
      have := low_ge h'
      simp only [e, List.getElem_cons_succ]
      exact this
    · have e : low cf (x :: r) = 0 := by simp [low, hx]
      simp only [e, List.getElem_cons_zero]
      omega
/-- what the search leaves: all below a stand ahead, none from a on -/
theorem low_uniq {a : Nat} (ha : a ≤ l.length) (h1 : ∀ i, (hi : i < l.length) → i < a → cf l[i] < 0) (h2 : ∀ i, (hi : i < l.length) → a ≤ i → 0 ≤ cf l[i]) : a = low cf l := by
  have hl := low_le (cf := cf) l
  rcases Nat.lt_trichotomy a (low cf l) with h | h | h
  · have := low_lt (cf := cf) (l := l) (i := a) (by omega) h
    have := h2 a (by omega) (Nat.le_refl _)
    omega
  · exact h
  · have := low_ge (cf := cf) (l := l) (by omega)
    have := h1 (low cf l) (by omega) h
    omega
/-- is it there? -/
def hit (cf : α → Int) (l : List α) : Bool := match l[low cf l]? with
  | some x => decide (cf x = 0)
  | none => false
theorem hit_in (h : low cf l < l.length) : hit cf l = decide (cf l[low cf l] = 0) := by simp [hit, h]
theorem hit_out (h : ¬ low cf l < l.length) : hit cf l = false := by
  have : l[low cf l]? = none := List.getElem?_eq_none (by omega)
  simp [hit, this]
end
end Go.Proofs.Ytdaffjjconlmoaa.Pl
/- Plain: lists that are checked element by element, and for order. No program in sight. -/
namespace Go.Proofs.Ytdaffjjconlmoaa.Pl
set_option linter.unusedVariables false
section
variable {α : Type}

/-- the first thing that is wrong; 0: nothing is -/
def firstErr (e : α → Int) : List α → Int
  | [] => 0
  | x :: r => if e x = 0 then firstErr e r else e x
/-- does each stand ahead of the next? -/
def sorted (lt : α → α → Bool) : List α → Bool
  | [] => true
  | [_] => true
  | x :: y :: r => lt x y && sorted lt (y :: r)
/-- what is wrong with a list of so many at most -/
def ckL (mx : Nat) (e : α → Int) (lt : α → α → Bool) (l : List α) : Int :=
  if mx < l.length then 2 else if firstErr e l = 0 then (if sorted lt l then 0 else 4) else firstErr e l

theorem firstErr_zero {e : α → Int} : ∀ {l : List α}, (∀ i, (h : i < l.length) → e l[i] = 0) → firstErr e l = 0
  | [], _ => rfl
  | x :: r, h => by
    have h0 : e x = 0 := h 0 (by simp)
    simp only [firstErr, h0, if_true]
    exact firstErr_zero fun i hi => h (i + 1) (by simpa using hi)
theorem firstErr_at {e : α → Int} : ∀ {l : List α} {k : Nat} (hk : k < l.length), (∀ i, (h : i < l.length) → i < k → e l[i] = 0) → e l[k] ≠ 0 → firstErr e l = e l[k]
  | x :: r, 0, _, _, hne => by
    simp only [List.getElem_cons_zero] at hne ⊢
    simp [firstErr, hne]
  | x :: r, k + 1, hk, h, hne => by
    have h0 : e x = 0 := h 0 (by simp) (by omega)
    simp only [firstErr, h0, if_true, List.getElem_cons_succ] at hne ⊢
    exact firstErr_at (by simpa using hk) (fun i hi hik => h (i + 1) (by simpa using hi) (by omega)) hne
theorem sorted_of {lt : α → α → Bool} : ∀ {l : List α}, (∀ i, (h : i + 1 < l.length) → lt l[i] l[i + 1] = true) → sorted lt l = true
  | [], _ => rfl
  | [_], _ => rfl
  | x :: y :: r, h => by
    simp only [sorted, Bool.and_eq_true_iff]
    exact ⟨h 0 (by simp), sorted_of fun i hi => h (i + 1) (by simpa using hi)⟩
theorem sorted_not {lt : α → α → Bool} : ∀ {l : List α} {k : Nat} (hk : k + 1 < l.length), lt l[k] l[k + 1] = false → sorted lt l = false
  | [_], k, hk, _ => by simp at hk
  | x :: y :: r, 0, _, h => by
    simp only [List.getElem_cons_zero, List.getElem_cons_succ] at h
    simp [sorted, h]
  | x :: y :: r, k + 1, hk, h => by
    have : sorted lt (y :: r) = false := sorted_not (k := k) (by simpa using hk) (by simpa using h)
    simp [sorted, this]
theorem sorted_get {lt : α → α → Bool} : ∀ {l : List α}, sorted lt l = true → ∀ i, (h : i + 1 < l.length) → lt l[i] l[i + 1] = true
  | [], _, i, h => by simp at h
  | [_], _, i, h => by simp at h
  | x :: y :: r, hs, 0, _ => by
    simp only [sorted, Bool.and_eq_true_iff] at hs
    exact hs.1
  | x :: y :: r, hs, i + 1, h => by
    simp only [sorted, Bool.and_eq_true_iff] at hs
    exact sorted_get hs.2 i (by simpa using h)
theorem firstErr_get {e : α → Int} : ∀ {l : List α}, firstErr e l = 0 → ∀ i, (h : i < l.length) → e l[i] = 0
  | [], _, i, h => by simp at h
  | x :: r, hs, i, h => by
    by_cases h0 : e x = 0
    · simp only [firstErr, h0, if_true] at hs
      cases i with
      | zero => exact h0
      | succ i => exact firstErr_get hs i (by simpa using h)
    · simp [firstErr, h0] at hs

variable {mx : Nat} {e : α → Int} {lt : α → α → Bool} {l : List α}
theorem ckL_long (h : mx < l.length) : ckL mx e lt l = 2 := by simp [ckL, h]
theorem ckL_err {k : Nat} (h : l.length ≤ mx) (hk : k < l.length) (h0 : ∀ i, (hi : i < l.length) → i < k → e l[i] = 0) (h1 : e l[k] ≠ 0) : ckL mx e lt l = e l[k] := by
  have hf := firstErr_at hk h0 h1
  unfold ckL
  rw [if_neg (by omega), if_neg (by rw [hf]; exact h1), hf]
theorem ckL_unsorted {k : Nat} (h : l.length ≤ mx) (h0 : ∀ i, (hi : i < l.length) → e l[i] = 0) (hk : k + 1 < l.length) (h1 : lt l[k] l[k + 1] = false) : ckL mx e lt l = 4 := by
  unfold ckL
  rw [if_neg (by omega), if_pos (firstErr_zero h0), sorted_not hk h1]
  rfl
theorem ckL_ok (h : l.length ≤ mx) (h0 : ∀ i, (hi : i < l.length) → e l[i] = 0) (h1 : ∀ i, (hi : i + 1 < l.length) → lt l[i] l[i + 1] = true) : ckL mx e lt l = 0 := by
  unfold ckL
  rw [if_neg (by omega), if_pos (firstErr_zero h0), sorted_of h1]
  rfl
theorem ckL_inv (he : ∀ x, e x = 0 ∨ e x = 1 ∨ e x = 3 ∨ e x = 7) (h : ckL mx e lt l = 0) : l.length ≤ mx ∧ (∀ i, (hi : i < l.length) → e l[i] = 0) ∧ sorted lt l = true := by
  unfold ckL at h
  split at h
  · omega
  · split at h
    · rename_i h1 h2
      split at h
      · rename_i h3
        exact ⟨by omega, firstErr_get h2, h3⟩
      · omega
    · rename_i h1 h2
      exact absurd h h2
end
end Go.Proofs.Ytdaffjjconlmoaa.Pl
/- Plain: a list into which a thing is put in its place. No program in sight. -/
namespace Go.Proofs.Ytdaffjjconlmoaa.Pl
set_option linter.unusedVariables false
section
variable {α : Type}

/-- the first place at which p holds; -1: there is none -/
def at_ (p : α → Bool) (l : List α) : Int := match l.findIdx? p with
  | some i => (i : Int)
  | none => -1
theorem at_yes {p : α → Bool} {l : List α} {k : Nat} (hk : k < l.length) (h0 : ∀ i, (h : i < l.length) → i < k → p l[i] = false) (h1 : p l[k] = true) : at_ p l = k := by
  have : l.findIdx? p = some k := by
    rw [List.findIdx?_eq_some_iff_getElem]
    exact ⟨hk, h1, fun j hj => by simp [h0 j (by omega) hj]⟩
  simp [at_, this]
theorem at_no {p : α → Bool} {l : List α} (h0 : ∀ i, (h : i < l.length) → p l[i] = false) : at_ p l = -1 := by
  have : l.findIdx? p = none := by
    rw [List.findIdx?_eq_none_iff]
    intro x hx
    obtain ⟨i, hi, rfl⟩ := List.getElem_of_mem hx
    exact h0 i hi
  simp [at_, this]
theorem at_inv {p : α → Bool} {l : List α} : (at_ p l = -1 ∧ ∀ i, (h : i < l.length) → p l[i] = false) ∨ ∃ k, ∃ hk : k < l.length, at_ p l = (k : Int) ∧ p l[k] = true ∧ ∀ i, (h : i < l.length) → i < k → p l[i] = false := by
  cases h : l.findIdx? p with
  | none =>
    left
    refine ⟨by simp [at_, h], fun i hi => ?_⟩
    rw [List.findIdx?_eq_none_iff] at h
    exact h _ (List.getElem_mem hi)
  | some k =>
    right
    rw [List.findIdx?_eq_some_iff_getElem] at h
    obtain ⟨hk, h1, h2⟩ := h
    refine ⟨k, hk, ?_, h1, fun i hi hik => by simpa using h2 i hik⟩
    have : l.findIdx? p = some k := by
      rw [List.findIdx?_eq_some_iff_getElem]
      exact ⟨hk, h1, h2⟩
    simp [at_, this]

/-- one round: ahead of the first that does not stand ahead (ge) the new one is put; what has its key (not ne) is left out -/
def putStep (ge ne : α → Bool) (g : α) (st : List α × Bool) (x : α) : List α × Bool :=
  if (!st.2 && ge x) = true then (if ne x = true then (st.1 ++ [g] ++ [x], true) else (st.1 ++ [g], true))
  else (if ne x = true then (st.1 ++ [x], st.2) else st)
def putTo (ge ne : α → Bool) (g : α) (l : List α) : List α × Bool := l.foldl (putStep ge ne g) ([], false)
def putL (ge ne : α → Bool) (g : α) (l : List α) : List α := if (putTo ge ne g l).2 = true then (putTo ge ne g l).1 else (putTo ge ne g l).1 ++ [g]

theorem putTo_snoc {ge ne : α → Bool} {g : α} (l : List α) (x : α) : putTo ge ne g (l ++ [x]) = putStep ge ne g (putTo ge ne g l) x := by
  simp [putTo, List.foldl_append]
theorem take_snoc_ {l : List α} {k : Nat} (hk : k < l.length) : l.take (k + 1) = l.take k ++ [l[k]] := by
  rw [List.take_succ_eq_append_getElem hk]
theorem putTo_next {ge ne : α → Bool} {g : α} {l : List α} {k : Nat} (hk : k < l.length) : putTo ge ne g (l.take (k + 1)) = putStep ge ne g (putTo ge ne g (l.take k)) l[k] := by
  rw [take_snoc_ hk, putTo_snoc]
theorem putStep_len {ge ne : α → Bool} {g : α} (st : List α × Bool) (x : α) : (putStep ge ne g st x).1.length ≤ st.1.length + 2 := by
  unfold putStep
  split <;> split <;> simp
theorem putTo_len {ge ne : α → Bool} {g : α} : ∀ (n : Nat) (l : List α), l.length = n → (putTo ge ne g l).1.length ≤ 2 * n := by
  intro n
  induction n with
  | zero => intro l h; obtain rfl := List.eq_nil_of_length_eq_zero h; simp [putTo]
  | succ n ih =>
    intro l h
    have hk : n < l.length := by omega
    have e : l = l.take (n + 1) := (List.take_of_length_le (by omega)).symm
    rw [e, putTo_next hk]
    have h1 := ih (l.take n) (by rw [List.length_take]; omega)
    have h2 := putStep_len (ge := ge) (ne := ne) (g := g) (putTo ge ne g (l.take n)) l[n]
    omega

/-- all ahead of it: nothing is put yet -/
theorem putTo_ahead {ge ne : α → Bool} {g : α} {l : List α} (h1 : ∀ x ∈ l, ge x = false) (h2 : ∀ x ∈ l, ne x = true) : ∀ (k : Nat), k ≤ l.length → putTo ge ne g (l.take k) = (l.take k, false) := by
  intro k
  induction k with
  | zero => intro _; simp [putTo]
  | succ k ih =>
    intro hk
    have hk' : k < l.length := hk
    rw [putTo_next hk', ih (by omega), take_snoc_ hk']
    simp [putStep, h1 _ (List.getElem_mem hk'), h2 _ (List.getElem_mem hk')]
/-- behind: what is left is taken over -/
theorem putTo_behind {ge ne : α → Bool} {g : α} {pre : List α} {out : List α} (hp : putTo ge ne g pre = (out, true)) {r : List α} (h2 : ∀ x ∈ r, ne x = true) : ∀ (k : Nat), k ≤ r.length → putTo ge ne g (pre ++ r.take k) = (out ++ r.take k, true) := by
  intro k
  induction k with
  | zero => intro _; simp [hp]
  | succ k ih =>
    intro hk
    have hk' : k < r.length := hk
    rw [take_snoc_ hk', ← List.append_assoc, putTo_snoc, ih (by omega)]
    simp [putStep, h2 _ (List.getElem_mem hk')]

/-- put, where those ahead stand in front: not there: in between -/
theorem putL_new {ge ne : α → Bool} {g : α} {pre r : List α} (h1 : ∀ x ∈ pre, ge x = false) (h2 : ∀ x ∈ pre, ne x = true) (h3 : ∀ x ∈ r, ge x = true) (h4 : ∀ x ∈ r, ne x = true) :
    putL ge ne g (pre ++ r) = pre ++ [g] ++ r := by
  have hp : putTo ge ne g pre = (pre, false) := by simpa using putTo_ahead h1 h2 pre.length (Nat.le_refl _)
  cases r with
  | nil => simp [putL, hp]
  | cons x r =>
    have hx : putTo ge ne g (pre ++ [x]) = (pre ++ [g] ++ [x], true) := by
      rw [putTo_snoc, hp]
      simp [putStep, h3 x (by simp), h4 x (by simp)]
    have := putTo_behind hx (r := r) (fun y hy => h4 y (by simp [hy])) r.length (Nat.le_refl _)
    rw [List.take_length] at this
    have e : pre ++ x :: r = pre ++ [x] ++ r := by simp
    rw [e]
    unfold putL
    rw [this]
    simp
/-- there already: in its place -/
theorem putL_set {ge ne : α → Bool} {g x : α} {pre r : List α} (h1 : ∀ x ∈ pre, ge x = false) (h2 : ∀ x ∈ pre, ne x = true) (hx : ge x = true) (hx' : ne x = false) (h4 : ∀ x ∈ r, ne x = true) :
    putL ge ne g (pre ++ x :: r) = pre ++ g :: r := by
  have hp : putTo ge ne g pre = (pre, false) := by simpa using putTo_ahead h1 h2 pre.length (Nat.le_refl _)
  have hx2 : putTo ge ne g (pre ++ [x]) = (pre ++ [g], true) := by
    rw [putTo_snoc, hp]
    simp [putStep, hx, hx']
  have := putTo_behind hx2 (r := r) h4 r.length (Nat.le_refl _)
  rw [List.take_length] at this
  have e : pre ++ x :: r = pre ++ [x] ++ r := by simp
  rw [e]
  unfold putL
  rw [this]
  simp
end
end Go.Proofs.Ytdaffjjconlmoaa.Pl
/- Plain: sorted lists, what is found in them, and what is put into them. No program in sight. -/
namespace Go.Proofs.Ytdaffjjconlmoaa.Pl
set_option linter.unusedVariables false
section
variable {α : Type} {lt : α → α → Bool} {cf : α → Int} {l : List α}

theorem sorted_pair (htr : ∀ x y z, lt x y = true → lt y z = true → lt x z = true) (hs : sorted lt l = true) : ∀ j i, (hj : j < l.length) → (hij : i < j) → lt (l[i]'(by omega)) l[j] = true := by
  intro j
  induction j with
  | zero => intro i _ h; omega
  | succ j ih =>
    intro i hj hij
    have h1 := sorted_get hs j hj
    rcases (by omega : i < j ∨ i = j) with g | rfl
    · exact htr _ _ _ (ih i (by omega) g) h1
    · exact h1
/-- strictly: whoever stands ahead of one that is not behind the target stands ahead of the target -/
def SMono (cf : α → Int) (l : List α) : Prop := ∀ i j, (hj : j < l.length) → (hij : i < j) → cf l[j] ≤ 0 → cf (l[i]'(by omega)) < 0
theorem smono_of (htr : ∀ x y z, lt x y = true → lt y z = true → lt x z = true) (hcf : ∀ x y, lt x y = true → cf y ≤ 0 → cf x < 0) (hs : sorted lt l = true) : SMono cf l :=
  fun i j hj hij h => hcf _ _ (sorted_pair htr hs j i hj hij) h
theorem SMono.mono (h : SMono cf l) : Mono cf l := fun i j hi hj hij hc => by
  rcases (by omega : i < j ∨ i = j) with g | rfl
  · exact h i j hj g (by omega)
  · exact hc

theorem hit_lt (h : hit cf l = true) : low cf l < l.length := by
  rcases Nat.lt_or_ge (low cf l) l.length with g | g
  · exact g
  · rw [hit_out (by omega)] at h; cases h
theorem hit_zero (h : hit cf l = true) : cf (l[low cf l]'(hit_lt h)) = 0 := by
  have := hit_in (hit_lt h)
  rw [this] at h
  simpa using h
theorem low_ahead {x : α} (hx : x ∈ l.take (low cf l)) : cf x < 0 := by
  obtain ⟨i, hi, rfl⟩ := List.getElem_of_mem hx
  rw [List.length_take] at hi
  rw [List.getElem_take]
  exact low_lt (by omega) (by omega)
theorem low_behind (hm : SMono cf l) (h : hit cf l = false) {x : α} (hx : x ∈ l.drop (low cf l)) : 0 < cf x := by
  obtain ⟨i, hi, rfl⟩ := List.getElem_of_mem hx
  rw [List.length_drop] at hi
  rw [List.getElem_drop]
  have hlo : low cf l < l.length := by omega
  have h0 := low_ge hlo
  have h1 : cf l[low cf l] ≠ 0 := by
    rw [hit_in hlo] at h
    simpa using h
  rcases Nat.eq_zero_or_pos i with rfl | hp
  · simp only [Nat.add_zero]; omega
  · have := hm (low cf l) (low cf l + i) (by omega) (by omega)
    omega
theorem hit_behind (hm : SMono cf l) (h : hit cf l = true) {x : α} (hx : x ∈ l.drop (low cf l + 1)) : 0 < cf x := by
  obtain ⟨i, hi, rfl⟩ := List.getElem_of_mem hx
  rw [List.length_drop] at hi
  rw [List.getElem_drop]
  have h0 := hit_zero h
  have := hm (low cf l) (low cf l + 1 + i) (by omega) (by omega)
  omega
theorem split_at {k : Nat} (hk : k < l.length) : l = l.take k ++ l[k] :: l.drop (k + 1) := by
  rw [← List.drop_eq_getElem_cons hk, List.take_append_drop]

/-- what the reference finds -/
theorem at_sorted (hm : SMono cf l) : at_ (fun x => decide (cf x = 0)) l = if hit cf l = true then (low cf l : Int) else -1 := by
  split
  · rename_i h
    refine at_yes (hit_lt h) (fun i hi hlt => ?_) (by simpa using hit_zero h)
    have := low_lt (cf := cf) hi hlt
    simp; omega
  · rename_i h
    refine at_no fun i hi => ?_
    have hf : hit cf l = false := by simpa using h
    rcases Nat.lt_or_ge i (low cf l) with g | g
    · have := low_lt (cf := cf) hi g
      simp; omega
    · have hx : l[i] ∈ l.drop (low cf l) := by
        rw [List.mem_iff_getElem]
        exact ⟨i - low cf l, by rw [List.length_drop]; omega, by rw [List.getElem_drop]; congr 1; omega⟩
      have := low_behind hm hf hx
      simp; omega
/-- what the program puts: in its place, or in between -/
def putAt (cf : α → Int) (g : α) (l : List α) : List α := if hit cf l = true then l.set (low cf l) g else l.take (low cf l) ++ [g] ++ l.drop (low cf l)
theorem putL_sorted (hm : SMono cf l) (g : α) : putL (fun x => decide (0 ≤ cf x)) (fun x => decide (cf x ≠ 0)) g l = putAt cf g l := by
  unfold putAt
  split
  · rename_i h
    have hl := hit_lt h
    have e : l = l.take (low cf l) ++ l[low cf l] :: l.drop (low cf l + 1) := split_at hl
    have e2 : l.set (low cf l) g = l.take (low cf l) ++ g :: l.drop (low cf l + 1) := by
      rw [List.set_eq_take_append_cons_drop, if_pos hl]
    rw [e2]
    conv => lhs; arg 4; rw [e]
    refine putL_set (fun x hx => ?_) (fun x hx => ?_) ?_ ?_ (fun x hx => ?_)
    · have := low_ahead hx; simp; omega
    · have := low_ahead hx; simp; omega
    · have := hit_zero h; simp; omega
    · simpa using hit_zero h
    · have := hit_behind hm h hx; simp; omega
  · rename_i h
    have hf : hit cf l = false := by simpa using h
    conv => lhs; arg 4; rw [← List.take_append_drop (low cf l) l]
    refine putL_new (fun x hx => ?_) (fun x hx => ?_) (fun x hx => ?_) (fun x hx => ?_)
    · have := low_ahead hx; simp; omega
    · have := low_ahead hx; simp; omega
    · have := low_behind hm hf hx; simp; omega
    · have := low_behind hm hf hx; simp; omega
end
end Go.Proofs.Ytdaffjjconlmoaa.Pl
/- Plain: sorted lists that are joined. No program in sight. -/
namespace Go.Proofs.Ytdaffjjconlmoaa.Pl
set_option linter.unusedVariables false

/-- how things are held against each other: 'cf g x': x against g's key; 'lt': stands ahead -/
structure Ord {α : Type} (lt : α → α → Bool) (cf : α → α → Int) : Prop where
  neg : ∀ g x, cf g x < 0 ↔ lt x g = true
  pos : ∀ g x, 0 < cf g x ↔ lt g x = true
  trans : ∀ x y z, lt x y = true → lt y z = true → lt x z = true
  left : ∀ g x y, cf g x = 0 → lt x y = lt g y
  right : ∀ g x y, cf g x = 0 → lt y x = lt y g

section
variable {α : Type} {lt : α → α → Bool} {cf : α → α → Int} {l : List α}

theorem Ord.smono (o : Ord lt cf) (hs : sorted lt l = true) (g : α) : SMono (cf g) l :=
  smono_of o.trans (fun x y h hy => by
    rw [o.neg]
    rcases (by omega : cf g y < 0 ∨ cf g y = 0) with q | q
    · exact o.trans _ _ _ h ((o.neg g y).1 q)
    · rw [← o.right g y x q]; exact h) hs
theorem sorted_of_pair (h : ∀ j i, (hj : j < l.length) → (hij : i < j) → lt (l[i]'(by omega)) l[j] = true) : sorted lt l = true :=
  sorted_of fun i hi => h (i + 1) i hi (by omega)
theorem putAt_len (g : α) (cf : α → Int) : (putAt cf g l).length = if hit cf l = true then l.length else l.length + 1 := by
  unfold putAt
  have := low_le (cf := cf) l
  split
  · simp
  · simp; omega
theorem putAt_mem {cf : α → Int} {g x : α} (h : x ∈ putAt cf g l) : x = g ∨ x ∈ l := by
  unfold putAt at h
  split at h
  · rcases List.mem_or_eq_of_mem_set h with h | h
    · exact .inr h
    · exact .inl h
  · simp only [List.append_assoc, List.mem_append, List.mem_cons, List.not_mem_nil, or_false] at h
    rcases h with h | h | h
    · exact .inr (List.mem_of_mem_take h)
    · exact .inl h
    · exact .inr (List.mem_of_mem_drop h)
/-- sorted lists as chains -/
theorem sorted_iff (ht : ∀ x y z, lt x y = true → lt y z = true → lt x z = true) : sorted lt l = true ↔ l.Pairwise (fun x y => lt x y = true) := by
  constructor
  · intro h
    rw [List.pairwise_iff_getElem]
    intro i j hi hj hij
    exact sorted_pair ht h j i hj hij
  · intro h
    rw [List.pairwise_iff_getElem] at h
    exact sorted_of_pair fun j i hj hij => h i j (by omega) hj hij
theorem Ord.put (o : Ord lt cf) (hs : sorted lt l = true) (g : α) : sorted lt (putAt (cf g) g l) = true := by
  have hm := o.smono hs g
  rw [sorted_iff o.trans] at hs ⊢
  unfold putAt
  split
  · rename_i h
    have hl := hit_lt h
    have h0 := hit_zero h
    rw [List.set_eq_take_append_cons_drop, if_pos hl]
    have e := split_at hl
    rw [e] at hs
    rw [List.pairwise_append, List.pairwise_cons] at hs ⊢
    refine ⟨hs.1, ⟨fun y hy => ?_, hs.2.1.2⟩, fun x hx y hy => ?_⟩
    · rw [← o.left g _ y h0]; exact hs.2.1.1 y hy
    · rcases List.mem_cons.1 hy with rfl | hy
      · rw [← o.right _ _ x h0]; exact hs.2.2 x hx _ (List.mem_cons_self ..)
      · exact hs.2.2 x hx y (List.mem_cons_of_mem _ hy)
  · rename_i h
    have hf : hit (cf g) l = false := by simpa using h
    have e : l = l.take (low (cf g) l) ++ l.drop (low (cf g) l) := (List.take_append_drop _ _).symm
    rw [e, List.pairwise_append] at hs
    rw [List.append_assoc, List.pairwise_append, List.singleton_append, List.pairwise_cons]
    refine ⟨hs.1, ⟨fun y hy => (o.pos g y).1 (low_behind hm hf hy), hs.2.1⟩, fun x hx y hy => ?_⟩
    rcases List.mem_cons.1 hy with rfl | hy
    · exact (o.neg _ x).1 (low_ahead hx)
    · exact hs.2.2 x hx y hy

/-- put what is newer -/
def upd (cf : α → α → Int) (nw : α → α → Bool) (l : List α) (g : α) : List α :=
  match l[low (cf g) l]? with
  | some x => if hit (cf g) l = true ∧ nw g x = false then l else putAt (cf g) g l
  | none => putAt (cf g) g l
theorem upd_new {nw : α → α → Bool} {g : α} (h : hit (cf g) l = false) : upd cf nw l g = putAt (cf g) g l := by
  unfold upd; split <;> simp [h]
theorem upd_set {nw : α → α → Bool} {g : α} {lo : Nat} (hlo : low (cf g) l = lo) (hlt : lo < l.length) (h : nw g l[lo] = true) : upd cf nw l g = putAt (cf g) g l := by
  subst hlo
  unfold upd
  rw [List.getElem?_eq_getElem hlt]
  simp [h]
theorem upd_old {nw : α → α → Bool} {g : α} {lo : Nat} (hh : hit (cf g) l = true) (hlo : low (cf g) l = lo) (hlt : lo < l.length) (h : nw g l[lo] = false) : upd cf nw l g = l := by
  subst hlo
  unfold upd
  rw [List.getElem?_eq_getElem hlt]
  simp [h, hh]
theorem upd_cases (nw : α → α → Bool) (g : α) : upd cf nw l g = l ∨ upd cf nw l g = putAt (cf g) g l := by
  unfold upd
  split
  · split
    · exact .inl rfl
    · exact .inr rfl
  · exact .inr rfl
def joinL (cf : α → α → Int) (nw : α → α → Bool) (a b : List α) : List α := b.foldl (upd cf nw) a
theorem joinL_next {nw : α → α → Bool} {a b : List α} {k : Nat} (hk : k < b.length) : joinL cf nw a (b.take (k + 1)) = upd cf nw (joinL cf nw a (b.take k)) b[k] := by
  unfold joinL
  rw [take_snoc_ hk, List.foldl_append]
  rfl
theorem Ord.upd (o : Ord lt cf) (nw : α → α → Bool) (hs : sorted lt l = true) (g : α) : sorted lt (upd cf nw l g) = true := by
  rcases upd_cases (cf := cf) (l := l) nw g with h | h
  · rw [h]; exact hs
  · rw [h]; exact o.put hs g
theorem upd_len (nw : α → α → Bool) (g : α) : l.length ≤ (upd cf nw l g).length ∧ (upd cf nw l g).length ≤ l.length + 1 := by
  rcases upd_cases (cf := cf) (l := l) nw g with h | h
  · rw [h]; omega
  · rw [h, putAt_len]; split <;> omega
theorem upd_mem {nw : α → α → Bool} {g x : α} (h : x ∈ upd cf nw l g) : x = g ∨ x ∈ l := by
  rcases upd_cases (cf := cf) (l := l) nw g with e | e
  · rw [e] at h; exact .inr h
  · rw [e] at h; exact putAt_mem h
theorem Ord.join (o : Ord lt cf) (nw : α → α → Bool) : ∀ (b : List α) {a : List α}, sorted lt a = true → sorted lt (joinL cf nw a b) = true
  | [], a, h => h
  | g :: b, a, h => o.join nw b (o.upd nw h g)
theorem joinL_len (nw : α → α → Bool) : ∀ (b a : List α), a.length ≤ (joinL cf nw a b).length ∧ (joinL cf nw a b).length ≤ a.length + b.length
  | [], a => by simp [joinL]
  | g :: b, a => by
    have h1 := upd_len (cf := cf) (l := a) nw g
    have h2 := joinL_len nw b (upd cf nw a g)
    simp only [joinL, List.foldl_cons, List.length_cons] at *
    omega
theorem joinL_mem {nw : α → α → Bool} : ∀ {b a : List α} {x : α}, x ∈ joinL cf nw a b → x ∈ a ∨ x ∈ b
  | [], a, x, h => .inl h
  | g :: b, a, x, h => by
    rcases joinL_mem (b := b) (a := upd cf nw a g) h with h | h
    · rcases upd_mem h with rfl | h
      · exact .inr (by simp)
      · exact .inl h
    · exact .inr (by simp [h])
end
end Go.Proofs.Ytdaffjjconlmoaa.Pl
/- Plain: hearing of one more. No program in sight. -/
namespace Go.Proofs.Ytdaffjjconlmoaa.Pl
set_option linter.unusedVariables false
section
variable {α : Type} {cf : α → α → Int} {nw : α → α → Bool} {l : List α} {g : α}
/-- was it news? -/
def hearF (cf : α → α → Int) (nw : α → α → Bool) (l : List α) (g : α) : Bool := match l[low (cf g) l]? with
  | some x => !(hit (cf g) l) || nw g x
  | none => true
theorem hearF_miss (h : hit (cf g) l = false) : hearF cf nw l g = true := by unfold hearF; split <;> simp [h]
theorem hearF_hit (h : hit (cf g) l = true) : hearF cf nw l g = nw g (l[low (cf g) l]'(hit_lt h)) := by
  unfold hearF; rw [List.getElem?_eq_getElem (hit_lt h)]; simp [h]
theorem upd_miss (h : hit (cf g) l = false) : upd cf nw l g = l.take (low (cf g) l) ++ [g] ++ l.drop (low (cf g) l) := by
  rw [upd_new h]; simp [putAt, h]
theorem upd_newer (h : hit (cf g) l = true) (h2 : nw g (l[low (cf g) l]'(hit_lt h)) = true) : upd cf nw l g = l.set (low (cf g) l) g := by
  rw [upd_set rfl (hit_lt h) h2]; simp [putAt, h]
theorem upd_older (h : hit (cf g) l = true) (h2 : nw g (l[low (cf g) l]'(hit_lt h)) = false) : upd cf nw l g = l := upd_old h rfl (hit_lt h) h2
theorem upd_put (h : hearF cf nw l g = true) : upd cf nw l g = putAt (cf g) g l := by
  rcases Bool.eq_false_or_eq_true (hit (cf g) l) with q | q
  · rw [hearF_hit q] at h
    exact upd_set rfl (hit_lt q) h
  · exact upd_new q
end
end Go.Proofs.Ytdaffjjconlmoaa.Pl
/- Plain: two lists that are the same, element by element. No program in sight. -/
namespace Go.Proofs.Ytdaffjjconlmoaa.Pl
set_option linter.unusedVariables false
def sameL {α : Type} (e : α → α → Bool) (a b : List α) : Bool := decide (a.length = b.length) && (List.zip a b).all fun x => e x.1 x.2
theorem sameL_no {α : Type} {e : α → α → Bool} {a b : List α} (h : a.length ≠ b.length) : sameL e a b = false := by simp [sameL, h]
theorem sameL_at {α : Type} {e : α → α → Bool} {a b : List α} {k : Nat} (h1 : k < a.length) (h2 : k < b.length) (h : e a[k] b[k] = false) : sameL e a b = false := by
  unfold sameL
  rw [Bool.and_eq_false_iff]
  right
  rw [List.all_eq_false]
  have hz : k < (List.zip a b).length := by simp; omega
  exact ⟨(List.zip a b)[k], List.getElem_mem hz, by simp [h]⟩
theorem sameL_yes {α : Type} {e : α → α → Bool} {a b : List α} (hl : a.length = b.length) (h : ∀ k, (h1 : k < a.length) → (h2 : k < b.length) → e a[k] b[k] = true) : sameL e a b = true := by
  unfold sameL
  rw [Bool.and_eq_true_iff]
  refine ⟨by simpa using hl, List.all_eq_true.2 fun x hx => ?_⟩
  obtain ⟨k, hk, rfl⟩ := List.getElem_of_mem hx
  simp at hk ⊢
  exact h k (by omega) (by omega)
theorem sameL_refl {α : Type} {e : α → α → Bool} (he : ∀ x, e x x = true) (a : List α) : sameL e a a = true := sameL_yes rfl fun k _ _ => he _
theorem sameL_iff {α : Type} {e : α → α → Bool} (he : ∀ x y, e x y = true ↔ x = y) {a b : List α} : sameL e a b = true ↔ a = b := by
  constructor
  · intro h
    unfold sameL at h
    rw [Bool.and_eq_true_iff] at h
    have hl : a.length = b.length := by simpa using h.1
    apply List.ext_getElem hl
    intro i h1 h2
    have hz : i < (List.zip a b).length := by simp; omega
    have := List.all_eq_true.1 h.2 _ (List.getElem_mem hz)
    simp at this
    exact (he _ _).1 this
  · rintro rfl
    exact sameL_refl (fun x => (he x x).2 rfl) a
end Go.Proofs.Ytdaffjjconlmoaa.Pl
/- Plain: what a label is. No program in sight. -/
namespace Go.Proofs.Ytdaffjjconlmoaa.Pl
set_option linter.unusedVariables false

/-- may a byte stand in a label? -/
def okB (n : Int) : Bool := decide ((97 ≤ n ∧ n ≤ 122) ∨ (48 ≤ n ∧ n ≤ 57) ∨ n = 45 ∨ n = 95)
/-- is a text a label? -/
def lab (s : List UInt8) : Bool := s.all (fun c => okB c.toNat) && decide (1 ≤ s.length ∧ s.length ≤ 30)

theorem lab_yes {s : List UInt8} (h : ∀ i, (hi : i < s.length) → okB (s[i]).toNat = true) (h1 : 1 ≤ s.length) (h2 : s.length ≤ 30) : lab s = true := by
  unfold lab
  rw [Bool.and_eq_true_iff]
  refine ⟨List.all_eq_true.2 fun c hc => ?_, by simp; omega⟩
  obtain ⟨i, hi, rfl⟩ := List.getElem_of_mem hc
  exact h i hi
theorem lab_bad {s : List UInt8} {i : Nat} (hi : i < s.length) (h : okB (s[i]).toNat = false) : lab s = false := by
  unfold lab
  rw [Bool.and_eq_false_iff]
  left
  rw [List.all_eq_false]
  exact ⟨s[i], List.getElem_mem hi, by simp [h]⟩
theorem lab_long {s : List UInt8} (h : ¬ (1 ≤ s.length ∧ s.length ≤ 30)) : lab s = false := by
  unfold lab
  simp only [h, decide_false, Bool.and_false]
theorem lab_bd {s : List UInt8} (h : lab s = true) : 1 ≤ s.length ∧ s.length ≤ 30 := by
  unfold lab at h
  simp only [Bool.and_eq_true, decide_eq_true_eq] at h
  exact h.2
theorem okB_no {n : Int} (h : ¬ ((97 ≤ n ∧ n ≤ 122) ∨ (48 ≤ n ∧ n ≤ 57) ∨ n = 45 ∨ n = 95)) : okB n = false := by
  unfold okB; simpa using h
theorem okB_yes {n : Int} (h : (97 ≤ n ∧ n ≤ 122) ∨ (48 ≤ n ∧ n ≤ 57) ∨ n = 45 ∨ n = 95) : okB n = true := by
  unfold okB; simpa using h
end Go.Proofs.Ytdaffjjconlmoaa.Pl
/- Plain functions of places: no program in sight. -/

namespace Go.Proofs.Ytdaffjjconlmoaa.Pl
set_option linter.unusedVariables false

/-- within two bounds -/
def wi (n a b : Int) : Bool := decide (a ≤ n) && decide (n ≤ b)
theorem wi_iff {n a b : Int} : wi n a b = true ↔ a ≤ n ∧ n ≤ b := by simp [wi]
theorem wi_no {n a b : Int} : wi n a b = false ↔ ¬ (a ≤ n ∧ n ≤ b) := by rw [← wi_iff]; simp

def okPl (x y z h s : Int) : Bool := wi x (-10000000) 10000000 && wi y (-10000000) 10000000 && wi z (-10000000) 10000000 && wi h 0 1000000 && wi s 0 1000
/-- what is wrong with a place -/
def ckPl (x y z h s : Int) : Int := if okPl x y z h s then 0 else 3
end Go.Proofs.Ytdaffjjconlmoaa.Pl
/- The code of the functions, resolved; printed by a program (mkrc.py) and held against the translation by the kernel. -/
namespace Go.Proofs.Ytdaffjjconlmoaa
set_option linter.unusedVariables false
abbrev zq0 : List Value := [(.int .i64 0), (.int .i64 0), (.int .i64 0), (.int .i64 0), (.int .i64 0)]
abbrev zq2 : List Value := [(.string ⟨#[]⟩), (.string ⟨#[]⟩), (.string ⟨#[]⟩), (.string ⟨#[]⟩), (.int .i64 0), (.int .i64 0), (.bool false), (.int .i64 0), (.bool false)]
/-- hearsay/hearsaylaw.RestCatalogs -/
def rc_hearsaylaw_RestCatalogs : RCode :=
 .seq (.reg [Rq 5 (.box 24 9 1),Rq 8 (.mv (.const (.bool false)))])
 (.seq (.seq (.reg [Rq 29 (.call (.func 4) []),Rq 30 (.not 29),Rq 31 (.mv 30),Gq 32 31 false (.call (.func 5) []),Gq 33 31 false (.not 32),Rq 34 (.pick 31 (.const (.bool true)) 33),Rq 35 (.mv 34),Gq 36 35 false (.call (.func 6) []),Gq 37 35 false (.not 36),Rq 38 (.pick 35 (.const (.bool true)) 37)])
 (.cond 38
 (.seq (.reg [Rq 8 (.mv (.const (.bool false)))])
 (.ret))
 (.skip)))
 (.seq (.reg [Rq 39 (.mks 24 9 0 zq2 []),Rq 40 (.mv 0),Rq 41 (.app 24 9 104 (.agg #[(.string ⟨#[]⟩), (.string ⟨#[]⟩), (.string ⟨#[]⟩), (.string ⟨#[]⟩), (.int .i64 0), (.int .i64 0), (.bool false), (.int .i64 0), (.bool false)]) 39 40),Rq 42 (.mks 62 3 0 [(.string ⟨#[]⟩), (.int .i64 0), (.int .i64 0)] []),Rq 43 (.mv 2),Rq 44 (.app 62 3 32 (.agg #[(.string ⟨#[]⟩), (.int .i64 0), (.int .i64 0)]) 42 43),Rq 45 (.mks 9 1 0 [(.string ⟨#[]⟩)] []),Rq 46 (.mv 3),Rq 47 (.app 9 1 16 (.string ⟨#[]⟩) 45 46),Rq 9 (.mv 41),Rq 10 (.mv 44),Rq 11 (.mv 47)])
 (.seq (.seq (.reg [Rq 12 (.mv (Kq 0))])
 (.block 0
 (.loop
 (.seq (.seq (.reg [Rq 48 (.mv 12),Rq 49 (.bin .lss 48 (Kq 2))])
 (.cond 49
 (.skip)
 (.exit 0)))
 (.seq (.block 1
 (.seq (.reg [Rq 53 (.mv 9),Rq 54 (.load true 9 5),Rq 55 (.call (.func 7) [53, 54]),Rq 52 (.mv 55),Rq 56 (.ext 52 0),Rq 57 (.ext 52 1),Rq 13 (.mv 56),Rq 14 (.mv 57)])
 (.seq (.reg [Rq 59 (.mv 9),Rq 60 (.fldA 2 5),Rq 61 (.load false 1 60),Rq 62 (.call (.func 8) [59, 61, (.const (.string ⟨#[]⟩))]),Rq 58 (.mv 62),Rq 63 (.ext 58 0),Rq 64 (.ext 58 1),Rq 15 (.mv 63),Rq 16 (.mv 64)])
 (.seq (.reg [Rq 66 (.mv 10),Rq 67 (.call (.func 9) [66, (.const (.string ⟨#[113]⟩))]),Rq 65 (.mv 67),Rq 68 (.ext 65 0),Rq 69 (.ext 65 1),Rq 17 (.mv 68),Rq 18 (.mv 69)])
 (.seq (.reg [Rq 71 (.mv 10),Rq 72 (.call (.func 10) [71, (.const (.string ⟨#[113]⟩)), (Kq 5)]),Rq 70 (.mv 72),Rq 73 (.ext 70 0),Rq 74 (.ext 70 1),Rq 19 (.mv 73),Rq 20 (.mv 74)])
 (.seq (.reg [Rq 76 (.build zq0 []),Rq 77 (.mv 11),Rq 78 (.call (.func 11) [76, (.const (.slice none 0 0)), 77]),Rq 75 (.mv 78),Rq 79 (.ext 75 0),Rq 80 (.ext 75 1),Rq 21 (.mv 79),Rq 22 (.mv 80)])
 (.seq (.seq (.reg [Rq 81 (.mv 9),Rq 82 (.mv 0),Rq 83 (.call (.func 12) [81, 82]),Rq 84 (.not 83),Rq 85 (.mv 84),Gq 86 85 false (.mv 10),Gq 87 85 false (.mv 2),Gq 88 85 false (.call (.func 13) [86, 87]),Gq 89 85 false (.not 88),Rq 90 (.pick 85 (.const (.bool true)) 89),Rq 91 (.mv 90),Gq 92 91 false (.mv 11),Gq 93 91 false (.mv 3),Gq 94 91 false (.call (.func 14) [92, 93]),Gq 95 91 false (.not 94),Rq 96 (.pick 91 (.const (.bool true)) 95)])
 (.cond 96
 (.seq (.reg [Rq 8 (.mv (.const (.bool false)))])
 (.ret))
 (.skip)))
 (.seq (.seq (.reg [Rq 97 (.mv 0),Rq 98 (.call (.func 15) [97]),Rq 99 (.bin .eql 98 (Kq 0))])
 (.cond 99
 (.seq (.reg [Rq 101 (.mv 0),Rq 102 (.load true 9 5),Rq 103 (.call (.func 16) [101, 102]),Rq 100 (.mv 103),Rq 104 (.ext 100 0),Rq 105 (.ext 100 1),Rq 23 (.mv 104),Rq 24 (.mv 105)])
 (.seq (.reg [Rq 106 (.mv 14),Rq 107 (.mv 24),Rq 108 (.bin .neq 106 107),Rq 109 (.mv 108),Gq 110 109 false (.mv 14),Gq 111 109 false (.bin .eql 110 (Kq 0)),Gq 112 109 false (.mv 111),Gq 113 112 true (.mv 13),Gq 114 112 true (.mv 23),Gq 115 112 true (.call (.func 12) [113, 114]),Gq 116 112 true (.not 115),Gq 117 109 false (.pick 112 116 (.const (.bool false))),Rq 118 (.pick 109 (.const (.bool true)) 117),Rq 119 (.mv 118),Gq 120 119 false (.mv 16),Gq 121 119 false (.bin .eql 120 (Kq 0)),Gq 122 119 false (.mv 121),Gq 123 122 true (.mv 15),Gq 124 122 true (.mv 0),Gq 125 122 true (.fldA 2 5),Gq 126 122 true (.load false 1 125),Gq 127 122 true (.call (.func 17) [124, 126, (.const (.string ⟨#[]⟩))]),Gq 128 122 true (.call (.func 12) [123, 127]),Gq 129 122 true (.not 128),Gq 130 119 false (.pick 122 129 (.const (.bool false))),Rq 131 (.pick 119 (.const (.bool true)) 130)])
 (.cond 131
 (.seq (.reg [Rq 8 (.mv (.const (.bool false)))])
 (.ret))
 (.skip))))
 (.skip)))
 (.seq (.seq (.reg [Rq 132 (.mv 2),Rq 133 (.call (.func 18) [132]),Rq 134 (.bin .eql 133 (Kq 0))])
 (.cond 134
 (.seq (.reg [Rq 136 (.mv 2),Rq 137 (.call (.func 19) [136, (.const (.string ⟨#[113]⟩)), (Kq 5)]),Rq 135 (.mv 137),Rq 138 (.ext 135 0),Rq 139 (.ext 135 1),Rq 25 (.mv 138),Rq 26 (.mv 139)])
 (.seq (.reg [Rq 140 (.mv 18),Rq 141 (.bin .neq 140 (Kq 0)),Rq 142 (.mv 141),Gq 143 142 false (.mv 20),Gq 144 142 false (.mv 26),Gq 145 142 false (.bin .neq 143 144),Rq 146 (.pick 142 (.const (.bool true)) 145),Rq 147 (.mv 146),Gq 148 147 false (.mv 20),Gq 149 147 false (.bin .eql 148 (Kq 0)),Gq 150 147 false (.mv 149),Gq 151 150 true (.mv 19),Gq 152 150 true (.mv 25),Gq 153 150 true (.call (.func 13) [151, 152]),Gq 154 150 true (.not 153),Gq 155 147 false (.pick 150 154 (.const (.bool false))),Rq 156 (.pick 147 (.const (.bool true)) 155)])
 (.cond 156
 (.seq (.reg [Rq 8 (.mv (.const (.bool false)))])
 (.ret))
 (.skip))))
 (.skip)))
 (.seq (.seq (.reg [Rq 157 (.mv 22),Rq 158 (.bin .eql 157 (Kq 0)),Rq 159 (.mv 158),Gq 160 159 true (.mv 21),Gq 161 159 true (.build zq0 []),Gq 162 159 true (.mv 3),Gq 163 159 true (.call (.func 20) [161, (.const (.slice none 0 0)), 162]),Gq 164 159 true (.call (.func 14) [160, 163]),Gq 165 159 true (.not 164),Rq 166 (.pick 159 165 (.const (.bool false)))])
 (.cond 166
 (.seq (.reg [Rq 8 (.mv (.const (.bool false)))])
 (.ret))
 (.skip)))
 (.seq (.reg [Rq 167 (.mv 13),Rq 168 (.call (.func 21) [167])])
 (.seq (.reg [Rq 169 (.mv 15),Rq 170 (.call (.func 21) [169])])
 (.seq (.reg [Rq 171 (.mv 19),Rq 172 (.call (.func 22) [171])])
 (.seq (.seq (.reg [Rq 27 (.mv (Kq 0))])
 (.block 2
 (.loop
 (.seq (.seq (.reg [Rq 173 (.mv 27),Rq 174 (.mv 17),Rq 175 (.len false 174),Rq 176 (.bin .lss 173 175)])
 (.cond 176
 (.skip)
 (.exit 2)))
 (.seq (.block 3
 (.reg [Rq 179 (.mv 17),Rq 180 (.mv 27),Rq 181 (.idxA 2 179 180),Rq 182 (.fldA 0 181),Sq 1 182 (.const (.string ⟨#[63]⟩))]))
 (.reg [Rq 177 (.mv 27),Rq 178 (.bin .add 177 (Kq 1)),Rq 27 (.mv 178)]))))))
 (.seq (.reg [Rq 28 (.mv (Kq 0))])
 (.block 4
 (.loop
 (.seq (.seq (.reg [Rq 183 (.mv 28),Rq 184 (.mv 21),Rq 185 (.len false 184),Rq 186 (.bin .lss 183 185)])
 (.cond 186
 (.skip)
 (.exit 4)))
 (.seq (.block 5
 (.reg [Rq 189 (.mv 21),Rq 190 (.mv 28),Rq 191 (.idxA 1 189 190),Sq 1 191 (.const (.string ⟨#[63]⟩))]))
 (.reg [Rq 187 (.mv 28),Rq 188 (.bin .add 187 (Kq 1)),Rq 28 (.mv 188)]))))))))))))))))))))
 (.reg [Rq 50 (.mv 12),Rq 51 (.bin .add 50 (Kq 1)),Rq 12 (.mv 51)]))))))
 (.seq (.reg [Rq 8 (.mv (.const (.bool true)))])
 (.ret)))))
theorem ck_hearsaylaw_RestCatalogs : chkFun Try.prog 3 4 = some (rc_hearsaylaw_RestCatalogs, [8]) := by kernel_rfl
/-- hearsay/hearsaylaw.catalogBegun -/
def rc_hearsaylaw_catalogBegun : RCode :=
 .seq (.reg [Rq 0 (.mv (.const (.bool false)))])
 (.seq (.reg [Rq 6 (.build zq2 [(0, 1, (.const (.string ⟨#[110]⟩))), (1, 1, (.const (.string ⟨#[105]⟩))), (2, 1, (.const (.string ⟨#[115]⟩))), (6, 1, (.const (.bool true)))]),Rq 7 (.call (.func 7) [(.const (.slice none 0 0)), 6]),Rq 5 (.mv 7),Rq 8 (.ext 5 0),Rq 9 (.ext 5 1),Rq 1 (.mv 8),Rq 2 (.mv 9)])
 (.seq (.reg [Rq 11 (.mv 1),Rq 12 (.call (.func 8) [11, (.const (.string ⟨#[115]⟩)), (.const (.string ⟨#[]⟩))]),Rq 10 (.mv 12),Rq 13 (.ext 10 0),Rq 14 (.ext 10 1),Rq 3 (.mv 13),Rq 4 (.mv 14)])
 (.seq (.reg [Rq 15 (.mv 2),Rq 16 (.bin .eql 15 (Kq 0)),Rq 17 (.mv 16),Gq 18 17 true (.mv 4),Gq 19 17 true (.bin .eql 18 (Kq 0)),Rq 20 (.pick 17 19 (.const (.bool false))),Rq 21 (.mv 20),Gq 22 21 true (.mv 3),Gq 23 21 true (.len false 22),Gq 24 21 true (.bin .eql 23 (Kq 1)),Rq 25 (.pick 21 24 (.const (.bool false))),Rq 26 (.mv 25),Gq 27 26 true (.mv 3),Gq 28 26 true (.idxA 9 27 (Kq 0)),Gq 29 26 true (.fldA 7 28),Gq 30 26 true (.load false 1 29),Gq 31 26 true (.bin .eql 30 (Kq 1)),Rq 32 (.pick 26 31 (.const (.bool false))),Rq 0 (.mv 32)])
 (.ret))))
theorem ck_hearsaylaw_catalogBegun : chkFun Try.prog 4 0 = some (rc_hearsaylaw_catalogBegun, [0]) := by kernel_rfl
/-- hearsay/hearsaylaw.centreBegun -/
def rc_hearsaylaw_centreBegun : RCode :=
 .seq (.reg [Rq 0 (.mv (.const (.bool false)))])
 (.seq (.reg [Rq 6 (.call (.func 10) [(.const (.slice none 0 0)), (.const (.string ⟨#[99]⟩)), (Kq 7)]),Rq 5 (.mv 6),Rq 7 (.ext 5 0),Rq 8 (.ext 5 1),Rq 1 (.mv 7),Rq 2 (.mv 8)])
 (.seq (.reg [Rq 10 (.mv 1),Rq 11 (.call (.func 23) [10, (.const (.string ⟨#[104]⟩)), (.const (.string ⟨#[99]⟩))]),Rq 9 (.mv 11),Rq 12 (.ext 9 0),Rq 13 (.ext 9 1),Rq 3 (.mv 12),Rq 4 (.mv 13)])
 (.seq (.reg [Rq 14 (.mv 2),Rq 15 (.bin .eql 14 (Kq 0)),Rq 16 (.mv 15),Gq 17 16 true (.mv 4),Gq 18 16 true (.bin .eql 17 (Kq 0)),Rq 19 (.pick 16 18 (.const (.bool false))),Rq 20 (.mv 19),Gq 21 20 true (.mv 3),Gq 22 20 true (.bin .eql 21 (Kq 7)),Rq 23 (.pick 20 22 (.const (.bool false))),Rq 0 (.mv 23)])
 (.ret))))
theorem ck_hearsaylaw_centreBegun : chkFun Try.prog 5 0 = some (rc_hearsaylaw_centreBegun, [0]) := by kernel_rfl
/-- hearsay/hearsaylaw.placeBegun -/
def rc_hearsaylaw_placeBegun : RCode :=
 .seq (.reg [Rq 0 (.mv (.const (.bool false)))])
 (.seq (.reg [Rq 6 (.call (.func 24) [(Kq 17)]),Rq 5 (.mv 6),Rq 7 (.ext 5 0),Rq 8 (.ext 5 1),Rq 1 (.mv 7),Rq 2 (.mv 8)])
 (.seq (.reg [Rq 10 (.build zq0 [(0, 1, (Kq 3)), (3, 1, (Kq 1))]),Rq 11 (.build zq0 [(1, 1, (Kq 4)), (3, 1, (Kq 2))]),Rq 12 (.call (.func 25) [10, 11]),Rq 9 (.mv 12),Rq 13 (.ext 9 0),Rq 14 (.ext 9 1),Rq 3 (.mv 13),Rq 4 (.mv 14)])
 (.seq (.reg [Rq 15 (.mv 2),Rq 16 (.bin .eql 15 (Kq 0)),Rq 17 (.mv 16),Gq 18 17 true (.mv 4),Gq 19 17 true (.bin .eql 18 (Kq 0)),Rq 20 (.pick 17 19 (.const (.bool false))),Rq 21 (.mv 20),Gq 22 21 true (.mv 1),Gq 23 21 true (.bin .eql 22 (Kq 4)),Rq 24 (.pick 21 23 (.const (.bool false))),Rq 25 (.mv 24),Gq 26 25 true (.mv 3),Gq 27 25 true (.bin .eql 26 (Kq 8)),Rq 28 (.pick 25 27 (.const (.bool false))),Rq 0 (.mv 28)])
 (.ret))))
theorem ck_hearsaylaw_placeBegun : chkFun Try.prog 6 0 = some (rc_hearsaylaw_placeBegun, [0]) := by kernel_rfl
/-- hearsay/catalog.Register -/
def rc_catalog_Register : RCode :=
 .seq (.reg [Rq 3 (.box 24 9 1),Rq 4 (.mv (.const (.slice none 0 0))),Rq 5 (.mv (Kq 0))])
 (.seq (.reg [Rq 7 (.fldA 7 3),Sq 1 7 (Kq 1),Rq 8 (.fldA 8 3),Sq 1 8 (.const (.bool false))])
 (.seq (.reg [Rq 9 (.mv 0),Rq 10 (.mks 22 1 1 [(.slice none 0 0)] [(0, 9)]),Rq 11 (.call (.func 26) [10]),Rq 6 (.mv 11)])
 (.seq (.seq (.reg [Rq 12 (.mv 6),Rq 13 (.bin .eql 12 (Kq 0))])
 (.cond 13
 (.reg [Rq 14 (.load true 9 3),Rq 15 (.call (.func 27) [14]),Rq 6 (.mv 15)])
 (.skip)))
 (.seq (.seq (.reg [Rq 16 (.mv 6),Rq 17 (.bin .neq 16 (Kq 0))])
 (.cond 17
 (.seq (.reg [Rq 18 (.mv 6),Rq 4 (.mv (.const (.slice none 0 0))),Rq 5 (.mv 18)])
 (.ret))
 (.skip)))
 (.seq (.reg [Rq 19 (.mv 0),Rq 20 (.load true 9 3),Rq 21 (.call (.func 28) [19, 20]),Rq 22 (.ext 21 0),Rq 23 (.ext 21 1),Rq 4 (.mv 22),Rq 5 (.mv 23)])
 (.ret))))))
theorem ck_catalog_Register : chkFun Try.prog 7 2 = some (rc_catalog_Register, [4, 5]) := by kernel_rfl
/-- hearsay/catalog.Find -/
def rc_catalog_Find : RCode :=
 .seq (.reg [Rq 6 (.mv (.const (.slice none 0 0))),Rq 7 (.mv (Kq 0))])
 (.seq (.seq (.reg [Rq 12 (.mv 0),Rq 13 (.mks 22 1 1 [(.slice none 0 0)] [(0, 12)]),Rq 14 (.call (.func 26) [13]),Rq 8 (.mv 14)])
 (.seq (.reg [Rq 15 (.mv 8),Rq 16 (.bin .neq 15 (Kq 0))])
 (.cond 16
 (.seq (.reg [Rq 17 (.mv 8),Rq 6 (.mv (.const (.slice none 0 0))),Rq 7 (.mv 17)])
 (.ret))
 (.skip))))
 (.seq (.seq (.reg [Rq 18 (.mv 1),Rq 19 (.call (.func 29) [18]),Rq 20 (.not 19),Rq 21 (.mv 20),Gq 22 21 false (.mv 2),Gq 23 21 false (.call (.func 30) [22]),Gq 24 21 false (.not 23),Rq 25 (.pick 21 (.const (.bool true)) 24)])
 (.cond 25
 (.seq (.reg [Rq 6 (.mv (.const (.slice none 0 0))),Rq 7 (.mv (Kq 1))])
 (.ret))
 (.skip)))
 (.seq (.reg [Rq 9 (.mv (.const (.slice none 0 0)))])
 (.seq (.seq (.reg [Rq 26 (.mv 0),Rq 27 (.len false 26),Rq 28 (.mv (Kq 0))])
 (.block 0
 (.loop
 (.seq (.reg [Rq 29 (.bin .lss 28 27)])
 (.seq (.cond 29
 (.skip)
 (.exit 0))
 (.seq (.block 1
 (.seq (.reg [Rq 30 (.idxA 9 26 28),Rq 31 (.load true 9 30),Rq 11 (.zbox 24 zq2),Sq 9 11 31])
 (.seq (.reg [Rq 32 (.fldA 2 11),Rq 33 (.load false 1 32),Rq 34 (.mv 1),Rq 35 (.bin .eql 33 34),Rq 36 (.mv 35),Gq 37 36 true (.mv 2),Gq 38 36 true (.bin .eql 37 (.const (.string ⟨#[]⟩))),Gq 39 36 true (.mv 38),Gq 40 39 false (.fldA 3 11),Gq 41 39 false (.load false 1 40),Gq 42 39 false (.mv 2),Gq 43 39 false (.bin .eql 41 42),Gq 44 36 true (.pick 39 (.const (.bool true)) 43),Rq 45 (.pick 36 44 (.const (.bool false))),Rq 46 (.mv 45),Gq 47 46 true (.fldA 6 11),Gq 48 46 true (.load false 1 47),Rq 49 (.pick 46 48 (.const (.bool false))),Rq 50 (.mv 49),Gq 51 50 true (.fldA 8 11),Gq 52 50 true (.load false 1 51),Gq 53 50 true (.not 52),Rq 54 (.pick 50 53 (.const (.bool false)))])
 (.cond 54
 (.reg [Rq 55 (.mv 9),Rq 56 (.load true 9 11),Rq 57 (.mks 24 9 1 zq2 [(0, 56)]),Rq 58 (.app 24 9 104 (.agg #[(.string ⟨#[]⟩), (.string ⟨#[]⟩), (.string ⟨#[]⟩), (.string ⟨#[]⟩), (.int .i64 0), (.int .i64 0), (.bool false), (.int .i64 0), (.bool false)]) 55 57),Rq 9 (.mv 58)])
 (.skip)))))
 (.reg [Rq 59 (.bin .add 28 (Kq 1)),Rq 28 (.mv 59)])))))))
 (.seq (.reg [Rq 60 (.mv 9),Rq 6 (.mv 60),Rq 7 (.mv (Kq 0))])
 (.ret))))))
theorem ck_catalog_Find : chkFun Try.prog 8 3 = some (rc_catalog_Find, [6, 7]) := by kernel_rfl
/-- hearsay/centre.Table -/
def rc_centre_Table : RCode :=
 .seq (.reg [Rq 4 (.mv (.const (.slice none 0 0))),Rq 5 (.mv (Kq 0))])
 (.seq (.seq (.reg [Rq 10 (.mv 0),Rq 11 (.mks 25 1 1 [(.slice none 0 0)] [(0, 10)]),Rq 12 (.call (.func 31) [11]),Rq 6 (.mv 12)])
 (.seq (.reg [Rq 13 (.mv 6),Rq 14 (.bin .neq 13 (Kq 0))])
 (.cond 14
 (.seq (.reg [Rq 15 (.mv 6),Rq 4 (.mv (.const (.slice none 0 0))),Rq 5 (.mv 15)])
 (.ret))
 (.skip))))
 (.seq (.seq (.reg [Rq 16 (.mv 1),Rq 17 (.call (.func 29) [16]),Rq 18 (.not 17)])
 (.cond 18
 (.seq (.reg [Rq 4 (.mv (.const (.slice none 0 0))),Rq 5 (.mv (Kq 1))])
 (.ret))
 (.skip)))
 (.seq (.reg [Rq 7 (.mv (.const (.slice none 0 0)))])
 (.seq (.seq (.reg [Rq 19 (.mv 0),Rq 20 (.len false 19),Rq 21 (.mv (Kq 0))])
 (.block 0
 (.loop
 (.seq (.reg [Rq 22 (.bin .lss 21 20)])
 (.seq (.cond 22
 (.skip)
 (.exit 0))
 (.seq (.block 1
 (.seq (.reg [Rq 23 (.idxA 3 19 21),Rq 24 (.load true 3 23),Rq 9 (.zbox 62 [(.string ⟨#[]⟩), (.int .i64 0), (.int .i64 0)]),Sq 3 9 24])
 (.seq (.reg [Rq 25 (.fldA 0 9),Rq 26 (.load false 1 25),Rq 27 (.mv 1),Rq 28 (.bin .neq 26 27)])
 (.cond 28
 (.reg [Rq 29 (.mv 7),Rq 30 (.fldA 0 9),Rq 31 (.load false 1 30),Rq 32 (.fldA 1 9),Rq 33 (.load false 1 32),Rq 34 (.build [(.string ⟨#[]⟩), (.int .i64 0)] [(0, 1, 31), (1, 1, 33)]),Rq 35 (.mks 51 2 1 [(.string ⟨#[]⟩), (.int .i64 0)] [(0, 34)]),Rq 36 (.app 51 2 24 (.agg #[(.string ⟨#[]⟩), (.int .i64 0)]) 29 35),Rq 7 (.mv 36)])
 (.skip)))))
 (.reg [Rq 37 (.bin .add 21 (Kq 1)),Rq 21 (.mv 37)])))))))
 (.seq (.reg [Rq 38 (.mv 7),Rq 4 (.mv 38),Rq 5 (.mv (Kq 0))])
 (.ret))))))
theorem ck_centre_Table : chkFun Try.prog 9 2 = some (rc_centre_Table, [4, 5]) := by kernel_rfl
/-- hearsay/centre.Open -/
def rc_centre_Open : RCode :=
 .seq (.reg [Rq 6 (.mv (.const (.slice none 0 0))),Rq 7 (.mv (Kq 0))])
 (.seq (.seq (.reg [Rq 13 (.mv 0),Rq 14 (.mks 25 1 1 [(.slice none 0 0)] [(0, 13)]),Rq 15 (.call (.func 31) [14]),Rq 8 (.mv 15)])
 (.seq (.reg [Rq 16 (.mv 8),Rq 17 (.bin .neq 16 (Kq 0))])
 (.cond 17
 (.seq (.reg [Rq 18 (.mv 8),Rq 6 (.mv (.const (.slice none 0 0))),Rq 7 (.mv 18)])
 (.ret))
 (.skip))))
 (.seq (.reg [Rq 19 (.mv 1),Rq 20 (.mv 2),Rq 21 (.build [(.string ⟨#[]⟩), (.int .i64 0), (.int .i64 0)] [(0, 1, 19), (1, 1, 20), (2, 1, (Kq 1))]),Rq 9 (.zbox 62 [(.string ⟨#[]⟩), (.int .i64 0), (.int .i64 0)]),Sq 3 9 21])
 (.seq (.seq (.reg [Rq 22 (.load true 3 9),Rq 23 (.call (.func 32) [22]),Rq 10 (.mv 23)])
 (.seq (.reg [Rq 24 (.mv 10),Rq 25 (.bin .neq 24 (Kq 0))])
 (.cond 25
 (.seq (.reg [Rq 26 (.mv 10),Rq 6 (.mv (.const (.slice none 0 0))),Rq 7 (.mv 26)])
 (.ret))
 (.skip))))
 (.seq (.reg [Rq 27 (.mv 0),Rq 28 (.call (.func 33) [27]),Rq 0 (.mv 28)])
 (.seq (.reg [Rq 30 (.mv 0),Rq 31 (.mv 1),Rq 32 (.call (.func 34) [30, 31]),Rq 29 (.mv 32),Rq 33 (.ext 29 0),Rq 34 (.ext 29 1),Rq 11 (.mv 33),Rq 12 (.mv 34)])
 (.seq (.block 0
 (.seq (.reg [Rq 36 (.mv 12),Rq 37 (.mv 36),Gq 38 37 true (.mv 0),Gq 39 37 true (.mv 11),Gq 40 37 true (.idxA 3 38 39),Gq 41 37 true (.fldA 2 40),Gq 42 37 true (.load false 1 41),Gq 43 37 true (.bin .eql 42 (Kq 1000000)),Rq 44 (.pick 37 43 (.const (.bool false))),Rq 35 (.mv 44)])
 (.cond 35
 (.seq (.reg [Rq 6 (.mv (.const (.slice none 0 0))),Rq 7 (.mv (Kq 3))])
 (.ret))
 (.seq (.reg [Rq 46 (.mv 12),Rq 45 (.mv 46)])
 (.cond 45
 (.seq (.reg [Rq 47 (.mv 0),Rq 48 (.mv 11),Rq 49 (.idxA 3 47 48),Rq 50 (.fldA 2 49),Rq 51 (.load false 1 50),Rq 52 (.bin .add 51 (Kq 1)),Rq 53 (.fldA 2 9),Sq 1 53 52])
 (.seq (.reg [Rq 54 (.mv 0),Rq 55 (.mv 11),Rq 56 (.load true 3 9),Rq 57 (.idxA 3 54 55),Sq 3 57 56])
 (.seq (.reg [Rq 58 (.mv 0),Rq 6 (.mv 58),Rq 7 (.mv (Kq 0))])
 (.ret))))
 (.seq (.reg [Rq 60 (.mv 0),Rq 61 (.len false 60),Rq 62 (.bin .eql 61 (Kq 6)),Rq 59 (.mv 62)])
 (.cond 59
 (.seq (.reg [Rq 6 (.mv (.const (.slice none 0 0))),Rq 7 (.mv (Kq 2))])
 (.ret))
 (.skip))))))))
 (.seq (.reg [Rq 63 (.mv 0),Rq 64 (.mv 11),Rq 65 (.load true 3 9),Rq 66 (.mks 62 3 1 [(.string ⟨#[]⟩), (.int .i64 0), (.int .i64 0)] [(0, 65)]),Rq 67 (.call (.func 35) [63, 64, 66]),Rq 6 (.mv 67),Rq 7 (.mv (Kq 0))])
 (.ret))))))))
theorem ck_centre_Open : chkFun Try.prog 10 3 = some (rc_centre_Open, [6, 7]) := by kernel_rfl
/-- hearsay/place.Sort -/
def rc_place_Sort : RCode :=
 .seq (.reg [Rq 3 (.box 40 5 0),Rq 6 (.mv (.const (.slice none 0 0))),Rq 7 (.mv (Kq 0))])
 (.seq (.seq (.reg [Rq 16 (.mv 1),Rq 17 (.len false 16),Rq 18 (.bin .gtr 17 (Kq 100)),Rq 19 (.mv 18),Gq 20 19 false (.mv 2),Gq 21 19 false (.len false 20),Gq 22 19 false (.bin .gtr 21 (Kq 100)),Rq 23 (.pick 19 (.const (.bool true)) 22)])
 (.cond 23
 (.seq (.reg [Rq 6 (.mv (.const (.slice none 0 0))),Rq 7 (.mv (Kq 2))])
 (.ret))
 (.skip)))
 (.seq (.seq (.reg [Rq 24 (.load true 5 3),Rq 25 (.call (.func 36) [24]),Rq 8 (.mv 25)])
 (.seq (.reg [Rq 26 (.mv 8),Rq 27 (.bin .neq 26 (Kq 0))])
 (.cond 27
 (.seq (.reg [Rq 28 (.mv 8),Rq 6 (.mv (.const (.slice none 0 0))),Rq 7 (.mv 28)])
 (.ret))
 (.skip))))
 (.seq (.reg [Rq 29 (.mkm),Rq 9 (.zbox 70 [(.map none)]),Sq 1 9 29])
 (.seq (.seq (.reg [Rq 30 (.mv 1),Rq 31 (.len false 30),Rq 32 (.mv (Kq 0))])
 (.block 0
 (.loop
 (.seq (.reg [Rq 33 (.bin .lss 32 31)])
 (.seq (.cond 33
 (.skip)
 (.exit 0))
 (.seq (.block 1
 (.seq (.reg [Rq 34 (.idxA 6 30 32),Rq 35 (.load true 6 34),Rq 11 (.zbox 72 [(.string ⟨#[]⟩), (.int .i64 0), (.int .i64 0), (.int .i64 0), (.int .i64 0), (.int .i64 0)]),Sq 6 11 35])
 (.seq (.seq (.reg [Rq 36 (.fldA 1 11),Rq 37 (.load true 5 36),Rq 38 (.call (.func 36) [37]),Rq 12 (.mv 38)])
 (.seq (.reg [Rq 39 (.mv 12),Rq 40 (.bin .neq 39 (Kq 0))])
 (.cond 40
 (.seq (.reg [Rq 41 (.mv 12),Rq 6 (.mv (.const (.slice none 0 0))),Rq 7 (.mv 41)])
 (.ret))
 (.skip))))
 (.seq (.reg [Rq 43 (.load false 1 9),Rq 44 (.fldA 0 11),Rq 45 (.load false 1 44),Rq 46 (.mlook .string true (.int .i64 0) 43 45),Rq 42 (.mv 46),Rq 47 (.ext 42 0),Rq 48 (.ext 42 1),Rq 13 (.mv 47),Rq 14 (.mv 48)])
 (.seq (.reg [Rq 49 (.mv 14),Rq 50 (.not 49)])
 (.cond 50
 (.dreg [[Rq 51 (.load false 1 9),Rq 52 (.fldA 0 11),Rq 53 (.load false 1 52),Rq 54 (.load true 5 3),Rq 55 (.fldA 1 11),Rq 56 (.load true 5 55),Rq 57 (.call (.func 37) [54, 56])],[⟨none, none, .mupd .string 51 53 57⟩]])
 (.skip)))))))
 (.reg [Rq 58 (.bin .add 32 (Kq 1)),Rq 32 (.mv 58)])))))))
 (.seq (.reg [Rq 59 (.mv 2),Rq 60 (.call (.func 38) [59]),Rq 15 (.mv 60)])
 (.seq (.reg [Rq 61 (.mv 15),Rq 62 (.mkfn 40 [9]),Rq 63 (.call (.func 39) [61, 62])])
 (.seq (.reg [Rq 64 (.mv 15),Rq 6 (.mv 64),Rq 7 (.mv (Kq 0))])
 (.ret))))))))
theorem ck_place_Sort : chkFun Try.prog 11 3 = some (rc_place_Sort, [6, 7]) := by kernel_rfl
/-- hearsay/hearsayref.SameServices -/
def rc_hearsayref_SameServices : RCode :=
 .seq (.reg [Rq 4 (.mv (.const (.bool false)))])
 (.seq (.seq (.reg [Rq 6 (.mv 0),Rq 7 (.len false 6),Rq 8 (.mv 1),Rq 9 (.len false 8),Rq 10 (.bin .neq 7 9)])
 (.cond 10
 (.seq (.reg [Rq 4 (.mv (.const (.bool false)))])
 (.ret))
 (.skip)))
 (.seq (.seq (.reg [Rq 5 (.mv (Kq 0))])
 (.block 0
 (.loop
 (.seq (.seq (.reg [Rq 11 (.mv 5),Rq 12 (.mv 0),Rq 13 (.len false 12),Rq 14 (.bin .lss 11 13)])
 (.cond 14
 (.skip)
 (.exit 0)))
 (.seq (.block 1
 (.seq (.dreg [[Rq 17 (.mv 0),Rq 18 (.mv 5),Rq 19 (.idxA 9 17 18),Rq 20 (.load true 9 19),Rq 21 (.mv 1),Rq 22 (.mv 5),Rq 23 (.idxA 9 21 22),Rq 24 (.load true 9 23)],[Rq 25 (.eqS true [1, 1, 1, 1, 0, 0, 2, 0, 2] 20 24)]])
 (.cond 25
 (.seq (.reg [Rq 4 (.mv (.const (.bool false)))])
 (.ret))
 (.skip))))
 (.reg [Rq 15 (.mv 5),Rq 16 (.bin .add 15 (Kq 1)),Rq 5 (.mv 16)]))))))
 (.seq (.reg [Rq 4 (.mv (.const (.bool true)))])
 (.ret))))
theorem ck_hearsayref_SameServices : chkFun Try.prog 12 2 = some (rc_hearsayref_SameServices, [4]) := by kernel_rfl
/-- hearsay/hearsayref.SameGateways -/
def rc_hearsayref_SameGateways : RCode :=
 .seq (.reg [Rq 4 (.mv (.const (.bool false)))])
 (.seq (.seq (.reg [Rq 6 (.mv 0),Rq 7 (.len false 6),Rq 8 (.mv 1),Rq 9 (.len false 8),Rq 10 (.bin .neq 7 9)])
 (.cond 10
 (.seq (.reg [Rq 4 (.mv (.const (.bool false)))])
 (.ret))
 (.skip)))
 (.seq (.seq (.reg [Rq 5 (.mv (Kq 0))])
 (.block 0
 (.loop
 (.seq (.seq (.reg [Rq 11 (.mv 5),Rq 12 (.mv 0),Rq 13 (.len false 12),Rq 14 (.bin .lss 11 13)])
 (.cond 14
 (.skip)
 (.exit 0)))
 (.seq (.block 1
 (.seq (.dreg [[Rq 17 (.mv 0),Rq 18 (.mv 5),Rq 19 (.idxA 3 17 18),Rq 20 (.load true 3 19),Rq 21 (.mv 1),Rq 22 (.mv 5),Rq 23 (.idxA 3 21 22),Rq 24 (.load true 3 23)],[Rq 25 (.eqS true [1, 0, 0] 20 24)]])
 (.cond 25
 (.seq (.reg [Rq 4 (.mv (.const (.bool false)))])
 (.ret))
 (.skip))))
 (.reg [Rq 15 (.mv 5),Rq 16 (.bin .add 15 (Kq 1)),Rq 5 (.mv 16)]))))))
 (.seq (.reg [Rq 4 (.mv (.const (.bool true)))])
 (.ret))))
theorem ck_hearsayref_SameGateways : chkFun Try.prog 13 2 = some (rc_hearsayref_SameGateways, [4]) := by kernel_rfl
/-- hearsay/hearsayref.SameTexts -/
def rc_hearsayref_SameTexts : RCode :=
 .seq (.reg [Rq 4 (.mv (.const (.bool false)))])
 (.seq (.seq (.reg [Rq 6 (.mv 0),Rq 7 (.len false 6),Rq 8 (.mv 1),Rq 9 (.len false 8),Rq 10 (.bin .neq 7 9)])
 (.cond 10
 (.seq (.reg [Rq 4 (.mv (.const (.bool false)))])
 (.ret))
 (.skip)))
 (.seq (.seq (.reg [Rq 5 (.mv (Kq 0))])
 (.block 0
 (.loop
 (.seq (.seq (.reg [Rq 11 (.mv 5),Rq 12 (.mv 0),Rq 13 (.len false 12),Rq 14 (.bin .lss 11 13)])
 (.cond 14
 (.skip)
 (.exit 0)))
 (.seq (.block 1
 (.seq (.dreg [[Rq 17 (.mv 0),Rq 18 (.mv 5),Rq 19 (.idxA 1 17 18),Rq 20 (.load false 1 19),Rq 21 (.mv 1),Rq 22 (.mv 5),Rq 23 (.idxA 1 21 22),Rq 24 (.load false 1 23)],[Rq 25 (.bin .neq 20 24)]])
 (.cond 25
 (.seq (.reg [Rq 4 (.mv (.const (.bool false)))])
 (.ret))
 (.skip))))
 (.reg [Rq 15 (.mv 5),Rq 16 (.bin .add 15 (Kq 1)),Rq 5 (.mv 16)]))))))
 (.seq (.reg [Rq 4 (.mv (.const (.bool true)))])
 (.ret))))
theorem ck_hearsayref_SameTexts : chkFun Try.prog 14 2 = some (rc_hearsayref_SameTexts, [4]) := by kernel_rfl
/-- hearsay/hearsayref.CheckCatalog -/
def rc_hearsayref_CheckCatalog : RCode :=
 .seq (.reg [Rq 2 (.mv (Kq 0))])
 (.seq (.seq (.reg [Rq 6 (.mv 0),Rq 7 (.len false 6),Rq 8 (.bin .gtr 7 (Kq 40))])
 (.cond 8
 (.seq (.reg [Rq 2 (.mv (Kq 2))])
 (.ret))
 (.skip)))
 (.seq (.seq (.reg [Rq 3 (.mv (Kq 0))])
 (.block 0
 (.loop
 (.seq (.seq (.reg [Rq 9 (.mv 3),Rq 10 (.mv 0),Rq 11 (.len false 10),Rq 12 (.bin .lss 9 11)])
 (.cond 12
 (.skip)
 (.exit 0)))
 (.seq (.block 1
 (.seq (.reg [Rq 15 (.mv 0),Rq 16 (.mv 3),Rq 17 (.idxA 9 15 16),Rq 18 (.load true 9 17),Rq 19 (.call (.func 44) [18]),Rq 4 (.mv 19)])
 (.seq (.reg [Rq 20 (.mv 4),Rq 21 (.bin .neq 20 (Kq 0))])
 (.cond 21
 (.seq (.reg [Rq 22 (.mv 4),Rq 2 (.mv 22)])
 (.ret))
 (.skip)))))
 (.reg [Rq 13 (.mv 3),Rq 14 (.bin .add 13 (Kq 1)),Rq 3 (.mv 14)]))))))
 (.seq (.seq (.reg [Rq 5 (.mv (Kq 1))])
 (.block 2
 (.loop
 (.seq (.seq (.reg [Rq 23 (.mv 5),Rq 24 (.mv 0),Rq 25 (.len false 24),Rq 26 (.bin .lss 23 25)])
 (.cond 26
 (.skip)
 (.exit 2)))
 (.seq (.block 3
 (.seq (.dreg [[Rq 29 (.mv 0),Rq 30 (.mv 5),Rq 31 (.bin .sub 30 (Kq 1)),Rq 32 (.idxA 9 29 31),Rq 33 (.load true 9 32),Rq 34 (.mv 0),Rq 35 (.mv 5),Rq 36 (.idxA 9 34 35),Rq 37 (.load true 9 36)],[Rq 38 (.call (.func 45) [33, 37])],[Rq 39 (.not 38)]])
 (.cond 39
 (.seq (.reg [Rq 2 (.mv (Kq 4))])
 (.ret))
 (.skip))))
 (.reg [Rq 27 (.mv 5),Rq 28 (.bin .add 27 (Kq 1)),Rq 5 (.mv 28)]))))))
 (.seq (.reg [Rq 2 (.mv (Kq 0))])
 (.ret)))))
theorem ck_hearsayref_CheckCatalog : chkFun Try.prog 15 1 = some (rc_hearsayref_CheckCatalog, [2]) := by kernel_rfl
/-- hearsay/hearsayref.RegisterOf -/
def rc_hearsayref_RegisterOf : RCode :=
 .seq (.reg [Rq 3 (.box 24 9 1),Rq 4 (.mv (.const (.slice none 0 0))),Rq 5 (.mv (Kq 0))])
 (.seq (.reg [Rq 7 (.fldA 7 3),Sq 1 7 (Kq 1),Rq 8 (.fldA 8 3),Sq 1 8 (.const (.bool false))])
 (.seq (.reg [Rq 9 (.load true 9 3),Rq 10 (.call (.func 44) [9]),Rq 6 (.mv 10)])
 (.seq (.seq (.reg [Rq 11 (.mv 6),Rq 12 (.bin .neq 11 (Kq 0))])
 (.cond 12
 (.seq (.reg [Rq 13 (.mv 6),Rq 4 (.mv (.const (.slice none 0 0))),Rq 5 (.mv 13)])
 (.ret))
 (.skip)))
 (.seq (.reg [Rq 14 (.mv 0),Rq 15 (.load true 9 3),Rq 16 (.call (.func 46) [14, 15]),Rq 17 (.ext 16 0),Rq 18 (.ext 16 1),Rq 4 (.mv 17),Rq 5 (.mv 18)])
 (.ret)))))
theorem ck_hearsayref_RegisterOf : chkFun Try.prog 16 2 = some (rc_hearsayref_RegisterOf, [4, 5]) := by kernel_rfl
/-- hearsay/hearsayref.FindOf -/
def rc_hearsayref_FindOf : RCode :=
 .seq (.reg [Rq 6 (.mv (.const (.slice none 0 0)))])
 (.seq (.reg [Rq 7 (.mv (.const (.slice none 0 0)))])
 (.seq (.seq (.reg [Rq 8 (.mv (Kq 0))])
 (.block 0
 (.loop
 (.seq (.seq (.reg [Rq 9 (.mv 8),Rq 10 (.mv 0),Rq 11 (.len false 10),Rq 12 (.bin .lss 9 11)])
 (.cond 12
 (.skip)
 (.exit 0)))
 (.seq (.block 1
 (.seq (.reg [Rq 15 (.mv 0),Rq 16 (.mv 8),Rq 17 (.idxA 9 15 16),Rq 18 (.fldA 2 17),Rq 19 (.load false 1 18),Rq 20 (.mv 1),Rq 21 (.bin .eql 19 20),Rq 22 (.mv 21),Gq 23 22 true (.mv 2),Gq 24 22 true (.bin .eql 23 (.const (.string ⟨#[]⟩))),Gq 25 22 true (.mv 24),Gq 26 25 false (.mv 2),Gq 27 25 false (.mv 0),Gq 28 25 false (.mv 8),Gq 29 25 false (.idxA 9 27 28),Gq 30 25 false (.fldA 3 29),Gq 31 25 false (.load false 1 30),Gq 32 25 false (.bin .eql 26 31),Gq 33 22 true (.pick 25 (.const (.bool true)) 32),Rq 34 (.pick 22 33 (.const (.bool false))),Rq 35 (.mv 34),Gq 36 35 true (.mv 0),Gq 37 35 true (.mv 8),Gq 38 35 true (.idxA 9 36 37),Gq 39 35 true (.fldA 6 38),Gq 40 35 true (.load false 1 39),Rq 41 (.pick 35 40 (.const (.bool false))),Rq 42 (.mv 41),Gq 43 42 true (.mv 0),Gq 44 42 true (.mv 8),Gq 45 42 true (.idxA 9 43 44),Gq 46 42 true (.fldA 8 45),Gq 47 42 true (.load false 1 46),Gq 48 42 true (.not 47),Rq 49 (.pick 42 48 (.const (.bool false)))])
 (.cond 49
 (.reg [Rq 50 (.mv 7),Rq 51 (.mv 0),Rq 52 (.mv 8),Rq 53 (.idxA 9 51 52),Rq 54 (.load true 9 53),Rq 55 (.mks 24 9 1 zq2 [(0, 54)]),Rq 56 (.app 24 9 104 (.agg #[(.string ⟨#[]⟩), (.string ⟨#[]⟩), (.string ⟨#[]⟩), (.string ⟨#[]⟩), (.int .i64 0), (.int .i64 0), (.bool false), (.int .i64 0), (.bool false)]) 50 55),Rq 7 (.mv 56)])
 (.skip))))
 (.reg [Rq 13 (.mv 8),Rq 14 (.bin .add 13 (Kq 1)),Rq 8 (.mv 14)]))))))
 (.seq (.reg [Rq 57 (.mv 7),Rq 6 (.mv 57)])
 (.ret))))
theorem ck_hearsayref_FindOf : chkFun Try.prog 17 3 = some (rc_hearsayref_FindOf, [6]) := by kernel_rfl
/-- hearsay/hearsayref.CheckGateways -/
def rc_hearsayref_CheckGateways : RCode :=
 .seq (.reg [Rq 2 (.mv (Kq 0))])
 (.seq (.seq (.reg [Rq 5 (.mv 0),Rq 6 (.len false 5),Rq 7 (.bin .gtr 6 (Kq 6))])
 (.cond 7
 (.seq (.reg [Rq 2 (.mv (Kq 2))])
 (.ret))
 (.skip)))
 (.seq (.seq (.reg [Rq 3 (.mv (Kq 0))])
 (.block 0
 (.loop
 (.seq (.seq (.reg [Rq 8 (.mv 3),Rq 9 (.mv 0),Rq 10 (.len false 9),Rq 11 (.bin .lss 8 10)])
 (.cond 11
 (.skip)
 (.exit 0)))
 (.seq (.block 1
 (.seq (.seq (.reg [Rq 14 (.mv 0),Rq 15 (.mv 3),Rq 16 (.idxA 3 14 15),Rq 17 (.fldA 0 16),Rq 18 (.load false 1 17),Rq 19 (.call (.func 47) [18]),Rq 20 (.not 19)])
 (.cond 20
 (.seq (.reg [Rq 2 (.mv (Kq 1))])
 (.ret))
 (.skip)))
 (.seq (.reg [Rq 21 (.mv 0),Rq 22 (.mv 3),Rq 23 (.idxA 3 21 22),Rq 24 (.fldA 1 23),Rq 25 (.load false 1 24),Rq 26 (.call (.func 48) [25]),Rq 27 (.not 26),Rq 28 (.mv 27),Gq 29 28 false (.mv 0),Gq 30 28 false (.mv 3),Gq 31 28 false (.idxA 3 29 30),Gq 32 28 false (.fldA 2 31),Gq 33 28 false (.load false 1 32),Gq 34 28 false (.call (.func 49) [33, (Kq 1), (Kq 1000000)]),Gq 35 28 false (.not 34),Rq 36 (.pick 28 (.const (.bool true)) 35)])
 (.cond 36
 (.seq (.reg [Rq 2 (.mv (Kq 3))])
 (.ret))
 (.skip)))))
 (.reg [Rq 12 (.mv 3),Rq 13 (.bin .add 12 (Kq 1)),Rq 3 (.mv 13)]))))))
 (.seq (.seq (.reg [Rq 4 (.mv (Kq 1))])
 (.block 2
 (.loop
 (.seq (.seq (.reg [Rq 37 (.mv 4),Rq 38 (.mv 0),Rq 39 (.len false 38),Rq 40 (.bin .lss 37 39)])
 (.cond 40
 (.skip)
 (.exit 2)))
 (.seq (.block 3
 (.seq (.dreg [[Rq 43 (.mv 0),Rq 44 (.mv 4),Rq 45 (.idxA 3 43 44),Rq 46 (.fldA 0 45),Rq 47 (.load false 1 46),Rq 48 (.mv 0),Rq 49 (.mv 4),Rq 50 (.bin .sub 49 (Kq 1)),Rq 51 (.idxA 3 48 50),Rq 52 (.fldA 0 51),Rq 53 (.load false 1 52)],[Rq 54 (.bin .leq 47 53)]])
 (.cond 54
 (.seq (.reg [Rq 2 (.mv (Kq 4))])
 (.ret))
 (.skip))))
 (.reg [Rq 41 (.mv 4),Rq 42 (.bin .add 41 (Kq 1)),Rq 4 (.mv 42)]))))))
 (.seq (.reg [Rq 2 (.mv (Kq 0))])
 (.ret)))))
theorem ck_hearsayref_CheckGateways : chkFun Try.prog 18 1 = some (rc_hearsayref_CheckGateways, [2]) := by kernel_rfl
/-- hearsay/hearsayref.OpenOf -/
def rc_hearsayref_OpenOf : RCode :=
 .seq (.reg [Rq 6 (.mv (.const (.slice none 0 0))),Rq 7 (.mv (Kq 0))])
 (.seq (.seq (.reg [Rq 11 (.mv 1),Rq 12 (.call (.func 47) [11]),Rq 13 (.not 12)])
 (.cond 13
 (.seq (.reg [Rq 6 (.mv (.const (.slice none 0 0))),Rq 7 (.mv (Kq 1))])
 (.ret))
 (.skip)))
 (.seq (.reg [Rq 14 (.mv 1),Rq 15 (.mv 2),Rq 16 (.build [(.string ⟨#[]⟩), (.int .i64 0), (.int .i64 0)] [(0, 1, 14), (1, 1, 15), (2, 1, (Kq 1))]),Rq 8 (.zbox 62 [(.string ⟨#[]⟩), (.int .i64 0), (.int .i64 0)]),Sq 3 8 16])
 (.seq (.reg [Rq 17 (.mv 0),Rq 18 (.mv 1),Rq 19 (.call (.func 50) [17, 18]),Rq 9 (.mv 19)])
 (.seq (.seq (.reg [Rq 20 (.mv 9),Rq 21 (.bin .geq 20 (Kq 0))])
 (.cond 21
 (.reg [Rq 22 (.mv 0),Rq 23 (.mv 9),Rq 24 (.idxA 3 22 23),Rq 25 (.fldA 2 24),Rq 26 (.load false 1 25),Rq 27 (.bin .add 26 (Kq 1)),Rq 28 (.fldA 2 8),Sq 1 28 27])
 (.skip)))
 (.seq (.seq (.reg [Rq 29 (.mv 2),Rq 30 (.call (.func 48) [29]),Rq 31 (.not 30),Rq 32 (.mv 31),Gq 33 32 false (.fldA 2 8),Gq 34 32 false (.load false 1 33),Gq 35 32 false (.bin .gtr 34 (Kq 1000000)),Rq 36 (.pick 32 (.const (.bool true)) 35)])
 (.cond 36
 (.seq (.reg [Rq 6 (.mv (.const (.slice none 0 0))),Rq 7 (.mv (Kq 3))])
 (.ret))
 (.skip)))
 (.seq (.reg [Rq 37 (.mv 0),Rq 38 (.load true 3 8),Rq 39 (.call (.func 51) [37, 38]),Rq 10 (.mv 39)])
 (.seq (.seq (.reg [Rq 40 (.mv 10),Rq 41 (.len false 40),Rq 42 (.bin .gtr 41 (Kq 6))])
 (.cond 42
 (.seq (.reg [Rq 6 (.mv (.const (.slice none 0 0))),Rq 7 (.mv (Kq 2))])
 (.ret))
 (.skip)))
 (.seq (.reg [Rq 43 (.mv 10),Rq 6 (.mv 43),Rq 7 (.mv (Kq 0))])
 (.ret)))))))))
theorem ck_hearsayref_OpenOf : chkFun Try.prog 19 3 = some (rc_hearsayref_OpenOf, [6, 7]) := by kernel_rfl
/-- hearsay/hearsayref.SortOf -/
def rc_hearsayref_SortOf : RCode :=
 .seq (.reg [Rq 3 (.box 40 5 0),Rq 6 (.mv (.const (.slice none 0 0)))])
 (.seq (.reg [Rq 7 (.mv (.const (.slice none 0 0)))])
 (.seq (.seq (.reg [Rq 8 (.mv (Kq 0))])
 (.block 0
 (.loop
 (.seq (.seq (.reg [Rq 13 (.mv 8),Rq 14 (.mv 2),Rq 15 (.len false 14),Rq 16 (.bin .lss 13 15)])
 (.cond 16
 (.skip)
 (.exit 0)))
 (.seq (.block 1
 (.seq (.dreg [[Rq 19 (.load true 5 3),Rq 20 (.mv 1),Rq 21 (.mv 2),Rq 22 (.mv 8),Rq 23 (.idxA 1 21 22),Rq 24 (.load false 1 23)],[Rq 25 (.call (.func 52) [19, 20, 24])],[Rq 9 (.mv 25)]])
 (.seq (.reg [Rq 10 (.mv (Kq 0))])
 (.seq (.block 2
 (.loop
 (.seq (.seq (.reg [Rq 26 (.mv 10),Rq 27 (.mv 7),Rq 28 (.len false 27),Rq 29 (.bin .lss 26 28)])
 (.cond 29
 (.skip)
 (.exit 2)))
 (.block 3
 (.seq (.dreg [[Rq 30 (.load true 5 3),Rq 31 (.mv 1),Rq 32 (.mv 7),Rq 33 (.mv 10),Rq 34 (.idxA 1 32 33),Rq 35 (.load false 1 34)],[Rq 36 (.call (.func 52) [30, 31, 35])],[Rq 11 (.mv 36)]])
 (.seq (.dreg [[Rq 37 (.mv 9)],[Rq 38 (.bin .lss 37 (Kq 0))],[Rq 39 (.mv 38)],[Gq 40 39 true (.mv 11)],[Gq 41 39 true (.bin .geq 40 (Kq 0))],[Rq 42 (.pick 39 41 (.const (.bool false)))],[Rq 43 (.mv 42)],[Gq 44 43 false (.mv 9),Gq 45 43 false (.bin .lss 44 (Kq 0)),Gq 46 43 false (.mv 11),Gq 47 43 false (.bin .lss 46 (Kq 0))],[Gq 48 43 false (.eqb false 45 47)],[Gq 49 43 false (.mv 48)],[Gq 50 49 true (.mv 11),Gq 51 49 true (.mv 9)],[Gq 52 49 true (.bin .lss 50 51)],[Gq 53 49 true (.mv 52)],[Gq 54 53 false (.mv 11),Gq 55 53 false (.mv 9)],[Gq 56 53 false (.bin .eql 54 55)],[Gq 57 53 false (.mv 56)],[Gq 58 57 true (.mv 7),Gq 59 57 true (.mv 10),Gq 60 57 true (.idxA 1 58 59),Gq 61 57 true (.load false 1 60),Gq 62 57 true (.mv 2),Gq 63 57 true (.mv 8),Gq 64 57 true (.idxA 1 62 63),Gq 65 57 true (.load false 1 64)],[Gq 66 57 true (.bin .leq 61 65)],[Gq 67 53 false (.pick 57 66 (.const (.bool false)))],[Gq 68 49 true (.pick 53 (.const (.bool true)) 67)],[Gq 69 43 false (.pick 49 68 (.const (.bool false)))],[Rq 70 (.pick 43 (.const (.bool true)) 69)],[Rq 12 (.mv 70)]])
 (.seq (.seq (.reg [Rq 71 (.mv 12),Rq 72 (.not 71)])
 (.cond 72
 (.exit 2)
 (.skip)))
 (.reg [Rq 73 (.mv 10),Rq 74 (.bin .add 73 (Kq 1)),Rq 10 (.mv 74)]))))))))
 (.dreg [[],[Rq 87 (.app 9 1 16 (.string ⟨#[]⟩) 83 86),Rq 78 (.mkm)],[Rq 75 (.mv 7),Rq 76 (.mv 10),Rq 77 (.mv 10),Rq 78 (.slcL 1 75 none (some 76) (some 77)),Rq 79 (.mv 2),Rq 80 (.mv 8),Rq 81 (.idxA 1 79 80),Rq 82 (.load false 1 81),Rq 83 (.mks 9 1 1 [(.string ⟨#[]⟩)] [(0, 82)]),Rq 84 (.mv 7),Rq 85 (.mv 10),Rq 86 (.slcL 1 84 (some 85) none none)],[Rq 88 (.app 9 1 16 (.string ⟨#[]⟩) 78 87)],[Rq 7 (.mv 88)]])))))
 (.reg [Rq 17 (.mv 8),Rq 18 (.bin .add 17 (Kq 1)),Rq 8 (.mv 18)]))))))
 (.seq (.reg [Rq 89 (.mv 7),Rq 6 (.mv 89)])
 (.ret))))
theorem ck_hearsayref_SortOf : chkFun Try.prog 20 3 = some (rc_hearsayref_SortOf, [6]) := by kernel_rfl
/-- hearsay/hearsaylaw.spoilServices -/
def rc_hearsaylaw_spoilServices : RCode :=
 .seq (.reg [Rq 2 (.mv (Kq 0))])
 (.block 0
 (.loop
 (.seq (.seq (.reg [Rq 3 (.mv 2),Rq 4 (.mv 0),Rq 5 (.len false 4),Rq 6 (.bin .lss 3 5)])
 (.cond 6
 (.skip)
 (.exit 0)))
 (.seq (.block 1
 (.reg [Rq 9 (.mv 0),Rq 10 (.mv 2),Rq 11 (.build zq2 [(0, 1, (.const (.string ⟨#[63]⟩)))]),Rq 12 (.idxA 9 9 10),Sq 9 12 11]))
 (.reg [Rq 7 (.mv 2),Rq 8 (.bin .add 7 (Kq 1)),Rq 2 (.mv 8)])))))
theorem ck_hearsaylaw_spoilServices : chkFun Try.prog 21 1 = some (rc_hearsaylaw_spoilServices, []) := by kernel_rfl
/-- hearsay/hearsaylaw.spoilGateways -/
def rc_hearsaylaw_spoilGateways : RCode :=
 .seq (.reg [Rq 2 (.mv (Kq 0))])
 (.block 0
 (.loop
 (.seq (.seq (.reg [Rq 3 (.mv 2),Rq 4 (.mv 0),Rq 5 (.len false 4),Rq 6 (.bin .lss 3 5)])
 (.cond 6
 (.skip)
 (.exit 0)))
 (.seq (.block 1
 (.reg [Rq 9 (.mv 0),Rq 10 (.mv 2),Rq 11 (.build [(.string ⟨#[]⟩), (.int .i64 0), (.int .i64 0)] [(0, 1, (.const (.string ⟨#[63]⟩)))]),Rq 12 (.idxA 3 9 10),Sq 3 12 11]))
 (.reg [Rq 7 (.mv 2),Rq 8 (.bin .add 7 (Kq 1)),Rq 2 (.mv 8)])))))
theorem ck_hearsaylaw_spoilGateways : chkFun Try.prog 22 1 = some (rc_hearsaylaw_spoilGateways, []) := by kernel_rfl
/-- hearsay/centre.Next -/
def rc_centre_Next : RCode :=
 .seq (.reg [Rq 6 (.mv (Kq 0)),Rq 7 (.mv (Kq 0))])
 (.seq (.seq (.reg [Rq 11 (.mv 0),Rq 12 (.mks 25 1 1 [(.slice none 0 0)] [(0, 11)]),Rq 13 (.call (.func 31) [12]),Rq 8 (.mv 13)])
 (.seq (.reg [Rq 14 (.mv 8),Rq 15 (.bin .neq 14 (Kq 0))])
 (.cond 15
 (.seq (.reg [Rq 16 (.mv 8),Rq 6 (.mv (Kq 0)),Rq 7 (.mv 16)])
 (.ret))
 (.skip))))
 (.seq (.block 0
 (.seq (.reg [Rq 18 (.mv 1),Rq 19 (.call (.func 29) [18]),Rq 20 (.not 19),Rq 21 (.mv 20),Gq 22 21 false (.mv 2),Gq 23 21 false (.call (.func 29) [22]),Gq 24 21 false (.not 23),Rq 25 (.pick 21 (.const (.bool true)) 24),Rq 17 (.mv 25)])
 (.cond 17
 (.seq (.reg [Rq 6 (.mv (Kq 0)),Rq 7 (.mv (Kq 1))])
 (.ret))
 (.seq (.reg [Rq 27 (.mv 1),Rq 28 (.mv 2),Rq 29 (.bin .eql 27 28),Rq 26 (.mv 29)])
 (.cond 26
 (.seq (.reg [Rq 6 (.mv (Kq 0)),Rq 7 (.mv (Kq 6))])
 (.ret))
 (.skip))))))
 (.seq (.reg [Rq 31 (.mv 0),Rq 32 (.mv 2),Rq 33 (.call (.func 34) [31, 32]),Rq 30 (.mv 33),Rq 34 (.ext 30 0),Rq 35 (.ext 30 1),Rq 9 (.mv 34),Rq 10 (.mv 35)])
 (.seq (.seq (.reg [Rq 36 (.mv 10),Rq 37 (.not 36)])
 (.cond 37
 (.seq (.reg [Rq 6 (.mv (Kq 0)),Rq 7 (.mv (Kq 5))])
 (.ret))
 (.skip)))
 (.seq (.reg [Rq 38 (.mv 0),Rq 39 (.mv 9),Rq 40 (.idxA 3 38 39),Rq 41 (.fldA 1 40),Rq 42 (.load false 1 41),Rq 6 (.mv 42),Rq 7 (.mv (Kq 0))])
 (.ret))))))
theorem ck_centre_Next : chkFun Try.prog 23 3 = some (rc_centre_Next, [6, 7]) := by kernel_rfl
/-- hearsay/place.Root -/
def rc_place_Root : RCode :=
 .seq (.reg [Rq 2 (.mv (Kq 0)),Rq 3 (.mv (Kq 0))])
 (.seq (.seq (.reg [Rq 4 (.mv 0),Rq 5 (.bin .lss 4 (Kq 0))])
 (.cond 5
 (.seq (.reg [Rq 2 (.mv (Kq 0)),Rq 3 (.mv (Kq 3))])
 (.ret))
 (.skip)))
 (.seq (.reg [Rq 6 (.mv 0),Rq 7 (.call (.func 53) [6]),Rq 2 (.mv 7),Rq 3 (.mv (Kq 0))])
 (.ret)))
theorem ck_place_Root : chkFun Try.prog 24 1 = some (rc_place_Root, [2, 3]) := by kernel_rfl
/-- hearsay/place.Far -/
def rc_place_Far : RCode :=
 .seq (.reg [Rq 2 (.box 40 5 0),Rq 3 (.box 40 5 1),Rq 4 (.mv (Kq 0)),Rq 5 (.mv (Kq 0))])
 (.seq (.seq (.reg [Rq 7 (.load true 5 2),Rq 8 (.load true 5 3),Rq 9 (.mks 40 5 2 zq0 [(0, 7), (1, 8)]),Rq 10 (.call (.func 54) [9]),Rq 6 (.mv 10)])
 (.seq (.reg [Rq 11 (.mv 6),Rq 12 (.bin .neq 11 (Kq 0))])
 (.cond 12
 (.seq (.reg [Rq 13 (.mv 6),Rq 4 (.mv (Kq 0)),Rq 5 (.mv 13)])
 (.ret))
 (.skip))))
 (.seq (.reg [Rq 14 (.load true 5 2),Rq 15 (.load true 5 3),Rq 16 (.call (.func 37) [14, 15]),Rq 4 (.mv 16),Rq 5 (.mv (Kq 0))])
 (.ret)))
theorem ck_place_Far : chkFun Try.prog 25 2 = some (rc_place_Far, [4, 5]) := by kernel_rfl
/-- hearsay/catalog.check -/
def rc_catalog_check : RCode :=
 .seq (.reg [Rq 2 (.mv (Kq 0))])
 (.seq (.seq (.reg [Rq 9 (.mv 0),Rq 10 (.len false 9),Rq 11 (.mv (Kq 0))])
 (.block 0
 (.loop
 (.seq (.reg [Rq 12 (.bin .lss 11 10)])
 (.seq (.cond 12
 (.skip)
 (.exit 0))
 (.seq (.block 1
 (.seq (.reg [Rq 13 (.idxA 1 9 11),Rq 14 (.load false 1 13),Rq 4 (.mv 14)])
 (.seq (.seq (.reg [Rq 15 (.mv 4),Rq 16 (.len false 15),Rq 17 (.bin .gtr 16 (Kq 40))])
 (.cond 17
 (.seq (.reg [Rq 2 (.mv (Kq 2))])
 (.ret))
 (.skip)))
 (.seq (.seq (.reg [Rq 18 (.mv 4),Rq 19 (.len false 18),Rq 20 (.mv (Kq 0))])
 (.block 2
 (.loop
 (.seq (.reg [Rq 21 (.bin .lss 20 19)])
 (.seq (.cond 21
 (.skip)
 (.exit 2))
 (.seq (.block 3
 (.seq (.reg [Rq 22 (.idxA 9 18 20),Rq 23 (.load true 9 22),Rq 6 (.zbox 24 zq2),Sq 9 6 23])
 (.seq (.reg [Rq 24 (.load true 9 6),Rq 25 (.call (.func 27) [24]),Rq 7 (.mv 25)])
 (.seq (.reg [Rq 26 (.mv 7),Rq 27 (.bin .neq 26 (Kq 0))])
 (.cond 27
 (.seq (.reg [Rq 28 (.mv 7),Rq 2 (.mv 28)])
 (.ret))
 (.skip))))))
 (.reg [Rq 29 (.bin .add 20 (Kq 1)),Rq 20 (.mv 29)])))))))
 (.seq (.reg [Rq 8 (.mv (Kq 1))])
 (.block 4
 (.loop
 (.seq (.seq (.reg [Rq 30 (.mv 8),Rq 31 (.mv 4),Rq 32 (.len false 31),Rq 33 (.bin .lss 30 32)])
 (.cond 33
 (.skip)
 (.exit 4)))
 (.seq (.block 5
 (.seq (.dreg [[Rq 36 (.mv 4),Rq 37 (.mv 8),Rq 38 (.bin .sub 37 (Kq 1)),Rq 39 (.idxA 9 36 38),Rq 40 (.load true 9 39),Rq 41 (.mv 4),Rq 42 (.mv 8),Rq 43 (.idxA 9 41 42),Rq 44 (.load true 9 43)],[Rq 45 (.call (.func 55) [40, 44])],[Rq 46 (.bin .geq 45 (Kq 0))]])
 (.cond 46
 (.seq (.reg [Rq 2 (.mv (Kq 4))])
 (.ret))
 (.skip))))
 (.reg [Rq 34 (.mv 8),Rq 35 (.bin .add 34 (Kq 1)),Rq 8 (.mv 35)]))))))))))
 (.reg [Rq 47 (.bin .add 11 (Kq 1)),Rq 11 (.mv 47)])))))))
 (.seq (.reg [Rq 2 (.mv (Kq 0))])
 (.ret)))
theorem ck_catalog_check : chkFun Try.prog 26 1 = some (rc_catalog_check, [2]) := by kernel_rfl
/-- hearsay/catalog.one -/
def rc_catalog_one : RCode :=
 .seq (.reg [Rq 1 (.box 24 9 0),Rq 2 (.mv (Kq 0))])
 (.seq (.block 0
 (.seq (.reg [Rq 4 (.fldA 0 1),Rq 5 (.load false 1 4),Rq 6 (.call (.func 29) [5]),Rq 7 (.not 6),Rq 8 (.mv 7),Gq 9 8 false (.fldA 1 1),Gq 10 8 false (.load false 1 9),Gq 11 8 false (.call (.func 29) [10]),Gq 12 8 false (.not 11),Rq 13 (.pick 8 (.const (.bool true)) 12),Rq 14 (.mv 13),Gq 15 14 false (.fldA 2 1),Gq 16 14 false (.load false 1 15),Gq 17 14 false (.call (.func 29) [16]),Gq 18 14 false (.not 17),Rq 19 (.pick 14 (.const (.bool true)) 18),Rq 20 (.mv 19),Gq 21 20 false (.fldA 3 1),Gq 22 20 false (.load false 1 21),Gq 23 20 false (.call (.func 30) [22]),Gq 24 20 false (.not 23),Rq 25 (.pick 20 (.const (.bool true)) 24),Rq 3 (.mv 25)])
 (.cond 3
 (.seq (.reg [Rq 2 (.mv (Kq 1))])
 (.ret))
 (.seq (.reg [Rq 27 (.fldA 4 1),Rq 28 (.load false 1 27),Rq 29 (.call (.func 56) [28, (Kq 0), (Kq 4294967295)]),Rq 30 (.not 29),Rq 31 (.mv 30),Gq 32 31 false (.fldA 5 1),Gq 33 31 false (.load false 1 32),Gq 34 31 false (.call (.func 56) [33, (Kq 0), (Kq 65535)]),Gq 35 31 false (.not 34),Rq 36 (.pick 31 (.const (.bool true)) 35),Rq 37 (.mv 36),Gq 38 37 false (.fldA 7 1),Gq 39 37 false (.load false 1 38),Gq 40 37 false (.call (.func 56) [39, (Kq 1), (Kq 1000000)]),Gq 41 37 false (.not 40),Rq 42 (.pick 37 (.const (.bool true)) 41),Rq 26 (.mv 42)])
 (.cond 26
 (.seq (.reg [Rq 2 (.mv (Kq 3))])
 (.ret))
 (.skip))))))
 (.seq (.reg [Rq 2 (.mv (Kq 0))])
 (.ret)))
theorem ck_catalog_one : chkFun Try.prog 27 1 = some (rc_catalog_one, [2]) := by kernel_rfl
/-- hearsay/catalog.set -/
def rc_catalog_set : RCode :=
 .seq (.reg [Rq 3 (.box 24 9 1),Rq 4 (.mv (.const (.slice none 0 0))),Rq 5 (.mv (Kq 0))])
 (.seq (.reg [Rq 8 (.mv 0),Rq 9 (.call (.func 57) [8]),Rq 0 (.mv 9)])
 (.seq (.reg [Rq 11 (.mv 0),Rq 12 (.fldA 0 3),Rq 13 (.load false 1 12),Rq 14 (.fldA 1 3),Rq 15 (.load false 1 14),Rq 16 (.call (.func 58) [11, 13, 15]),Rq 10 (.mv 16),Rq 17 (.ext 10 0),Rq 18 (.ext 10 1),Rq 6 (.mv 17),Rq 7 (.mv 18)])
 (.seq (.reg [Rq 19 (.fldA 7 3),Sq 1 19 (Kq 1)])
 (.seq (.seq (.reg [Rq 20 (.mv 7)])
 (.cond 20
 (.reg [Rq 21 (.mv 0),Rq 22 (.mv 6),Rq 23 (.idxA 9 21 22),Rq 24 (.fldA 7 23),Rq 25 (.load false 1 24),Rq 26 (.bin .add 25 (Kq 1)),Rq 27 (.fldA 7 3),Sq 1 27 26])
 (.skip)))
 (.seq (.block 0
 (.seq (.reg [Rq 29 (.fldA 7 3),Rq 30 (.load false 1 29),Rq 31 (.bin .gtr 30 (Kq 1000000)),Rq 28 (.mv 31)])
 (.cond 28
 (.seq (.reg [Rq 4 (.mv (.const (.slice none 0 0))),Rq 5 (.mv (Kq 3))])
 (.ret))
 (.seq (.reg [Rq 33 (.mv 7),Rq 32 (.mv 33)])
 (.cond 32
 (.seq (.reg [Rq 34 (.mv 0),Rq 35 (.mv 6),Rq 36 (.load true 9 3),Rq 37 (.idxA 9 34 35),Sq 9 37 36])
 (.seq (.reg [Rq 38 (.mv 0),Rq 4 (.mv 38),Rq 5 (.mv (Kq 0))])
 (.ret)))
 (.seq (.reg [Rq 40 (.mv 0),Rq 41 (.len false 40),Rq 42 (.bin .eql 41 (Kq 40)),Rq 39 (.mv 42)])
 (.cond 39
 (.seq (.reg [Rq 4 (.mv (.const (.slice none 0 0))),Rq 5 (.mv (Kq 2))])
 (.ret))
 (.skip))))))))
 (.seq (.reg [Rq 43 (.mv 0),Rq 44 (.mv 6),Rq 45 (.load true 9 3),Rq 46 (.mks 24 9 1 zq2 [(0, 45)]),Rq 47 (.call (.func 59) [43, 44, 46]),Rq 4 (.mv 47),Rq 5 (.mv (Kq 0))])
 (.ret)))))))
theorem ck_catalog_set : chkFun Try.prog 28 2 = some (rc_catalog_set, [4, 5]) := by kernel_rfl
/-- hearsay/dns.IsLabel -/
def rc_dns_IsLabel : RCode :=
 .seq (.reg [Rq 2 (.mv (.const (.bool false)))])
 (.seq (.seq (.reg [Rq 5 (.mv 0),Rq 6 (.toB 5),Rq 7 (.len false 6),Rq 8 (.mv (Kq 0))])
 (.block 0
 (.loop
 (.seq (.reg [Rq 9 (.bin .lss 8 7)])
 (.seq (.cond 9
 (.skip)
 (.exit 0))
 (.seq (.block 1
 (.seq (.reg [Rq 10 (.idxA 1 6 8),Rq 11 (.load false 1 10),Rq 4 (.mv 11)])
 (.seq (.reg [Rq 12 (.mv 4),Rq 13 (.bin .lss 12 (.const (.int .u8 97))),Rq 14 (.mv 13),Gq 15 14 false (.mv 4),Gq 16 14 false (.bin .gtr 15 (.const (.int .u8 122))),Rq 17 (.pick 14 (.const (.bool true)) 16),Rq 18 (.mv 17),Gq 19 18 true (.mv 4),Gq 20 18 true (.bin .lss 19 (.const (.int .u8 48))),Gq 21 18 true (.mv 20),Gq 22 21 false (.mv 4),Gq 23 21 false (.bin .gtr 22 (.const (.int .u8 57))),Gq 24 18 true (.pick 21 (.const (.bool true)) 23),Rq 25 (.pick 18 24 (.const (.bool false))),Rq 26 (.mv 25),Gq 27 26 true (.mv 4),Gq 28 26 true (.bin .neq 27 (.const (.int .u8 45))),Rq 29 (.pick 26 28 (.const (.bool false))),Rq 30 (.mv 29),Gq 31 30 true (.mv 4),Gq 32 30 true (.bin .neq 31 (.const (.int .u8 95))),Rq 33 (.pick 30 32 (.const (.bool false)))])
 (.cond 33
 (.seq (.reg [Rq 2 (.mv (.const (.bool false)))])
 (.ret))
 (.skip)))))
 (.reg [Rq 34 (.bin .add 8 (Kq 1)),Rq 8 (.mv 34)])))))))
 (.seq (.reg [Rq 35 (.mv 0),Rq 36 (.bin .neq 35 (.const (.string ⟨#[]⟩))),Rq 37 (.mv 36),Gq 38 37 true (.mv 0),Gq 39 37 true (.len true 38),Gq 40 37 true (.bin .leq 39 (Kq 30)),Rq 41 (.pick 37 40 (.const (.bool false))),Rq 2 (.mv 41)])
 (.ret)))
theorem ck_dns_IsLabel : chkFun Try.prog 29 1 = some (rc_dns_IsLabel, [2]) := by kernel_rfl
/-- hearsay/catalog.maybe -/
def rc_catalog_maybe : RCode :=
 .seq (.reg [Rq 2 (.mv (.const (.bool false)))])
 (.seq (.reg [Rq 3 (.mv 0),Rq 4 (.bin .eql 3 (.const (.string ⟨#[]⟩))),Rq 5 (.mv 4),Gq 6 5 false (.mv 0),Gq 7 5 false (.call (.func 29) [6]),Rq 8 (.pick 5 (.const (.bool true)) 7),Rq 2 (.mv 8)])
 (.ret))
theorem ck_catalog_maybe : chkFun Try.prog 30 1 = some (rc_catalog_maybe, [2]) := by kernel_rfl
/-- hearsay/centre.check -/
def rc_centre_check : RCode :=
 .seq (.reg [Rq 2 (.mv (Kq 0))])
 (.seq (.seq (.reg [Rq 9 (.mv 0),Rq 10 (.len false 9),Rq 11 (.mv (Kq 0))])
 (.block 0
 (.loop
 (.seq (.reg [Rq 12 (.bin .lss 11 10)])
 (.seq (.cond 12
 (.skip)
 (.exit 0))
 (.seq (.block 1
 (.seq (.reg [Rq 13 (.idxA 1 9 11),Rq 14 (.load false 1 13),Rq 4 (.mv 14)])
 (.seq (.seq (.reg [Rq 15 (.mv 4),Rq 16 (.len false 15),Rq 17 (.bin .gtr 16 (Kq 6))])
 (.cond 17
 (.seq (.reg [Rq 2 (.mv (Kq 2))])
 (.ret))
 (.skip)))
 (.seq (.seq (.reg [Rq 18 (.mv 4),Rq 19 (.len false 18),Rq 20 (.mv (Kq 0))])
 (.block 2
 (.loop
 (.seq (.reg [Rq 21 (.bin .lss 20 19)])
 (.seq (.cond 21
 (.skip)
 (.exit 2))
 (.seq (.block 3
 (.seq (.reg [Rq 22 (.idxA 3 18 20),Rq 23 (.load true 3 22),Rq 6 (.zbox 62 [(.string ⟨#[]⟩), (.int .i64 0), (.int .i64 0)]),Sq 3 6 23])
 (.seq (.reg [Rq 24 (.load true 3 6),Rq 25 (.call (.func 32) [24]),Rq 7 (.mv 25)])
 (.seq (.reg [Rq 26 (.mv 7),Rq 27 (.bin .neq 26 (Kq 0))])
 (.cond 27
 (.seq (.reg [Rq 28 (.mv 7),Rq 2 (.mv 28)])
 (.ret))
 (.skip))))))
 (.reg [Rq 29 (.bin .add 20 (Kq 1)),Rq 20 (.mv 29)])))))))
 (.seq (.reg [Rq 8 (.mv (Kq 1))])
 (.block 4
 (.loop
 (.seq (.seq (.reg [Rq 30 (.mv 8),Rq 31 (.mv 4),Rq 32 (.len false 31),Rq 33 (.bin .lss 30 32)])
 (.cond 33
 (.skip)
 (.exit 4)))
 (.seq (.block 5
 (.seq (.dreg [[Rq 36 (.mv 4),Rq 37 (.mv 8),Rq 38 (.idxA 3 36 37),Rq 39 (.fldA 0 38),Rq 40 (.load false 1 39),Rq 41 (.mv 4),Rq 42 (.mv 8),Rq 43 (.bin .sub 42 (Kq 1)),Rq 44 (.idxA 3 41 43),Rq 45 (.fldA 0 44),Rq 46 (.load false 1 45)],[Rq 47 (.bin .leq 40 46)]])
 (.cond 47
 (.seq (.reg [Rq 2 (.mv (Kq 4))])
 (.ret))
 (.skip))))
 (.reg [Rq 34 (.mv 8),Rq 35 (.bin .add 34 (Kq 1)),Rq 8 (.mv 35)]))))))))))
 (.reg [Rq 48 (.bin .add 11 (Kq 1)),Rq 11 (.mv 48)])))))))
 (.seq (.reg [Rq 2 (.mv (Kq 0))])
 (.ret)))
theorem ck_centre_check : chkFun Try.prog 31 1 = some (rc_centre_check, [2]) := by kernel_rfl
/-- hearsay/centre.one -/
def rc_centre_one : RCode :=
 .seq (.reg [Rq 1 (.box 62 3 0),Rq 2 (.mv (Kq 0))])
 (.seq (.block 0
 (.seq (.reg [Rq 4 (.fldA 0 1),Rq 5 (.load false 1 4),Rq 6 (.call (.func 29) [5]),Rq 7 (.not 6),Rq 3 (.mv 7)])
 (.cond 3
 (.seq (.reg [Rq 2 (.mv (Kq 1))])
 (.ret))
 (.seq (.reg [Rq 9 (.fldA 1 1),Rq 10 (.load false 1 9),Rq 11 (.call (.func 60) [10, (Kq 0), (Kq 4294967295)]),Rq 12 (.not 11),Rq 13 (.mv 12),Gq 14 13 false (.fldA 2 1),Gq 15 13 false (.load false 1 14),Gq 16 13 false (.call (.func 60) [15, (Kq 1), (Kq 1000000)]),Gq 17 13 false (.not 16),Rq 18 (.pick 13 (.const (.bool true)) 17),Rq 8 (.mv 18)])
 (.cond 8
 (.seq (.reg [Rq 2 (.mv (Kq 3))])
 (.ret))
 (.skip))))))
 (.seq (.reg [Rq 2 (.mv (Kq 0))])
 (.ret)))
theorem ck_centre_one : chkFun Try.prog 32 1 = some (rc_centre_one, [2]) := by kernel_rfl
/-- slices.Clone(()hearsay/api.Gateway,hearsay/api.Gateway) -/
def rc_slices_Clone_api_Gateway_api_Gateway : RCode :=
 .seq (.reg [Rq 2 (.mv (.const (.slice none 0 0)))])
 (.seq (.seq (.reg [Rq 3 (.mv 0),Rq 4 (.isnil false 3)])
 (.cond 4
 (.seq (.reg [Rq 2 (.mv (.const (.slice none 0 0)))])
 (.ret))
 (.skip)))
 (.seq (.reg [Rq 5 (.mks 62 3 0 [(.string ⟨#[]⟩), (.int .i64 0), (.int .i64 0)] []),Rq 6 (.mv 0),Rq 7 (.app 62 3 32 (.agg #[(.string ⟨#[]⟩), (.int .i64 0), (.int .i64 0)]) 5 6),Rq 2 (.mv 7)])
 (.ret)))
theorem ck_slices_Clone_api_Gateway_api_Gateway : chkFun Try.prog 33 1 = some (rc_slices_Clone_api_Gateway_api_Gateway, [2]) := by kernel_rfl
/-- hearsay/centre.find -/
def rc_centre_find : RCode :=
 .seq (.reg [Rq 4 (.mv (Kq 0)),Rq 5 (.mv (.const (.bool false)))])
 (.seq (.reg [Rq 6 (.mv 0),Rq 7 (.mv 1),Rq 8 (.call (.func 61) [6, 7, (.func 62)]),Rq 9 (.ext 8 0),Rq 10 (.ext 8 1),Rq 4 (.mv 9),Rq 5 (.mv 10)])
 (.ret))
theorem ck_centre_find : chkFun Try.prog 34 2 = some (rc_centre_find, [4, 5]) := by kernel_rfl
/-- hearsay/place.Check -/
def rc_place_Check : RCode :=
 .seq (.reg [Rq 1 (.box 40 5 0),Rq 2 (.mv (Kq 0))])
 (.seq (.reg [Rq 3 (.mv (.func 65))])
 (.seq (.seq (.reg [Rq 4 (.mv 3),Rq 5 (.fldA 0 1),Rq 6 (.load false 1 5),Rq 7 (.call 4 [6]),Rq 8 (.not 7),Rq 9 (.mv 8),Gq 10 9 false (.mv 3),Gq 11 9 false (.fldA 1 1),Gq 12 9 false (.load false 1 11),Gq 13 9 false (.call 10 [12]),Gq 14 9 false (.not 13),Rq 15 (.pick 9 (.const (.bool true)) 14),Rq 16 (.mv 15),Gq 17 16 false (.mv 3),Gq 18 16 false (.fldA 2 1),Gq 19 16 false (.load false 1 18),Gq 20 16 false (.call 17 [19]),Gq 21 16 false (.not 20),Rq 22 (.pick 16 (.const (.bool true)) 21),Rq 23 (.mv 22),Gq 24 23 false (.fldA 3 1),Gq 25 23 false (.load false 1 24),Gq 26 23 false (.call (.func 66) [25, (Kq 0), (Kq 1000000)]),Gq 27 23 false (.not 26),Rq 28 (.pick 23 (.const (.bool true)) 27),Rq 29 (.mv 28),Gq 30 29 false (.fldA 4 1),Gq 31 29 false (.load false 1 30),Gq 32 29 false (.call (.func 66) [31, (Kq 0), (Kq 1000)]),Gq 33 29 false (.not 32),Rq 34 (.pick 29 (.const (.bool true)) 33)])
 (.cond 34
 (.seq (.reg [Rq 2 (.mv (Kq 3))])
 (.ret))
 (.skip)))
 (.seq (.reg [Rq 2 (.mv (Kq 0))])
 (.ret))))
theorem ck_place_Check : chkFun Try.prog 36 1 = some (rc_place_Check, [2]) := by kernel_rfl
/-- hearsay/place.RawFar -/
def rc_place_RawFar : RCode :=
 .seq (.reg [Rq 2 (.box 40 5 0),Rq 3 (.box 40 5 1),Rq 4 (.mv (Kq 0))])
 (.seq (.dreg [[Rq 5 (.load true 5 2),Rq 6 (.load true 5 3),Rq 7 (.call (.func 67) [5, 6]),Rq 8 (.fldA 3 2),Rq 9 (.load false 1 8),Rq 10 (.bin .add 7 9),Rq 11 (.fldA 3 3),Rq 12 (.load false 1 11)],[Rq 13 (.bin .add 10 12)],[Rq 4 (.mv 13)]])
 (.ret))
theorem ck_place_RawFar : chkFun Try.prog 37 2 = some (rc_place_RawFar, [4]) := by kernel_rfl
/-- slices.Clone(()string,string) -/
def rc_slices_Clone_string_string : RCode :=
 .seq (.reg [Rq 2 (.mv (.const (.slice none 0 0)))])
 (.seq (.seq (.reg [Rq 3 (.mv 0),Rq 4 (.isnil false 3)])
 (.cond 4
 (.seq (.reg [Rq 2 (.mv (.const (.slice none 0 0)))])
 (.ret))
 (.skip)))
 (.seq (.reg [Rq 5 (.mks 9 1 0 [(.string ⟨#[]⟩)] []),Rq 6 (.mv 0),Rq 7 (.app 9 1 16 (.string ⟨#[]⟩) 5 6),Rq 2 (.mv 7)])
 (.ret)))
theorem ck_slices_Clone_string_string : chkFun Try.prog 38 1 = some (rc_slices_Clone_string_string, [2]) := by kernel_rfl
/-- hearsay/place.Sort$1 -/
def rc_place_Sort_1 : RCode :=
 .seq (.reg [Rq 5 (.mv (Kq 0))])
 (.seq (.reg [Rq 11 (.load false 1 2),Rq 12 (.mv 0),Rq 13 (.mlook .string true (.int .i64 0) 11 12),Rq 10 (.mv 13),Rq 14 (.ext 10 0),Rq 15 (.ext 10 1),Rq 6 (.mv 14),Rq 7 (.mv 15)])
 (.seq (.reg [Rq 17 (.load false 1 2),Rq 18 (.mv 1),Rq 19 (.mlook .string true (.int .i64 0) 17 18),Rq 16 (.mv 19),Rq 20 (.ext 16 0),Rq 21 (.ext 16 1),Rq 8 (.mv 20),Rq 9 (.mv 21)])
 (.seq (.block 0
 (.seq (.reg [Rq 23 (.mv 7),Rq 24 (.mv 23),Gq 25 24 true (.mv 9),Gq 26 24 true (.not 25),Rq 27 (.pick 24 26 (.const (.bool false))),Rq 22 (.mv 27)])
 (.cond 22
 (.seq (.reg [Rq 5 (.mv (.const (.int .i64 (-1))))])
 (.ret))
 (.seq (.reg [Rq 29 (.mv 9),Rq 30 (.mv 29),Gq 31 30 true (.mv 7),Gq 32 30 true (.not 31),Rq 33 (.pick 30 32 (.const (.bool false))),Rq 28 (.mv 33)])
 (.cond 28
 (.seq (.reg [Rq 5 (.mv (Kq 1))])
 (.ret))
 (.skip))))))
 (.seq (.reg [Rq 34 (.mv 6),Rq 35 (.mv 8),Rq 36 (.call (.func 42) [34, 35]),Rq 37 (.mv 0),Rq 38 (.mv 1),Rq 39 (.call (.func 43) [37, 38]),Rq 40 (.mks 3 1 2 [(.int .i64 0)] [(0, 36), (1, 39)]),Rq 41 (.call (.func 41) [40]),Rq 5 (.mv 41)])
 (.ret)))))
theorem ck_place_Sort_1 : chkFun Try.prog 40 3 = some (rc_place_Sort_1, [5]) := by kernel_rfl
/-- cmp.Or(int) -/
def rc_cmp_Or_int : RCode :=
 .seq (.reg [Rq 2 (.mv (Kq 0))])
 (.seq (.reg [Rq 3 (.mv (Kq 0))])
 (.seq (.seq (.reg [Rq 6 (.mv 0),Rq 7 (.len false 6),Rq 8 (.mv (Kq 0))])
 (.block 0
 (.loop
 (.seq (.reg [Rq 9 (.bin .lss 8 7)])
 (.seq (.cond 9
 (.skip)
 (.exit 0))
 (.seq (.block 1
 (.seq (.reg [Rq 10 (.idxA 1 6 8),Rq 11 (.load false 1 10),Rq 5 (.mv 11)])
 (.seq (.reg [Rq 12 (.mv 5),Rq 13 (.mv 3),Rq 14 (.bin .neq 12 13)])
 (.cond 14
 (.seq (.reg [Rq 15 (.mv 5),Rq 2 (.mv 15)])
 (.ret))
 (.skip)))))
 (.reg [Rq 16 (.bin .add 8 (Kq 1)),Rq 8 (.mv 16)])))))))
 (.seq (.reg [Rq 17 (.mv 3),Rq 2 (.mv 17)])
 (.ret))))
theorem ck_cmp_Or_int : chkFun Try.prog 41 1 = some (rc_cmp_Or_int, [2]) := by kernel_rfl
/-- cmp.Compare(int) -/
def rc_cmp_Compare_int : RCode :=
 .seq (.reg [Rq 4 (.mv (Kq 0))])
 (.seq (.reg [Rq 7 (.mv 0),Rq 8 (.call (.func 70) [7]),Rq 5 (.mv 8)])
 (.seq (.reg [Rq 9 (.mv 1),Rq 10 (.call (.func 70) [9]),Rq 6 (.mv 10)])
 (.seq (.seq (.reg [Rq 11 (.mv 5)])
 (.cond 11
 (.seq (.seq (.reg [Rq 12 (.mv 6)])
 (.cond 12
 (.seq (.reg [Rq 4 (.mv (Kq 0))])
 (.ret))
 (.skip)))
 (.seq (.reg [Rq 4 (.mv (.const (.int .i64 (-1))))])
 (.ret)))
 (.skip)))
 (.seq (.seq (.reg [Rq 13 (.mv 6)])
 (.cond 13
 (.seq (.reg [Rq 4 (.mv (Kq 1))])
 (.ret))
 (.skip)))
 (.seq (.seq (.reg [Rq 14 (.mv 0),Rq 15 (.mv 1),Rq 16 (.bin .lss 14 15)])
 (.cond 16
 (.seq (.reg [Rq 4 (.mv (.const (.int .i64 (-1))))])
 (.ret))
 (.skip)))
 (.seq (.seq (.reg [Rq 17 (.mv 0),Rq 18 (.mv 1),Rq 19 (.bin .gtr 17 18)])
 (.cond 19
 (.seq (.reg [Rq 4 (.mv (Kq 1))])
 (.ret))
 (.skip)))
 (.seq (.reg [Rq 4 (.mv (Kq 0))])
 (.ret))))))))
theorem ck_cmp_Compare_int : chkFun Try.prog 42 2 = some (rc_cmp_Compare_int, [4]) := by kernel_rfl
/-- cmp.Compare(string) -/
def rc_cmp_Compare_string : RCode :=
 .seq (.reg [Rq 4 (.mv (Kq 0))])
 (.seq (.reg [Rq 7 (.mv 0),Rq 8 (.call (.func 71) [7]),Rq 5 (.mv 8)])
 (.seq (.reg [Rq 9 (.mv 1),Rq 10 (.call (.func 71) [9]),Rq 6 (.mv 10)])
 (.seq (.seq (.reg [Rq 11 (.mv 5)])
 (.cond 11
 (.seq (.seq (.reg [Rq 12 (.mv 6)])
 (.cond 12
 (.seq (.reg [Rq 4 (.mv (Kq 0))])
 (.ret))
 (.skip)))
 (.seq (.reg [Rq 4 (.mv (.const (.int .i64 (-1))))])
 (.ret)))
 (.skip)))
 (.seq (.seq (.reg [Rq 13 (.mv 6)])
 (.cond 13
 (.seq (.reg [Rq 4 (.mv (Kq 1))])
 (.ret))
 (.skip)))
 (.seq (.seq (.reg [Rq 14 (.mv 0),Rq 15 (.mv 1),Rq 16 (.bin .lss 14 15)])
 (.cond 16
 (.seq (.reg [Rq 4 (.mv (.const (.int .i64 (-1))))])
 (.ret))
 (.skip)))
 (.seq (.seq (.reg [Rq 17 (.mv 0),Rq 18 (.mv 1),Rq 19 (.bin .gtr 17 18)])
 (.cond 19
 (.seq (.reg [Rq 4 (.mv (Kq 1))])
 (.ret))
 (.skip)))
 (.seq (.reg [Rq 4 (.mv (Kq 0))])
 (.ret))))))))
theorem ck_cmp_Compare_string : chkFun Try.prog 43 2 = some (rc_cmp_Compare_string, [4]) := by kernel_rfl
/-- hearsay/hearsayref.OneService -/
def rc_hearsayref_OneService : RCode :=
 .seq (.reg [Rq 1 (.box 24 9 0),Rq 2 (.mv (Kq 0))])
 (.seq (.seq (.reg [Rq 3 (.fldA 0 1),Rq 4 (.load false 1 3),Rq 5 (.call (.func 47) [4]),Rq 6 (.not 5),Rq 7 (.mv 6),Gq 8 7 false (.fldA 1 1),Gq 9 7 false (.load false 1 8),Gq 10 7 false (.call (.func 47) [9]),Gq 11 7 false (.not 10),Rq 12 (.pick 7 (.const (.bool true)) 11),Rq 13 (.mv 12),Gq 14 13 false (.fldA 2 1),Gq 15 13 false (.load false 1 14),Gq 16 13 false (.call (.func 47) [15]),Gq 17 13 false (.not 16),Rq 18 (.pick 13 (.const (.bool true)) 17),Rq 19 (.mv 18),Gq 20 19 false (.fldA 3 1),Gq 21 19 false (.load false 1 20),Gq 22 19 false (.bin .neq 21 (.const (.string ⟨#[]⟩))),Gq 23 19 false (.mv 22),Gq 24 23 true (.fldA 3 1),Gq 25 23 true (.load false 1 24),Gq 26 23 true (.call (.func 47) [25]),Gq 27 23 true (.not 26),Gq 28 19 false (.pick 23 27 (.const (.bool false))),Rq 29 (.pick 19 (.const (.bool true)) 28)])
 (.cond 29
 (.seq (.reg [Rq 2 (.mv (Kq 1))])
 (.ret))
 (.skip)))
 (.seq (.seq (.reg [Rq 30 (.fldA 4 1),Rq 31 (.load false 1 30),Rq 32 (.call (.func 48) [31]),Rq 33 (.not 32),Rq 34 (.mv 33),Gq 35 34 false (.fldA 5 1),Gq 36 34 false (.load false 1 35),Gq 37 34 false (.call (.func 49) [36, (Kq 0), (Kq 65535)]),Gq 38 34 false (.not 37),Rq 39 (.pick 34 (.const (.bool true)) 38),Rq 40 (.mv 39),Gq 41 40 false (.fldA 7 1),Gq 42 40 false (.load false 1 41),Gq 43 40 false (.call (.func 49) [42, (Kq 1), (Kq 1000000)]),Gq 44 40 false (.not 43),Rq 45 (.pick 40 (.const (.bool true)) 44)])
 (.cond 45
 (.seq (.reg [Rq 2 (.mv (Kq 3))])
 (.ret))
 (.skip)))
 (.seq (.reg [Rq 2 (.mv (Kq 0))])
 (.ret))))
theorem ck_hearsayref_OneService : chkFun Try.prog 44 1 = some (rc_hearsayref_OneService, [2]) := by kernel_rfl
/-- hearsay/hearsayref.ahead -/
def rc_hearsayref_ahead : RCode :=
 .seq (.reg [Rq 2 (.box 24 9 0),Rq 3 (.box 24 9 1),Rq 4 (.mv (.const (.bool false)))])
 (.seq (.reg [Rq 5 (.fldA 0 2),Rq 6 (.load false 1 5),Rq 7 (.fldA 0 3),Rq 8 (.load false 1 7),Rq 9 (.bin .lss 6 8),Rq 10 (.mv 9),Gq 11 10 false (.fldA 0 2),Gq 12 10 false (.load false 1 11),Gq 13 10 false (.fldA 0 3),Gq 14 10 false (.load false 1 13),Gq 15 10 false (.bin .eql 12 14),Gq 16 10 false (.mv 15),Gq 17 16 true (.fldA 1 2),Gq 18 16 true (.load false 1 17),Gq 19 16 true (.fldA 1 3),Gq 20 16 true (.load false 1 19),Gq 21 16 true (.bin .lss 18 20),Gq 22 10 false (.pick 16 21 (.const (.bool false))),Rq 23 (.pick 10 (.const (.bool true)) 22),Rq 4 (.mv 23)])
 (.ret))
theorem ck_hearsayref_ahead : chkFun Try.prog 45 2 = some (rc_hearsayref_ahead, [4]) := by kernel_rfl
/-- hearsay/hearsayref.SetService -/
def rc_hearsayref_SetService : RCode :=
 .seq (.reg [Rq 3 (.box 24 9 1),Rq 4 (.mv (.const (.slice none 0 0))),Rq 5 (.mv (Kq 0))])
 (.seq (.reg [Rq 8 (.fldA 7 3),Sq 1 8 (Kq 1)])
 (.seq (.reg [Rq 9 (.mv 0),Rq 10 (.fldA 0 3),Rq 11 (.load false 1 10),Rq 12 (.fldA 1 3),Rq 13 (.load false 1 12),Rq 14 (.call (.func 72) [9, 11, 13]),Rq 6 (.mv 14)])
 (.seq (.seq (.reg [Rq 15 (.mv 6),Rq 16 (.bin .geq 15 (Kq 0))])
 (.cond 16
 (.reg [Rq 17 (.mv 0),Rq 18 (.mv 6),Rq 19 (.idxA 9 17 18),Rq 20 (.fldA 7 19),Rq 21 (.load false 1 20),Rq 22 (.bin .add 21 (Kq 1)),Rq 23 (.fldA 7 3),Sq 1 23 22])
 (.skip)))
 (.seq (.seq (.reg [Rq 24 (.fldA 7 3),Rq 25 (.load false 1 24),Rq 26 (.bin .gtr 25 (Kq 1000000))])
 (.cond 26
 (.seq (.reg [Rq 4 (.mv (.const (.slice none 0 0))),Rq 5 (.mv (Kq 3))])
 (.ret))
 (.skip)))
 (.seq (.reg [Rq 27 (.mv 0),Rq 28 (.load true 9 3),Rq 29 (.call (.func 73) [27, 28]),Rq 7 (.mv 29)])
 (.seq (.seq (.reg [Rq 30 (.mv 7),Rq 31 (.len false 30),Rq 32 (.bin .gtr 31 (Kq 40))])
 (.cond 32
 (.seq (.reg [Rq 4 (.mv (.const (.slice none 0 0))),Rq 5 (.mv (Kq 2))])
 (.ret))
 (.skip)))
 (.seq (.reg [Rq 33 (.mv 7),Rq 4 (.mv 33),Rq 5 (.mv (Kq 0))])
 (.ret))))))))
theorem ck_hearsayref_SetService : chkFun Try.prog 46 2 = some (rc_hearsayref_SetService, [4, 5]) := by kernel_rfl
/-- hearsay/hearsayref.IsLabel -/
def rc_hearsayref_IsLabel : RCode :=
 .seq (.reg [Rq 2 (.mv (.const (.bool false)))])
 (.seq (.seq (.reg [Rq 3 (.mv (Kq 0))])
 (.block 0
 (.loop
 (.seq (.seq (.reg [Rq 5 (.mv 3),Rq 6 (.mv 0),Rq 7 (.len true 6),Rq 8 (.bin .lss 5 7)])
 (.cond 8
 (.skip)
 (.exit 0)))
 (.seq (.block 1
 (.seq (.reg [Rq 11 (.mv 0),Rq 12 (.mv 3),Rq 13 (.idxS 11 12),Rq 4 (.mv 13)])
 (.seq (.reg [Rq 14 (.mv 4),Rq 15 (.bin .geq 14 (.const (.int .u8 97))),Rq 16 (.mv 15),Gq 17 16 true (.mv 4),Gq 18 16 true (.bin .leq 17 (.const (.int .u8 122))),Rq 19 (.pick 16 18 (.const (.bool false))),Rq 20 (.mv 19),Gq 21 20 false (.mv 4),Gq 22 20 false (.bin .geq 21 (.const (.int .u8 48))),Gq 23 20 false (.mv 22),Gq 24 23 true (.mv 4),Gq 25 23 true (.bin .leq 24 (.const (.int .u8 57))),Gq 26 20 false (.pick 23 25 (.const (.bool false))),Rq 27 (.pick 20 (.const (.bool true)) 26),Rq 28 (.mv 27),Gq 29 28 false (.mv 4),Gq 30 28 false (.bin .eql 29 (.const (.int .u8 45))),Rq 31 (.pick 28 (.const (.bool true)) 30),Rq 32 (.mv 31),Gq 33 32 false (.mv 4),Gq 34 32 false (.bin .eql 33 (.const (.int .u8 95))),Rq 35 (.pick 32 (.const (.bool true)) 34),Rq 36 (.not 35)])
 (.cond 36
 (.seq (.reg [Rq 2 (.mv (.const (.bool false)))])
 (.ret))
 (.skip)))))
 (.reg [Rq 9 (.mv 3),Rq 10 (.bin .add 9 (Kq 1)),Rq 3 (.mv 10)]))))))
 (.seq (.reg [Rq 37 (.mv 0),Rq 38 (.len true 37),Rq 39 (.bin .geq 38 (Kq 1)),Rq 40 (.mv 39),Gq 41 40 true (.mv 0),Gq 42 40 true (.len true 41),Gq 43 40 true (.bin .leq 42 (Kq 30)),Rq 44 (.pick 40 43 (.const (.bool false))),Rq 2 (.mv 44)])
 (.ret)))
theorem ck_hearsayref_IsLabel : chkFun Try.prog 47 1 = some (rc_hearsayref_IsLabel, [2]) := by kernel_rfl
/-- hearsay/hearsayref.IsAddress -/
def rc_hearsayref_IsAddress : RCode :=
 .seq (.reg [Rq 2 (.mv (.const (.bool false)))])
 (.seq (.reg [Rq 3 (.mv 0),Rq 4 (.call (.func 49) [3, (Kq 0), (Kq 4294967295)]),Rq 2 (.mv 4)])
 (.ret))
theorem ck_hearsayref_IsAddress : chkFun Try.prog 48 1 = some (rc_hearsayref_IsAddress, [2]) := by kernel_rfl
/-- hearsay/hearsayref.between -/
def rc_hearsayref_between : RCode :=
 .seq (.reg [Rq 6 (.mv (.const (.bool false)))])
 (.seq (.reg [Rq 7 (.mv 0),Rq 8 (.mv 1),Rq 9 (.bin .geq 7 8),Rq 10 (.mv 9),Gq 11 10 true (.mv 0),Gq 12 10 true (.mv 2),Gq 13 10 true (.bin .leq 11 12),Rq 14 (.pick 10 13 (.const (.bool false))),Rq 6 (.mv 14)])
 (.ret))
theorem ck_hearsayref_between : chkFun Try.prog 49 3 = some (rc_hearsayref_between, [6]) := by kernel_rfl
/-- hearsay/hearsayref.GatewayAt -/
def rc_hearsayref_GatewayAt : RCode :=
 .seq (.reg [Rq 4 (.mv (Kq 0))])
 (.seq (.seq (.reg [Rq 5 (.mv (Kq 0))])
 (.block 0
 (.loop
 (.seq (.seq (.reg [Rq 6 (.mv 5),Rq 7 (.mv 0),Rq 8 (.len false 7),Rq 9 (.bin .lss 6 8)])
 (.cond 9
 (.skip)
 (.exit 0)))
 (.seq (.block 1
 (.seq (.reg [Rq 12 (.mv 0),Rq 13 (.mv 5),Rq 14 (.idxA 3 12 13),Rq 15 (.fldA 0 14),Rq 16 (.load false 1 15),Rq 17 (.mv 1),Rq 18 (.bin .eql 16 17)])
 (.cond 18
 (.seq (.reg [Rq 19 (.mv 5),Rq 4 (.mv 19)])
 (.ret))
 (.skip))))
 (.reg [Rq 10 (.mv 5),Rq 11 (.bin .add 10 (Kq 1)),Rq 5 (.mv 11)]))))))
 (.seq (.reg [Rq 4 (.mv (.const (.int .i64 (-1))))])
 (.ret)))
theorem ck_hearsayref_GatewayAt : chkFun Try.prog 50 2 = some (rc_hearsayref_GatewayAt, [4]) := by kernel_rfl
/-- hearsay/hearsayref.PutGateway -/
def rc_hearsayref_PutGateway : RCode :=
 .seq (.reg [Rq 3 (.box 62 3 1),Rq 4 (.mv (.const (.slice none 0 0)))])
 (.seq (.reg [Rq 5 (.mv (.const (.slice none 0 0)))])
 (.seq (.reg [Rq 6 (.mv (.const (.bool false)))])
 (.seq (.seq (.reg [Rq 7 (.mv (Kq 0))])
 (.block 0
 (.loop
 (.seq (.seq (.reg [Rq 8 (.mv 7),Rq 9 (.mv 0),Rq 10 (.len false 9),Rq 11 (.bin .lss 8 10)])
 (.cond 11
 (.skip)
 (.exit 0)))
 (.seq (.block 1
 (.seq (.seq (.dreg [[Rq 14 (.mv 6)],[Rq 15 (.not 14)],[Rq 16 (.mv 15)],[Gq 17 16 true (.mv 0),Gq 18 16 true (.mv 7),Gq 19 16 true (.idxA 3 17 18),Gq 20 16 true (.fldA 0 19),Gq 21 16 true (.load false 1 20),Gq 22 16 true (.fldA 0 3),Gq 23 16 true (.load false 1 22)],[Gq 24 16 true (.bin .geq 21 23)],[Rq 25 (.pick 16 24 (.const (.bool false)))]])
 (.cond 25
 (.seq (.reg [Rq 26 (.mv 5),Rq 27 (.load true 3 3),Rq 28 (.mks 62 3 1 [(.string ⟨#[]⟩), (.int .i64 0), (.int .i64 0)] [(0, 27)]),Rq 29 (.app 62 3 32 (.agg #[(.string ⟨#[]⟩), (.int .i64 0), (.int .i64 0)]) 26 28),Rq 5 (.mv 29)])
 (.reg [Rq 6 (.mv (.const (.bool true)))]))
 (.skip)))
 (.seq (.dreg [[Rq 30 (.mv 0),Rq 31 (.mv 7),Rq 32 (.idxA 3 30 31),Rq 33 (.fldA 0 32),Rq 34 (.load false 1 33),Rq 35 (.fldA 0 3),Rq 36 (.load false 1 35)],[Rq 37 (.bin .neq 34 36)]])
 (.cond 37
 (.reg [Rq 38 (.mv 5),Rq 39 (.mv 0),Rq 40 (.mv 7),Rq 41 (.idxA 3 39 40),Rq 42 (.load true 3 41),Rq 43 (.mks 62 3 1 [(.string ⟨#[]⟩), (.int .i64 0), (.int .i64 0)] [(0, 42)]),Rq 44 (.app 62 3 32 (.agg #[(.string ⟨#[]⟩), (.int .i64 0), (.int .i64 0)]) 38 43),Rq 5 (.mv 44)])
 (.skip)))))
 (.reg [Rq 12 (.mv 7),Rq 13 (.bin .add 12 (Kq 1)),Rq 7 (.mv 13)]))))))
 (.seq (.seq (.reg [Rq 45 (.mv 6),Rq 46 (.not 45)])
 (.cond 46
 (.reg [Rq 47 (.mv 5),Rq 48 (.load true 3 3),Rq 49 (.mks 62 3 1 [(.string ⟨#[]⟩), (.int .i64 0), (.int .i64 0)] [(0, 48)]),Rq 50 (.app 62 3 32 (.agg #[(.string ⟨#[]⟩), (.int .i64 0), (.int .i64 0)]) 47 49),Rq 5 (.mv 50)])
 (.skip)))
 (.seq (.reg [Rq 51 (.mv 5),Rq 4 (.mv 51)])
 (.ret))))))
theorem ck_hearsayref_PutGateway : chkFun Try.prog 51 2 = some (rc_hearsayref_PutGateway, [4]) := by kernel_rfl
/-- hearsay/hearsayref.farName -/
def rc_hearsayref_farName : RCode :=
 .seq (.reg [Rq 3 (.box 40 5 0),Rq 6 (.mv (Kq 0))])
 (.seq (.seq (.reg [Rq 7 (.mv (Kq 0))])
 (.block 0
 (.loop
 (.seq (.seq (.reg [Rq 8 (.mv 7),Rq 9 (.mv 1),Rq 10 (.len false 9),Rq 11 (.bin .lss 8 10)])
 (.cond 11
 (.skip)
 (.exit 0)))
 (.seq (.block 1
 (.seq (.reg [Rq 14 (.mv 1),Rq 15 (.mv 7),Rq 16 (.idxA 6 14 15),Rq 17 (.fldA 0 16),Rq 18 (.load false 1 17),Rq 19 (.mv 2),Rq 20 (.bin .eql 18 19)])
 (.cond 20
 (.seq (.dreg [[Rq 21 (.load true 5 3),Rq 22 (.mv 1),Rq 23 (.mv 7),Rq 24 (.idxA 6 22 23),Rq 25 (.fldA 1 24),Rq 26 (.load true 5 25)],[Rq 27 (.call (.func 74) [21, 26])],[Rq 6 (.mv 27)]])
 (.ret))
 (.skip))))
 (.reg [Rq 12 (.mv 7),Rq 13 (.bin .add 12 (Kq 1)),Rq 7 (.mv 13)]))))))
 (.seq (.reg [Rq 6 (.mv (.const (.int .i64 (-1))))])
 (.ret)))
theorem ck_hearsayref_farName : chkFun Try.prog 52 3 = some (rc_hearsayref_farName, [6]) := by kernel_rfl
/-- hearsay/place.root -/
def rc_place_root : RCode :=
 .seq (.reg [Rq 2 (.mv (Kq 0))])
 (.seq (.seq (.reg [Rq 5 (.mv 0),Rq 6 (.bin .lss 5 (Kq 2))])
 (.cond 6
 (.seq (.reg [Rq 7 (.mv 0),Rq 2 (.mv 7)])
 (.ret))
 (.skip)))
 (.seq (.reg [Rq 3 (.mv (Kq 1))])
 (.seq (.block 0
 (.loop
 (.seq (.seq (.reg [Rq 8 (.mv 3),Rq 9 (.mv 0),Rq 10 (.mv 3),Rq 11 (.bin .quo 9 10),Rq 12 (.bin .leq 8 11)])
 (.cond 12
 (.skip)
 (.exit 0)))
 (.block 1
 (.reg [Rq 13 (.mv 3),Rq 14 (.bin .mul 13 (Kq 2)),Rq 3 (.mv 14)])))))
 (.block 2
 (.loop
 (.block 3
 (.seq (.reg [Rq 15 (.mv 3),Rq 16 (.mv 0),Rq 17 (.mv 3),Rq 18 (.bin .quo 16 17),Rq 19 (.bin .add 15 18),Rq 20 (.bin .quo 19 (Kq 2)),Rq 4 (.mv 20)])
 (.seq (.seq (.reg [Rq 21 (.mv 4),Rq 22 (.mv 3),Rq 23 (.bin .geq 21 22)])
 (.cond 23
 (.seq (.reg [Rq 24 (.mv 3),Rq 2 (.mv 24)])
 (.ret))
 (.skip)))
 (.reg [Rq 25 (.mv 4),Rq 3 (.mv 25)])))))))))
theorem ck_place_root : chkFun Try.prog 53 1 = some (rc_place_root, [2]) := by kernel_rfl
/-- hearsay/place.check -/
def rc_place_check : RCode :=
 .seq (.reg [Rq 2 (.mv (Kq 0))])
 (.seq (.seq (.reg [Rq 6 (.mv 0),Rq 7 (.len false 6),Rq 8 (.mv (Kq 0))])
 (.block 0
 (.loop
 (.seq (.reg [Rq 9 (.bin .lss 8 7)])
 (.seq (.cond 9
 (.skip)
 (.exit 0))
 (.seq (.block 1
 (.seq (.reg [Rq 10 (.idxA 5 6 8),Rq 11 (.load true 5 10),Rq 4 (.zbox 40 zq0),Sq 5 4 11])
 (.seq (.reg [Rq 12 (.load true 5 4),Rq 13 (.call (.func 36) [12]),Rq 5 (.mv 13)])
 (.seq (.reg [Rq 14 (.mv 5),Rq 15 (.bin .neq 14 (Kq 0))])
 (.cond 15
 (.seq (.reg [Rq 16 (.mv 5),Rq 2 (.mv 16)])
 (.ret))
 (.skip))))))
 (.reg [Rq 17 (.bin .add 8 (Kq 1)),Rq 8 (.mv 17)])))))))
 (.seq (.reg [Rq 2 (.mv (Kq 0))])
 (.ret)))
theorem ck_place_check : chkFun Try.prog 54 1 = some (rc_place_check, [2]) := by kernel_rfl
/-- hearsay/catalog.order -/
def rc_catalog_order : RCode :=
 .seq (.reg [Rq 2 (.box 24 9 0),Rq 3 (.box 24 9 1),Rq 4 (.mv (Kq 0))])
 (.seq (.dreg [[Rq 5 (.fldA 0 2),Rq 6 (.load false 1 5),Rq 7 (.fldA 0 3),Rq 8 (.load false 1 7),Rq 9 (.call (.func 43) [6, 8]),Rq 10 (.fldA 1 2),Rq 11 (.load false 1 10),Rq 12 (.fldA 1 3),Rq 13 (.load false 1 12)],[Rq 14 (.call (.func 43) [11, 13])],[Rq 15 (.mks 3 1 2 [(.int .i64 0)] [(0, 9), (1, 14)])],[Rq 16 (.call (.func 41) [15])],[Rq 4 (.mv 16)]])
 (.ret))
theorem ck_catalog_order : chkFun Try.prog 55 2 = some (rc_catalog_order, [4]) := by kernel_rfl
/-- hearsay/catalog.within -/
def rc_catalog_within : RCode :=
 .seq (.reg [Rq 6 (.mv (.const (.bool false)))])
 (.seq (.reg [Rq 7 (.mv 0),Rq 8 (.mv 1),Rq 9 (.bin .geq 7 8),Rq 10 (.mv 9),Gq 11 10 true (.mv 0),Gq 12 10 true (.mv 2),Gq 13 10 true (.bin .leq 11 12),Rq 14 (.pick 10 13 (.const (.bool false))),Rq 6 (.mv 14)])
 (.ret))
theorem ck_catalog_within : chkFun Try.prog 56 3 = some (rc_catalog_within, [6]) := by kernel_rfl
/-- slices.Clone(()hearsay/api.Service,hearsay/api.Service) -/
def rc_slices_Clone_api_Service_api_Service : RCode :=
 .seq (.reg [Rq 2 (.mv (.const (.slice none 0 0)))])
 (.seq (.seq (.reg [Rq 3 (.mv 0),Rq 4 (.isnil false 3)])
 (.cond 4
 (.seq (.reg [Rq 2 (.mv (.const (.slice none 0 0)))])
 (.ret))
 (.skip)))
 (.seq (.reg [Rq 5 (.mks 24 9 0 zq2 []),Rq 6 (.mv 0),Rq 7 (.app 24 9 104 (.agg #[(.string ⟨#[]⟩), (.string ⟨#[]⟩), (.string ⟨#[]⟩), (.string ⟨#[]⟩), (.int .i64 0), (.int .i64 0), (.bool false), (.int .i64 0), (.bool false)]) 5 6),Rq 2 (.mv 7)])
 (.ret)))
theorem ck_slices_Clone_api_Service_api_Service : chkFun Try.prog 57 1 = some (rc_slices_Clone_api_Service_api_Service, [2]) := by kernel_rfl
/-- hearsay/catalog.find -/
def rc_catalog_find : RCode :=
 .seq (.reg [Rq 6 (.mv (Kq 0)),Rq 7 (.mv (.const (.bool false)))])
 (.seq (.reg [Rq 8 (.mv 0),Rq 9 (.mv 1),Rq 10 (.mv 2),Rq 11 (.build zq2 [(0, 1, 9), (1, 1, 10)]),Rq 12 (.call (.func 75) [8, 11, (.func 55)]),Rq 13 (.ext 12 0),Rq 14 (.ext 12 1),Rq 6 (.mv 13),Rq 7 (.mv 14)])
 (.ret))
theorem ck_catalog_find : chkFun Try.prog 58 3 = some (rc_catalog_find, [6, 7]) := by kernel_rfl
/-- hearsay/centre.within -/
def rc_centre_within : RCode :=
 .seq (.reg [Rq 6 (.mv (.const (.bool false)))])
 (.seq (.reg [Rq 7 (.mv 0),Rq 8 (.mv 1),Rq 9 (.bin .geq 7 8),Rq 10 (.mv 9),Gq 11 10 true (.mv 0),Gq 12 10 true (.mv 2),Gq 13 10 true (.bin .leq 11 12),Rq 14 (.pick 10 13 (.const (.bool false))),Rq 6 (.mv 14)])
 (.ret))
theorem ck_centre_within : chkFun Try.prog 60 3 = some (rc_centre_within, [6]) := by kernel_rfl
/-- slices.BinarySearchFunc(()hearsay/api.Gateway,hearsay/api.Gateway,string) -/
def rc_slices_BinarySearchFunc_api_Gateway_api_Gateway_string : RCode :=
 .seq (.reg [Rq 6 (.mv (Kq 0)),Rq 7 (.mv (.const (.bool false)))])
 (.seq (.reg [Rq 12 (.mv 0),Rq 13 (.len false 12),Rq 8 (.mv 13)])
 (.seq (.reg [Rq 14 (.mv 8),Rq 9 (.mv (Kq 0)),Rq 10 (.mv 14)])
 (.seq (.block 0
 (.loop
 (.seq (.seq (.reg [Rq 15 (.mv 9),Rq 16 (.mv 10),Rq 17 (.bin .lss 15 16)])
 (.cond 17
 (.skip)
 (.exit 0)))
 (.block 1
 (.seq (.reg [Rq 18 (.mv 9),Rq 19 (.mv 10),Rq 20 (.bin .add 18 19),Rq 21 (.conv .u64 20),Rq 22 (.bin .shr 21 (.const (.int .u64 1))),Rq 23 (.conv .i64 22),Rq 11 (.mv 23)])
 (.seq (.reg [Rq 24 (.mv 2),Rq 25 (.mv 0),Rq 26 (.mv 11),Rq 27 (.idxA 3 25 26),Rq 28 (.load true 3 27),Rq 29 (.mv 1),Rq 30 (.call 24 [28, 29]),Rq 31 (.bin .lss 30 (Kq 0))])
 (.cond 31
 (.reg [Rq 32 (.mv 11),Rq 33 (.bin .add 32 (Kq 1)),Rq 9 (.mv 33)])
 (.reg [Rq 34 (.mv 11),Rq 10 (.mv 34)]))))))))
 (.seq (.reg [Rq 35 (.mv 9),Rq 36 (.mv 9),Rq 37 (.mv 8),Rq 38 (.bin .lss 36 37),Rq 39 (.mv 38),Gq 40 39 true (.mv 2),Gq 41 39 true (.mv 0),Gq 42 39 true (.mv 9),Gq 43 39 true (.idxA 3 41 42),Gq 44 39 true (.load true 3 43),Gq 45 39 true (.mv 1),Gq 46 39 true (.call 40 [44, 45]),Gq 47 39 true (.bin .eql 46 (Kq 0)),Rq 48 (.pick 39 47 (.const (.bool false))),Rq 6 (.mv 35),Rq 7 (.mv 48)])
 (.ret)))))
theorem ck_slices_BinarySearchFunc_api_Gateway_api_Gateway_string : chkFun Try.prog 61 3 = some (rc_slices_BinarySearchFunc_api_Gateway_api_Gateway_string, [6, 7]) := by kernel_rfl
/-- hearsay/centre.find$1 -/
def rc_centre_find_1 : RCode :=
 .seq (.reg [Rq 2 (.box 62 3 0),Rq 4 (.mv (Kq 0))])
 (.seq (.reg [Rq 5 (.fldA 0 2),Rq 6 (.load false 1 5),Rq 7 (.mv 1),Rq 8 (.call (.func 43) [6, 7]),Rq 4 (.mv 8)])
 (.ret))
theorem ck_centre_find_1 : chkFun Try.prog 62 2 = some (rc_centre_find_1, [4]) := by kernel_rfl
/-- hearsay/place.Check$1 -/
def rc_place_Check_1 : RCode :=
 .seq (.reg [Rq 2 (.mv (.const (.bool false)))])
 (.seq (.reg [Rq 3 (.mv 0),Rq 4 (.call (.func 66) [3, (.const (.int .i64 (-10000000))), (Kq 10000000)]),Rq 2 (.mv 4)])
 (.ret))
theorem ck_place_Check_1 : chkFun Try.prog 65 1 = some (rc_place_Check_1, [2]) := by kernel_rfl
/-- hearsay/place.within -/
def rc_place_within : RCode :=
 .seq (.reg [Rq 6 (.mv (.const (.bool false)))])
 (.seq (.reg [Rq 7 (.mv 0),Rq 8 (.mv 1),Rq 9 (.bin .geq 7 8),Rq 10 (.mv 9),Gq 11 10 true (.mv 0),Gq 12 10 true (.mv 2),Gq 13 10 true (.bin .leq 11 12),Rq 14 (.pick 10 13 (.const (.bool false))),Rq 6 (.mv 14)])
 (.ret))
theorem ck_place_within : chkFun Try.prog 66 3 = some (rc_place_within, [6]) := by kernel_rfl
/-- hearsay/place.apart -/
def rc_place_apart : RCode :=
 .seq (.reg [Rq 2 (.box 40 5 0),Rq 3 (.box 40 5 1),Rq 4 (.mv (Kq 0))])
 (.seq (.dreg [[Rq 8 (.fldA 0 2),Rq 9 (.load false 1 8),Rq 10 (.fldA 0 3),Rq 11 (.load false 1 10),Rq 12 (.bin .sub 9 11),Rq 13 (.fldA 1 2),Rq 14 (.load false 1 13),Rq 15 (.fldA 1 3),Rq 16 (.load false 1 15),Rq 17 (.bin .sub 14 16),Rq 18 (.fldA 2 2),Rq 19 (.load false 1 18),Rq 20 (.fldA 2 3),Rq 21 (.load false 1 20),Rq 22 (.bin .sub 19 21),Rq 5 (.mv 12),Rq 6 (.mv 17)],[Rq 7 (.mv 22)]])
 (.seq (.reg [Rq 23 (.mv 5),Rq 24 (.mv 5),Rq 25 (.bin .mul 23 24),Rq 26 (.mv 6),Rq 27 (.mv 6),Rq 28 (.bin .mul 26 27),Rq 29 (.bin .add 25 28),Rq 30 (.mv 7),Rq 31 (.mv 7),Rq 32 (.bin .mul 30 31),Rq 33 (.bin .add 29 32),Rq 34 (.call (.func 53) [33]),Rq 4 (.mv 34)])
 (.ret)))
theorem ck_place_apart : chkFun Try.prog 67 2 = some (rc_place_apart, [4]) := by kernel_rfl
/-- cmp.isNaN(int) -/
def rc_cmp_isNaN_int : RCode :=
 .seq (.reg [Rq 2 (.mv (.const (.bool false)))])
 (.seq (.reg [Rq 3 (.mv 0),Rq 4 (.mv 0),Rq 5 (.bin .neq 3 4),Rq 2 (.mv 5)])
 (.ret))
theorem ck_cmp_isNaN_int : chkFun Try.prog 70 1 = some (rc_cmp_isNaN_int, [2]) := by kernel_rfl
/-- cmp.isNaN(string) -/
def rc_cmp_isNaN_string : RCode :=
 .seq (.reg [Rq 2 (.mv (.const (.bool false)))])
 (.seq (.reg [Rq 3 (.mv 0),Rq 4 (.mv 0),Rq 5 (.bin .neq 3 4),Rq 2 (.mv 5)])
 (.ret))
theorem ck_cmp_isNaN_string : chkFun Try.prog 71 1 = some (rc_cmp_isNaN_string, [2]) := by kernel_rfl
/-- hearsay/hearsayref.ServiceAt -/
def rc_hearsayref_ServiceAt : RCode :=
 .seq (.reg [Rq 6 (.mv (Kq 0))])
 (.seq (.seq (.reg [Rq 7 (.mv (Kq 0))])
 (.block 0
 (.loop
 (.seq (.seq (.reg [Rq 8 (.mv 7),Rq 9 (.mv 0),Rq 10 (.len false 9),Rq 11 (.bin .lss 8 10)])
 (.cond 11
 (.skip)
 (.exit 0)))
 (.seq (.block 1
 (.seq (.reg [Rq 14 (.mv 0),Rq 15 (.mv 7),Rq 16 (.idxA 9 14 15),Rq 17 (.fldA 0 16),Rq 18 (.load false 1 17),Rq 19 (.mv 1),Rq 20 (.bin .eql 18 19),Rq 21 (.mv 20),Gq 22 21 true (.mv 0),Gq 23 21 true (.mv 7),Gq 24 21 true (.idxA 9 22 23),Gq 25 21 true (.fldA 1 24),Gq 26 21 true (.load false 1 25),Gq 27 21 true (.mv 2),Gq 28 21 true (.bin .eql 26 27),Rq 29 (.pick 21 28 (.const (.bool false)))])
 (.cond 29
 (.seq (.reg [Rq 30 (.mv 7),Rq 6 (.mv 30)])
 (.ret))
 (.skip))))
 (.reg [Rq 12 (.mv 7),Rq 13 (.bin .add 12 (Kq 1)),Rq 7 (.mv 13)]))))))
 (.seq (.reg [Rq 6 (.mv (.const (.int .i64 (-1))))])
 (.ret)))
theorem ck_hearsayref_ServiceAt : chkFun Try.prog 72 3 = some (rc_hearsayref_ServiceAt, [6]) := by kernel_rfl
/-- hearsay/hearsayref.PutService -/
def rc_hearsayref_PutService : RCode :=
 .seq (.reg [Rq 3 (.box 24 9 1),Rq 4 (.mv (.const (.slice none 0 0)))])
 (.seq (.reg [Rq 5 (.mv (.const (.slice none 0 0)))])
 (.seq (.reg [Rq 6 (.mv (.const (.bool false)))])
 (.seq (.seq (.reg [Rq 7 (.mv (Kq 0))])
 (.block 0
 (.loop
 (.seq (.seq (.reg [Rq 8 (.mv 7),Rq 9 (.mv 0),Rq 10 (.len false 9),Rq 11 (.bin .lss 8 10)])
 (.cond 11
 (.skip)
 (.exit 0)))
 (.seq (.block 1
 (.seq (.seq (.dreg [[Rq 14 (.mv 6)],[Rq 15 (.not 14)],[Rq 16 (.mv 15)],[Gq 17 16 true (.mv 0),Gq 18 16 true (.mv 7),Gq 19 16 true (.idxA 9 17 18),Gq 20 16 true (.load true 9 19),Gq 21 16 true (.load true 9 3)],[Gq 22 16 true (.call (.func 45) [20, 21])],[Gq 23 16 true (.not 22)],[Rq 24 (.pick 16 23 (.const (.bool false)))]])
 (.cond 24
 (.seq (.reg [Rq 25 (.mv 5),Rq 26 (.load true 9 3),Rq 27 (.mks 24 9 1 zq2 [(0, 26)]),Rq 28 (.app 24 9 104 (.agg #[(.string ⟨#[]⟩), (.string ⟨#[]⟩), (.string ⟨#[]⟩), (.string ⟨#[]⟩), (.int .i64 0), (.int .i64 0), (.bool false), (.int .i64 0), (.bool false)]) 25 27),Rq 5 (.mv 28)])
 (.reg [Rq 6 (.mv (.const (.bool true)))]))
 (.skip)))
 (.seq (.dreg [[Rq 29 (.mv 0),Rq 30 (.mv 7),Rq 31 (.idxA 9 29 30),Rq 32 (.fldA 0 31),Rq 33 (.load false 1 32),Rq 34 (.fldA 0 3),Rq 35 (.load false 1 34)],[Rq 36 (.bin .neq 33 35)],[Rq 37 (.mv 36)],[Gq 38 37 false (.mv 0),Gq 39 37 false (.mv 7),Gq 40 37 false (.idxA 9 38 39),Gq 41 37 false (.fldA 1 40),Gq 42 37 false (.load false 1 41),Gq 43 37 false (.fldA 1 3),Gq 44 37 false (.load false 1 43)],[Gq 45 37 false (.bin .neq 42 44)],[Rq 46 (.pick 37 (.const (.bool true)) 45)]])
 (.cond 46
 (.reg [Rq 47 (.mv 5),Rq 48 (.mv 0),Rq 49 (.mv 7),Rq 50 (.idxA 9 48 49),Rq 51 (.load true 9 50),Rq 52 (.mks 24 9 1 zq2 [(0, 51)]),Rq 53 (.app 24 9 104 (.agg #[(.string ⟨#[]⟩), (.string ⟨#[]⟩), (.string ⟨#[]⟩), (.string ⟨#[]⟩), (.int .i64 0), (.int .i64 0), (.bool false), (.int .i64 0), (.bool false)]) 47 52),Rq 5 (.mv 53)])
 (.skip)))))
 (.reg [Rq 12 (.mv 7),Rq 13 (.bin .add 12 (Kq 1)),Rq 7 (.mv 13)]))))))
 (.seq (.seq (.reg [Rq 54 (.mv 6),Rq 55 (.not 54)])
 (.cond 55
 (.reg [Rq 56 (.mv 5),Rq 57 (.load true 9 3),Rq 58 (.mks 24 9 1 zq2 [(0, 57)]),Rq 59 (.app 24 9 104 (.agg #[(.string ⟨#[]⟩), (.string ⟨#[]⟩), (.string ⟨#[]⟩), (.string ⟨#[]⟩), (.int .i64 0), (.int .i64 0), (.bool false), (.int .i64 0), (.bool false)]) 56 58),Rq 5 (.mv 59)])
 (.skip)))
 (.seq (.reg [Rq 60 (.mv 5),Rq 4 (.mv 60)])
 (.ret))))))
theorem ck_hearsayref_PutService : chkFun Try.prog 73 2 = some (rc_hearsayref_PutService, [4]) := by kernel_rfl
/-- hearsay/hearsayref.FarOf -/
def rc_hearsayref_FarOf : RCode :=
 .seq (.reg [Rq 2 (.box 40 5 0),Rq 3 (.box 40 5 1),Rq 4 (.mv (Kq 0))])
 (.seq (.dreg [[Rq 5 (.load true 5 2),Rq 6 (.load true 5 3),Rq 7 (.call (.func 89) [5, 6]),Rq 8 (.fldA 3 2),Rq 9 (.load false 1 8),Rq 10 (.bin .add 7 9),Rq 11 (.fldA 3 3),Rq 12 (.load false 1 11)],[Rq 13 (.bin .add 10 12)],[Rq 4 (.mv 13)]])
 (.ret))
theorem ck_hearsayref_FarOf : chkFun Try.prog 74 2 = some (rc_hearsayref_FarOf, [4]) := by kernel_rfl
/-- slices.BinarySearchFunc(()hearsay/api.Service,hearsay/api.Service,hearsay/api.Service) -/
def rc_slices_BinarySearchFunc_api_Service_api_Service_api_Service : RCode :=
 .seq (.reg [Rq 4 (.box 24 9 1),Rq 6 (.mv (Kq 0)),Rq 7 (.mv (.const (.bool false)))])
 (.seq (.reg [Rq 12 (.mv 0),Rq 13 (.len false 12),Rq 8 (.mv 13)])
 (.seq (.reg [Rq 14 (.mv 8),Rq 9 (.mv (Kq 0)),Rq 10 (.mv 14)])
 (.seq (.block 0
 (.loop
 (.seq (.seq (.reg [Rq 15 (.mv 9),Rq 16 (.mv 10),Rq 17 (.bin .lss 15 16)])
 (.cond 17
 (.skip)
 (.exit 0)))
 (.block 1
 (.seq (.reg [Rq 18 (.mv 9),Rq 19 (.mv 10),Rq 20 (.bin .add 18 19),Rq 21 (.conv .u64 20),Rq 22 (.bin .shr 21 (.const (.int .u64 1))),Rq 23 (.conv .i64 22),Rq 11 (.mv 23)])
 (.seq (.dreg [[Rq 24 (.mv 2),Rq 25 (.mv 0),Rq 26 (.mv 11),Rq 27 (.idxA 9 25 26),Rq 28 (.load true 9 27),Rq 29 (.load true 9 4)],[Rq 30 (.call 24 [28, 29])],[Rq 31 (.bin .lss 30 (Kq 0))]])
 (.cond 31
 (.reg [Rq 32 (.mv 11),Rq 33 (.bin .add 32 (Kq 1)),Rq 9 (.mv 33)])
 (.reg [Rq 34 (.mv 11),Rq 10 (.mv 34)]))))))))
 (.seq (.dreg [[Rq 35 (.mv 9),Rq 36 (.mv 9),Rq 37 (.mv 8),Rq 38 (.bin .lss 36 37),Rq 39 (.mv 38),Gq 40 39 true (.mv 2),Gq 41 39 true (.mv 0),Gq 42 39 true (.mv 9),Gq 43 39 true (.idxA 9 41 42),Gq 44 39 true (.load true 9 43),Gq 45 39 true (.load true 9 4),Gq 46 39 true (.call 40 [44, 45]),Gq 47 39 true (.bin .eql 46 (Kq 0)),Rq 48 (.pick 39 47 (.const (.bool false))),Rq 6 (.mv 35)],[Rq 7 (.mv 48)]])
 (.ret)))))
theorem ck_slices_BinarySearchFunc_api_Service_api_Service_api_Service : chkFun Try.prog 75 3 = some (rc_slices_BinarySearchFunc_api_Service_api_Service_api_Service, [6, 7]) := by kernel_rfl
/-- hearsay/hearsayref.FlatFar -/
def rc_hearsayref_FlatFar : RCode :=
 .seq (.reg [Rq 2 (.box 40 5 0),Rq 3 (.box 40 5 1),Rq 4 (.mv (Kq 0))])
 (.seq (.reg [Rq 5 (.fldA 0 2),Rq 6 (.load false 1 5),Rq 7 (.fldA 0 3),Rq 8 (.load false 1 7),Rq 9 (.bin .sub 6 8),Rq 10 (.fldA 0 2),Rq 11 (.load false 1 10),Rq 12 (.fldA 0 3),Rq 13 (.load false 1 12),Rq 14 (.bin .sub 11 13),Rq 15 (.bin .mul 9 14),Rq 16 (.fldA 1 2),Rq 17 (.load false 1 16),Rq 18 (.fldA 1 3),Rq 19 (.load false 1 18),Rq 20 (.bin .sub 17 19),Rq 21 (.fldA 1 2),Rq 22 (.load false 1 21),Rq 23 (.fldA 1 3),Rq 24 (.load false 1 23),Rq 25 (.bin .sub 22 24),Rq 26 (.bin .mul 20 25),Rq 27 (.bin .add 15 26),Rq 28 (.fldA 2 2),Rq 29 (.load false 1 28),Rq 30 (.fldA 2 3),Rq 31 (.load false 1 30),Rq 32 (.bin .sub 29 31),Rq 33 (.fldA 2 2),Rq 34 (.load false 1 33),Rq 35 (.fldA 2 3),Rq 36 (.load false 1 35),Rq 37 (.bin .sub 34 36),Rq 38 (.bin .mul 32 37),Rq 39 (.bin .add 27 38),Rq 40 (.call (.func 97) [39]),Rq 4 (.mv 40)])
 (.ret))
theorem ck_hearsayref_FlatFar : chkFun Try.prog 89 2 = some (rc_hearsayref_FlatFar, [4]) := by kernel_rfl
/-- hearsay/hearsayref.RootOf -/
def rc_hearsayref_RootOf : RCode :=
 .seq (.reg [Rq 2 (.mv (Kq 0))])
 (.seq (.reg [Rq 3 (.mv (Kq 0)),Rq 4 (.mv (Kq 2147483648))])
 (.seq (.block 0
 (.loop
 (.seq (.seq (.reg [Rq 5 (.mv 4),Rq 6 (.bin .gtr 5 (Kq 0))])
 (.cond 6
 (.skip)
 (.exit 0)))
 (.block 1
 (.seq (.seq (.reg [Rq 7 (.mv 3),Rq 8 (.mv 4),Rq 9 (.bin .add 7 8),Rq 10 (.bin .leq 9 (Kq 3037000499)),Rq 11 (.mv 10),Gq 12 11 true (.mv 3),Gq 13 11 true (.mv 4),Gq 14 11 true (.bin .add 12 13),Gq 15 11 true (.mv 3),Gq 16 11 true (.mv 4),Gq 17 11 true (.bin .add 15 16),Gq 18 11 true (.bin .mul 14 17),Gq 19 11 true (.mv 0),Gq 20 11 true (.bin .leq 18 19),Rq 21 (.pick 11 20 (.const (.bool false)))])
 (.cond 21
 (.reg [Rq 22 (.mv 3),Rq 23 (.mv 4),Rq 24 (.bin .add 22 23),Rq 3 (.mv 24)])
 (.skip)))
 (.reg [Rq 25 (.mv 4),Rq 26 (.bin .quo 25 (Kq 2)),Rq 4 (.mv 26)]))))))
 (.seq (.reg [Rq 27 (.mv 3),Rq 2 (.mv 27)])
 (.ret))))
theorem ck_hearsayref_RootOf : chkFun Try.prog 97 1 = some (rc_hearsayref_RootOf, [2]) := by kernel_rfl

end Go.Proofs.Ytdaffjjconlmoaa
/- The frame that every law of mine shares: the call returned true and below the heap's old size nothing has turned; so the row's post holds, whatever the arguments are. -/
namespace Go.Proofs.Ytdaffjjconlmoaa
open Go.ChangeShapes Go.WideShapes Go.ChangeAt Go.RowKit
set_option linter.unusedVariables false
section
variable {H : Type} {enc : TypeId × Value → H} {P : Program}

theorem trodAll_stays (hl : laidOutB P = true) {W W' : World} {B : Nat} (hb : Below B W W') (sp : Nat → Bool) :
    ∀ {ts : List TypeId} {vs : List Value} {ds : List (DataW H)} {p : List MemPlace}, (∀ t ∈ ts, P.readableRec t = true ∧ t < P.types.size) →
      DataW.TrodAll enc P W 0 (fun _ => true) true ts vs ds p → (∀ x ∈ p, sp x.block = true) → (∀ x ∈ p, x.block < B) → B = W.heap.size → DataW.TrodAll enc P W' 0 sp true ts vs ds p
  | [], _, _, _, _, h, _, _, _ => by
    obtain ⟨rfl, rfl, rfl⟩ := trodAll_nil h
    exact trodAll_mk0
  | t :: ts, _, _, _, ht, h, hs, hlt, hB => by
    obtain ⟨v, vs1, d, ds1, a, b, rfl, rfl, rfl, h1, h2⟩ := trodAll_cons h
    obtain ⟨hr, hrow⟩ := ht t (by simp)
    subst hB
    refine ⟨a, b, WideElems.Trod_stays hl hr hrow h1 (fun x hx => hb.same (hlt x (by simp [hx]))) (fun x hx => hs x (by simp [hx])), ?_, rfl⟩
    exact trodAll_stays hl hb sp (fun t h => ht t (by simp [h])) h2 (fun x hx => hs x (by simp [hx])) (fun x hx => hlt x (by simp [hx])) rfl

theorem law_post {f : Func} {s : ChangeSpec} {apart fresh handsOn again : Bool} {W W' : World} {args : Array Value} {ds gs : List (DataW H)} {before : List MemPlace} {tb : TypeId}
    (hW : DataW.Whole enc P f.params.toList s.vars apart W args.toList ds gs before) (hl : laidOutB P = true) (hr : ∀ t ∈ f.params.toList, P.readableRec t = true ∧ t < P.types.size)
    (hv : s.vars = []) (hf : s.fn H (ds ++ gs) = { results := [.lit (.bool true)], args := ds }) (hres : f.resultTypes = #[tb]) (hbool : P.underlying tb = some .bool)
    (hb : Below W.heap.size W W') : s.post enc P f apart fresh handsOn again W args (.bool true) W' := by
  have hW0 := hW
  have hlt : ∀ p ∈ before, p.block < W.heap.size := fun p hp => hW.lt p hp
  obtain ⟨p, q, hA, hV, rfl, hz, hn⟩ := hW
  rw [hv] at hV
  obtain ⟨rfl, rfl⟩ := trodVars_none hV
  simp only [List.append_nil] at *
  have hst : ∀ sp : Nat → Bool, (∀ x ∈ p, sp x.block = true) → DataW.TrodAll enc P W' 0 sp true f.params.toList args.toList ds p := fun sp hs => trodAll_stays hl hb sp hr hA hs hlt rfl
  have hold : ∀ x ∈ p, (fun b => decide (b < W.heap.size)) x.block = true := fun x hx => by simpa using hlt x hx
  have hR : ∀ (b : Nat) (sp : Nat → Bool) (hd : Bool), DataW.TrodAll enc P W' b sp hd f.resultTypes.toList ((Value.bool true).resultList f.resultTypes.size) [.lit (.bool true)] [] := fun b sp hd => by
    rw [hres]
    exact trodAll_cons_mk (shut_bool hbool _) trodAll_mk0
  refine ⟨ds, [], p, [], p, [], hW0, ?_, ?_, ?_, ?_, fun _ => ?_⟩
  · rw [List.append_nil, hf]; exact hR _ _ _
  · rw [List.append_nil, hf]; exact hst _ hold
  · rw [List.append_nil, hv, hf]; rfl
  · exact World.keptBut_mono (fun x hx => ⟨hx, by simp [hx]⟩) (hb.frame (· ∈ p))
  · obtain ⟨_, _, _, _, _, hz', hn'⟩ := hW0
    refine ⟨ok_one hres rfl (okWide_bool_mk hbool _), _, [], ([] ++ p) ++ [], ⟨[] ++ p, [], trodAll_append (hst _ (fun _ _ => rfl)) (hR _ _ _), ?_, rfl, ?_, ?_⟩, ?_⟩
    · rw [hv]; rfl
    · intro b off hp
      rw [hb.frozen (hlt _ (by simpa using hp))]
      exact hz b off (by simpa using hp)
    · intro ha
      simpa using hn ha
    · intro x hx _
      simpa using hx
end
end Go.Proofs.Ytdaffjjconlmoaa
/- Arguments of any type made of numbers, texts, yes or no, structs and slices: what is known of them. -/
namespace Go.Proofs.Ytdaffjjconlmoaa
open Go.Joins Go.ChangeShapes Go.WideShapes Go.RowKit Go.Deep
set_option linter.unusedVariables false
inductive Ty where
  | i
  | s
  | b
  | l (row : List Ty)
inductive FitV : Ty → V → Prop where
  | i (n : Int) (h1 : -9223372036854775808 ≤ n) (h2 : n ≤ 9223372036854775807) : FitV .i (.v (.int .i64 n))
  | s (x : ByteArray) (h : x.size ≤ 9223372036854775807) : FitV .s (.v (.string x))
  | b (x : Bool) : FitV .b (.v (.bool x))
  | l (tys : List Ty) (rows : List (List V)) (hl : rows.length ≤ 9223372036854775807) (hr : ∀ row ∈ rows, tys.length = row.length) (h : ∀ row ∈ rows, ∀ (j : Nat) (t : Ty) (u : V), tys[j]? = some t → row[j]? = some u → FitV t u) : FitV (.l tys) (.sl false rows)
def Fits (tys : List Ty) (us : List V) : Prop := tys.length = us.length ∧ ∀ (j : Nat) (t : Ty) (u : V), tys[j]? = some t → us[j]? = some u → FitV t u
def tyFs (P : Program) (rc : TypeId → Option (List Ty)) : List Field → Nat → Option (List Ty)
  | [], _ => some []
  | f :: fs, off => match rc f.type with
    | some ts => if f.offset == off && P.cellsOf f.type == ts.length then (match tyFs P rc fs (off + ts.length) with
      | some r => some (ts ++ r)
      | none => none) else none
    | none => none
def tyOf (P : Program) : Nat → TypeId → Option (List Ty)
  | 0, _ => none
  | d + 1, t => match P.underlying t with
    | some (.int .i64) => some [.i]
    | some .string => some [.s]
    | some .bool => some [.b]
    | some (.struct fs) => match tyFs P (tyOf P d) fs.toList 0 with
      | some ts => if P.cellsOf t == ts.length then some ts else none
      | none => none
    | some (.slice e) => match tyOf P d e with
      | some ts => if P.cellsOf e == ts.length && 0 < ts.length then some [.l ts] else none
      | none => none
    | _ => none
section
variable {H : Type} {enc : TypeId × Value → H} {P : Program} {w : World} {base : Nat} {spare : Nat → Bool} {held : Bool}
/-- cells that read as what is known -/
def Reads (w : World) (tys : List Ty) (cs : List Value) (us : List V) : Prop :=
  Fits tys us ∧ cs.length = us.length ∧ ∀ (j : Nat) (u : V) (x : Value), us[j]? = some u → cs[j]? = some x → RV w (fun b => b < w.heap.size) noG u x
theorem Reads.app {t1 t2 : List Ty} {c1 c2 : List Value} {u1 u2 : List V} (h1 : Reads w t1 c1 u1) (h2 : Reads w t2 c2 u2) : Reads w (t1 ++ t2) (c1 ++ c2) (u1 ++ u2) := by
  obtain ⟨⟨a1, a2⟩, a3, a4⟩ := h1
  obtain ⟨⟨b1, b2⟩, b3, b4⟩ := h2
  refine ⟨⟨by simp [a1, b1], fun j t u g1 g2 => ?_⟩, by simp [a3, b3], fun j u x g1 g2 => ?_⟩
  · by_cases hj : j < t1.length
    · rw [List.getElem?_append_left hj] at g1
      rw [List.getElem?_append_left (by omega)] at g2
      exact a2 j t u g1 g2
    · rw [List.getElem?_append_right (by omega)] at g1 g2
      rw [← a1] at g2
      exact b2 _ t u g1 g2
  · by_cases hj : j < u1.length
    · rw [List.getElem?_append_left hj] at g1
      rw [List.getElem?_append_left (by omega)] at g2
      exact a4 j u x g1 g2
    · rw [List.getElem?_append_right (by omega)] at g1 g2
      rw [a3] at g2
      exact b4 _ u x g1 g2
theorem reads_one {t : Ty} {x : Value} {u : V} (h : FitV t u) (hr : RV w (fun b => b < w.heap.size) noG u x) : Reads w [t] [x] [u] := by
  refine ⟨⟨rfl, fun j t' u' g1 g2 => ?_⟩, rfl, fun j u' x' g1 g2 => ?_⟩
  · cases j with
    | zero => simp at g1 g2; subst g1 g2; exact h
    | succ j => simp at g1
  · cases j with
    | zero => simp at g1 g2; subst g1 g2; exact hr
    | succ j => simp at g1
theorem add_full (a : Addr) (n : Nat) (h : a.spot = none) : a.add n = ⟨a.block, a.off + n, none⟩ := by
  obtain ⟨b, o, sp⟩ := a
  simp only at h; subst h
  unfold Addr.add
  split <;> simp_all
theorem reads_fields {d fuel : Nat} {cs : List Value} (rc : ∀ (t : TypeId) (tys : List Ty) (cs : List Value) (x : DataW H × List MemPlace), tyOf P d t = some tys → DataW.trod enc P w base spare held fuel t cs = some x → ∃ us, Reads w tys cs us) :
    ∀ (fs : List Field) (off : Nat) (tys : List Ty) (xs : List (DataW H × List MemPlace)), tyFs P (tyOf P d) fs off = some tys → (∀ (i : Nat) (f : Field), fs[i]? = some f → ∃ x, DataW.trod enc P w base spare held fuel f.type ((cs.drop f.offset).take (P.cellsOf f.type)) = some x) →
      ∃ us, Reads w tys ((cs.drop off).take tys.length) us := by
  intro fs
  induction fs with
  | nil =>
    intro off tys xs h _
    simp only [tyFs, Option.some.injEq] at h; subst h
    exact ⟨[], ⟨rfl, by simp⟩, by simp, by simp⟩
  | cons f fs ih =>
    intro off tys xs h hf
    simp only [tyFs] at h
    split at h
    · rename_i ts hts
      split at h
      · rename_i hc
        simp only [Bool.and_eq_true, beq_iff_eq] at hc
        split at h
        · rename_i r hr
          injection h with h; subst h
          obtain ⟨x0, hx0⟩ := hf 0 f rfl
          obtain ⟨us1, h1⟩ := rc _ _ _ _ hts hx0
          obtain ⟨us2, h2⟩ := ih _ _ xs hr (fun i g hg => hf (i + 1) g (by simpa using hg))
          rw [hc.1, hc.2] at h1
          have hlen : ((cs.drop off).take ts.length).length = ts.length := by rw [h1.2.1, ← h1.1.1]
          refine ⟨us1 ++ us2, ?_⟩
          have e : (cs.drop off).take (ts ++ r).length = (cs.drop off).take ts.length ++ (cs.drop (off + ts.length)).take r.length := by
            rw [List.length_append, List.take_add, List.drop_drop]
          rw [e]
          exact h1.app h2
        · cases h
      · cases h
    · cases h
theorem reads_of : ∀ (d fuel : Nat) (t : TypeId) (tys : List Ty) (cs : List Value) (x : DataW H × List MemPlace), tyOf P d t = some tys → DataW.trod enc P w base spare held fuel t cs = some x → ∃ us, Reads w tys cs us := by
  intro d
  induction d with
  | zero => intro fuel t tys cs x h; cases h
  | succ d ih =>
    intro fuel t tys cs x h hd
    simp only [tyOf] at h
    split at h
    · rename_i hu
      injection h with h; subst h
      obtain ⟨n, rfl, _, hw⟩ := DataW.trod_int hu hd
      have hb : -9223372036854775808 ≤ n ∧ n ≤ 9223372036854775807 := by simpa [Lit.wf, IntKind.min, IntKind.max, IntKind.signed, IntKind.bits] using hw
      exact ⟨_, reads_one (.i n hb.1 hb.2) (.v _)⟩
    · rename_i hu
      injection h with h; subst h
      obtain ⟨s, rfl, _, hs⟩ := DataW.trod_string hu hd
      exact ⟨_, reads_one (.s s (by simpa [maxLen] using hs)) (.v _)⟩
    · rename_i hu
      injection h with h; subst h
      obtain ⟨s, rfl, _⟩ := DataW.trod_bool hu hd
      exact ⟨_, reads_one (.b s) (.v _)⟩
    · rename_i fs hu
      split at h
      · rename_i ts hts
        split at h
        · rename_i hc
          simp only [beq_iff_eq] at hc
          injection h with h; subst h
          obtain ⟨xs, n, rfl, _, hcl, hxl, hf⟩ := DataW.trod_struct hu hd
          obtain ⟨us, hus⟩ := reads_fields (cs := cs) (fun t tys cs x h1 h2 => ih n t tys cs x h1 h2) fs.toList 0 ts xs hts (fun i f hi => by
            have hi' : fs[i]? = some f := by simpa using hi
            have hlt : i < xs.length := by rw [hxl]; exact (Array.getElem?_eq_some_iff.1 hi').1
            exact ⟨_, (hf i f hi').trans (List.getElem?_eq_getElem hlt)⟩)
          refine ⟨us, ?_⟩
          rwa [List.drop_zero, ← hc, ← hcl, List.take_length] at hus
        · cases h
      · cases h
    · rename_i e hu
      split at h
      · rename_i ts hts
        split at h
        · rename_i hc
          simp only [Bool.and_eq_true, beq_iff_eq, decide_eq_true_eq] at hc
          injection h with h; subst h
          rcases open_slice hu hd with ⟨rfl, _⟩ | ⟨a, len, cap, m, n, D, Pl, rfl, hb, hl, hm, hmm, _, hi⟩
          · exact ⟨[.sl false []], reads_one (.l _ [] (by simp) (by simp) (by simp)) (.nil _ _ _ (by simp))⟩
          · have hlm : len ≤ m := by rw [hmm]; split <;> omega
            have hall : ∀ i : Nat, ∃ p : List Value × List V, i < len → Reads w ts p.1 p.2 ∧ ∀ j, j < ts.length → w.cell? (a.add (i * ts.length + j)) = p.1[j]? := fun i => by
              by_cases hil : i < len
              · obtain ⟨cs', h1, h2⟩ := hi i (by omega)
                obtain ⟨us, hus⟩ := ih n e ts cs' _ hts h2
                obtain ⟨_, h3, h4⟩ := World.cells?_some h1
                rw [hc.1] at h3 h4
                exact ⟨(cs', us), fun _ => ⟨hus, fun j hj => by rw [← Go.Deep.add_add]; exact h4 j hj⟩⟩
              · exact ⟨([], []), fun h => absurd h hil⟩
            obtain ⟨f, hf⟩ := Classical.axiomOfChoice hall
            have hsp : 0 < len → a.spot = none ∧ a.block < w.heap.size := fun h0 => by
              obtain ⟨h1, h2⟩ := hf 0 h0
              have hx := h2 0 hc.2
              have hlt : 0 < (f 0).1.length := by rw [h1.2.1, ← h1.1.1]; exact hc.2
              rw [List.getElem?_eq_getElem hlt] at hx
              have e : a.add (0 * ts.length + 0) = a := by simp [Addr.add]
              rw [e] at hx
              refine ⟨?_, World.block_lt_of_cell? w _ hx⟩
              unfold World.cell? at hx
              split at hx
              · cases hq : a.spot with
                | none => rfl
                | some k => simp [hq] at hx
              · cases hx
            refine ⟨[.sl false ((List.range len).map fun i => (f i).2)], reads_one (.l _ _ (by simp only [List.length_map, List.length_range]; simp only [maxLen] at hm; omega) ?_ ?_) ?_⟩
            · intro row hrow
              simp only [List.mem_map, List.mem_range] at hrow
              obtain ⟨i, hil, rfl⟩ := hrow
              exact (hf i hil).1.1.1
            · intro row hrow j t u g1 g2
              simp only [List.mem_map, List.mem_range] at hrow
              obtain ⟨i, hil, rfl⟩ := hrow
              exact (hf i hil).1.1.2 j t u g1 g2
            · rcases Nat.eq_zero_or_pos len with h0 | h0
              · subst h0; exact .nil _ _ _ (by simp)
              · obtain ⟨h1, h2⟩ := hsp h0
                obtain ⟨b, off, sp⟩ := a
                simp only at h1 h2
                subst h1
                have hrows : ∀ (i : Nat) (row : List V), ((List.range len).map fun i => (f i).2)[i]? = some row → i < len ∧ row = (f i).2 := fun i row h => by
                  have hlt := (List.getElem?_eq_some_iff.1 h).1
                  simp only [List.length_map, List.length_range] at hlt
                  simp [hlt] at h
                  exact ⟨hlt, h.symm⟩
                have e := RV.sl (w := w) (R := fun b => b < w.heap.size) (G := noG) false ((List.range len).map fun i => (f i).2) b off cap ts.length (fun i j => ((f i).1[j]?).getD undef) h2 (by simpa using hl) (by simp) (by
                    intro row hrow
                    simp only [List.mem_map, List.mem_range] at hrow
                    obtain ⟨i, hil, rfl⟩ := hrow
                    exact (hf i hil).1.1.1.symm) (by
                    intro i j row u g1 g2
                    obtain ⟨hil, rfl⟩ := hrows i row g1
                    have hj : j < ts.length := by have := (List.getElem?_eq_some_iff.1 g2).1; rw [(hf i hil).1.1.1]; exact this
                    have hjl : j < (f i).1.length := by rw [(hf i hil).1.2.1, ← (hf i hil).1.1.1]; exact hj
                    have hx := (hf i hil).2 j hj
                    rw [add_full _ _ rfl, List.getElem?_eq_getElem hjl] at hx
                    rw [List.getElem?_eq_getElem hjl]
                    simp only [Option.getD_some]
                    rw [Nat.add_assoc]; exact hx) (by
                    intro i j row u g1 g2
                    obtain ⟨hil, rfl⟩ := hrows i row g1
                    have hj : j < ts.length := by have := (List.getElem?_eq_some_iff.1 g2).1; rw [(hf i hil).1.1.1]; exact this
                    have hjl : j < (f i).1.length := by rw [(hf i hil).1.2.1, ← (hf i hil).1.1.1]; exact hj
                    rw [List.getElem?_eq_getElem hjl]
                    exact (hf i hil).1.2.2 j u _ g2 (List.getElem?_eq_getElem hjl))
                have e2 : ((List.range len).map fun i => (f i).2).length = len := by simp
                rw [e2] at e
                exact e
        · cases h
      · cases h
    · cases h
/-- an argument -/
theorem open_one {t : TypeId} {ty : Ty} {v : Value} {d : DataW H} {p : List MemPlace} {dp : Nat} (ht : tyOf P dp t = some [ty]) (hv : v.cells.toList = [v]) (h : DataW.Trod enc P w base spare held t v d p) :
    ∃ u, FitV ty u ∧ RV w (fun b => b < w.heap.size) noG u v := by
  obtain ⟨fuel, hf⟩ := h
  rw [hv] at hf
  obtain ⟨us, ⟨h1, h2⟩, h3, h4⟩ := reads_of dp fuel t _ _ _ ht hf
  match us, h3 with
  | [u], _ => exact ⟨u, h2 0 _ _ rfl rfl, h4 0 _ _ rfl rfl⟩
theorem open_struct {t : TypeId} {tys : List Ty} {r : Reach} {b0 : Nat} {v : Value} {fs : Array Field} {d : DataW H} {p : List MemPlace} {dp : Nat} (hs : P.underlying t = some (.struct fs)) (ht : tyOf P dp t = some tys) (hv : Value.okWide P w r b0 t v) (h : DataW.Trod enc P w base spare held t v d p) :
    ∃ us, Fits tys us ∧ RV w (fun b => b < w.heap.size) noG (.agg us) v := by
  obtain ⟨cs, rfl, hsz⟩ := okWide_struct hs hv
  obtain ⟨fuel, hf⟩ := h
  obtain ⟨us, h1, h3, h4⟩ := reads_of dp fuel t _ _ _ ht hf
  obtain ⟨cs⟩ := cs
  exact ⟨us, h1, .agg us cs h3.symm h4⟩
theorem open_list {t e : TypeId} {ty : Ty} {r : Reach} {b0 : Nat} {v : Value} {d : DataW H} {p : List MemPlace} {dp : Nat} (hs : P.underlying t = some (.slice e)) (ht : tyOf P dp t = some [ty]) (hv : Value.okWide P w r b0 t v) (h : DataW.Trod enc P w base spare held t v d p) :
    ∃ u, FitV ty u ∧ RV w (fun b => b < w.heap.size) noG u v := by
  obtain ⟨a, len, cap, rfl⟩ := okWide_slice hs hv
  exact open_one ht rfl h
end
/-! what fits, as data -/
theorem fits_cons {t : Ty} {ts : List Ty} {us : List V} (h : Fits (t :: ts) us) : ∃ u us', us = u :: us' ∧ FitV t u ∧ Fits ts us' := by
  obtain ⟨h1, h2⟩ := h
  match us, h1 with
  | u :: us', h1 => exact ⟨u, us', rfl, h2 0 _ _ rfl rfl, by simpa using h1, fun j t' u' g1 g2 => h2 (j + 1) t' u' (by simpa using g1) (by simpa using g2)⟩
theorem fits_nil {us : List V} (h : Fits [] us) : us = [] := List.eq_nil_of_length_eq_zero h.1.symm
theorem fit_i {u : V} (h : FitV .i u) : ∃ n : Int, u = .v (.int .i64 n) ∧ -9223372036854775808 ≤ n ∧ n ≤ 9223372036854775807 := by cases h with | i n h1 h2 => exact ⟨n, rfl, h1, h2⟩
theorem fit_s {u : V} (h : FitV .s u) : ∃ x : ByteArray, u = .v (.string x) ∧ x.size ≤ 9223372036854775807 := by cases h with | s x h => exact ⟨x, rfl, h⟩
theorem fit_b {u : V} (h : FitV .b u) : ∃ x : Bool, u = .v (.bool x) := by cases h with | b x => exact ⟨x, rfl⟩
theorem fit_l {tys : List Ty} {u : V} (h : FitV (.l tys) u) : ∃ rows, u = .sl false rows ∧ rows.length ≤ 9223372036854775807 ∧ ∀ row ∈ rows, Fits tys row := by
  cases h with | l tys rows hl hr h => exact ⟨rows, rfl, hl, fun row hm => ⟨hr row hm, h row hm⟩⟩
theorem rows_dec {α : Type} {enc : α → List V} {p : α → Prop} {tys : List Ty} (hd : ∀ row, Fits tys row → ∃ x : α, row = enc x ∧ p x) : ∀ (rows : List (List V)), (∀ row ∈ rows, Fits tys row) → ∃ l : List α, rows = l.map enc ∧ ∀ x ∈ l, p x
  | [], _ => ⟨[], rfl, by simp⟩
  | row :: rows, h => by
    obtain ⟨x, hx, px⟩ := hd row (h row (by simp))
    obtain ⟨l, hl, pl⟩ := rows_dec hd rows fun r hr => h r (by simp [hr])
    exact ⟨x :: l, by simp [hx, hl], by simpa using ⟨px, pl⟩⟩
theorem fit_list {α : Type} {enc : α → List V} {p : α → Prop} {tys : List Ty} {u : V} (hd : ∀ row, Fits tys row → ∃ x : α, row = enc x ∧ p x) (h : FitV (.l tys) u) : ∃ l : List α, u = .sl false (l.map enc) ∧ l.length ≤ 9223372036854775807 ∧ ∀ x ∈ l, p x := by
  obtain ⟨rows, rfl, hl, hr⟩ := fit_l h
  obtain ⟨l, rfl, hp⟩ := rows_dec hd rows hr
  exact ⟨l, rfl, by simpa using hl, hp⟩
/-! functions whose contracts are at hand in another form -/
theorem pars_v {w : World} {R : Nat → Prop} : ∀ {xs ys : List Value}, Pars w R (xs.map fun x => .c (.v x)) ys → ys = xs
  | xs, ys, h => by
    apply List.ext_getElem?
    intro i
    have hl := h.len
    rw [List.length_map] at hl
    by_cases hi : i < xs.length
    · have h1 : xs[i]? = some xs[i] := List.getElem?_eq_getElem hi
      have h2 : ys[i]? = some (ys[i]'(by omega)) := List.getElem?_eq_getElem (by omega)
      have h3 : ParOk w R (.c (.v xs[i])) (ys[i]'(by omega)) := h.ok i _ _ (by rw [List.getElem?_map, h1]; rfl) h2
      have h4 : RV w R noG (.v xs[i]) (ys[i]'(by omega)) := h3
      rw [h1, h2, rv_v h4]
    · rw [List.getElem?_eq_none (by omega), List.getElem?_eq_none (by omega)]
theorem no_blk {ps : List Par} {xs : List Value} {b : Nat} (h : ∀ p ∈ ps, ∃ u, p = .c u) : ¬ ParBlk ps xs b := by
  rintro ⟨i, T, sz, rows, x, h1, _⟩
  obtain ⟨u, hu⟩ := h _ (List.mem_of_getElem? h1)
  cases hu
theorem fr_of_below {L : Nat → Prop} {w w' : World} (h : Below w.heap.size w w') (hd : w.drawn ≤ w'.drawn) : Fr L w w' := ⟨h.os, h.tape, h.output, h.size, fun k hk _ => h.block k hk, hd⟩
theorem fun_flat {P : Program} {f : FuncId} {xs : List Value} {v : Value} (hc : Callable P f) (h : ∀ w, Calls P f xs.toArray w fun e w' => e = .returned v ∧ Below w.heap.size w w' ∧ w.drawn ≤ w'.drawn) : Fun P f (xs.map fun x => .c (.v x)) [.c (.v v)] := by
  refine ⟨hc, fun w R ys hlt hp => ?_⟩
  obtain rfl := pars_v hp
  refine (h w).mono fun e w' ⟨he, hb, hd⟩ => ⟨[v], R, by rw [he]; rfl, fr_of_below hb hd, fun _ h => h, fun b h => .inl h, ⟨rfl, ?_, ?_, ?_⟩, ?_⟩
  · intro i p x h1 h2
    cases i with
    | zero => simp at h1 h2; subst h1 h2; exact .v _
    | succ i => simp at h1
  · intro i j T sz rows T' sz' rows' x y b _ h1
    cases i with
    | zero => simp at h1
    | succ i => simp at h1
  · intro b hb'
    exact absurd hb' (no_blk (by simp))
  · intro b hb'
    exact absurd hb' (no_blk (by simp))
theorem callable {P : Program} {f : FuncId} {fn : Func} (h1 : P.funcs[f]? = some fn) (h2 : (fn.name == "runtime.NumGoroutine") = false) (h3 : fn.body.isNone = false) : Callable P f := ⟨fn, h1, h2, h3⟩
/-- a law's walk -/
theorem tieF {P : Program} {f : FuncId} {ps : List Par} {xs : List Value} {v : Value} {w : World} (hF : Fun P f ps [.c (.v v)]) (hc : ∀ p ∈ ps, ∃ u, p = .c u) (hl : ps.length = xs.length)
    (hp : ∀ (i : Nat) (u : V) (x : Value), ps[i]? = some (.c u) → xs[i]? = some x → RV w (fun b => b < w.heap.size) noG u x) : Calls P f xs.toArray w fun e w' => e = .returned v ∧ Below w.heap.size w w' := by
  refine (hF.2 w (fun b => b < w.heap.size) xs (fun _ h => h) ⟨hl, ?_, ?_, ?_⟩).mono ?_
  · intro i p x h1 h2
    obtain ⟨u, rfl⟩ := hc p (List.mem_of_getElem? h1)
    exact hp i u x h1 h2
  · intro i j T sz rows T' sz' rows' x y b _ h1
    obtain ⟨u, hu⟩ := hc _ (List.mem_of_getElem? h1)
    cases hu
  · intro b hb; exact absurd hb (no_blk hc)
  · rintro e w' ⟨ys, R', rfl, hfr, _, _, hpr, _⟩
    have hy : ys.length = 1 := hpr.len.symm
    match ys, hy with
    | [y], _ =>
      have : RV w' R' noG (.v v) y := hpr.ok 0 _ y rfl rfl
      obtain rfl := rv_v this
      exact ⟨rfl, hfr.os, hfr.tape, hfr.output, hfr.size, fun k hk => hfr.block k hk (no_blk hc)⟩
def RVL (w : World) : List V → List Value → Prop
  | [], [] => True
  | u :: us, x :: xs => RV w (fun b => b < w.heap.size) noG u x ∧ RVL w us xs
  | _, _ => False
theorem rvl_len {w : World} : ∀ {us : List V} {xs : List Value}, RVL w us xs → us.length = xs.length
  | [], [], _ => rfl
  | u :: us, x :: xs, h => by simp [rvl_len h.2]
  | [], _ :: _, h => h.elim
  | _ :: _, [], h => h.elim
theorem rvl_at {w : World} : ∀ {us : List V} {xs : List Value}, RVL w us xs → ∀ (i : Nat) (u : V) (x : Value), us[i]? = some u → xs[i]? = some x → RV w (fun b => b < w.heap.size) noG u x
  | [], [], _, i, u, x, h1, _ => by simp at h1
  | u' :: us, x' :: xs, h, 0, u, x, h1, h2 => by simp at h1 h2; subst h1 h2; exact h.1
  | u' :: us, x' :: xs, h, i + 1, u, x, h1, h2 => rvl_at h.2 i u x (by simpa using h1) (by simpa using h2)
  | [], _ :: _, h, _, _, _, _, _ => h.elim
  | _ :: _, [], h, _, _, _, _, _ => h.elim
theorem tieL {P : Program} {f : FuncId} {us : List V} {xs : List Value} {v : Value} {w : World} (hF : Fun P f (us.map .c) [.c (.v v)]) (h : RVL w us xs) : Calls P f xs.toArray w fun e w' => e = .returned v ∧ Below w.heap.size w w' :=
  tieF hF (by simp) (by rw [List.length_map]; exact rvl_len h) (fun i u x h1 h2 => by
    rw [List.getElem?_map] at h1
    cases hq : us[i]? with
    | none => rw [hq] at h1; cases h1
    | some u' => rw [hq] at h1; simp at h1; subst h1; exact rvl_at h i u' x hq h2)
theorem parsC {w : World} {R : Nat → Prop} : ∀ {us : List V} {xs : List Value}, us.length = xs.length → (∀ (i : Nat) (u : V) (x : Value), us[i]? = some u → xs[i]? = some x → RV w R noG u x) → True := fun _ _ => trivial
end Go.Proofs.Ytdaffjjconlmoaa
/- Small words of mine for the walks. -/
namespace Go.Proofs.Ytdaffjjconlmoaa
open Go.RowKit
set_option linter.unusedVariables false
theorem hid {p : Prop} (h : p) : Hid p := h
theorem ret_int {k : IntKind} {a b : Int} (h : a = b) : Ending.returned (.int k a) = .returned (.int k b) := by rw [h]
theorem ret_bool {a b : Bool} (h : a = b) : Ending.returned (.bool a) = .returned (.bool b) := by rw [h]
theorem bcell {W w1 : World} (hb : Below W.heap.size W w1) : (∀ b o, b < W.heap.size → w1.cell? ⟨b, o, none⟩ = W.cell? ⟨b, o, none⟩) ∧ (∀ b o, b < W.heap.size → w1.frozen? ⟨b, o, none⟩ = W.frozen? ⟨b, o, none⟩) :=
  ⟨fun b o h => hb.cell (p := ⟨b, o, none⟩) h, fun b o h => hb.frozen (p := ⟨b, o, none⟩) h⟩
theorem new_at {w : World} {o : Obj} {k : Nat} (h : k = w.heap.size) : (w.alloc o).heap[k]? = some o := by
  subst h; exact heap_alloc_new w o
theorem keep_all {W w1 : World} {g : Nat} {f : Nat → Option Value} (hb : Below W.heap.size W w1) (hlt : g < W.heap.size) (h : ∀ i, W.cell? ⟨g, i, none⟩ = f i) : ∀ i, w1.cell? ⟨g, i, none⟩ = f i :=
  fun i => (hb.cell (p := ⟨g, i, none⟩) hlt).trans (h i)
theorem keep_one {W w1 : World} {g i : Nat} {f : Option Value} (hb : Below W.heap.size W w1) (hlt : g < W.heap.size) (h : W.cell? ⟨g, i, none⟩ = f) : w1.cell? ⟨g, i, none⟩ = f :=
  (hb.cell (p := ⟨g, i, none⟩) hlt).trans h
theorem block_lt {w : World} {b : Nat} {o : Obj} (h : w.heap[b]? = some o) : b < w.heap.size := (Array.getElem?_eq_some_iff.1 h).1
theorem flat_len {α : Type} {enc : α → List Value} {sz : Nat} (hs : ∀ x, (enc x).length = sz) : ∀ l : List α, (l.flatMap enc).length = l.length * sz
  | [] => by simp
  | x :: r => by rw [List.flatMap_cons, List.length_append, hs, flat_len hs r, List.length_cons, Nat.add_mul]; omega
theorem flat_get {α : Type} {enc : α → List Value} {sz : Nat} (hs : ∀ x, (enc x).length = sz) : ∀ {l : List α} (i j : Nat) (hi : i < l.length) (hj : j < sz), (l.flatMap enc)[i * sz + j]? = (enc l[i])[j]?
  | x :: r, 0, j, _, hj => by
    rw [List.flatMap_cons, Nat.zero_mul, Nat.zero_add, List.getElem?_append_left (by rw [hs]; exact hj)]; rfl
  | x :: r, i + 1, j, hi, hj => by
    rw [List.flatMap_cons, List.getElem?_append_right (by rw [hs, Nat.add_mul]; omega), hs, show (i + 1) * sz + j - sz = i * sz + j by rw [Nat.add_mul]; omega]
    exact flat_get hs i j (by simpa using hi) hj
/-- a block that is known whole (after the guide's word) -/
def Blk (w : World) (g : Nat) (t : TypeId) (cs : Array Value) : Prop := w.heap[g]? = some (.cells cs t (0, 0))
section
variable {w w' : World} {g : Nat} {t : TypeId} {cs : Array Value}
theorem Blk.lt (h : Blk w g t cs) : g < w.heap.size := by
  rcases Nat.lt_or_ge g w.heap.size with hlt | hge
  · exact hlt
  · unfold Blk at h; rw [Array.getElem?_eq_none hge] at h; cases h
theorem Blk.cell (h : Blk w g t cs) (i : Nat) : w.cell? ⟨g, i, none⟩ = cs[i]? := by
  unfold Blk at h
  simp [World.cell?, h]
theorem Blk.frozen (h : Blk w g t cs) (i : Nat) : w.frozen? ⟨g, i, none⟩ = false := by
  unfold Blk at h
  simp [World.frozen?, h]
theorem Blk.new (w : World) (t : TypeId) (cs : Array Value) : Blk (w.alloc (.cells cs t)) w.heap.size t cs := heap_alloc_new w _
theorem Blk.new_ (w : World) (t : TypeId) (cs : Array Value) {g : Nat} (h : g = w.heap.size) : Blk (w.alloc (.cells cs t)) g t cs := h ▸ heap_alloc_new w _
theorem Blk.drew (h : Blk w g t cs) : Blk w.drew g t cs := h
theorem Blk.drewN (h : Blk w g t cs) (n : Nat) : Blk (w.drewN n) g t cs := h
theorem Blk.alloc (h : Blk w g t cs) (o : Obj) : Blk (w.alloc o) g t cs := (Below.heap_alloc w o g h.lt).trans h
theorem Blk.set_ (h : Blk w g t cs) (i : Nat) (u : Value) : Blk (w.setCell ⟨g, i, none⟩ u) g t (cs.setIfInBounds i u) := by
  unfold Blk at h ⊢
  simp [World.setCell, Array.getElem?_modify, h]
theorem Blk.far (h : Blk w g t cs) {p : Addr} (hp : g ≠ p.block) (u : Value) : Blk (w.setCell p u) g t cs := (Below.heap_setCell w p u g hp).trans h
theorem Blk.below {B : Nat} (h : Blk w g t cs) (hb : Below B w w') (hg : g < B) : Blk w' g t cs := (hb.block g hg).trans h
theorem Blk.below' (h : Blk w g t cs) (hb : Below w.heap.size w w') : Blk w' g t cs := (hb.block g h.lt).trans h
theorem Blk.grown {row : Option Nat} (h : Blk w g t cs) (hb : w.grownBy w' row) (hg : some g ≠ row) : Blk w' g t cs := (hb.block g h.lt hg).trans h
end
theorem news_at {w W : World} {T : TypeId} {cs : List Value} (hW : W.heap = (w.alloc (.cells cs.toArray T)).heap) : ∀ j u, cs[j]? = some u → W.cell? ((⟨w.heap.size, 0, none⟩ : Addr).add j) = some u := fun j u hu => by
  have e : (⟨w.heap.size, 0, none⟩ : Addr).add j = ⟨w.heap.size, j, none⟩ := by unfold Addr.add; split <;> simp_all
  have h : W.heap[w.heap.size]? = some (.cells cs.toArray T) := by rw [hW]; exact heap_alloc_new w _
  rw [e]
  unfold World.cell?
  simp only [h]
  simpa using hu
theorem own_heap {w W : World} {base : Nat} {e : TypeId} {size : Nat} {v : Value} {n : Nat} {xs : List Value} (h : w.ownsRow base e size v n xs) (hW : W.heap = w.heap) : W.ownsRow base e size v n xs := by
  unfold World.ownsRow at *
  rw [hW]
  exact h
theorem own_at {w W : World} {base : Nat} {e : TypeId} {size : Nat} {v : Value} {n : Nat} {xs : List Value} {o : Obj} (h : w.ownsRow base e size v n xs) (hW : W.heap = (w.alloc o).heap) : W.ownsRow base e size v n xs :=
  own_heap (h.alloc o) hW
theorem below_heap {B : Nat} {a w W : World} (h : Below B a w) (hW : W.heap = w.heap) (h1 : W.os = w.os) (h2 : W.tape = w.tape) (h3 : W.output = w.output) : Below B a W :=
  ⟨h1.trans h.os, h2.trans h.tape, h3.trans h.output, by rw [hW]; exact h.size, fun k hk => by rw [hW]; exact h.block k hk⟩
end Go.Proofs.Ytdaffjjconlmoaa
/- The walk of cmp.Compare at texts. -/
namespace Go.Proofs.Ytdaffjjconlmoaa
open Go.RowKit Pl
set_option linter.unusedVariables false
theorem isNaNs_any (a : ByteArray) (w : World) : Calls Try.prog 71 #[.string a] w fun e w' => e = .returned (.bool false) ∧ w = w' := by
  have h : (a.toList == a.toList) = true := by simp
  go_enter Try.func71, Try.ntmps71
  go_wp2
  go_ret
  exact ⟨ret_bool (by simp), rfl⟩
theorem cmps_any (a b : ByteArray) (w : World) : Calls Try.prog 43 #[.string a, .string b] w fun e w' => e = .returned (.int .i64 (scmp a b)) ∧ w = w' := by
  rcases Bool.eq_false_or_eq_true (slt a b) with h | h
  · have HE := hid (scmp_lt h)
    unfold slt at h
    go_enter Try.func43, Try.ntmps43
    go_wp2_with (go_at_call 71; refine (isNaNs_any _ _).mono ?_; rintro e w' ⟨rfl, rfl⟩)
    go_ret
    exact ⟨ret_int HE.out.symm, rfl⟩
  · rcases Bool.eq_false_or_eq_true (slt b a) with g | g
    · have HE := hid (scmp_gt g)
      have h2 : (a.toList == b.toList) = false := seq_no (fun e => by subst e; rw [slt_irrefl] at g; cases g)
      unfold slt at h
      clear g
      go_enter Try.func43, Try.ntmps43
      go_wp2_with (go_at_call 71; refine (isNaNs_any _ _).mono ?_; rintro e w' ⟨rfl, rfl⟩)
      go_ret
      exact ⟨ret_int HE.out.symm, rfl⟩
    · obtain rfl := slt_tri h g
      have HE := hid (scmp_eq a)
      have h2 : (a.toList == a.toList) = true := by simp
      unfold slt at h
      clear g
      go_enter Try.func43, Try.ntmps43
      go_wp2_with (go_at_call 71; refine (isNaNs_any _ _).mono ?_; rintro e w' ⟨rfl, rfl⟩)
      go_ret
      exact ⟨ret_int HE.out.symm, rfl⟩

/-- three ways, of numbers -/
def icmp (a b : Int) : Int := if a < b then -1 else if b < a then 1 else 0
theorem isNaNi_any (a : Int) (w : World) : Calls Try.prog 70 #[.int .i64 a] w fun e w' => e = .returned (.bool false) ∧ w = w' := by
  have h : (a == a) = true := by simp
  go_enter Try.func70, Try.ntmps70
  go_wp2
  go_ret
  exact ⟨ret_bool (by simp), rfl⟩
theorem cmpi_any (a b : Int) (w : World) : Calls Try.prog 42 #[.int .i64 a, .int .i64 b] w fun e w' => e = .returned (.int .i64 (icmp a b)) ∧ w = w' := by
  by_cases h : a < b
  · have HE : Hid (icmp a b = -1) := hid (by simp [icmp, h])
    go_enter Try.func42, Try.ntmps42
    go_wp2_with (go_at_call 70; refine (isNaNi_any _ _).mono ?_; rintro e w' ⟨rfl, rfl⟩)
    go_ret
    exact ⟨ret_int HE.out.symm, rfl⟩
  · by_cases g : b < a
    · have HE : Hid (icmp a b = 1) := hid (by simp [icmp, h, g])
      go_enter Try.func42, Try.ntmps42
      go_wp2_with (go_at_call 70; refine (isNaNi_any _ _).mono ?_; rintro e w' ⟨rfl, rfl⟩)
      go_ret
      exact ⟨ret_int HE.out.symm, rfl⟩
    · have HE : Hid (icmp a b = 0) := hid (by simp [icmp, h, g])
      go_enter Try.func42, Try.ntmps42
      go_wp2_with (go_at_call 70; refine (isNaNi_any _ _).mono ?_; rintro e w' ⟨rfl, rfl⟩)
      go_ret
      exact ⟨ret_int HE.out.symm, rfl⟩

/-- the first that is not nought -/
def firstNZ : List Int → Int
  | [] => 0
  | x :: r => if x = 0 then firstNZ r else x
theorem firstNZ_at : ∀ {l : List Int} {k : Nat} (hk : k < l.length), (∀ i, (h : i < l.length) → i < k → l[i] = 0) → l[k] ≠ 0 → firstNZ l = l[k]
  | x :: r, 0, _, _, hne => by
    simp only [List.getElem_cons_zero] at hne ⊢
    simp [firstNZ, hne]
  | x :: r, k + 1, hk, h, hne => by
    have h0 : x = 0 := h 0 (by simp) (by omega)
    subst h0
    simp only [firstNZ, if_true, List.getElem_cons_succ] at hne ⊢
    exact firstNZ_at (by simpa using hk) (fun i hi hik => h (i + 1) (by simpa using hi) (by omega)) hne
theorem firstNZ_zero : ∀ {l : List Int}, (∀ i, (h : i < l.length) → l[i] = 0) → firstNZ l = 0
  | [], _ => rfl
  | x :: r, h => by
    have h0 : x = 0 := h 0 (by simp)
    subst h0
    simp only [firstNZ, if_true]
    exact firstNZ_zero fun i hi => h (i + 1) (by simpa using hi)

def OrRel (l : List Int) (i : Value) : Prop := ∃ k : Nat, k ≤ l.length ∧ i = .int .i64 k ∧ ∀ j, (h : j < l.length) → j < k → l[j] = 0
set_option maxRecDepth 100000 in
theorem or_any (g : Nat) (vs : List Int) (w : World) (hg : Blk w g 3 (vs.map (Value.int .i64)).toArray) (hn : vs.length ≤ 1000) :
    Calls Try.prog 41 #[.slice (some ⟨g, 0, none⟩) vs.length vs.length] w fun e w' => e = .returned (.int .i64 (firstNZ vs)) ∧ w = w' := by
  have HG := hid hg
  clear hg
  go_enter Try.func41, Try.ntmps41
  go_wp2
  go_loop [8] (fun i => OrRel vs i) (fun i => vs.length - (intOf i).toNat)
  case atStart => exact ⟨0, Nat.zero_le _, rfl, fun j _ h => absurd h (by omega)⟩
  case round =>
    obtain ⟨k, hk, rfl, h0⟩ := hrel
    have H0 := hid h0
    clear h0
    by_cases hlt : k < vs.length
    · have g0 : w.cell? ⟨g, k, none⟩ = some (.int .i64 vs[k]) := by
        rw [HG.out.cell]
        simp [hlt]
      by_cases hz : vs[k] = 0
      · have hb : (vs[k] == 0) = true := by simpa using hz
        have HN : Hid (∀ j, (h : j < vs.length) → j < k + 1 → vs[j] = 0) := hid (fun j hj hjk => by
          rcases (by omega : j < k ∨ j = k) with q | rfl
          · exact H0.out j hj q
          · exact hz)
        clear hz
        generalize vs[k] = x at *
        go_wp2
        go_round
        case rel => exact ⟨k + 1, by omega, by go_num, HN.out⟩
        case measure => simp [intOf]; omega
      · have hb : (vs[k] == 0) = false := by simpa using hz
        have HE := hid (firstNZ_at hlt H0.out hz)
        clear hz
        generalize vs[k] = x at *
        go_wp2
        go_ret
        exact ⟨ret_int HE.out.symm, rfl⟩
    · have HE := hid (firstNZ_zero (l := vs) (fun j h => H0.out j h (by omega)))
      go_wp2
      go_ret
      exact ⟨ret_int HE.out.symm, rfl⟩
end Go.Proofs.Ytdaffjjconlmoaa
/- Words for proofs over resolved code; no function of a program in sight. -/
namespace Go.Proofs.Ytdaffjjconlmoaa
open Go.RowKit Pl
set_option linter.unusedVariables false
theorem wrap_u64 {n : Int} (h1 : 0 ≤ n) (h2 : n ≤ 18446744073709551615) : IntKind.u64.wrap n = n := IntWalk.u64_in n ⟨h1, h2⟩
theorem fdiv_half {n : Int} (h : 0 ≤ n) : n.fdiv (2 ^ (min (1 : Int).toNat IntKind.u64.bits)) = n / 2 := by
  have e : (2 : Int) ^ (min (1 : Int).toNat IntKind.u64.bits) = 2 := by decide
  rw [e, Int.fdiv_eq_ediv_of_nonneg _ (by decide)]
/-- a thing's cells are values -/
class FlatRow {α : Type} (enc : α → List V) : Prop where
  flat : ∀ x, ∀ u ∈ enc x, ∃ v, u = .v v
theorem row_map {α : Type} {f : α → List V} {l : List α} {k : Nat} (h : k < l.length) : (l.map f)[k]? = some (f l[k]) := by simp [h]
theorem fl_row {α : Type} {enc : α → List V} [hf : FlatRow enc] {x : α} : ∀ u ∈ enc x, Fl u := fun u hu => by
  obtain ⟨v, rfl⟩ := hf.flat x u hu
  exact fl_v v
theorem fl_rows {α : Type} {enc : α → List V} [FlatRow enc] {l : List α} : ∀ row ∈ l.map enc, ∀ u ∈ row, Fl u := fun row hr u hu => by
  obtain ⟨x, _, rfl⟩ := List.mem_map.1 hr
  exact fl_row u hu
theorem cl_rows {α : Type} {enc : α → List V} [FlatRow enc] {l : List α} : ∀ row ∈ l.map enc, ∀ u ∈ row, Cl u := fun row hr u hu => (fl_rows row hr u hu).cl
theorem cl_list {α : Type} {enc : α → List V} [FlatRow enc] {c : Bool} {l : List α} : Cl (.sl c (l.map enc)) := cl_sl cl_rows
theorem cl_nil {c : Bool} : Cl (.sl c []) := cl_sl (by simp)
theorem cl_one {α : Type} {enc : α → List V} [FlatRow enc] {x : α} : Cl (.agg (enc x)) := cl_agg fun u hu => (fl_row u hu).cl
theorem fl_one {α : Type} {enc : α → List V} [FlatRow enc] {x : α} : Fl (.agg (enc x)) := fl_agg fun u hu => fl_row u hu
def vB : V → Bool
  | .v _ => true
  | _ => false
def vsB : List V → Bool
  | [] => true
  | u :: us => bif vB u then vsB us else false
def clB : V → Bool
  | .v _ => true
  | .agg cs => vsB cs
  | .tup cs => vsB cs
  | .clo _ cs => vsB cs
  | .sl false [] => true
  | _ => false
def clRs : List (List V) → Bool
  | [] => true
  | r :: rs => bif vsB r then clRs rs else false
theorem vB_fl {u : V} (h : vB u = true) : Fl u := by
  cases u <;> first | exact fl_v _ | cases h
theorem vsB_fl : ∀ {us : List V}, vsB us = true → ∀ u ∈ us, Fl u
  | [], _, u, hu => by cases hu
  | v :: us, h, u, hu => by
    unfold vsB at h
    cases hv : vB v with
    | false => rw [hv] at h; cases h
    | true =>
      rw [hv] at h
      rcases List.mem_cons.1 hu with rfl | hu
      · exact vB_fl hv
      · exact vsB_fl h u hu
theorem clRs_fl : ∀ {rs : List (List V)}, clRs rs = true → ∀ r ∈ rs, ∀ u ∈ r, Fl u
  | [], _, r, hr => by cases hr
  | r' :: rs, h, r, hr => by
    unfold clRs at h
    cases hv : vsB r' with
    | false => rw [hv] at h; cases h
    | true =>
      rw [hv] at h
      rcases List.mem_cons.1 hr with rfl | hr
      · exact vsB_fl hv
      · exact clRs_fl h r hr
theorem fl_clo {f : FuncId} {cs : List V} (h : ∀ u ∈ cs, Fl u) : Fl (.clo f cs) := fun w w' R R' G G' x hx => by
  cases hx with
  | clo f cs xs hl hh => exact .clo f cs xs hl fun i u x h1 h2 => h u (List.mem_of_getElem? h1) _ _ _ _ _ _ _ (hh i u x h1 h2)
theorem fl_b {u : V} (h : clB u = true) : Fl u := by
  cases u with
  | v x => exact fl_v x
  | agg cs => exact fl_agg (vsB_fl h)
  | tup cs => exact fl_tup (vsB_fl h)
  | clo f cs => exact fl_clo (vsB_fl h)
  | sl c rows => cases c <;> cases rows <;> first | exact fl_nil | cases h
  | _ => cases h
theorem cl_b {u : V} (h : clB u = true) : Cl u := (fl_b h).cl
theorem cl_rs {rs : List (List V)} (h : clRs rs = true) : ∀ r ∈ rs, ∀ u ∈ r, Cl u := fun r hr u hu => (clRs_fl h r hr u hu).cl
theorem cl_rl1 {α : Type} {enc : α → List V} [FlatRow enc] {c : Bool} {l : List α} : ∀ row ∈ [[V.sl c (l.map enc)]], ∀ u ∈ row, Cl u := by
  intro row hr u hu
  simp only [List.mem_cons, List.not_mem_nil, or_false] at hr; subst hr
  simp only [List.mem_cons, List.not_mem_nil, or_false] at hu; subst hu
  exact cl_list
theorem cl_rl2 {α : Type} {enc : α → List V} [FlatRow enc] {c d : Bool} {l m : List α} : ∀ row ∈ [[V.sl c (l.map enc)], [V.sl d (m.map enc)]], ∀ u ∈ row, Cl u := by
  intro row hr u hu
  simp only [List.mem_cons, List.not_mem_nil, or_false] at hr
  rcases hr with rfl | rfl <;> (simp only [List.mem_cons, List.not_mem_nil, or_false] at hu; subst hu; exact cl_list)
theorem cl_ll1 {α : Type} {enc : α → List V} [FlatRow enc] {c e : Bool} {l : List α} : Cl (.sl e [[V.sl c (l.map enc)]]) := cl_sl cl_rl1
theorem cl_ll2 {α : Type} {enc : α → List V} [FlatRow enc] {c d e : Bool} {l m : List α} : Cl (.sl e [[V.sl c (l.map enc)], [V.sl d (m.map enc)]]) := cl_sl cl_rl2
def flB : List Par → Bool
  | [] => true
  | .c u :: ps => bif clB u then flB ps else false
  | _ => false
theorem flat_b : ∀ {rs : List Par}, flB rs = true → flatRes rs
  | [], _ => fun r hr => by cases hr
  | .c u :: ps, h => by
    unfold flB at h
    cases hv : clB u with
    | false => rw [hv] at h; cases h
    | true =>
      rw [hv] at h
      intro r hr
      rcases List.mem_cons.1 hr with rfl | hr
      · exact fl_b hv
      · exact flat_b h r hr
  | .o _ _ _ :: _, h => by cases h
theorem flat_own {α : Type} {enc : α → List V} [FlatRow enc] {T : TypeId} {sz : Nat} {l : List α} : flatRes [.o T sz (l.map enc)] := by
  intro r hr
  simp only [List.mem_cons, List.not_mem_nil, or_false] at hr; subst hr
  exact fl_rows
theorem flat_own1 {α : Type} {enc : α → List V} [FlatRow enc] {T : TypeId} {sz : Nat} {l : List α} {ps : List Par} (h : flB ps = true) : flatRes (.o T sz (l.map enc) :: ps) := by
  intro r hr
  rcases List.mem_cons.1 hr with rfl | hr
  · exact fl_rows
  · exact flat_b h r hr
theorem cl_setB {α : Type} {enc : α → List V} [FlatRow enc] {l : List α} {i : Nat} {row : List V} (h : vsB row = true) : ∀ r ∈ (l.map enc).set i row, ∀ u ∈ r, Cl u := fun r hr u hu => by
  rcases List.mem_or_eq_of_mem_set hr with h1 | rfl
  · exact cl_rows r h1 u hu
  · exact (vsB_fl h u hu).cl
theorem cl_setG {rows : List (List V)} {i : Nat} {row : List V} (h0 : ∀ r ∈ rows, ∀ u ∈ r, Cl u) (h : vsB row = true) : ∀ r ∈ rows.set i row, ∀ u ∈ r, Cl u := fun r hr u hu => by
  rcases List.mem_or_eq_of_mem_set hr with h1 | rfl
  · exact h0 r h1 u hu
  · exact (vsB_fl h u hu).cl
theorem set_at {α : Type} {f : α → List V} {l : List α} {k : Nat} {r : List V} (h : k < l.length) : ((l.map f).set k r)[k]? = some r := by simp [h]
theorem cl_appB {rs rs' : List (List V)} (h : ∀ r ∈ rs, ∀ u ∈ r, Cl u) (h' : ∀ r ∈ rs', ∀ u ∈ r, Cl u) : ∀ r ∈ rs ++ rs', ∀ u ∈ r, Cl u := fun r hr u hu => by
  rcases List.mem_append.1 hr with h1 | h1
  · exact h r h1 u hu
  · exact h' r h1 u hu
theorem give' {H : Nat → Option Ent} {all : List Nat} {bor : Bool} {gone : List Nat} {id g : Nat} {T : TypeId} {sz : Nat} {rows : List (List V)} {us : List V} {ps : List Par} (he : H id = some ⟨g, .t T, sz, rows⟩) (hr : ∀ row ∈ rows, ∀ u ∈ row, Cl u) (hn : id ∉ gone) (ha : id ∈ all) (h : ArgsOk H all bor gone us ps) : ArgsOk H all bor (id :: gone) (.own id g :: us) (.o T sz rows :: ps) :=
  ArgsOk.give (e := ⟨g, .t T, sz, rows⟩) he rfl rfl hr hn ha h
theorem not_t {b : Bool} (h : (!b) = true) : b = false := by cases b; rfl; cases h
theorem not_f {b : Bool} (h : (!b) = false) : b = true := by cases b; cases h; rfl
theorem nobor {p : Prop} : false = true → p := by simp
theorem wi_t {n a b : Int} (h : decide (a ≤ n) = true) : wi n a b = decide (n ≤ b) := by simp [wi, h]
theorem wi_f {n a b : Int} (h : decide (a ≤ n) = false) : wi n a b = false := by simp [wi, h]
theorem up1 {n k : Nat} {p : (j : Nat) → (j < n) → Prop} (h0 : ∀ j (h : j < n), j < k → p j h) (hk : ∀ h : k < n, p k h) : ∀ j (h : j < n), j < k + 1 → p j h := fun j h hj => by
  rcases (by omega : j < k ∨ j = k) with g | rfl
  · exact h0 j h g
  · exact hk h
theorem up2 {n k : Nat} {p : (j : Nat) → (j + 1 < n) → Prop} (h0 : ∀ j (h : j + 1 < n), j < k → p j h) (hk : ∀ h : k + 1 < n, p k h) : ∀ j (h : j + 1 < n), j < k + 1 → p j h := fun j h hj => by
  rcases (by omega : j < k ∨ j = k) with g | rfl
  · exact h0 j h g
  · exact hk h
theorem cl_row {row : List V} (h : clRs [row] = true) : ∀ u ∈ row, Cl u := fun u hu => cl_rs h row (by simp) u hu
theorem GetR.cell1 {env : Nat → V} {H : Nat → Option Ent} {a id gen k off sz : Nat} {agg : Bool} {e : Ent} {row : List V} {r : List RT} {u : V} {us : List V} (h1 : env a = .ptr id gen k off) (h2 : H id = some e) (h3 : e.gen = gen) (h4 : e.rows[k]? = some row) (h5 : Nat.ble (off + sz) row.length = true) (hu : u = mkV agg ((row.drop off).take sz)) (h : GetR env H r us) :
    GetR env H ((a, some (agg, sz)) :: r) (u :: us) := by rw [hu]; exact .cell h1 h2 h3 h4 (Nat.le_of_ble_eq_true h5) h
theorem GetR.tmp1 {env : Nat → V} {H : Nat → Option Ent} {t : Nat} {r : List RT} {u : V} {us : List V} (hu : u = env t) (h : GetR env H r us) : GetR env H ((t, none) :: r) (u :: us) := by rw [hu]; exact .tmp h
theorem retc2 {env : Nat → V} {H : Nat → Option Ent} {ts : List RT} {u v : V} (h1 : Cl u) (h2 : Cl v) (hG : GetR env H ts [u, v]) : ∃ us gone, GetR env H ts us ∧ ArgsOk H gone true gone us [.c u, .c v] := ⟨_, [], hG, .same h1 (.same h2 (.nil _))⟩
theorem retc1 {env : Nat → V} {H : Nat → Option Ent} {ts : List RT} {u : V} (h1 : Cl u) (hG : GetR env H ts [u]) : ∃ us gone, GetR env H ts us ∧ ArgsOk H gone true gone us [.c u] := ⟨_, [], hG, .same h1 (.nil _)⟩
/-- a thing's cells are one cell each, so many -/
class OneRow {α : Type} (enc : α → List V) (sz : outParam Nat) : Prop where
  len : ∀ x, (enc x).length = sz
  one : ∀ x, ∀ u ∈ enc x, ∃ v, u = .v v ∧ v.oneCell' = true
theorem ones_of {H : Nat → Option Ent} : ∀ {us : List V}, (∀ u ∈ us, ∃ v, u = .v v ∧ v.oneCell' = true) → ones H us
  | [], _ => trivial
  | u :: us, h => by
    obtain ⟨v, rfl, hv⟩ := h u (List.mem_cons_self ..)
    exact ⟨hv, ones_of fun w hw => h w (List.mem_cons_of_mem _ hw)⟩
theorem ones_rows {α : Type} {enc : α → List V} {sz : Nat} [OneRow enc sz] {H : Nat → Option Ent} {l : List α} : ∀ row ∈ l.map enc, row.length = sz ∧ ones H row := fun row hr => by
  obtain ⟨x, _, rfl⟩ := List.mem_map.1 hr
  exact ⟨OneRow.len x, ones_of (OneRow.one x)⟩
theorem outs_b {rs : List ParM} (h : rs.all outM = true) : ∀ p ∈ rs, outM p = true := List.all_eq_true.1 h
theorem cl_r1 {c : Bool} {rows : List (List V)} (h : clRs rows = true) : ∀ u ∈ [V.sl c rows], Cl u := fun u hu => by
  simp only [List.mem_cons, List.not_mem_nil, or_false] at hu; subst hu
  exact cl_sl (cl_rs h)
theorem cl_r1b {α : Type} {enc : α → List V} [FlatRow enc] {c : Bool} {l : List α} : ∀ u ∈ [V.sl c (l.map enc)], Cl u := fun u hu => by
  simp only [List.mem_cons, List.not_mem_nil, or_false] at hu; subst hu
  exact cl_list
theorem cl_rowF {α : Type} {enc : α → List V} [FlatRow enc] {x : α} : ∀ u ∈ enc x, Cl u := fun u hu => (fl_row u hu).cl
theorem pair_eq {α β : Type} {p : α × β} {a : α} {b : β} (h : p = (a, b)) : p.1 = a ∧ p.2 = b := by rw [h]; exact ⟨rfl, rfl⟩
/-- rows without things of our own -/
theorem cr_app {rs rs' : List (List V)} (h : ∀ r ∈ rs, ∀ u ∈ r, Cl u) (h' : ∀ r ∈ rs', ∀ u ∈ r, Cl u) : ∀ r ∈ rs ++ rs', ∀ u ∈ r, Cl u := cl_appB h h'
theorem cr_take {rs : List (List V)} {n : Nat} (h : ∀ r ∈ rs, ∀ u ∈ r, Cl u) : ∀ r ∈ rs.take n, ∀ u ∈ r, Cl u := fun r hr => h r (List.mem_of_mem_take hr)
theorem cr_drop {rs : List (List V)} {n : Nat} (h : ∀ r ∈ rs, ∀ u ∈ r, Cl u) : ∀ r ∈ rs.drop n, ∀ u ∈ r, Cl u := fun r hr => h r (List.mem_of_mem_drop hr)
theorem cr_repl {row : List V} {n : Nat} (h : clRs [row] = true) : ∀ r ∈ List.replicate n row, ∀ u ∈ r, Cl u := fun r hr => by
  obtain ⟨_, rfl⟩ := List.mem_replicate.1 hr
  exact cl_row h
theorem ret_osub {H : Nat → Option Ent} {id g n sz : Nat} {e : Ent} {T : TypeId} {rows : List (List V)} {us : List V} (hu : us = [.osub id g 0 n]) (he : H id = some e) (hg : e.gen = g) (hT : e.T = .t T) (hs : e.sz = sz) (hl : n ≤ e.rows.length) (hr : ∀ row ∈ e.rows, ∀ u ∈ row, Cl u) (hq : rows = e.rows.take n) : ArgsOk H [id] true [id] us [.o T sz rows] := by
  rw [hu, hq, ← hs]; exact .givv he hg hT hl hr (by simp) (by simp) (.nil _)
theorem ret_own {H : Nat → Option Ent} {id g sz : Nat} {e : Ent} {T : TypeId} {rows : List (List V)} {us : List V} (hu : us = [.own id g]) (he : H id = some e) (hg : e.gen = g) (hT : e.T = .t T) (hs : e.sz = sz) (hr : ∀ row ∈ rows, ∀ u ∈ row, Cl u) (hq : e.rows = rows) : ArgsOk H [id] true [id] us [.o T sz rows] := by
  subst hq; rw [hu, ← hs]; exact .give he hg hT hr (by simp) (by simp) (.nil _)
theorem flat_own2 {α β : Type} {enc : α → List V} {enc' : β → List V} [FlatRow enc] [FlatRow enc'] {T T' : TypeId} {sz sz' : Nat} {l : List α} {l' : List β} {ps : List Par} (h : flB ps = true) : flatRes (.o T sz (l.map enc) :: .o T' sz' (l'.map enc') :: ps) := by
  intro r hr
  rcases List.mem_cons.1 hr with rfl | hr
  · exact fl_rows
  · exact flat_own1 h r hr
/-! ### what is found by itself -/
theorem nI {a b : Nat} (h : Nat.ble a b = true := by exact rfl) : a ≤ b := Nat.le_of_ble_eq_true h
theorem oI {rs : List ParM} (h : rs.all outM = true := by exact rfl) : ∀ p ∈ rs, outM p = true := outs_b h
theorem dI {l : List Nat} (h : ndB l = true := by exact rfl) : l.Nodup := nd_b h
theorem tI {p : Prop} (h : p := by (repeat' (first | exact trivial | refine ⟨rfl, ?_⟩))) : p := h
theorem lI {p : Prop} (h : p := by (simp only [List.length_map, List.length_append, List.length_cons, List.length_nil, List.length_set, List.length_replicate, maxLen]; omega)) : p := h
theorem fI {rs : List Par} (h : flatRes rs := by (first | exact flat_b rfl | exact flat_own | exact flat_own1 rfl | exact flat_own2 rfl)) : flatRes rs := h
theorem mfI {rs : List ParM} (h : ∀ p ∈ rs, flatM p := by (intro p hp; simp only [exitsP, List.nil_append, List.append_nil, List.mem_cons, List.not_mem_nil, or_false] at hp; subst hp; first | exact flat_own | exact flat_b rfl)) : ∀ p ∈ rs, flatM p := h
theorem cBI {H : Nat → Option Ent} {all : List Nat} {cs cs' : List V} (h : CellsB H all cs cs' := by (repeat' (first | exact CellsB.nil | refine CellsB.same (by first | exact cl_b rfl | exact cl_list | exact cl_nil | assumption) ?_ | refine CellsB.nilsl _ ?_ | refine cB_own rfl rfl (by first | exact cl_rs rfl | exact cl_rows | exact cl_setB rfl | exact cl_setG (cl_setB rfl) rfl | exact cl_appB cl_rows (cl_rs rfl) | exact cl_rl1 | exact cl_rl2) (by decide) ?_))) : CellsB H all cs cs' := h
theorem aI {H : Nat → Option Ent} {all gone : List Nat} {bor : Bool} {us : List V} {ps : List Par} (h : ArgsOk H all bor gone us ps := by (repeat' (first | exact ArgsOk.nil _ | exact argsOk_cells (by assumption) | refine ArgsOk.same (by first | exact cl_b rfl | exact cl_list | exact cl_nil | exact cl_one | exact cl_ll1 | exact cl_ll2 | exact cl_clo (by assumption) | exact cl_agg' (by repeat' (first | exact clcs_nil | refine clcs_cons (by first | exact cl_b rfl | exact cl_list | exact cl_nil | assumption) ?_))) ?_ | refine ArgsOk.nilsl _ ?_ | refine ArgsOk.nilown _ _ (by decide) ?_ | refine ArgsOk.borp rfl rfl rfl (cl_row rfl) (by decide) ?_ | refine ArgsOk.borc (by (repeat' (first | exact cap_n | refine cap_p rfl rfl rfl (by first | exact cl_row rfl | exact cl_r1 rfl | exact cl_r1b) ?_ ?_ | refine cap_m rfl (by decide) ?_ | refine cap_c (by first | exact cl_b rfl | exact cl_list | exact cl_nil | exact cl_one | exact cl_ll1 | exact cl_ll2 | exact cl_clo (by assumption) | exact cl_agg' (by repeat' (first | exact clcs_nil | refine clcs_cons (by first | exact cl_b rfl | exact cl_list | exact cl_nil | assumption) ?_))) ?_ | decide))) ?_ | refine ArgsOk.bora cBI ?_ | refine ArgsOk.bor rfl rfl (deref_flat (by first | exact cl_rs rfl | exact cl_rows | exact cl_setB rfl | exact cl_setG (cl_setB rfl) rfl | exact cl_appB cl_rows (cl_rs rfl) | exact cl_rl1 | exact cl_rl2)) (by decide) ?_ | refine give' rfl (by first | exact cl_rs rfl | exact cl_rows | exact cl_setB rfl | exact cl_setG (cl_setB rfl) rfl | exact cl_appB cl_rows (cl_rs rfl) | exact cl_rl1 | exact cl_rl2) (by decide) (by decide) ?_))) : ArgsOk H all bor gone us ps := h
theorem aM {H : Nat → Option Ent} {all gone : List Nat} {bor : Bool} {us : List V} {ps : List ParM} (h : ArgsM H all bor gone us ps := by (repeat' (first | exact ArgsM.nil _ | refine aM_same (by first | exact cl_b rfl | exact cl_list | exact cl_nil | exact cl_one | exact cl_ll1 | exact cl_ll2 | exact cl_clo (by assumption) | exact cl_agg' (by repeat' (first | exact clcs_nil | refine clcs_cons (by first | exact cl_b rfl | exact cl_list | exact cl_nil | assumption) ?_))) ?_ | refine aM_nilsl _ ?_ | refine aM_nilown _ _ (by decide) ?_ | refine aM_mf rfl (cl_row rfl) (by decide) (by decide) rfl ?_ | refine aM_pf rfl (cl_row rfl) (by decide) (by decide) ?_ | refine aM_mo rfl (by decide) (by decide) ?_ | refine aM_po rfl (by decide) (by decide) ?_ | refine aM_borp rfl rfl rfl (cl_row rfl) (by decide) ?_ | refine aM_borc (by (repeat' (first | exact cap_n | refine cap_p rfl rfl rfl (by first | exact cl_row rfl | exact cl_r1 rfl | exact cl_r1b) ?_ ?_ | refine cap_m rfl (by decide) ?_ | refine cap_c (by first | exact cl_b rfl | exact cl_list | exact cl_nil | exact cl_one | exact cl_ll1 | exact cl_ll2 | exact cl_clo (by assumption) | exact cl_agg' (by repeat' (first | exact clcs_nil | refine clcs_cons (by first | exact cl_b rfl | exact cl_list | exact cl_nil | assumption) ?_))) ?_ | decide))) ?_ | refine aM_bora cBI ?_ | refine aM_bor rfl rfl (deref_flat (by first | exact cl_rs rfl | exact cl_rows | exact cl_setB rfl | exact cl_setG (cl_setB rfl) rfl | exact cl_appB cl_rows (cl_rs rfl) | exact cl_rl1 | exact cl_rl2)) (by decide) ?_ | refine aM_give rfl (by first | exact cl_rs rfl | exact cl_rows | exact cl_setB rfl | exact cl_setG (cl_setB rfl) rfl | exact cl_appB cl_rows (cl_rs rfl) | exact cl_rl1 | exact cl_rl2) (by decide) (by decide) ?_ | refine aM_ms rfl (by first | exact cl_rs rfl | exact cl_rows | exact cl_setB rfl | exact cl_setG (cl_setB rfl) rfl | exact cl_appB cl_rows (cl_rs rfl) | exact cl_rl1 | exact cl_rl2) (by decide) (by decide) (by simp) ?_))) : ArgsM H all bor gone us ps := h
theorem hxI {α : Type} {a b : α} {p : Prop} (hn : a = b) (h : a = b → p := by (intro hq; (repeat' (first | exact trivial | refine ⟨rfl, ?_⟩ | refine ⟨(by show some (Ent.mk _ _ _ _) = some (Ent.mk _ _ _ _); (first | (rw [hq]; done) | (rw [hq]; rfl) | (rw [hq, List.map_append]; done) | (rw [hq, List.map_append]; rfl) | (rw [hq, List.map_append, List.map_append]; done) | (rw [hq, List.map_append, List.map_append]; rfl))), ?_⟩ | refine ⟨(by show V.v _ = V.v _; (first | (rw [hq]; done) | (rw [hq]; rfl) | (rw [hq, List.map_append]; done) | (rw [hq, List.map_append]; rfl) | (rw [hq, List.map_append, List.map_append]; done) | (rw [hq, List.map_append, List.map_append]; rfl))), ?_⟩ | refine ⟨(by show V.sl _ _ = V.sl _ _; (first | (rw [hq]; done) | (rw [hq]; rfl) | (rw [hq, List.map_append]; done) | (rw [hq, List.map_append]; rfl) | (rw [hq, List.map_append, List.map_append]; done) | (rw [hq, List.map_append, List.map_append]; rfl))), ?_⟩)))) : p := h hn
structure Hold (q : Prop) : Prop where
  out : q
theorem goI {p q : Prop} (h : q) (e : Hold q → p := by (intro hq; (conv => whnf); (repeat' ((first | refine ⟨rfl, ?_⟩ | refine ⟨_, row_map (by assumption), ?_⟩ | refine ⟨_, (by exact some_rfl), ?_⟩ | refine ⟨_, wrap_ok (by omega) (by omega), ?_⟩ | refine ⟨_, wrap_u64 (by omega) (by omega), ?_⟩ | refine ⟨by decide, _, fdiv_half (by omega), ?_⟩); (conv => whnf))); exact hq.out)) : p := e ⟨h⟩
end Go.Proofs.Ytdaffjjconlmoaa
/- The walks of dns.IsLabel and of the reference's IsLabel. -/
namespace Go.Proofs.Ytdaffjjconlmoaa
open Go.RowKit Pl
set_option linter.unusedVariables false

theorem lab_step {s : ByteArray} {k : Nat} (h : ∀ j, (hj : j < s.data.toList.length) → j < k → okB (s.data.toList[j]).toNat = true) (hlt : k < s.size) (hk : okB (s[k]).toNat = true) :
    ∀ j, (hj : j < s.data.toList.length) → j < k + 1 → okB (s.data.toList[j]).toNat = true := by
  intro j hj hjk
  rcases (by omega : j < k ∨ j = k) with g | rfl
  · exact h j hj g
  · exact hk
theorem isEmpty_size (s : ByteArray) : s.toList.isEmpty = decide (s.size = 0) := by
  rw [ByteArray.toList_eq, Bool.eq_iff_iff, List.isEmpty_iff_length_eq_zero, decide_eq_true_eq, Array.length_toList]
  rfl
theorem lab_endA {s : ByteArray} (h1 : 1 ≤ s.size ∧ s.size ≤ 30 → lab s.data.toList = true) (h2 : ¬ (1 ≤ s.size ∧ s.size ≤ 30) → lab s.data.toList = false) (e : s.toList.isEmpty = false) : decide ((s.size : Int) ≤ 30) = lab s.data.toList := by
  have e0 : s.size ≠ 0 := by simpa [isEmpty_size] using e
  by_cases g : s.size ≤ 30
  · rw [h1 ⟨by omega, g⟩]; simp; omega
  · rw [h2 (by omega)]; simp; omega
theorem lab_endB {s : ByteArray} (h2 : ¬ (1 ≤ s.size ∧ s.size ≤ 30) → lab s.data.toList = false) (e : s.toList.isEmpty = true) : false = lab s.data.toList := by
  have e0 : s.size = 0 := by simpa [isEmpty_size] using e
  rw [h2 (by omega)]
theorem cell_new (w : World) (C : Array Value) (t : TypeId) (fr : Nat × Nat) (k : Nat) : (w.alloc (.cells C t fr)).drew.cell? ⟨w.heap.size, k, none⟩ = C[k]? := by
  have h : (w.alloc (.cells C t fr)).drew.heap[w.heap.size]? = some (.cells C t fr) := heap_alloc_new w _
  unfold World.cell?
  rw [h]
  rfl
theorem lab_out {s : ByteArray} {k : Nat} (hlt : k < s.size) (hk : okB (s[k]).toNat = false) : false = lab s.data.toList :=
  (lab_bad (i := k) (s := s.data.toList) (by simpa using hlt) hk).symm

theorem refIsLabel_any (s : ByteArray) (w : World) (hs : s.size ≤ 9223372036854775807) :
    Calls Try.prog 47 #[.string s] w fun e w' => e = .returned (.bool (lab s.data.toList)) ∧ w = w' := by
  go_enter Try.func47, Try.ntmps47
  go_wp2
  go_loop [3] (fun i => ∃ k : Nat, k ≤ s.size ∧ i = .int .i64 k ∧ ∀ j, (hj : j < s.data.toList.length) → j < k → okB (s.data.toList[j]).toNat = true) (fun i => s.size - (intOf i).toNat)
  case atStart => exact ⟨0, Nat.zero_le _, rfl, fun j _ h => absurd h (by omega)⟩
  case round =>
    obtain ⟨k, hk, rfl, hall⟩ := hrel
    have HA := hid hall
    clear hall
    by_cases hlt : k < s.size
    · go_wp2
      all_goals first
        | (go_round
           case rel => exact ⟨k + 1, by omega, by go_num, lab_step HA.out hlt (okB_yes (by go_light; clear HA; first | omega | (simp_all; done) | (simp_all; omega)))⟩
           case measure => simp [intOf]; omega)
        | (go_ret
           exact ⟨ret_bool (lab_out hlt (okB_no (by go_light; clear HA; first | omega | (simp_all; done) | (simp_all; omega)))), rfl⟩)
    · have HL := fun (g : 1 ≤ s.size ∧ s.size ≤ 30) => lab_yes (s := s.data.toList) (fun i hi => HA.out i hi (by simp at hi; omega)) (by simpa using g.1) (by simpa using g.2)
      have HN := fun (g : ¬ (1 ≤ s.size ∧ s.size ≤ 30)) => lab_long (s := s.data.toList) (by simpa using g)
      have HL := hid HL
      have HN := hid HN
      clear HA
      go_wp2
      all_goals go_ret
      all_goals exact ⟨ret_bool (by
        go_light
        by_cases g : 1 ≤ s.size ∧ s.size ≤ 30
        · rw [HL.out g] <;> first | rfl | (simp <;> omega)
        · rw [HN.out g] <;> first | rfl | (simp <;> omega)), rfl⟩

/-- the bytes of a text in a block of the call's own, as the walk wants them -/
theorem bytes_run (s : ByteArray) (w : World) : ∃ (cap : Nat) (C : Array Value) (fr : Nat × Nat),
    (convert 9 92 (.string s)).run Try.prog w = .ok (.slice (some ⟨w.heap.size, 0, none⟩) s.size cap) (w.drew.alloc (.cells C 5 fr)) ∧
    ∀ j, (h : j < s.size) → C[j]? = some (.int .u8 ((s[j]).toNat : Int)) := by
  refine ⟨_, _, _, run_bytes_of_string w 9 92 5 s Try.underlying9 Try.underlying92 Try.underlying5, ?_⟩
  intro j h
  exact bytesRow_at s _ j h

set_option maxRecDepth 100000 in
theorem IsLabel_any (s : ByteArray) (w : World) (hs : s.size ≤ 9223372036854775807) :
    Calls Try.prog 29 #[.string s] w fun e w' => e = .returned (.bool (lab s.data.toList)) ∧ Below w.heap.size w w' ∧ w.drawn ≤ w'.drawn := by
  obtain ⟨cap, C, fr, hrun, hC⟩ := bytes_run s w
  have HC := hid hC
  clear hC
  have hB : Below w.heap.size w (w.alloc (.cells C 5 fr)).drew ∧ w.drawn ≤ (w.alloc (.cells C 5 fr)).drew.drawn := ⟨(by repeat (first | exact Below.refl _ _ | assumption | refine Below.drew ?_ | refine below_drewN ?_ _ | refine Below.alloc ?_ (by simp; try omega) _ | refine Below.setCell ?_ (by simp; try omega) _)), Nat.le_succ _⟩
  have HB := hid hB
  clear hB
  go_enter Try.func29, Try.ntmps29
  go_wp2
  go_loop [8] (fun i => ∃ k : Nat, k ≤ s.size ∧ i = .int .i64 k ∧ ∀ j, (hj : j < s.data.toList.length) → j < k → okB (s.data.toList[j]).toNat = true) (fun i => s.size - (intOf i).toNat)
  case atStart => exact ⟨0, Nat.zero_le _, rfl, fun j _ h => absurd h (by omega)⟩
  case round =>
    obtain ⟨k, hk, rfl, hall⟩ := hrel
    have HA := hid hall
    clear hall
    by_cases hlt : k < s.size
    · have hcell : (w.alloc (.cells C 5 fr)).drew.cell? ⟨w.heap.size, k, none⟩ = some (.int .u8 ((s[k]).toNat : Int)) := (cell_new w C 5 fr k).trans (HC.out k hlt)
      have hby : ((s[k]).toNat : Int) ≤ 255 := by have := (s[k]).toNat_lt; omega
      clear hrun
      go_wp2
      all_goals first
        | (go_round
           case rel => exact ⟨k + 1, by omega, by go_num, lab_step HA.out hlt (okB_yes (by go_light; clear HA; first | omega | (simp_all; done) | (simp_all; omega)))⟩
           case measure => simp [intOf]; omega)
        | (go_ret
           exact ⟨ret_bool (lab_out hlt (okB_no (by go_light; clear HA; first | omega | (simp_all; done) | (simp_all; omega)))), HB.out⟩)
    · have HL := fun (g : 1 ≤ s.size ∧ s.size ≤ 30) => lab_yes (s := s.data.toList) (fun i hi => HA.out i hi (by simp at hi; omega)) (by simpa using g.1) (by simpa using g.2)
      have HN := fun (g : ¬ (1 ≤ s.size ∧ s.size ≤ 30)) => lab_long (s := s.data.toList) (by simpa using g)
      have HL := hid HL
      have HN := hid HN
      clear HA
      go_wp2
      all_goals go_ret
      all_goals first
        | exact ⟨ret_bool (lab_endA HL.out HN.out ‹s.toList.isEmpty = false›), HB.out⟩
        | exact ⟨ret_bool (lab_endB HN.out ‹s.toList.isEmpty = true›), HB.out⟩
end Go.Proofs.Ytdaffjjconlmoaa
/- Contracts of the two functions that know labels. -/
namespace Go.Proofs.Ytdaffjjconlmoaa
open Go.RowKit Pl
set_option linter.unusedVariables false
theorem label_fun (s : ByteArray) (hs : s.size ≤ 9223372036854775807) : Fun Try.prog 29 [.c (.v (.string s))] [.c (.v (.bool (lab s.data.toList)))] :=
  fun_flat (xs := [.string s]) (callable Try.func29 (by kernel_rfl) (by kernel_rfl)) fun w => (IsLabel_any s w hs).mono fun e w' h => ⟨h.1, h.2.1, h.2.2⟩
theorem rlabel_fun (s : ByteArray) (hs : s.size ≤ 9223372036854775807) : Fun Try.prog 47 [.c (.v (.string s))] [.c (.v (.bool (lab s.data.toList)))] :=
  fun_flat (xs := [.string s]) (callable Try.func47 (by kernel_rfl) (by kernel_rfl)) fun w => (refIsLabel_any s w hs).mono fun e w' ⟨h1, h2⟩ => ⟨h1, h2 ▸ Below.refl _ _, h2 ▸ Nat.le_refl _⟩
end Go.Proofs.Ytdaffjjconlmoaa
/- Contracts of small functions: labels, numbers within bounds, comparing. -/
namespace Go.Proofs.Ytdaffjjconlmoaa
open Go.RowKit Pl
set_option linter.unusedVariables false
/-! comparing -/
theorem cmps_fun (a b : ByteArray) : Fun Try.prog 43 [.c (.v (.string a)), .c (.v (.string b))] [.c (.v (.int .i64 (scmp a b)))] :=
  fun_flat (xs := [.string a, .string b]) (callable Try.func43 (by kernel_rfl) (by kernel_rfl)) fun w => (cmps_any a b w).mono fun e w' ⟨h1, h2⟩ => ⟨h1, h2 ▸ Below.refl _ _, h2 ▸ Nat.le_refl _⟩
theorem cmpi_fun (a b : Int) : Fun Try.prog 42 [.c (.v (.int .i64 a)), .c (.v (.int .i64 b))] [.c (.v (.int .i64 (icmp a b)))] :=
  fun_flat (xs := [.int .i64 a, .int .i64 b]) (callable Try.func42 (by kernel_rfl) (by kernel_rfl)) fun w => (cmpi_any a b w).mono fun e w' ⟨h1, h2⟩ => ⟨h1, h2 ▸ Below.refl _ _, h2 ▸ Nat.le_refl _⟩
theorem between_fun (n a b : Int) : Fun Try.prog 49 [.c (.v (.int .i64 n)), .c (.v (.int .i64 a)), .c (.v (.int .i64 b))] [.c (.v (.bool (wi n a b)))] := by
  refine fun_x ck_hearsayref_between rfl ?_
  (refine goI ?_; repeat (intro gg; refine goI ?_))
  (refine bIf_of (fun h => ?_) (fun h => ?_) <;> rw [h])
  · (refine goI ?_; repeat (intro gg; refine goI ?_))
    rw [wi_t h]
    (exact ⟨[], aI⟩)
  · (refine goI ?_; repeat (intro gg; refine goI ?_))
    rw [wi_f h]
    (exact ⟨[], aI⟩)
theorem address_fun (n : Int) : Fun Try.prog 48 [.c (.v (.int .i64 n))] [.c (.v (.bool (wi n 0 4294967295)))] := by
  refine fun_x ck_hearsayref_IsAddress rfl ?_
  (refine goI ?_; repeat (intro gg; refine goI ?_))
  (refine .inl ⟨_, _, false, [], aI, between_fun _ _ _, nobor, nI, ?_⟩)
  (refine goI ?_; repeat (intro gg; refine goI ?_))
  (exact ⟨[], aI⟩)
/-- one more -/
theorem firstErr_one {α : Type} (e : α → Int) (a : α) : firstErr e [a] = e a := by
  by_cases h : e a = 0 <;> simp [firstErr, h]
theorem ckL_each {α : Type} {mx : Nat} {e : α → Int} {lt : α → α → Bool} {l : List α} (h1 : ¬ mx < l.length) (h2 : firstErr e l ≠ 0) : ckL mx e lt l = firstErr e l := by simp [ckL, h1, h2]
theorem ckL_no {α : Type} {mx : Nat} {e : α → Int} {lt : α → α → Bool} {l : List α} (h1 : ¬ mx < l.length) (h2 : firstErr e l = 0) (h3 : sorted lt l = false) : ckL mx e lt l = 4 := by simp [ckL, h1, h2, h3]
theorem ckL_yes {α : Type} {mx : Nat} {e : α → Int} {lt : α → α → Bool} {l : List α} (h1 : ¬ mx < l.length) (h2 : firstErr e l = 0) (h3 : sorted lt l = true) : ckL mx e lt l = 0 := by simp [ckL, h1, h2, h3]
theorem icmp_eq (a : Int) : icmp a a = 0 := by simp [icmp]
theorem icmp_ne {a b : Int} (h : a ≠ b) : icmp a b ≠ 0 := by
  unfold icmp; split
  · decide
  · split
    · decide
    · omega
theorem icmp_pos {a b : Int} : 0 < icmp a b ↔ b < a := by
  unfold icmp; split
  · constructor <;> intro h <;> omega
  · split <;> (constructor <;> intro h <;> omega)
theorem nz_ne {a b : Int} {r : List Int} (h : (a != b) = true) : decide (0 < firstNZ (icmp a b :: r)) = decide (b < a) := by
  have h : a ≠ b := by simpa using h
  simp [firstNZ, icmp_ne h, icmp_pos]
theorem nz_eq {a b : Int} {r : List Int} (h : (a != b) = false) : firstNZ (icmp a b :: r) = firstNZ r := by
  have h : a = b := by simpa using h
  subst h; simp [firstNZ, icmp_eq]
theorem scmp_pos {a b : ByteArray} : 0 < scmp a b ↔ slt b a = true := by
  constructor
  · intro h
    rcases Bool.eq_false_or_eq_true (slt b a) with q | q
    · exact q
    · rcases Bool.eq_false_or_eq_true (slt a b) with p | p
      · rw [scmp_lt p] at h; omega
      · have := slt_tri p q
        rw [this, scmp_eq] at h; omega
  · intro h; rw [scmp_gt h]; decide
theorem nzs_ne {a b : ByteArray} {r : List Int} (h : (!(a.toList == b.toList)) = true) : decide (0 < firstNZ (scmp a b :: r)) = slt b a := by
  have h : a ≠ b := fun e => by subst e; simp at h
  have h0 : scmp a b ≠ 0 := fun e => h (scmp_zero.1 e)
  simp [firstNZ, h0, scmp_pos]
theorem nzs_eq {a b : ByteArray} {r : List Int} (h : (!(a.toList == b.toList)) = false) : firstNZ (scmp a b :: r) = firstNZ r := by
  have h : a = b := seq_iff.1 (by simpa using h)
  subst h; simp [firstNZ, scmp_eq]
def b2i (b : Bool) : Int := if b then 1 else 0
theorem nzb_last {p q : Bool} : decide (0 < firstNZ [icmp (b2i p) (b2i q)]) = (p && !q) := by cases p <;> cases q <;> decide
def orRow (n : Int) : List V := [.v (.int .i64 n)]
instance : FlatRow orRow := ⟨fun x u hu => by simp [orRow] at hu; exact ⟨_, hu⟩⟩
theorem or_fun (c : Bool) (l : List Int) (hl : l.length ≤ 9223372036854775807) : Fun Try.prog 41 [.c (.sl c (l.map orRow))] [.c (.v (.int .i64 (firstNZ l)))] := by
  refine fun_x ck_cmp_Or_int rfl ?_
  (refine goI ?_; repeat (intro gg; refine goI ?_))
  (refine ⟨[], none, {k : Nat // k ≤ l.length ∧ ∀ j, (h : j < l.length) → j < k → l[j] = 0}, [3, 6, 7], fun ⟨k, hk, h0⟩ => [(8, .v (.int .i64 k))], [], fun ⟨k, hk, h0⟩ => [], fun ⟨k, hk, h0⟩ => l.length - k, trivial, fun _ => ⟨trivial, fun _ => ⟨⟨0, by omega, fun j _ h => by omega⟩, tI, keptE_refl _ _, tI, keptH_refl _ _⟩⟩, fun ⟨k, hk, h0⟩ => ?_⟩)
  (refine goI ?_; repeat (intro gg; refine goI ?_))
  rw [List.length_map]
  (refine bIf_of (fun h => ?_) (fun h => ?_) <;> rw [h])
  · have hlt : k < l.length := by simpa using h
    (refine goI ?_; repeat (intro gg; refine goI ?_))
    refine ⟨k, _, rfl, row_map hlt, ?_⟩
    (refine goI ?_; repeat (intro gg; refine goI ?_))
    (refine bIf_of (fun h => ?_) (fun h => ?_) <;> rw [h])
    · (refine goI ?_; repeat (intro gg; refine goI ?_))
      rw [firstNZ_at hlt h0 (by simpa using h)]
      (exact ⟨[], aI⟩)
    · (refine goI ?_; repeat (intro gg; refine goI ?_))
      (exact ⟨none, trivial, fun _ => ⟨⟨k + 1, by omega, up1 (p := fun j h => l[j] = 0) h0 (fun _ => by simpa using h)⟩, by show l.length - (k + 1) < l.length - k; omega, tI, tI, tI, tI⟩⟩)
  · have hge : ¬ k < l.length := by simpa using h
    (refine goI ?_; repeat (intro gg; refine goI ?_))
    rw [firstNZ_zero (l := l) (fun i hi => h0 i hi (by omega))]
    (exact ⟨[], aI⟩)
end Go.Proofs.Ytdaffjjconlmoaa
/- Plain: services. No program in sight (but for the order of texts). -/
namespace Go.Proofs.Ytdaffjjconlmoaa.Pl
set_option linter.unusedVariables false
structure Sv where
  nd : ByteArray
  id : ByteArray
  nm : ByteArray
  tg : ByteArray
  ad : Int
  pt : Int
  ps : Bool
  vs : Int
  gn : Bool
def Sv.enc (m : Sv) : List Value := [.string m.nd, .string m.id, .string m.nm, .string m.tg, .int .i64 m.ad, .int .i64 m.pt, .bool m.ps, .int .i64 m.vs, .bool m.gn]
def Sv.row (m : Sv) : List V := [.v (.string m.nd), .v (.string m.id), .v (.string m.nm), .v (.string m.tg), .v (.int .i64 m.ad), .v (.int .i64 m.pt), .v (.bool m.ps), .v (.int .i64 m.vs), .v (.bool m.gn)]
theorem Sv.enc_len (m : Sv) : m.enc.length = 9 := rfl
theorem Sv.enc_one (m : Sv) : ∀ u ∈ m.enc, u.oneCell' = true := by
  intro u hu
  simp [Sv.enc] at hu
  rcases hu with rfl | rfl | rfl | rfl | rfl | rfl | rfl | rfl | rfl <;> rfl
instance : FlatRow Sv.row := ⟨fun x u hu => by simp [Sv.row] at hu; rcases hu with rfl | rfl | rfl | rfl | rfl | rfl | rfl | rfl | rfl <;> exact ⟨_, rfl⟩⟩
def Sv.ok (m : Sv) : Prop := m.nd.size ≤ 9223372036854775807 ∧ m.id.size ≤ 9223372036854775807 ∧ m.nm.size ≤ 9223372036854775807 ∧ m.tg.size ≤ 9223372036854775807
def emp (s : ByteArray) : Bool := s.toList == (ByteArray.mk #[]).toList
/-- none or a label -/
def mayb (s : ByteArray) : Bool := emp s || lab s.data.toList
/-- what is wrong with one service -/
def Sv.err (m : Sv) : Int := if lab m.nd.data.toList then (if lab m.id.data.toList then (if lab m.nm.data.toList then (if mayb m.tg then (if wi m.ad 0 4294967295 then (if wi m.pt 0 65535 then (if wi m.vs 1 1000000 then 0 else 3) else 3) else 3) else 1) else 1) else 1) else 1
def Sv.cf (nd id : ByteArray) (x : Sv) : Int := firstNZ [scmp x.nd nd, scmp x.id id]
def Sv.kf (g x : Sv) : Int := Sv.cf g.nd g.id x
def Sv.lt (g h : Sv) : Bool := decide (Sv.cf h.nd h.id g < 0)
def ckSv (l : List Sv) : Int := ckL 40 Sv.err Sv.lt l
/-- the comparison of two of one node and id -/
def Sv.cmp (g x : Sv) : Int := firstNZ [icmp g.vs x.vs, icmp (b2i g.gn) (b2i x.gn), scmp g.nm x.nm, scmp g.tg x.tg, icmp g.ad x.ad, icmp g.pt x.pt, icmp (b2i g.ps) (b2i x.ps)]
def Sv.nw (g x : Sv) : Bool := decide (0 < Sv.cmp g x)
def Sv.is (nd id : ByteArray) (m : Sv) : Bool := (m.nd.toList == nd.toList) && (m.id.toList == id.toList)
def Sv.same (g h : Sv) : Bool := (g.nd.toList == h.nd.toList) && ((g.id.toList == h.id.toList) && ((g.nm.toList == h.nm.toList) && ((g.tg.toList == h.tg.toList) && ((g.ad == h.ad) && ((g.pt == h.pt) && ((g.ps == h.ps) && ((g.vs == h.vs) && ((g.gn == h.gn) && true))))))))
theorem Sv.same_iff {g h : Sv} : Sv.same g h = true ↔ g = h := by
  obtain ⟨a, b, c, d, e, f, i, j, k⟩ := g
  obtain ⟨a', b', c', d', e', f', i', j', k'⟩ := h
  have tl : ∀ a b : ByteArray, a.toList = b.toList ↔ a = b := fun a b => ⟨toList_inj, fun h => by rw [h]⟩
  simp only [Sv.same, Bool.and_true, Bool.and_eq_true, beq_iff_eq, tl, Sv.mk.injEq]
theorem Sv.err_cases (m : Sv) : m.err = 0 ∨ m.err = 1 ∨ m.err = 3 ∨ m.err = 7 := by
  unfold Sv.err
  repeat' split
  all_goals simp
theorem cf2_eq {a b c d : ByteArray} (h : a = b) : firstNZ [scmp a b, scmp c d] = scmp c d := by
  subst h
  by_cases h : scmp c d = 0 <;> simp [firstNZ, scmp_eq, h]
theorem cf2_ne {a b c d : ByteArray} (h : a ≠ b) : firstNZ [scmp a b, scmp c d] = scmp a b := by
  have : scmp a b ≠ 0 := fun e => h (scmp_zero.1 e)
  simp [firstNZ, this]
theorem Sv.cf_neg {nd id : ByteArray} {x : Sv} : Sv.cf nd id x < 0 ↔ slt x.nd nd = true ∨ (x.nd = nd ∧ slt x.id id = true) := by
  unfold Sv.cf
  by_cases h : x.nd = nd
  · rw [cf2_eq h, scmp_neg, h]; simp [slt_irrefl]
  · rw [cf2_ne h, scmp_neg]; simp [h]
theorem Sv.cf_pos {nd id : ByteArray} {x : Sv} : 0 < Sv.cf nd id x ↔ slt nd x.nd = true ∨ (x.nd = nd ∧ slt id x.id = true) := by
  unfold Sv.cf
  by_cases h : x.nd = nd
  · rw [cf2_eq h, scmp_pos, h]; simp [slt_irrefl]
  · rw [cf2_ne h, scmp_pos]; simp [h]
theorem Sv.cf_zero {nd id : ByteArray} {x : Sv} : Sv.cf nd id x = 0 ↔ x.nd = nd ∧ x.id = id := by
  unfold Sv.cf
  by_cases h : x.nd = nd
  · rw [cf2_eq h, scmp_zero]; simp [h]
  · rw [cf2_ne h, scmp_zero]; simp [h]
theorem Sv.lt_iff {x y : Sv} : Sv.lt x y = true ↔ slt x.nd y.nd = true ∨ (x.nd = y.nd ∧ slt x.id y.id = true) := by
  unfold Sv.lt; rw [decide_eq_true_iff, Sv.cf_neg]
theorem Sv.lt_trans (x y z : Sv) (h1 : Sv.lt x y = true) (h2 : Sv.lt y z = true) : Sv.lt x z = true := by
  rw [Sv.lt_iff] at *
  rcases h1 with h1 | ⟨e1, h1⟩ <;> rcases h2 with h2 | ⟨e2, h2⟩
  · exact .inl (slt_trans h1 h2)
  · exact .inl (e2 ▸ h1)
  · exact .inl (by rw [e1]; exact h2)
  · exact .inr ⟨e1.trans e2, slt_trans h1 h2⟩
theorem Sv.ord : Ord Sv.lt Sv.kf where
  neg := fun g x => by unfold Sv.lt Sv.kf; rw [decide_eq_true_iff]
  pos := fun g x => by unfold Sv.kf; rw [Sv.cf_pos, Sv.lt_iff]; constructor <;> (rintro (h | ⟨e, h⟩); exact .inl h; exact .inr ⟨e.symm, h⟩)
  trans := Sv.lt_trans
  left := fun g x y h => by
    obtain ⟨e1, e2⟩ := Sv.cf_zero.1 h
    unfold Sv.lt Sv.cf; rw [e1, e2]
  right := fun g x y h => by
    obtain ⟨e1, e2⟩ := Sv.cf_zero.1 h
    unfold Sv.lt; rw [e1, e2]
theorem Sv.lt_cf (nd id : ByteArray) (x y : Sv) (h : Sv.lt x y = true) (hy : Sv.cf nd id y ≤ 0) : Sv.cf nd id x < 0 := by
  rw [Sv.lt_iff] at h
  rw [Sv.cf_neg]
  rcases (by omega : Sv.cf nd id y < 0 ∨ Sv.cf nd id y = 0) with q | q
  · rw [Sv.cf_neg] at q
    rcases h with h1 | ⟨e1, h1⟩ <;> rcases q with h2 | ⟨e2, h2⟩
    · exact .inl (slt_trans h1 h2)
    · exact .inl (e2 ▸ h1)
    · exact .inl (by rw [e1]; exact h2)
    · exact .inr ⟨e1.trans e2, slt_trans h1 h2⟩
  · obtain ⟨e1, e2⟩ := Sv.cf_zero.1 q
    rw [← e1, ← e2]; exact h
theorem ckSv_inv {l : List Sv} (h : ckSv l = 0) : l.length ≤ 40 ∧ (∀ i, (hi : i < l.length) → (l[i]).err = 0) ∧ sorted Sv.lt l = true := ckL_inv Sv.err_cases h
theorem Sv.smono {l : List Sv} (h : sorted Sv.lt l = true) (nd id : ByteArray) : SMono (Sv.cf nd id) l := smono_of Sv.lt_trans (Sv.lt_cf nd id) h
/-- does one stand ahead, in the reference's words? -/
theorem Sv.ahead1 {x y : Sv} (h : Op.bytesLess x.nd.toList y.nd.toList = true) : Sv.lt x y = true := Sv.lt_iff.2 (.inl h)
theorem Sv.ahead2 {x y : Sv} (h : Op.bytesLess x.nd.toList y.nd.toList = false) (h2 : (x.nd.toList == y.nd.toList) = true) : Sv.lt x y = Op.bytesLess x.id.toList y.id.toList := by
  have e := seq_iff.1 h2
  have h' : slt x.nd y.nd = false := h
  have := Sv.lt_iff (x := x) (y := y)
  show Sv.lt x y = slt x.id y.id
  cases hb : slt x.id y.id with
  | true => exact this.2 (.inr ⟨e, hb⟩)
  | false =>
    cases hl : Sv.lt x y with
    | false => rfl
    | true => rcases this.1 hl with q | ⟨_, q⟩ <;> simp_all
theorem Sv.ahead3 {x y : Sv} (h : Op.bytesLess x.nd.toList y.nd.toList = false) (h2 : (x.nd.toList == y.nd.toList) = false) : Sv.lt x y = false := by
  have e : x.nd ≠ y.nd := fun e => by rw [e] at h2; simp at h2
  have h' : slt x.nd y.nd = false := h
  cases hl : Sv.lt x y with
  | false => rfl
  | true => rcases Sv.lt_iff.1 hl with q | ⟨q, _⟩ <;> simp_all
def Sv.ge (m x : Sv) : Bool := !(Sv.lt x m)
def Sv.ne (m x : Sv) : Bool := !(Sv.is m.nd m.id x)
theorem Sv.ge_eq (m : Sv) : Sv.ge m = fun x => decide (0 ≤ Sv.kf m x) := by
  funext x
  unfold Sv.ge Sv.lt Sv.kf
  by_cases h : Sv.cf m.nd m.id x < 0
  · simp [h]
  · simp [h]; omega
theorem Sv.is_eq (nd id : ByteArray) : Sv.is nd id = fun x => decide (Sv.cf nd id x = 0) := by
  funext x
  unfold Sv.is
  by_cases h : x.nd = nd ∧ x.id = id
  · rw [h.1, h.2]
    have : Sv.cf nd id x = 0 := Sv.cf_zero.2 h
    simp [this]
  · have h2 : ¬ Sv.cf nd id x = 0 := fun e => h (Sv.cf_zero.1 e)
    have h3 : (x.nd.toList == nd.toList && x.id.toList == id.toList) = false := by
      cases hb : (x.nd.toList == nd.toList && x.id.toList == id.toList) with
      | false => rfl
      | true => rw [Bool.and_eq_true, seq_iff, seq_iff] at hb; exact absurd hb h
    rw [h3]; simp [h2]
theorem Sv.ne_eq (m : Sv) : Sv.ne m = fun x => decide (Sv.kf m x ≠ 0) := by
  funext x
  have := congrFun (Sv.is_eq m.nd m.id) x
  unfold Sv.ne Sv.kf
  rw [this]; simp
theorem Sv.at_eq {l : List Sv} (hs : sorted Sv.lt l = true) (nd id : ByteArray) : at_ (Sv.is nd id) l = if hit (Sv.cf nd id) l = true then (low (Sv.cf nd id) l : Int) else -1 := by
  rw [Sv.is_eq]; exact at_sorted (Sv.smono hs nd id)
theorem Sv.putL_put {l : List Sv} (hs : sorted Sv.lt l = true) (m : Sv) : putL (Sv.ge m) (Sv.ne m) m l = putAt (Sv.kf m) m l := by
  rw [Sv.ge_eq, Sv.ne_eq]
  exact putL_sorted (Sv.smono hs m.nd m.id) m
theorem sv_dec (row : List V) (h : Fits [.s, .s, .s, .s, .i, .i, .b, .i, .b] row) : ∃ m : Sv, row = m.row ∧ m.ok := by
  obtain ⟨u0, _, rfl, f0, h⟩ := fits_cons h
  obtain ⟨u1, _, rfl, f1, h⟩ := fits_cons h
  obtain ⟨u2, _, rfl, f2, h⟩ := fits_cons h
  obtain ⟨u3, _, rfl, f3, h⟩ := fits_cons h
  obtain ⟨u4, _, rfl, f4, h⟩ := fits_cons h
  obtain ⟨u5, _, rfl, f5, h⟩ := fits_cons h
  obtain ⟨u6, _, rfl, f6, h⟩ := fits_cons h
  obtain ⟨u7, _, rfl, f7, h⟩ := fits_cons h
  obtain ⟨u8, _, rfl, f8, h⟩ := fits_cons h
  obtain rfl := fits_nil h
  obtain ⟨a, rfl, ha⟩ := fit_s f0
  obtain ⟨b, rfl, hb⟩ := fit_s f1
  obtain ⟨c, rfl, hc⟩ := fit_s f2
  obtain ⟨d, rfl, hd⟩ := fit_s f3
  obtain ⟨e, rfl, _⟩ := fit_i f4
  obtain ⟨f, rfl, _⟩ := fit_i f5
  obtain ⟨g, rfl⟩ := fit_b f6
  obtain ⟨i, rfl, _⟩ := fit_i f7
  obtain ⟨j, rfl⟩ := fit_b f8
  exact ⟨⟨a, b, c, d, e, f, g, i, j⟩, rfl, ha, hb, hc, hd⟩
theorem nzb_ne {p q : Bool} {r : List Int} (h : (p != q) = true) : decide (0 < firstNZ (icmp (b2i p) (b2i q) :: r)) = p := by cases p <;> cases q <;> first | (cases h; done) | simp [firstNZ, icmp, b2i]
theorem nzb_eq {p q : Bool} {r : List Int} (h : (p != q) = false) : firstNZ (icmp (b2i p) (b2i q) :: r) = firstNZ r := by cases p <;> cases q <;> first | (cases h; done) | simp [firstNZ, icmp, b2i]
theorem sgt_eq (a b : ByteArray) : (!(Op.bytesLess a.toList b.toList || a.toList == b.toList)) = slt b a := by rw [sle_eq]; simp
end Go.Proofs.Ytdaffjjconlmoaa.Pl
/- Plain: what a sorted list of the newest stands for; so the order of joining does not matter. No program in sight. -/
namespace Go.Proofs.Ytdaffjjconlmoaa.Pl
set_option linter.unusedVariables false
/-! comparisons -/
structure Good {α : Type} (c : α → α → Int) : Prop where
  anti : ∀ a b, c b a = - c a b
  pp : ∀ a b d, 0 < c a b → 0 < c b d → 0 < c a d
  zp : ∀ a b d, c a b = 0 → 0 < c b d → 0 < c a d
  pz : ∀ a b d, 0 < c a b → c b d = 0 → 0 < c a d
  zz : ∀ a b d, c a b = 0 → c b d = 0 → c a d = 0
theorem icmp_zero {a b : Int} : icmp a b = 0 ↔ a = b := ⟨fun h => Classical.byContradiction fun hn => icmp_ne hn h, fun h => h ▸ icmp_eq a⟩
theorem good_int {α : Type} (f : α → Int) : Good fun g x => icmp (f g) (f x) where
  anti := fun a b => by unfold icmp; split <;> (try split) <;> (try split) <;> omega
  pp := fun a b d h k => by rw [icmp_pos] at *; omega
  zp := fun a b d h k => by rw [icmp_pos] at *; rw [icmp_zero] at h; omega
  pz := fun a b d h k => by rw [icmp_pos] at *; rw [icmp_zero] at k; omega
  zz := fun a b d h k => by rw [icmp_zero] at *; omega
theorem scmp_anti (a b : ByteArray) : scmp b a = - scmp a b := by
  rcases Bool.eq_false_or_eq_true (slt a b) with h | h
  · rw [scmp_lt h, scmp_gt h]; rfl
  · rcases Bool.eq_false_or_eq_true (slt b a) with k | k
    · rw [scmp_lt k, scmp_gt k]
    · have := slt_tri h k
      rw [this, scmp_eq]; rfl
theorem good_str {α : Type} (f : α → ByteArray) : Good fun g x => scmp (f g) (f x) where
  anti := fun a b => scmp_anti _ _
  pp := fun a b d h k => by rw [scmp_pos] at *; exact slt_trans k h
  zp := fun a b d h k => by rw [scmp_pos] at *; rw [scmp_zero] at h; rw [h]; exact k
  pz := fun a b d h k => by rw [scmp_pos] at *; rw [scmp_zero] at k; rw [← k]; exact h
  zz := fun a b d h k => by rw [scmp_zero] at *; exact h.trans k
theorem nz_cons (x : Int) (r : List Int) : firstNZ (x :: r) = if x = 0 then firstNZ r else x := rfl
theorem good_list {α : Type} : ∀ (cs : List (α → α → Int)), (∀ c ∈ cs, Good c) → Good fun g x => firstNZ (cs.map fun c => c g x)
  | [], _ => ⟨fun _ _ => rfl, fun _ _ _ h => by simp [firstNZ] at h, fun _ _ _ _ h => by simp [firstNZ] at h, fun _ _ _ h => by simp [firstNZ] at h, fun _ _ _ _ _ => rfl⟩
  | c :: cs, h => by
    have hc := h c (by simp)
    have ih := good_list cs fun c hm => h c (by simp [hm])
    refine ⟨fun a b => ?_, fun a b d p q => ?_, fun a b d p q => ?_, fun a b d p q => ?_, fun a b d p q => ?_⟩ <;> simp only [List.map_cons, nz_cons] at *
    · rw [hc.anti a b]
      by_cases h0 : c a b = 0
      · rw [if_pos (by omega), if_pos h0]; exact ih.anti a b
      · rw [if_neg (by omega), if_neg h0]
    all_goals
      rcases Classical.em (c a b = 0) with h1 | h1 <;> rcases Classical.em (c b d = 0) with h2 | h2 <;> (try simp only [h1, h2, if_true, if_false] at p q)
    all_goals first
      | (have h3 := hc.zz _ _ _ h1 h2; rw [if_pos h3]; first | exact ih.pp _ _ _ p q | exact ih.zp _ _ _ p q | exact ih.pz _ _ _ p q | exact ih.zz _ _ _ p q)
      | (have h3 := hc.zp _ _ _ h1 q; rw [if_neg (by omega)]; exact h3)
      | (have h3 := hc.pz _ _ _ p h2; rw [if_neg (by omega)]; exact h3)
      | (have h3 := hc.pp _ _ _ p q; rw [if_neg (by omega)]; exact h3)
      | omega
theorem nz_zero : ∀ {l : List Int}, firstNZ l = 0 → ∀ x ∈ l, x = 0
  | [], _, x, hx => by cases hx
  | y :: l, h, x, hx => by
    rw [nz_cons] at h
    split at h
    · rename_i h0
      rcases List.mem_cons.1 hx with rfl | hx
      · exact h0
      · exact nz_zero h x hx
    · rename_i h0; exact absurd h h0
/-- what is newer, among those of one key -/
structure Newest {α : Type} (cf : α → α → Int) (nw : α → α → Bool) : Prop where
  irr : ∀ x, nw x x = false
  trans : ∀ x y z, nw x y = true → nw y z = true → nw x z = true
  tot : ∀ x y, cf x y = 0 → nw x y = false → nw y x = false → x = y
theorem newest_of {α : Type} {cf : α → α → Int} {c : α → α → Int} (hc : Good c) (ht : ∀ x y, cf x y = 0 → c x y = 0 → x = y) : Newest cf fun g x => decide (0 < c g x) where
  irr := fun x => decide_eq_false fun h => by have := hc.anti x x; omega
  trans := fun x y z h k => decide_eq_true (hc.pp _ _ _ (of_decide_eq_true h) (of_decide_eq_true k))
  tot := fun x y h1 h2 h3 => ht x y h1 (by have := of_decide_eq_false h2; have := of_decide_eq_false h3; have := hc.anti x y; omega)
section
variable {α : Type} {lt : α → α → Bool} {cf : α → α → Int} {nw : α → α → Bool}
theorem Ord.irr (o : Ord lt cf) (ho : ∀ x, cf x x = 0) (x : α) : lt x x = false := by
  cases h : lt x x with
  | false => rfl
  | true => have := (o.neg x x).2 h; rw [ho] at this; omega
theorem sorted_uniq (o : Ord lt cf) (ho : ∀ x, cf x x = 0) {l : List α} (hs : sorted lt l = true) {x y : α} (hx : x ∈ l) (hy : y ∈ l) (h : cf x y = 0) : x = y := by
  obtain ⟨i, hi, rfl⟩ := List.getElem_of_mem hx
  obtain ⟨j, hj, rfl⟩ := List.getElem_of_mem hy
  rcases Nat.lt_trichotomy i j with g | g | g
  · have := sorted_pair o.trans hs j i hj g
    have h2 := o.left _ _ l[j] h
    rw [this] at h2
    rw [o.irr ho] at h2; cases h2
  · subst g; rfl
  · have := sorted_pair o.trans hs i j hi g
    have h2 := o.right _ _ l[j] h
    rw [this, o.irr ho] at h2
    have := o.left _ _ l[j] h
    rw [o.irr ho] at this
    have h3 := o.right l[i] l[j] l[j] h
    rw [o.irr ho] at h3
    have h4 := sorted_pair o.trans hs i j hi g
    rw [h4] at h3; cases h3
theorem sorted_ext (o : Ord lt cf) (ho : ∀ x, cf x x = 0) : ∀ {a b : List α}, sorted lt a = true → sorted lt b = true → (∀ x, x ∈ a ↔ x ∈ b) → a = b := by
  intro a
  induction a with
  | nil =>
    intro b _ _ h
    cases b with
    | nil => rfl
    | cons y b => exact absurd ((h y).2 (by simp)) (by simp)
  | cons x a ih =>
    intro b ha hb h
    cases b with
    | nil => exact absurd ((h x).1 (by simp)) (by simp)
    | cons y b =>
      have pa := (sorted_iff o.trans).1 ha
      have pb := (sorted_iff o.trans).1 hb
      rw [List.pairwise_cons] at pa pb
      have e : x = y := by
        rcases List.mem_cons.1 ((h x).1 (by simp)) with e | hx
        · exact e
        · rcases List.mem_cons.1 ((h y).2 (by simp)) with e | hy
          · exact e.symm
          · have h1 := pb.1 x hx
            have h2 := pa.1 y hy
            have := o.trans _ _ _ h1 h2
            rw [o.irr ho] at this; cases this
      subst e
      have hm : ∀ z, z ∈ a ↔ z ∈ b := fun z => by
        constructor
        · intro hz
          rcases List.mem_cons.1 ((h z).1 (by simp [hz])) with e | hz'
          · subst e; have := pa.1 z hz; rw [o.irr ho] at this; cases this
          · exact hz'
        · intro hz
          rcases List.mem_cons.1 ((h z).2 (by simp [hz])) with e | hz'
          · subst e; have := pb.1 z hz; rw [o.irr ho] at this; cases this
          · exact hz'
      rw [ih ((sorted_iff o.trans).2 pa.2) ((sorted_iff o.trans).2 pb.2) hm]
/-- the list is of the newest of S, each key once -/
structure Rep (lt : α → α → Bool) (cf : α → α → Int) (nw : α → α → Bool) (l : List α) (S : α → Prop) : Prop where
  srt : sorted lt l = true
  sub : ∀ x ∈ l, S x
  top : ∀ y, S y → ∃ z ∈ l, cf z y = 0 ∧ nw y z = false
theorem rep_self (n : Newest cf nw) (ho : ∀ x, cf x x = 0) {l : List α} (hs : sorted lt l = true) : Rep lt cf nw l (· ∈ l) := ⟨hs, fun x h => h, fun y h => ⟨y, h, ho y, n.irr y⟩⟩
theorem rep_uniq (o : Ord lt cf) (n : Newest cf nw) (ho : ∀ x, cf x x = 0) (hsym : ∀ x y, cf x y = 0 → cf y x = 0) (htr : ∀ x y z, cf x y = 0 → cf y z = 0 → cf x z = 0) {a b : List α} {S : α → Prop} (ha : Rep lt cf nw a S) (hb : Rep lt cf nw b S) : a = b := by
  have key : ∀ {a b : List α}, Rep lt cf nw a S → Rep lt cf nw b S → ∀ x, x ∈ a → x ∈ b := fun {a b} ha hb x hx => by
    obtain ⟨z, hz, h1, h2⟩ := hb.top x (ha.sub x hx)
    obtain ⟨u, hu, h3, h4⟩ := ha.top z (hb.sub z hz)
    have hux : u = x := sorted_uniq o ho ha.srt hu hx (htr _ _ _ h3 h1)
    subst hux
    have := n.tot z u h1 h4 h2
    subst this; exact hz
  exact sorted_ext o ho ha.srt hb.srt fun x => ⟨key ha hb x, key hb ha x⟩
theorem hit_mem {f : α → Int} {l : List α} (h : hit f l = true) : l[low f l]'(hit_lt h) ∈ l := List.getElem_mem _
theorem rep_upd (o : Ord lt cf) (n : Newest cf nw) (ho : ∀ x, cf x x = 0) (hsym : ∀ x y, cf x y = 0 → cf y x = 0) (htr : ∀ x y z, cf x y = 0 → cf y z = 0 → cf x z = 0) {l : List α} {S : α → Prop} (h : Rep lt cf nw l S) (g : α) : Rep lt cf nw (upd cf nw l g) (fun x => S x ∨ x = g) := by
  have hs := o.upd nw h.srt g
  refine ⟨hs, fun x hx => ?_, fun y hy => ?_⟩
  · rcases upd_mem hx with rfl | hx
    · exact .inr rfl
    · exact .inl (h.sub x hx)
  · -- what of the list stays
    rcases Bool.eq_false_or_eq_true (hit (cf g) l) with q | q
    · have hz := hit_zero q
      rcases Bool.eq_false_or_eq_true (nw g (l[low (cf g) l]'(hit_lt q))) with p | p
      · rw [upd_newer q p]
        have hg : g ∈ l.set (low (cf g) l) g := List.mem_set (hit_lt q) g
        have stay : ∀ z ∈ l, z ≠ l[low (cf g) l]'(hit_lt q) → z ∈ l.set (low (cf g) l) g := fun z hz hne => by
          obtain ⟨i, hi, rfl⟩ := List.getElem_of_mem hz
          have hil : i ≠ low (cf g) l := fun e => hne (by subst e; rfl)
          rw [List.mem_iff_getElem]
          exact ⟨i, by simpa using hi, by rw [List.getElem_set_ne (fun e => hil e.symm)]⟩
        rcases hy with hy | rfl
        · obtain ⟨z, hzl, h1, h2⟩ := h.top y hy
          by_cases hzz : z = l[low (cf g) l]'(hit_lt q)
          · refine ⟨g, hg, ?_, ?_⟩
            · rw [hzz] at h1; exact htr _ _ _ hz h1
            · cases hb : nw y g with
              | false => rfl
              | true =>
                rw [hzz] at h2
                rw [n.trans _ _ _ hb p] at h2; cases h2
          · exact ⟨z, stay z hzl hzz, h1, h2⟩
        · exact ⟨y, hg, ho y, n.irr y⟩
      · rw [upd_older q p]
        rcases hy with hy | rfl
        · exact h.top y hy
        · exact ⟨_, hit_mem q, hsym _ _ hz, p⟩
    · rw [upd_miss q]
      have stay : ∀ z ∈ l, z ∈ l.take (low (cf g) l) ++ [g] ++ l.drop (low (cf g) l) := fun z hz => by
        have e := List.take_append_drop (low (cf g) l) l
        rw [← e, List.mem_append] at hz
        simp only [List.mem_append, List.mem_cons, List.not_mem_nil, or_false]
        rcases hz with h | h
        · exact .inl (.inl h)
        · exact .inr h
      rcases hy with hy | rfl
      · obtain ⟨z, hzl, h1, h2⟩ := h.top y hy
        exact ⟨z, stay z hzl, h1, h2⟩
      · exact ⟨y, by simp, ho y, n.irr y⟩
theorem Rep.congr {l : List α} {S S' : α → Prop} (h : Rep lt cf nw l S) (hS : ∀ x, S x ↔ S' x) : Rep lt cf nw l S' := ⟨h.srt, fun x hx => (hS x).1 (h.sub x hx), fun y hy => h.top y ((hS y).2 hy)⟩
theorem rep_join (o : Ord lt cf) (n : Newest cf nw) (ho : ∀ x, cf x x = 0) (hsym : ∀ x y, cf x y = 0 → cf y x = 0) (htr : ∀ x y z, cf x y = 0 → cf y z = 0 → cf x z = 0) : ∀ (b : List α) {a : List α} {S : α → Prop}, Rep lt cf nw a S → Rep lt cf nw (joinL cf nw a b) (fun x => S x ∨ x ∈ b)
  | [], a, S, h => h.congr fun x => by simp
  | g :: b, a, S, h => (rep_join o n ho hsym htr b (rep_upd o n ho hsym htr h g)).congr fun x => by simp [or_assoc]
/-- joined lists stand for their members' newest, whoever was joined first -/
theorem rep_of_join (o : Ord lt cf) (n : Newest cf nw) (ho : ∀ x, cf x x = 0) (hsym : ∀ x y, cf x y = 0 → cf y x = 0) (htr : ∀ x y z, cf x y = 0 → cf y z = 0 → cf x z = 0) {l s : List α} {S T : α → Prop} (hl : Rep lt cf nw l S) (hs : Rep lt cf nw s T) : Rep lt cf nw (joinL cf nw l s) (fun x => S x ∨ T x) := by
  have h := rep_join o n ho hsym htr s hl
  refine ⟨h.srt, fun x hx => ?_, fun y hy => ?_⟩
  · rcases h.sub x hx with q | q
    · exact .inl q
    · exact .inr (hs.sub x q)
  · rcases hy with q | q
    · exact h.top y (.inl q)
    · obtain ⟨z, hz, h1, h2⟩ := hs.top y q
      obtain ⟨u, hu, h3, h4⟩ := h.top z (.inr hz)
      refine ⟨u, hu, htr _ _ _ h3 h1, ?_⟩
      cases hb : nw y u with
      | false => rfl
      | true =>
        -- u is not older than z, z not older than y
        rcases Bool.eq_false_or_eq_true (nw u z) with p | p
        · rw [n.trans _ _ _ hb p] at h2; cases h2
        · have := n.tot u z h3 p h4
          subst this
          rw [hb] at h2; cases h2
theorem hear_old (n : Newest cf nw) (ho : ∀ x, cf x x = 0) (o : Ord lt cf) {l : List α} (hs : sorted lt l = true) {g : α} (h : upd cf nw l g = l) : hearF cf nw l g = false := by
  cases hF : hearF cf nw l g with
  | false => rfl
  | true =>
    rcases Bool.eq_false_or_eq_true (hit (cf g) l) with q | q
    · have p := (hearF_hit q).symm.trans hF
      rw [upd_newer q p] at h
      have e : (l.set (low (cf g) l) g)[low (cf g) l]'(by rw [List.length_set]; exact hit_lt q) = g := by simp
      simp only [h] at e
      rw [e, n.irr] at p; cases p
    · rw [upd_miss q] at h
      have := congrArg List.length h
      simp at this
      have hl := low_le (cf := cf g) l
      omega
theorem hit_of {f : α → Int} {l : List α} (hm : SMono f l) {x : α} (hx : x ∈ l) (h : f x = 0) : hit f l = true := by
  cases hb : hit f l with
  | true => rfl
  | false =>
    have e := List.take_append_drop (low f l) l
    rw [← e, List.mem_append] at hx
    rcases hx with q | q
    · have := low_ahead q; omega
    · have := low_behind hm hb q; omega
theorem low_put {f : α → Int} {l : List α} (hm : SMono f l) (h : hit f l = true) {g : α} (hg : f g = 0) : low f (l.set (low f l) g) = low f l ∧ hit f (l.set (low f l) g) = true := by
  have hlt := hit_lt h
  have h1 : low f l = low f (l.set (low f l) g) := low_uniq (by rw [List.length_set]; omega) (fun i hi hlo => by
      rw [List.getElem_set_ne (by omega)]; exact low_lt _ hlo) (fun i hi hlo => by
      by_cases hq : i = low f l
      · subst hq; rw [List.getElem_set_self]; omega
      · rw [List.getElem_set_ne (fun e => hq e.symm)]
        have hil : i < l.length := by simpa using hi
        have hz := hit_zero h
        rcases (by omega : f l[i] < 0 ∨ 0 ≤ f l[i]) with q | q
        · have := hm (low f l) i hil (by omega) (by omega); omega
        · exact q)
  refine ⟨h1.symm, ?_⟩
  have hl2 : low f (l.set (low f l) g) < (l.set (low f l) g).length := by rw [← h1, List.length_set]; exact hlt
  rw [hit_in hl2]
  simp only [← h1, List.getElem_set_self, hg, decide_true]
end
end Go.Proofs.Ytdaffjjconlmoaa.Pl
/- Plain: gateways. No program in sight (but for the order of texts). -/
namespace Go.Proofs.Ytdaffjjconlmoaa.Pl
set_option linter.unusedVariables false
structure Gw where
  c : ByteArray
  a : Int
  v : Int
def Gw.enc (g : Gw) : List Value := [.string g.c, .int .i64 g.a, .int .i64 g.v]
def Gw.row (g : Gw) : List V := [.v (.string g.c), .v (.int .i64 g.a), .v (.int .i64 g.v)]
theorem Gw.enc_len (g : Gw) : g.enc.length = 3 := rfl
theorem Gw.enc_one (g : Gw) : ∀ u ∈ g.enc, u.oneCell' = true := by
  intro u hu
  simp [Gw.enc] at hu
  rcases hu with rfl | rfl | rfl <;> rfl
instance : FlatRow Gw.row := ⟨fun x u hu => by simp [Gw.row] at hu; rcases hu with rfl | rfl | rfl <;> exact ⟨_, rfl⟩⟩
def Gw.ok (g : Gw) : Prop := g.c.size ≤ 9223372036854775807
/-- what is wrong with one gateway -/
def Gw.err (g : Gw) : Int := if lab g.c.data.toList then (if wi g.a 0 4294967295 && wi g.v 1 1000000 then 0 else 3) else 1
def Gw.lt (g h : Gw) : Bool := slt g.c h.c
def ckGw (l : List Gw) : Int := ckL 6 Gw.err Gw.lt l
def Gw.cf (name : ByteArray) (g : Gw) : Int := scmp g.c name
def Gw.kf (g x : Gw) : Int := Gw.cf g.c x
/-- the comparison of two of one name -/
def Gw.cmp (g x : Gw) : Int := firstNZ [icmp g.v x.v, icmp g.a x.a]
def Gw.nw (g x : Gw) : Bool := decide (0 < Gw.cmp g x)
def Gw.is (name : ByteArray) (m : Gw) : Bool := m.c.toList == name.toList
def Gw.same (g h : Gw) : Bool := (g.c.toList == h.c.toList) && ((g.a == h.a) && ((g.v == h.v) && true))
theorem Gw.same_iff {g h : Gw} : Gw.same g h = true ↔ g = h := by
  obtain ⟨a, b, c⟩ := g
  obtain ⟨a', b', c'⟩ := h
  have tl : ∀ a b : ByteArray, a.toList = b.toList ↔ a = b := fun a b => ⟨toList_inj, fun h => by rw [h]⟩
  simp only [Gw.same, Bool.and_true, Bool.and_eq_true, beq_iff_eq, tl, Gw.mk.injEq]
theorem Gw.err_cases (m : Gw) : m.err = 0 ∨ m.err = 1 ∨ m.err = 3 ∨ m.err = 7 := by
  unfold Gw.err
  split
  · split <;> simp
  · simp
theorem Gw.lt_trans (x y z : Gw) (h1 : Gw.lt x y = true) (h2 : Gw.lt y z = true) : Gw.lt x z = true := slt_trans h1 h2
theorem Gw.ord : Ord Gw.lt Gw.kf where
  neg := fun g x => by unfold Gw.kf Gw.cf Gw.lt; exact scmp_neg
  pos := fun g x => by
    unfold Gw.kf Gw.cf Gw.lt
    constructor
    · intro h
      rcases Bool.eq_false_or_eq_true (slt g.c x.c) with q | q
      · exact q
      · rcases Bool.eq_false_or_eq_true (slt x.c g.c) with p | p
        · rw [scmp_lt p] at h; omega
        · have := slt_tri q p
          rw [this, scmp_eq] at h; omega
    · intro h; rw [scmp_gt h]; omega
  trans := Gw.lt_trans
  left := fun g x y h => by
    unfold Gw.kf Gw.cf at h
    rw [scmp_zero] at h
    unfold Gw.lt; rw [h]
  right := fun g x y h => by
    unfold Gw.kf Gw.cf at h
    rw [scmp_zero] at h
    unfold Gw.lt; rw [h]
theorem Gw.lt_cf (name : ByteArray) (x y : Gw) (h : Gw.lt x y = true) (hy : Gw.cf name y ≤ 0) : Gw.cf name x < 0 := by
  unfold Gw.cf at *
  rw [scmp_neg]
  rcases Bool.eq_false_or_eq_true (slt y.c name) with g | g
  · exact slt_trans h g
  · have h0 : scmp y.c name = 0 := by
      rcases (by omega : scmp y.c name < 0 ∨ scmp y.c name = 0) with q | q
      · rw [scmp_neg] at q; rw [q] at g; cases g
      · exact q
    rw [scmp_zero] at h0
    rw [← h0]
    exact h
theorem ckGw_inv {l : List Gw} (h : ckGw l = 0) : l.length ≤ 6 ∧ (∀ i, (hi : i < l.length) → (l[i]).err = 0) ∧ sorted Gw.lt l = true := ckL_inv Gw.err_cases h
theorem Gw.smono {l : List Gw} (h : sorted Gw.lt l = true) (name : ByteArray) : SMono (Gw.cf name) l := smono_of Gw.lt_trans (Gw.lt_cf name) h
/-- does one stand behind, or where the other one stands? -/
def Gw.ge (m x : Gw) : Bool := !(Op.bytesLess x.c.toList m.c.toList)
def Gw.ne (m x : Gw) : Bool := !(x.c.toList == m.c.toList)
theorem Gw.ge_eq (m : Gw) : Gw.ge m = fun x => decide (0 ≤ Gw.kf m x) := by
  funext x
  have h := scmp_neg (a := x.c) (b := m.c)
  unfold Gw.ge Gw.kf Gw.cf
  unfold slt at h
  cases hb : Op.bytesLess x.c.toList m.c.toList with
  | true => have := h.2 hb; simp; omega
  | false =>
    have : ¬ scmp x.c m.c < 0 := fun e => by rw [h.1 e] at hb; cases hb
    simp; omega
theorem Gw.is_eq (name : ByteArray) : Gw.is name = fun x => decide (Gw.cf name x = 0) := by
  funext x
  unfold Gw.is Gw.cf
  by_cases h : x.c = name
  · rw [h, scmp_eq]; simp
  · have h2 : scmp x.c name ≠ 0 := fun e => h (scmp_zero.1 e)
    rw [seq_no h]; simp [h2]
theorem Gw.ne_eq (m : Gw) : Gw.ne m = fun x => decide (Gw.kf m x ≠ 0) := by
  funext x
  have := congrFun (Gw.is_eq m.c) x
  unfold Gw.is at this
  unfold Gw.ne Gw.kf
  rw [this]; simp
theorem Gw.at_eq {l : List Gw} (hs : sorted Gw.lt l = true) (name : ByteArray) : at_ (Gw.is name) l = if hit (Gw.cf name) l = true then (low (Gw.cf name) l : Int) else -1 := by
  rw [Gw.is_eq]; exact at_sorted (Gw.smono hs name)
theorem Gw.putL_eq {l : List Gw} (hs : sorted Gw.lt l = true) {m : Gw} (h : hearF Gw.kf Gw.nw l m = true) : putL (Gw.ge m) (Gw.ne m) m l = upd Gw.kf Gw.nw l m := by
  rw [Gw.ge_eq, Gw.ne_eq, upd_put h]
  exact putL_sorted (Gw.smono hs m.c) m
/-- what Open gives -/
def openG (l : List Gw) (name : ByteArray) (a : Int) : Int × List Gw :=
  if ckGw l ≠ 0 then (ckGw l, []) else if (⟨name, a, 1⟩ : Gw).err ≠ 0 then ((⟨name, a, 1⟩ : Gw).err, []) else
    match l[low (Gw.cf name) l]? with
    | some x => if hit (Gw.cf name) l = true then (if x.v = 1000000 then (3, []) else (0, l.set (low (Gw.cf name) l) ⟨name, a, x.v + 1⟩)) else (if l.length = 6 then (2, []) else (0, l.take (low (Gw.cf name) l) ++ [⟨name, a, 1⟩] ++ l.drop (low (Gw.cf name) l)))
    | none => if l.length = 6 then (2, []) else (0, l.take (low (Gw.cf name) l) ++ [⟨name, a, 1⟩] ++ l.drop (low (Gw.cf name) l))
theorem openG_ck {l : List Gw} {name : ByteArray} {a : Int} (h : ckGw l ≠ 0) : openG l name a = (ckGw l, []) := by simp [openG, h]
theorem openG_one {l : List Gw} {name : ByteArray} {a : Int} (h : ckGw l = 0) (h1 : (⟨name, a, 1⟩ : Gw).err ≠ 0) : openG l name a = ((⟨name, a, 1⟩ : Gw).err, []) := by simp [openG, h, h1]
theorem openG_miss {l : List Gw} {name : ByteArray} {a : Int} (h : ckGw l = 0) (h1 : (⟨name, a, 1⟩ : Gw).err = 0) (h2 : hit (Gw.cf name) l = false) : openG l name a = if l.length = 6 then (2, []) else (0, l.take (low (Gw.cf name) l) ++ [⟨name, a, 1⟩] ++ l.drop (low (Gw.cf name) l)) := by
  unfold openG
  rw [if_neg (by simpa using h), if_neg (by simpa using h1)]
  split <;> simp [h2]
theorem openG_hit {l : List Gw} {name : ByteArray} {a : Int} (h : ckGw l = 0) (h1 : (⟨name, a, 1⟩ : Gw).err = 0) (h2 : hit (Gw.cf name) l = true) : openG l name a = if (l[low (Gw.cf name) l]'(hit_lt h2)).v = 1000000 then (3, []) else (0, l.set (low (Gw.cf name) l) ⟨name, a, (l[low (Gw.cf name) l]'(hit_lt h2)).v + 1⟩) := by
  unfold openG
  rw [if_neg (by simpa using h), if_neg (by simpa using h1), List.getElem?_eq_getElem (hit_lt h2)]
  simp [h2]
/-- what Join gives -/
def joinG (a b : List Gw) : Int × List Gw :=
  if ckGw a ≠ 0 then (ckGw a, []) else if ckGw b ≠ 0 then (ckGw b, []) else if 6 < (joinL Gw.kf Gw.nw a b).length then (2, []) else (0, joinL Gw.kf Gw.nw a b)
theorem joinG_bad {a b : List Gw} (h : firstErr ckGw [a, b] ≠ 0) : joinG a b = (firstErr ckGw [a, b], []) := by
  by_cases h1 : ckGw a = 0
  · by_cases h2 : ckGw b = 0
    · simp [firstErr, h1, h2] at h
    · simp [joinG, firstErr, h1, h2]
  · simp [joinG, firstErr, h1]
theorem first_twoG {a b : List Gw} (h : firstErr ckGw [a, b] = 0) : ckGw a = 0 ∧ ckGw b = 0 := by
  by_cases h1 : ckGw a = 0
  · by_cases h2 : ckGw b = 0
    · exact ⟨h1, h2⟩
    · simp [firstErr, h1, h2] at h
  · simp [firstErr, h1] at h
theorem joinG_many {a b : List Gw} (h : ckGw a = 0) (h1 : ckGw b = 0) (h2 : 6 < (joinL Gw.kf Gw.nw a b).length) : joinG a b = (2, []) := by simp [joinG, h, h1, h2]
theorem joinG_ok {a b : List Gw} (h : ckGw a = 0) (h1 : ckGw b = 0) (h2 : ¬ 6 < (joinL Gw.kf Gw.nw a b).length) : joinG a b = (0, joinL Gw.kf Gw.nw a b) := by simp [joinG, h, h1, h2]
/-! tables -/
structure Rt where
  c : ByteArray
  a : Int
def Rt.row (r : Rt) : List V := [.v (.string r.c), .v (.int .i64 r.a)]
instance : FlatRow Rt.row := ⟨fun x u hu => by simp [Rt.row] at hu; rcases hu with rfl | rfl <;> exact ⟨_, rfl⟩⟩
def Rt.same (g h : Rt) : Bool := (g.c.toList == h.c.toList) && ((g.a == h.a) && true)
theorem Rt.same_iff {g h : Rt} : Rt.same g h = true ↔ g = h := by
  obtain ⟨a, b⟩ := g
  obtain ⟨a', b'⟩ := h
  have tl : ∀ a b : ByteArray, a.toList = b.toList ↔ a = b := fun a b => ⟨toList_inj, fun h => by rw [h]⟩
  simp only [Rt.same, Bool.and_true, Bool.and_eq_true, beq_iff_eq, tl, Rt.mk.injEq]
def tabS (here : ByteArray) (l : List Gw) : List Rt := (l.filter fun g => !(g.c.toList == here.toList)).map fun g => ⟨g.c, g.a⟩
theorem tabS_next {here : ByteArray} {l : List Gw} {k : Nat} (hk : k < l.length) : tabS here (l.take (k + 1)) = if (!((l[k]).c.toList == here.toList)) = true then tabS here (l.take k) ++ [⟨(l[k]).c, (l[k]).a⟩] else tabS here (l.take k) := by
  unfold tabS
  rw [take_snoc_ hk, List.filter_append, List.map_append]
  split <;> rename_i h <;> simp [h]
theorem tabS_len (here : ByteArray) (l : List Gw) : (tabS here l).length ≤ l.length := by unfold tabS; rw [List.length_map]; exact List.length_filter_le _ _
theorem tabS_mem {here : ByteArray} {l : List Gw} {r : Rt} (h : r ∈ tabS here l) : ∃ g ∈ l, r = ⟨g.c, g.a⟩ ∧ g.c ≠ here := by
  unfold tabS at h
  obtain ⟨g, hg, rfl⟩ := List.mem_map.1 h
  obtain ⟨h1, h2⟩ := List.mem_filter.1 hg
  refine ⟨g, h1, rfl, fun e => ?_⟩
  rw [e] at h2; simp at h2
/-- what Table gives -/
def tabG (l : List Gw) (here : ByteArray) : Int × List Rt := if ckGw l ≠ 0 then (ckGw l, []) else if lab here.data.toList = true then (0, tabS here l) else (1, [])
theorem tabG_ck {l : List Gw} {here : ByteArray} (h : ckGw l ≠ 0) : tabG l here = (ckGw l, []) := by simp [tabG, h]
theorem tabG_lab {l : List Gw} {here : ByteArray} (h : ckGw l = 0) (h1 : lab here.data.toList = false) : tabG l here = (1, []) := by simp [tabG, h, h1]
theorem tabG_ok {l : List Gw} {here : ByteArray} (h : ckGw l = 0) (h1 : lab here.data.toList = true) : tabG l here = (0, tabS here l) := by simp [tabG, h, h1]
theorem tabG_len (l : List Gw) (here : ByteArray) : (tabG l here).2.length ≤ l.length := by
  unfold tabG
  split
  · simp
  · split
    · exact tabS_len here l
    · simp
/-- what Next gives -/
def nextG (l : List Gw) (here to : ByteArray) : Int × Int :=
  if ckGw l ≠ 0 then (ckGw l, 0) else if lab here.data.toList = false then (1, 0) else if lab to.data.toList = false then (1, 0) else if (here.toList == to.toList) = true then (6, 0) else
    match l[low (Gw.cf to) l]? with
    | some x => if hit (Gw.cf to) l = true then (0, x.a) else (5, 0)
    | none => (5, 0)
theorem nextG_ck {l : List Gw} {here to : ByteArray} (h : ckGw l ≠ 0) : nextG l here to = (ckGw l, 0) := by simp [nextG, h]
theorem nextG_h {l : List Gw} {here to : ByteArray} (h : ckGw l = 0) (h1 : lab here.data.toList = false) : nextG l here to = (1, 0) := by simp [nextG, h, h1]
theorem nextG_t {l : List Gw} {here to : ByteArray} (h : ckGw l = 0) (h1 : lab here.data.toList = true) (h2 : lab to.data.toList = false) : nextG l here to = (1, 0) := by simp [nextG, h, h1, h2]
theorem nextG_s {l : List Gw} {here to : ByteArray} (h : ckGw l = 0) (h1 : lab here.data.toList = true) (h2 : lab to.data.toList = true) (h3 : (here.toList == to.toList) = true) : nextG l here to = (6, 0) := by
  unfold nextG
  rw [if_neg (by simpa using h), if_neg (by simp [h1]), if_neg (by simp [h2]), if_pos h3]
theorem nextG_miss {l : List Gw} {here to : ByteArray} (h : ckGw l = 0) (h1 : lab here.data.toList = true) (h2 : lab to.data.toList = true) (h3 : (here.toList == to.toList) = false) (h4 : hit (Gw.cf to) l = false) : nextG l here to = (5, 0) := by
  unfold nextG
  rw [if_neg (by simpa using h), if_neg (by simp [h1]), if_neg (by simp [h2]), if_neg (by simp [h3])]
  split <;> simp [h4]
theorem nextG_hit {l : List Gw} {here to : ByteArray} (h : ckGw l = 0) (h1 : lab here.data.toList = true) (h2 : lab to.data.toList = true) (h3 : (here.toList == to.toList) = false) (h4 : hit (Gw.cf to) l = true) : nextG l here to = (0, (l[low (Gw.cf to) l]'(hit_lt h4)).a) := by
  unfold nextG
  rw [if_neg (by simpa using h), if_neg (by simp [h1]), if_neg (by simp [h2]), if_neg (by simp [h3]), List.getElem?_eq_getElem (hit_lt h4)]
  simp [h4]
theorem Gw.err_inv {m : Gw} (h : m.err = 0) : lab m.c.data.toList = true ∧ (0 ≤ m.a ∧ m.a ≤ 4294967295) ∧ (1 ≤ m.v ∧ m.v ≤ 1000000) := by
  unfold Gw.err at h
  split at h
  · rename_i h1
    split at h
    · rename_i h2
      rw [Bool.and_eq_true, wi_iff, wi_iff] at h2
      exact ⟨h1, h2⟩
    · omega
  · omega
theorem gw_dec (row : List V) (h : Fits [.s, .i, .i] row) : ∃ m : Gw, row = m.row ∧ m.ok := by
  obtain ⟨u0, _, rfl, f0, h⟩ := fits_cons h
  obtain ⟨u1, _, rfl, f1, h⟩ := fits_cons h
  obtain ⟨u2, _, rfl, f2, h⟩ := fits_cons h
  obtain rfl := fits_nil h
  obtain ⟨n, rfl, hn⟩ := fit_s f0
  obtain ⟨a, rfl, _⟩ := fit_i f1
  obtain ⟨b, rfl, _⟩ := fit_i f2
  exact ⟨⟨n, a, b⟩, rfl, hn⟩
end Go.Proofs.Ytdaffjjconlmoaa.Pl
/- Contracts: what spoils a slice. -/
namespace Go.Proofs.Ytdaffjjconlmoaa
open Go.RowKit Pl
set_option linter.unusedVariables false
namespace Pl
def sQu : ByteArray := ⟨#[63]⟩
def sEm : ByteArray := ⟨#[]⟩
def zSv : Sv := ⟨sQu, sEm, sEm, sEm, 0, 0, false, 0, false⟩
def zGw : Gw := ⟨sQu, 0, 0⟩
/-- the first k spoilt -/
def spoilt {α : Type} (z : α) (l : List α) (k : Nat) : List α := List.replicate k z ++ l.drop k
theorem spoilt_len {α : Type} {z : α} {l : List α} {k : Nat} (h : k ≤ l.length) : (spoilt z l k).length = l.length := by simp [spoilt]; omega
theorem spoilt_set {α : Type} {z : α} {l : List α} {k : Nat} (h : k < l.length) : (spoilt z l k).set k z = spoilt z l (k + 1) := by
  unfold spoilt
  rw [List.set_append_right _ _ (by simp), List.length_replicate, Nat.sub_self, List.drop_eq_getElem_cons h, List.replicate_succ', List.set_cons_zero, List.append_assoc]
  rfl
theorem spoilt_full {α : Type} {z : α} {l : List α} : spoilt z l l.length = List.replicate l.length z := by simp [spoilt]
end Pl
instance : OneRow Sv.row 9 := ⟨fun _ => rfl, fun x u hu => by simp [Sv.row] at hu; rcases hu with rfl | rfl | rfl | rfl | rfl | rfl | rfl | rfl | rfl <;> exact ⟨_, rfl, rfl⟩⟩
instance : OneRow Gw.row 3 := ⟨fun _ => rfl, fun x u hu => by simp [Gw.row] at hu; rcases hu with rfl | rfl | rfl <;> exact ⟨_, rfl, rfl⟩⟩
theorem spoilS_fun (l : List Sv) (hl : l.length ≤ 9223372036854775807) : FunM Try.prog 21 [.ms 24 9 (l.map Sv.row) ((List.replicate l.length zSv).map Sv.row)] [] := by
  refine funM_x ck_hearsaylaw_spoilServices rfl rfl (nd_b rfl) ?_
  (refine goI ?_; repeat (intro gg; refine goI ?_))
  (refine ⟨[], none, {k : Nat // k ≤ l.length}, [0], fun ⟨k, hk⟩ => [(2, .v (.int .i64 k))], [], fun ⟨k, hk⟩ => [(0, ⟨0, 24, 9, (spoilt zSv l k).map Sv.row⟩)], fun ⟨k, hk⟩ => l.length - k, trivial, fun _ => ⟨trivial, fun _ => ⟨⟨0, by omega⟩, tI, keptE_refl _ _, tI, keptH_refl _ _⟩⟩, fun ⟨k, hk⟩ => ?_⟩)
  (refine goI ?_; repeat (intro gg; refine goI ?_))
  rw [List.length_map, spoilt_len hk]
  (refine bIf_of (fun h => ?_) (fun h => ?_) <;> rw [h])
  · have hlt : k < l.length := (by have := of_decide_eq_true h; omega)
    have hlt2 : k < (spoilt zSv l k).length := by rw [spoilt_len hk]; exact hlt
    (refine goI ?_; repeat (intro gg; refine goI ?_))
    refine ⟨k, _, rfl, row_map hlt2, ?_⟩
    (refine goI ?_; repeat (intro gg; refine goI ?_))
    have e : ((spoilt zSv l k).map Sv.row).set k zSv.row = (spoilt zSv l (k + 1)).map Sv.row := by rw [← spoilt_set hlt, List.map_set]
    (exact ⟨none, trivial, fun gr => ⟨⟨k + 1, by omega⟩, by show l.length - (k + 1) < l.length - k; omega, tI, tI, ⟨congrArg (fun r => some (Ent.mk 0 (.t 24) 9 r)) e, trivial⟩, tI⟩⟩)
  · have hge : ¬ k < l.length := (by have := of_decide_eq_false h; omega)
    obtain rfl : k = l.length := by omega
    rw [← spoilt_full]
    (refine goI ?_; repeat (intro gg; refine goI ?_))
    (exact ⟨[0], aM⟩)
theorem spoilG_fun (l : List Gw) (hl : l.length ≤ 9223372036854775807) : FunM Try.prog 22 [.ms 62 3 (l.map Gw.row) ((List.replicate l.length zGw).map Gw.row)] [] := by
  refine funM_x ck_hearsaylaw_spoilGateways rfl rfl (nd_b rfl) ?_
  (refine goI ?_; repeat (intro gg; refine goI ?_))
  (refine ⟨[], none, {k : Nat // k ≤ l.length}, [0], fun ⟨k, hk⟩ => [(2, .v (.int .i64 k))], [], fun ⟨k, hk⟩ => [(0, ⟨0, 62, 3, (spoilt zGw l k).map Gw.row⟩)], fun ⟨k, hk⟩ => l.length - k, trivial, fun _ => ⟨trivial, fun _ => ⟨⟨0, by omega⟩, tI, keptE_refl _ _, tI, keptH_refl _ _⟩⟩, fun ⟨k, hk⟩ => ?_⟩)
  (refine goI ?_; repeat (intro gg; refine goI ?_))
  rw [List.length_map, spoilt_len hk]
  (refine bIf_of (fun h => ?_) (fun h => ?_) <;> rw [h])
  · have hlt : k < l.length := (by have := of_decide_eq_true h; omega)
    have hlt2 : k < (spoilt zGw l k).length := by rw [spoilt_len hk]; exact hlt
    (refine goI ?_; repeat (intro gg; refine goI ?_))
    refine ⟨k, _, rfl, row_map hlt2, ?_⟩
    (refine goI ?_; repeat (intro gg; refine goI ?_))
    have e : ((spoilt zGw l k).map Gw.row).set k zGw.row = (spoilt zGw l (k + 1)).map Gw.row := by rw [← spoilt_set hlt, List.map_set]
    (exact ⟨none, trivial, fun gr => ⟨⟨k + 1, by omega⟩, by show l.length - (k + 1) < l.length - k; omega, tI, tI, ⟨congrArg (fun r => some (Ent.mk 0 (.t 62) 3 r)) e, trivial⟩, tI⟩⟩)
  · have hge : ¬ k < l.length := (by have := of_decide_eq_false h; omega)
    obtain rfl : k = l.length := by omega
    rw [← spoilt_full]
    (refine goI ?_; repeat (intro gg; refine goI ?_))
    (exact ⟨[0], aM⟩)
end Go.Proofs.Ytdaffjjconlmoaa
/- Slices of flat structs that read as lists. -/
namespace Go.Proofs.Ytdaffjjconlmoaa
open Go.RowKit
set_option linter.unusedVariables false
section
variable {α : Type} {enc : α → List Value} {sz : Nat} {w w' : World} {A : Option Addr} {l : List α}
/-- the slice at A reads as l, sz cells an element -/
def RL (enc : α → List Value) (sz : Nat) (w : World) (A : Option Addr) (l : List α) : Prop :=
  0 < l.length → ∃ b off, A = some ⟨b, off, none⟩ ∧ b < w.heap.size ∧ ∀ i, (h : i < l.length) → ∀ j u, (enc l[i])[j]? = some u → w.cell? ⟨b, off + i * sz + j, none⟩ = some u

theorem RL.nil : RL enc sz w A [] := fun h => absurd h (by simp)
theorem RL.at_ (h : RL enc sz w A l) {k : Nat} (hk : k < l.length) : ∃ b off, A = some ⟨b, off, none⟩ ∧ b < w.heap.size ∧ ∀ j u, (enc l[k])[j]? = some u → w.cell? ⟨b, off + k * sz + j, none⟩ = some u := by
  obtain ⟨b, off, hA, hb, hc⟩ := h (by omega)
  exact ⟨b, off, hA, hb, hc k hk⟩
/-- two elements side by side -/
theorem RL.at2 (h : RL enc sz w A l) {k : Nat} (hk : k + 1 < l.length) : ∃ b off, A = some ⟨b, off, none⟩ ∧ b < w.heap.size ∧
    (∀ j u, (enc (l[k]'(by omega)))[j]? = some u → w.cell? ⟨b, off + k * sz + j, none⟩ = some u) ∧ (∀ j u, (enc l[k + 1])[j]? = some u → w.cell? ⟨b, off + (k + 1) * sz + j, none⟩ = some u) := by
  obtain ⟨b, off, hA, hb, hc⟩ := h (by omega)
  exact ⟨b, off, hA, hb, hc k (by omega), hc (k + 1) hk⟩
theorem RL.below (h : RL enc sz w A l) {B : Nat} (hb : Below B w w') (hB : w.heap.size ≤ B) : RL enc sz w' A l := fun hn => by
  obtain ⟨b, off, hA, hlt, hc⟩ := h hn
  exact ⟨b, off, hA, Nat.lt_of_lt_of_le hlt hb.size, fun i hi j u hu => (hb.cell (p := ⟨b, off + i * sz + j, none⟩) (by show b < B; omega)).trans (hc i hi j u hu)⟩
theorem RL.below' (h : RL enc sz w A l) (hb : Below w.heap.size w w') : RL enc sz w' A l := h.below hb (Nat.le_refl _)
theorem RL.of_own {base : Nat} {e : TypeId} {c : Nat} (h : w.ownsRow base e sz (.slice A l.length c) l.length (l.flatMap enc)) (hs : ∀ x, (enc x).length = sz) : RL enc sz w A l := fun hn => by
  obtain ⟨hl, h2⟩ := h
  rcases h2 with ⟨hv, hz⟩ | ⟨g, cap, cur, hv, hg, hh, hnc, _, hsz, htk⟩
  · omega
  · have hA : A = some ⟨g, 0, none⟩ := by injection hv
    have hlt : g < w.heap.size := block_lt hh
    refine ⟨g, 0, hA, hlt, fun i hi j u hu => ?_⟩
    have hj : j < sz := by have := (List.getElem?_eq_some_iff.1 hu).1; rw [hs] at this; exact this
    have hx : (l.flatMap enc)[i * sz + j]? = some u := by
      rw [flat_get hs i j hi hj]; exact hu
    have hb : i * sz + j < l.length * sz := by
      have : (i + 1) * sz ≤ l.length * sz := Nat.mul_le_mul_right _ hi
      rw [Nat.add_mul] at this; omega
    unfold World.cell?
    simp only [hh]
    rw [← htk, List.getElem?_take_of_lt hb] at hx
    simpa using hx
theorem own_below {w w' : World} {base : Nat} {e : TypeId} {v : Value} {n : Nat} {xs : List Value} (h : w.ownsRow base e sz v n xs) (hb : Below w.heap.size w w') : w'.ownsRow base e sz v n xs := by
  obtain ⟨h1, h2⟩ := h
  refine ⟨h1, ?_⟩
  rcases h2 with h2 | ⟨g, cap, cur, hv, hg, hh, r⟩
  · exact .inl h2
  · exact .inr ⟨g, cap, cur, hv, hg, (hb.block g (block_lt hh)).trans hh, r⟩
theorem own_block {w : World} {base : Nat} {e : TypeId} {A : Option Addr} {c n : Nat} {xs : List Value} (h : w.ownsRow base e sz (.slice A n c) n xs) (hn : 0 < n) : ∃ g, A = some ⟨g, 0, none⟩ := by
  rcases h.2 with ⟨_, h0⟩ | ⟨g, cap, cur, hv, _⟩
  · omega
  · injection hv with hv
    exact ⟨g, hv⟩
theorem own_mono {w : World} {base base' : Nat} {e : TypeId} {v : Value} {n : Nat} {xs : List Value} (h : w.ownsRow base e sz v n xs) (hb : base' ≤ base) : w.ownsRow base' e sz v n xs := by
  obtain ⟨h1, h2⟩ := h
  refine ⟨h1, ?_⟩
  rcases h2 with h2 | ⟨g, cap, cur, hv, hg, r⟩
  · exact .inl h2
  · exact .inr ⟨g, cap, cur, hv, by omega, r⟩
theorem own_far {w : World} {base : Nat} {e : TypeId} {v : Value} {n : Nat} {xs : List Value} (h : w.ownsRow base e sz v n xs) {p : Addr} (hp : v.ownBlock ≠ some p.block) (u : Value) : (w.setCell p u).ownsRow base e sz v n xs := by
  obtain ⟨h1, h2⟩ := h
  refine ⟨h1, ?_⟩
  rcases h2 with h2 | ⟨g, cap, cur, hv, hg, hh, r⟩
  · exact .inl h2
  · refine .inr ⟨g, cap, cur, hv, hg, ?_, r⟩
    rw [Below.heap_setCell w p u g (fun e => hp (by subst hv; subst e; rfl))]
    exact hh
/-- so many cells set, one behind the other -/
def setFrom (xs : List Value) (p : Nat) : List Value → List Value
  | [] => xs
  | u :: us => setFrom (xs.set p u) (p + 1) us
theorem setFrom_len : ∀ (us xs : List Value) (p : Nat), (setFrom xs p us).length = xs.length
  | [], _, _ => rfl
  | u :: us, xs, p => by rw [setFrom, setFrom_len us]; simp
theorem setFrom_get : ∀ (us xs : List Value) (p : Nat), p + us.length ≤ xs.length → ∀ i, (setFrom xs p us)[i]? = if p ≤ i ∧ i < p + us.length then us[i - p]? else xs[i]?
  | [], xs, p, _, i => by
    rw [setFrom, if_neg (by simp only [List.length_nil]; omega)]
  | u :: us, xs, p, h, i => by
    rw [setFrom, setFrom_get us (xs.set p u) (p + 1) (by simp at h ⊢; omega) i]
    simp only [List.length_cons] at h ⊢
    by_cases h1 : i = p
    · subst h1
      rw [if_neg (by omega), if_pos (by omega), List.getElem?_set_self (by omega)]
      simp
    · by_cases h2 : p + 1 ≤ i ∧ i < p + 1 + us.length
      · rw [if_pos h2, if_pos (by omega), show i - p = i - (p + 1) + 1 by omega, List.getElem?_cons_succ]
      · rw [if_neg h2, List.getElem?_set_ne (by omega)]
        by_cases h3 : p ≤ i ∧ i < p + (us.length + 1)
        · omega
        · rw [if_neg h3]
theorem flat_set (hs : ∀ x, (enc x).length = sz) (hz : 0 < sz) {k : Nat} (hk : k < l.length) (x : α) : setFrom (l.flatMap enc) (k * sz) (enc x) = (l.set k x).flatMap enc := by
  have hkk : k * sz + sz ≤ l.length * sz := by
    have : (k + 1) * sz ≤ l.length * sz := Nat.mul_le_mul_right _ hk
    rw [Nat.add_mul] at this; omega
  apply List.ext_getElem?
  intro i
  rw [setFrom_get _ _ _ (by rw [hs, flat_len hs]; exact hkk)]
  by_cases hi : i < l.length * sz
  · have hd : i / sz < l.length := Nat.div_lt_of_lt_mul (by rw [Nat.mul_comm]; exact hi)
    have hm : i % sz < sz := Nat.mod_lt _ hz
    have e : i = i / sz * sz + i % sz := by rw [Nat.mul_comm]; exact (Nat.div_add_mod i sz).symm
    have r : ((l.set k x).flatMap enc)[i]? = (enc ((l.set k x)[i / sz]'(by simpa using hd)))[i % sz]? := by
      conv => lhs; rw [e]
      exact flat_get hs (i / sz) (i % sz) (by simpa using hd) hm
    have r2 : (l.flatMap enc)[i]? = (enc l[i / sz])[i % sz]? := by
      conv => lhs; rw [e]
      exact flat_get hs (i / sz) (i % sz) hd hm
    rw [r, hs]
    by_cases hik : i / sz = k
    · have h1 : k * sz ≤ i ∧ i < k * sz + sz := by rw [← hik]; omega
      rw [if_pos h1]
      simp only [List.getElem_set, hik, if_true]
      congr 1
      rw [← hik]; omega
    · have h1 : ¬ (k * sz ≤ i ∧ i < k * sz + sz) := by
        rintro ⟨g1, g2⟩
        apply hik
        exact Nat.div_eq_of_lt_le (by omega) (by rw [Nat.add_mul]; omega)
      rw [if_neg h1, r2]
      simp only [List.getElem_set]
      rw [if_neg (fun e => hik e.symm)]
  · have h1 : ¬ (k * sz ≤ i ∧ i < k * sz + (enc x).length) := by rw [hs]; omega
    rw [if_neg h1, List.getElem?_eq_none (by rw [flat_len hs]; omega), List.getElem?_eq_none (by rw [flat_len hs, List.length_set]; omega)]
end
end Go.Proofs.Ytdaffjjconlmoaa
/- Operations on slices whose elements have several cells: copy into a row that is known whole. -/
namespace Go.Proofs.Ytdaffjjconlmoaa
open Go.RowKit
set_option linter.unusedVariables false
section
variable {P : Program}

theorem run_copyN (w : World) (dT sT ty elem : TypeId) (sz : Nat) (g o dLen dCap : Nat) (a : Addr) (sLen sCap : Nat) (cur : Array Value) (t : TypeId) (cs : List Value)
    (hu : P.underlying dT = some (.slice elem)) (hs : (P.info? elem).map (·.size) = some sz)
    (hg : w.heap[g]? = some (.cells cur t (0, 0))) (hn : cs.length = Nat.min sLen dLen * sz)
    (hsrc : ∀ j v, cs[j]? = some v → w.cell? (a.add j) = some v) (hfit : o + cs.length ≤ cur.size) (h1 : ∀ v ∈ cs, v.oneCell' = true) :
    (Builtin.copy_ #[dT, sT] ty #[.slice (some ⟨g, o, none⟩) dLen dCap, .slice (some a) sLen sCap]).run P w =
      .ok (goInt (Nat.min sLen dLen)) (w.setRow g (splice cur.toList o cs).toArray) := by
  have hl := run_loadCells_list (P := P) w a cs hsrc
  have hst := run_storeCells_at P g o t cs 0 cur w hg (by simpa using hfit) h1
  rw [hn] at hl
  cases hq : P.info? elem with
  | none => simp [hq] at hs
  | some i =>
    have hi : i.size = sz := by simpa [hq] using hs
    simp only [Builtin.copy_, Builtin.lenOf, Builtin.firstCells, sizeOf, typeInfo]
    simp [run_underlying hu, hq, hi, hl, hst, splice]

theorem wp_copyN {w : World} {o : Oper} {a : Act} {K : Act → World → Prop} {Q : Exit → Act → World → Prop} (d s : Operand) (dT sT : TypeId)
    (ho : o.op = .call { callee := .builtin .copy, args := #[d, s], argTypes := #[dT, sT] }) (elem : TypeId) (sz : Nat) (hu : P.underlying dT = some (.slice elem)) (hsz : (P.info? elem).map (·.size) = some sz)
    (g off dLen dCap : Nat) (ad : Addr) (sLen sCap : Nat) (hd : a.eval d = .slice (some ⟨g, off, none⟩) dLen dCap) (hs : a.eval s = .slice (some ad) sLen sCap)
    (cur : Array Value) (t : TypeId) (hg : Blk w g t cur) (cs : List Value) (hn : cs.length = Nat.min sLen dLen * sz)
    (hsrc : ∀ j v, cs[j]? = some v → w.cell? (ad.add j) = some v) (hfit : off + cs.length ≤ cur.size) (h1 : ∀ v ∈ cs, v.oneCell' = true)
    (h : ∀ w', Blk w' g t (splice cur.toList off cs).toArray → w.grownBy w' (some g) → w.drawn ≤ w'.drawn → K (a.put o.dst (goInt (Nat.min sLen dLen))) w') : o.wp P a w K Q := by
  have hrun := run_copyN (P := P) w dT sT o.type elem sz g off dLen dCap ad sLen sCap cur t cs hu hsz hg hn hsrc hfit h1
  unfold Oper.wp
  simp [execOp, ho, resolve, invoke, builtin, hd, hs, hrun, Result.andThen]
  refine h _ ?_ ⟨rfl, rfl, rfl, by simp [World.setRow], fun k hk hne => setRow_other w g k _ (fun e => hne (by rw [e]))⟩ (Nat.le_refl _)
  exact setRow_heap w g _ _ t _ hg
theorem wpList_copyN {w : World} {ops : Array Oper} {rest : List Oper} {o : Oper} {a : Act} {Q : Exit → Act → World → Prop} (hgd : o.guard = none) (d s : Operand) (dT sT : TypeId)
    (ho : o.op = .call { callee := .builtin .copy, args := #[d, s], argTypes := #[dT, sT] }) (elem : TypeId) (sz : Nat) (hu : P.underlying dT = some (.slice elem)) (hsz : (P.info? elem).map (·.size) = some sz)
    (g off dLen dCap : Nat) (ad : Addr) (sLen sCap : Nat) (hd : a.eval d = .slice (some ⟨g, off, none⟩) dLen dCap) (hs : a.eval s = .slice (some ad) sLen sCap)
    (cur : Array Value) (t : TypeId) (hg : Blk w g t cur) (cs : List Value) (hn : cs.length = Nat.min sLen dLen * sz)
    (hsrc : ∀ j v, cs[j]? = some v → w.cell? (ad.add j) = some v) (hfit : off + cs.length ≤ cur.size) (h1 : ∀ v ∈ cs, v.oneCell' = true)
    (h : ∀ w', Blk w' g t (splice cur.toList off cs).toArray → w.grownBy w' (some g) → w.drawn ≤ w'.drawn → wpList P ops Q rest (a.put o.dst (goInt (Nat.min sLen dLen))) w') : wpList P ops Q (o :: rest) a w :=
  wpList_plain hgd fun _ hK => wp_copyN d s dT sT ho elem sz hu hsz g off dLen dCap ad sLen sCap hd hs cur t hg cs hn hsrc hfit h1 fun w' hb hw hd => hK _ _ (h w' hb hw hd)
theorem ownsRow_zero {w : World} {base : Nat} {e : TypeId} {size : Nat} {v : Value} {n : Nat} {xs : List Value} (h : w.ownsRow base e size v n xs) : w.ownsRow 0 e size v n xs := by
  refine ⟨h.1, ?_⟩
  rcases h.2 with q | ⟨g, cap, cur, hv, hg, r⟩
  · exact .inl q
  · exact .inr ⟨g, cap, cur, hv, Nat.zero_le _, r⟩
/-- an append onto a row of our own; the draws only grow -/
theorem wpList_appD (w : World) {ops : Array Oper} {rest : List Oper} {o : Oper} {a : Act} {Q : Exit → Act → World → Prop} (hgd : o.guard = none) (s x : Operand) (t : TypeId)
    (ho : o.op = .call { callee := .builtin .append, args := #[s, x], argTypes := #[t, t] })
    (base : Nat) (e : TypeId) (i : TypeInfo) (z : Value) (size bytes : Nat) (ht : P.underlying t = some (.slice e)) (hi : P.info? e = some i) (hz : i.zero = some z)
    (hsize : i.size = size) (hby : i.bytes = bytes) (hzs : z.cells.size = size) (hsz : 0 < size)
    (v : Value) (n : Nat) (xs : List Value) (hs : a.eval s = v) (hown : w.ownsRow base e size v n xs)
    (ad : Addr) (m c : Nat) (news : List Value) (hx : a.eval x = .slice (some ad) m c) (hl : news.length = m * size) (hnews : ∀ j u, news[j]? = some u → w.cell? (ad.add j) = some u) (h1 : ∀ u ∈ news, u.oneCell' = true)
    (h63 : n + m ≤ maxLen) (hbytes : (n + m) * bytes ≤ 140737488355328) (hbase : base ≤ w.heap.size)
    (h : ∀ v' w', w'.ownsRow base e size v' (n + m) (xs ++ news) → w.grownBy w' v.ownBlock → w.drawn ≤ w'.drawn → (v'.ownBlock = v.ownBlock ∨ v'.ownBlock = some w.heap.size) → wpList P ops Q rest (a.put o.dst v') w') :
    wpList P ops Q (o :: rest) a w := by
  refine wpList_plain hgd fun K hK => ?_
  obtain ⟨v', w', hr, h2, h3, h4, h5⟩ := run_append_own_at (P := P) w base t o.type e i z size bytes ht hi hz hsize hby hzs hsz v n xs hown ad m c news hl hnews h1 h63 hbytes hbase
  subst hsize hby
  have hd := app_own_drawn w t o.type e i z ht hi hz hsz (ownsRow_zero hown) ad m c news hl hnews h1 h63 hbytes hr
  rw [← hs, ← hx] at hr
  exact wp_value (run_app ho rfl rfl rfl hr) (hK _ _ (h v' w' h2 h3 hd h5))
theorem step_copyN {w : World} {ops : Array Oper} {o : Oper} {a : Act} {K : Act → World → Prop} {Q : Exit → Act → World → Prop} {E : Prop} (hgd : o.guard = none) (d s : Operand) (dT sT : TypeId)
    (ho : o.op = .call { callee := .builtin .copy, args := #[d, s], argTypes := #[dT, sT] }) (elem : TypeId) (sz : Nat) (hu : P.underlying dT = some (.slice elem)) (hsz : (P.info? elem).map (·.size) = some sz)
    (g off dLen dCap : Nat) (ad : Addr) (sLen sCap : Nat) (hd : a.eval d = .slice (some ⟨g, off, none⟩) dLen dCap) (hs : a.eval s = .slice (some ad) sLen sCap)
    (cur : Array Value) (t : TypeId) (hg : Blk w g t cur) (cs : List Value) (hn : cs.length = Nat.min sLen dLen * sz)
    (hsrc : ∀ j v, cs[j]? = some v → w.cell? (ad.add j) = some v) (hfit : off + cs.length ≤ cur.size) (h1 : ∀ v ∈ cs, v.oneCell' = true)
    (h : ∀ w', Blk w' g t (splice cur.toList off cs).toArray → w.grownBy w' (some g) → w.drawn ≤ w'.drawn → K (a.put o.dst (goInt (Nat.min sLen dLen))) w') :
    if Region.wanted o (yielded ops a.tmps) = true then Oper.wp P o a w K Q else E := by
  have hw : Region.wanted o (yielded ops a.tmps) = true := by simp [Region.wanted, hgd]
  rw [if_pos hw]
  exact wp_copyN d s dT sT ho elem sz hu hsz g off dLen dCap ad sLen sCap hd hs cur t hg cs hn hsrc hfit h1 h
end

theorem cell_lt {w : World} {a : Addr} {v : Value} (h : w.cell? a = some v) : a.block < w.heap.size := World.block_lt_of_cell? w _ h
theorem own_form {w : World} {base : Nat} {e : TypeId} {size : Nat} {v : Value} {n : Nat} {xs : List Value} (h : w.ownsRow base e size v n xs) : ∃ A c, v = .slice A n c := by
  rcases h.2 with ⟨rfl, rfl⟩ | ⟨g, cap, cur, rfl, _⟩
  · exact ⟨_, _, rfl⟩
  · exact ⟨_, _, rfl⟩
theorem own_base {w : World} {base : Nat} {e : TypeId} {size : Nat} {v : Value} {n : Nat} {xs : List Value} (h : w.ownsRow base e size v n xs) : ∀ k, v.ownBlock = some k → base ≤ k := fun k hk => (h.lt k hk).1
theorem Blk.cells_ {w : World} {g : Nat} {t : TypeId} {cs : List Value} (h : Blk w g t cs.toArray) : ∀ j u, cs[j]? = some u → w.cell? ((⟨g, 0, none⟩ : Addr).add j) = some u := fun j u hu => by
  have : (⟨g, 0, none⟩ : Addr).add j = ⟨g, j, none⟩ := by unfold Addr.add; split <;> simp_all
  rw [this, h.cell]
  simpa using hu
theorem blk_drop {w : World} {g : Nat} {t : TypeId} {cur : Array Value} {n : Nat} {xs : List Value} (h : Blk w g t cur) (hx : cur.toList.take n = xs) (p : Nat) :
    ∀ j v, (xs.drop p)[j]? = some v → w.cell? ((⟨g, p, none⟩ : Addr).add j) = some v := fun j v hj => by
  have e : (⟨g, p, none⟩ : Addr).add j = ⟨g, p + j, none⟩ := by unfold Addr.add; split <;> simp_all
  rw [e, h.cell]
  rw [List.getElem?_drop, ← hx] at hj
  have hlt : p + j < n := by
    have := (List.getElem?_eq_some_iff.1 hj).1
    rw [List.length_take] at this; omega
  rw [List.getElem?_take_of_lt hlt] at hj
  simpa using hj
def LB (A : Option Addr) (b : Nat) : Prop := ∃ a, A = some a ∧ a.block = b
theorem lb_of {A : Option Addr} {n c k : Nat} (h : (Value.slice A n c).ownBlock = some k) : LB A k := by
  cases A with
  | none => cases h
  | some a => exact ⟨a, rfl, by simpa [Value.ownBlock] using h⟩
theorem inl_own {w a : World} {base : Nat} {e : TypeId} {size : Nat} {v : Value} {n : Nat} {xs : List Value} {L : Nat → Prop} (h : w.ownsRow base e size v n xs) (hL : ∀ k, v.ownBlock = some k → L k) : ∀ k, v.ownBlock = some k → L k ∨ a.heap.size ≤ k := fun k hk => .inl (hL k hk)
theorem Fr.drew {L : Nat → Prop} {a w : World} (h : Fr L a w) : Fr L a w.drew := ⟨h.os, h.tape, h.output, h.size, h.block, Nat.le_succ_of_le h.drawn⟩
theorem Fr.alloc {L : Nat → Prop} {a w : World} (h : Fr L a w) (o : Obj) : Fr L a (w.alloc o) := h.grown (World.grownBy_alloc w o none) (by simp) (Nat.le_refl _)
theorem blk_at {w : World} {g : Nat} {t : TypeId} {cur : Array Value} {n : Nat} {xs : List Value} (h : Blk w g t cur) (hx : cur.toList.take n = xs) : ∀ j v, xs[j]? = some v → w.cell? ((⟨g, 0, none⟩ : Addr).add j) = some v := fun j v hj => blk_drop h hx 0 j v (by rwa [List.drop_zero])
/-- the two ways in which a value comes in between -/
theorem splice_room {α : Type} (cur xs vs : List α) (p n : Nat) (hx : cur.take n = xs) (hn : n ≤ cur.length) (hp : p ≤ n) (hr : n + vs.length ≤ cur.length) :
    (splice (splice cur (p + vs.length) (xs.drop p)) p vs).take (n + vs.length) = xs.take p ++ vs ++ xs.drop p := by
  have hxl : xs.length = n := by rw [← hx, List.length_take]; omega
  have e0 : cur.take p = xs.take p := by rw [← hx, List.take_take, Nat.min_eq_left hp]
  unfold splice
  have hA : ((cur.take (p + vs.length) ++ (xs.drop p ++ cur.drop (p + vs.length + (xs.drop p).length))).take p) = xs.take p := by
    rw [List.take_append_of_le_length (by rw [List.length_take]; omega), List.take_take, Nat.min_eq_left (by omega), e0]
  have hB : ((cur.take (p + vs.length) ++ (xs.drop p ++ cur.drop (p + vs.length + (xs.drop p).length))).drop (p + vs.length)) = xs.drop p ++ cur.drop (p + vs.length + (xs.drop p).length) := by
    have hlen : (cur.take (p + vs.length)).length = p + vs.length := by rw [List.length_take]; omega
    conv => lhs; arg 1; rw [← hlen]
    rw [List.drop_left]
  rw [hA, hB, ← List.append_assoc, ← List.append_assoc]
  rw [List.take_append_of_le_length (by simp; omega)]
  exact List.take_of_length_le (by simp; omega)
theorem splice_new {α : Type} (Z xs vs : List α) (p n : Nat) (hz : Z.take p = xs.take p) (hxl : xs.length = n) (hp : p ≤ n) (hr : n + vs.length ≤ Z.length) :
    (splice (splice Z p vs) (p + vs.length) (xs.drop p)).take (n + vs.length) = xs.take p ++ vs ++ xs.drop p := by
  unfold splice
  have hpl : p ≤ Z.length := by omega
  have hA : ((Z.take p ++ (vs ++ Z.drop (p + vs.length))).take (p + vs.length)) = xs.take p ++ vs := by
    rw [← List.append_assoc, List.take_append_of_le_length (by simp; omega), hz]
    exact List.take_of_length_le (by simp; omega)
  rw [hA, ← List.append_assoc, List.take_append_of_le_length (by simp; omega)]
  exact List.take_of_length_le (by simp; omega)
end Go.Proofs.Ytdaffjjconlmoaa
