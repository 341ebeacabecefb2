/- Texts of this claim, joined. -/
import Derived.WalkKit
import Derived.Test.YtkclokmfomnbgaaGreatProg
import Derived.Test.YtkclokmfomnbgaaGreatWAbsQ
import Derived.KernelRfl
import Derived.Test.YtkclokmfomnbgaaGreatRows
import Derived.ProofKit
import Derived.OpenShut
import Derived.Below
import Derived.ChangeSame
import Derived.Test.YtkclokmfomnbgaaGreatWAbsG
import Derived.Deep.Slices
import Derived.Deep.Fields
import Derived.Lib.SmallJoins
import Derived.WalkSmall
import Derived.WalkLawsBesides
import Derived.BigGuardPart
import Derived.Deep.Light
import Derived.Laws.IdiomStrings
import Derived.SizedLaws
set_option linter.unusedSimpArgs false
namespace Go.Proofs.YtkclokmfomnbgaaGreat.Pl
set_option linter.unusedVariables false
theorem bl_irrefl : ∀ x : List UInt8, Op.bytesLess x x = false
 | [] => rfl
 | a :: x => by simp [Op.bytesLess, bl_irrefl x, UInt8.lt_irrefl]
theorem bl_trans : ∀ {x y z : List UInt8}, Op.bytesLess x y = true → Op.bytesLess y z = true → Op.bytesLess x z = true
 | [], _ :: _, [], _, h => by simp [Op.bytesLess] at h
 | _, [], _, h, _ => by cases ‹List UInt8› <;> simp [Op.bytesLess] at h
 | [], b :: y, c :: z, _, _ => rfl
 | a :: x, b :: y, [], _, h => by simp [Op.bytesLess] at h
 | a :: x, b :: y, c :: z, h1, h2 => by
  simp only [Op.bytesLess, Bool.or_eq_true, decide_eq_true_eq, Bool.and_eq_true, beq_iff_eq] at h1 h2 ⊢
  rcases h1 with h1 | ⟨rfl, h1⟩
  ·rcases h2 with h2 | ⟨rfl, h2⟩
   ·exact .inl (UInt8.lt_trans h1 h2)
   ·exact .inl h1
  ·rcases h2 with h2 | ⟨rfl, h2⟩
   ·exact .inl h2
   ·exact .inr ⟨rfl, bl_trans h1 h2⟩
theorem bl_tri : ∀ {x y : List UInt8}, Op.bytesLess x y = false → Op.bytesLess y x = false → x = y
 | [], [], _, _ => rfl
 | [], b :: y, h, _ => by simp [Op.bytesLess] at h
 | a :: x, [], _, h => by simp [Op.bytesLess] at h
 | a :: x, b :: y, h1, h2 => by
  simp only [Op.bytesLess, Bool.or_eq_false_iff, decide_eq_false_iff_not, Bool.and_eq_false_iff] at h1 h2
  have hab : a = b := by
   have g1 : ¬ a.toNat < b.toNat := h1.1
   have g2 : ¬ b.toNat < a.toNat := h2.1
   exact UInt8.toNat_inj.1 (by omega)
  subst hab
  have e1 : Op.bytesLess x y = false := by rcases h1.2 with h | h <;> simp_all
  have e2 : Op.bytesLess y x = false := by rcases h2.2 with h | h <;> simp_all
  rw [bl_tri e1 e2]
def slt (a b : ByteArray) : Bool := Op.bytesLess a.toList b.toList
theorem toList_inj {a b : ByteArray} (h : a.toList = b.toList) : a = b := by
 rw [ByteArray.toList_eq, ByteArray.toList_eq] at h
 cases a; cases b
 congr
 exact Array.toList_inj.1 h
theorem slt_irrefl (a : ByteArray) : slt a a = false := bl_irrefl _
theorem slt_trans {a b c : ByteArray} (h1 : slt a b = true) (h2 : slt b c = true) : slt a c = true := bl_trans h1 h2
theorem slt_tri {a b : ByteArray} (h1 : slt a b = false) (h2 : slt b a = false) : a = b := toList_inj (bl_tri h1 h2)
theorem slt_asymm {a b : ByteArray} (h1 : slt a b = true) : slt b a = false := by
 rcases Bool.eq_false_or_eq_true (slt b a) with h | h
 ·have := slt_trans h1 h; rw [slt_irrefl] at this; cases this
 ·exact h
theorem seq_iff {a b : ByteArray} : (a.toList == b.toList) = true ↔ a = b := by
 rw [beq_iff_eq]; exact ⟨toList_inj, fun h => by rw [h]⟩
theorem seq_no {a b : ByteArray} (h : a ≠ b) : (a.toList == b.toList) = false := by
 rcases Bool.eq_false_or_eq_true (a.toList == b.toList) with g | g
 ·exact absurd (seq_iff.1 g) h
 ·exact g
theorem sle_eq (a b : ByteArray) : (Op.bytesLess a.toList b.toList || a.toList == b.toList) = !(slt b a) := by
 rcases Bool.eq_false_or_eq_true (slt b a) with h | h
 ·rw [h]
  have h1 := slt_asymm h
  unfold slt at h1
  rw [h1, seq_no (fun e => by subst e; rw [slt_irrefl] at h; cases h)]
  rfl
 ·rw [h]
  rcases Bool.eq_false_or_eq_true (slt a b) with g | g
  ·unfold slt at g; rw [g]; rfl
  ·have := slt_tri g h
   subst this
   simp
end Go.Proofs.YtkclokmfomnbgaaGreat.Pl
namespace Go.Proofs.YtkclokmfomnbgaaGreat.Pl
set_option linter.unusedVariables false
def scmp (a b : ByteArray) : Int := if slt a b then -1 else if slt b a then 1 else 0
theorem scmp_lt {a b : ByteArray} (h : slt a b = true) : scmp a b = -1 := by simp [scmp, h]
theorem scmp_gt {a b : ByteArray} (h : slt b a = true) : scmp a b = 1 := by simp [scmp, slt_asymm h, h]
theorem scmp_eq (a : ByteArray) : scmp a a = 0 := by simp [scmp, slt_irrefl]
theorem scmp_neg {a b : ByteArray} : scmp a b < 0 ↔ slt a b = true := by
 unfold scmp
 split
 ·simp_all
 ·split <;> simp_all
theorem scmp_zero {a b : ByteArray} : scmp a b = 0 ↔ a = b := by
 unfold scmp
 split
 ·rename_i h
  exact ⟨fun e => by omega, fun e => by subst e; rw [slt_irrefl] at h; cases h⟩
 ·split
  ·rename_i h
   exact ⟨fun e => by omega, fun e => by subst e; rw [slt_irrefl] at h; cases h⟩
  ·rename_i h1 h2
   exact ⟨fun _ => slt_tri (by simpa using h1) (by simpa using h2), fun _ => rfl⟩
section
variable {α : Type} {cf : α → Int} {l : List α}
def low (cf : α → Int) : List α → Nat
 | [] => 0
 | x :: r => if cf x < 0 then low cf r + 1 else 0
def Mono (cf : α → Int) (l : List α) : Prop := ∀ i j, (hi : i < l.length) → (hj : j < l.length) → i ≤ j → cf l[j] < 0 → cf l[i] < 0
theorem low_le : ∀ l : List α, low cf l ≤ l.length
 | [] => Nat.le_refl _
 | x :: r => by simp only [low, List.length_cons]; split <;> have := low_le r <;> omega
theorem low_lt : ∀ {l : List α} {i : Nat} (hi : i < l.length), i < low cf l → cf l[i] < 0
 | x :: r, 0, _, h => by
  simp only [low] at h
  split at h
  ·assumption
  ·omega
 | x :: r, i + 1, hi, h => by
  simp only [low] at h
  split at h
  ·exact low_lt (l := r) (by simpa using hi) (by omega)
  ·omega
theorem low_ge : ∀ {l : List α} (h : low cf l < l.length), 0 ≤ cf l[low cf l]
 | [], h => by simp at h
 | x :: r, h => by
  by_cases hx : cf x < 0
  ·have e : low cf (x :: r) = low cf r + 1 := by simp [low, hx]
   have h' : low cf r < r.length := by rw [e] at h; simpa using h
   have := low_ge h'
   simp only [e, List.getElem_cons_succ]
   exact this
  ·have e : low cf (x :: r) = 0 := by simp [low, hx]
   simp only [e, List.getElem_cons_zero]
   omega
theorem low_uniq {a : Nat} (ha : a ≤ l.length) (h1 : ∀ i, (hi : i < l.length) → i < a → cf l[i] < 0) (h2 : ∀ i, (hi : i < l.length) → a ≤ i → 0 ≤ cf l[i]) : a = low cf l := by
 have hl := low_le (cf := cf) l
 rcases Nat.lt_trichotomy a (low cf l) with h | h | h
 ·have := low_lt (cf := cf) (l := l) (i := a) (by omega) h
  have := h2 a (by omega) (Nat.le_refl _)
  omega
 ·exact h
 ·have := low_ge (cf := cf) (l := l) (by omega)
  have := h1 (low cf l) (by omega) h
  omega
def hit (cf : α → Int) (l : List α) : Bool := match l[low cf l]? with
 | some x => decide (cf x = 0)
 | none => false
theorem hit_in (h : low cf l < l.length) : hit cf l = decide (cf l[low cf l] = 0) := by simp [hit, h]
theorem hit_out (h : ¬ low cf l < l.length) : hit cf l = false := by
 have : l[low cf l]? = none := List.getElem?_eq_none (by omega)
 simp [hit, this]
end
end Go.Proofs.YtkclokmfomnbgaaGreat.Pl
namespace Go.Proofs.YtkclokmfomnbgaaGreat.Pl
set_option linter.unusedVariables false
section
variable {α : Type}
def firstErr (e : α → Int) : List α → Int
 | [] => 0
 | x :: r => if e x = 0 then firstErr e r else e x
def sorted (lt : α → α → Bool) : List α → Bool
 | [] => true
 | [_] => true
 | x :: y :: r => lt x y && sorted lt (y :: r)
def ckL (mx : Nat) (e : α → Int) (lt : α → α → Bool) (l : List α) : Int :=
 if mx < l.length then 2 else if firstErr e l = 0 then (if sorted lt l then 0 else 4) else firstErr e l
theorem firstErr_zero {e : α → Int} : ∀ {l : List α}, (∀ i, (h : i < l.length) → e l[i] = 0) → firstErr e l = 0
 | [], _ => rfl
 | x :: r, h => by
  have h0 : e x = 0 := h 0 (by simp)
  simp only [firstErr, h0, if_true]
  exact firstErr_zero fun i hi => h (i + 1) (by simpa using hi)
theorem firstErr_at {e : α → Int} : ∀ {l : List α} {k : Nat} (hk : k < l.length), (∀ i, (h : i < l.length) → i < k → e l[i] = 0) → e l[k] ≠ 0 → firstErr e l = e l[k]
 | x :: r, 0, _, _, hne => by
  simp only [List.getElem_cons_zero] at hne ⊢
  simp [firstErr, hne]
 | x :: r, k + 1, hk, h, hne => by
  have h0 : e x = 0 := h 0 (by simp) (by omega)
  simp only [firstErr, h0, if_true, List.getElem_cons_succ] at hne ⊢
  exact firstErr_at (by simpa using hk) (fun i hi hik => h (i + 1) (by simpa using hi) (by omega)) hne
theorem sorted_of {lt : α → α → Bool} : ∀ {l : List α}, (∀ i, (h : i + 1 < l.length) → lt l[i] l[i + 1] = true) → sorted lt l = true
 | [], _ => rfl
 | [_], _ => rfl
 | x :: y :: r, h => by
  simp only [sorted, Bool.and_eq_true_iff]
  exact ⟨h 0 (by simp), sorted_of fun i hi => h (i + 1) (by simpa using hi)⟩
theorem sorted_not {lt : α → α → Bool} : ∀ {l : List α} {k : Nat} (hk : k + 1 < l.length), lt l[k] l[k + 1] = false → sorted lt l = false
 | [_], k, hk, _ => by simp at hk
 | x :: y :: r, 0, _, h => by
  simp only [List.getElem_cons_zero, List.getElem_cons_succ] at h
  simp [sorted, h]
 | x :: y :: r, k + 1, hk, h => by
  have : sorted lt (y :: r) = false := sorted_not (k := k) (by simpa using hk) (by simpa using h)
  simp [sorted, this]
theorem sorted_get {lt : α → α → Bool} : ∀ {l : List α}, sorted lt l = true → ∀ i, (h : i + 1 < l.length) → lt l[i] l[i + 1] = true
 | [], _, i, h => by simp at h
 | [_], _, i, h => by simp at h
 | x :: y :: r, hs, 0, _ => by
  simp only [sorted, Bool.and_eq_true_iff] at hs
  exact hs.1
 | x :: y :: r, hs, i + 1, h => by
  simp only [sorted, Bool.and_eq_true_iff] at hs
  exact sorted_get hs.2 i (by simpa using h)
theorem firstErr_get {e : α → Int} : ∀ {l : List α}, firstErr e l = 0 → ∀ i, (h : i < l.length) → e l[i] = 0
 | [], _, i, h => by simp at h
 | x :: r, hs, i, h => by
  by_cases h0 : e x = 0
  ·simp only [firstErr, h0, if_true] at hs
   cases i with
   | zero => exact h0
   | succ i => exact firstErr_get hs i (by simpa using h)
  ·simp [firstErr, h0] at hs
variable {mx : Nat} {e : α → Int} {lt : α → α → Bool} {l : List α}
theorem ckL_long (h : mx < l.length) : ckL mx e lt l = 2 := by simp [ckL, h]
theorem ckL_ok (h : l.length ≤ mx) (h0 : ∀ i, (hi : i < l.length) → e l[i] = 0) (h1 : ∀ i, (hi : i + 1 < l.length) → lt l[i] l[i + 1] = true) : ckL mx e lt l = 0 := by
 unfold ckL
 rw [if_neg (by omega), if_pos (firstErr_zero h0), sorted_of h1]
 rfl
theorem ckL_inv (he : ∀ x, e x = 0 ∨ e x = 1 ∨ e x = 3 ∨ e x = 7) (h : ckL mx e lt l = 0) : l.length ≤ mx ∧ (∀ i, (hi : i < l.length) → e l[i] = 0) ∧ sorted lt l = true := by
 unfold ckL at h
 split at h
 ·omega
 ·split at h
  ·rename_i h1 h2
   split at h
   ·rename_i h3
    exact ⟨by omega, firstErr_get h2, h3⟩
   ·omega
  ·rename_i h1 h2
   exact absurd h h2
end
end Go.Proofs.YtkclokmfomnbgaaGreat.Pl
namespace Go.Proofs.YtkclokmfomnbgaaGreat.Pl
set_option linter.unusedVariables false
section
variable {α : Type}
def at_ (p : α → Bool) (l : List α) : Int := match l.findIdx? p with
 | some i => (i : Int)
 | none => -1
theorem at_yes {p : α → Bool} {l : List α} {k : Nat} (hk : k < l.length) (h0 : ∀ i, (h : i < l.length) → i < k → p l[i] = false) (h1 : p l[k] = true) : at_ p l = k := by
 have : l.findIdx? p = some k := by
  rw [List.findIdx?_eq_some_iff_getElem]
  exact ⟨hk, h1, fun j hj => by simp [h0 j (by omega) hj]⟩
 simp [at_, this]
theorem at_no {p : α → Bool} {l : List α} (h0 : ∀ i, (h : i < l.length) → p l[i] = false) : at_ p l = -1 := by
 have : l.findIdx? p = none := by
  rw [List.findIdx?_eq_none_iff]
  intro x hx
  obtain ⟨i, hi, rfl⟩ := List.getElem_of_mem hx
  exact h0 i hi
 simp [at_, this]
theorem at_inv {p : α → Bool} {l : List α} : (at_ p l = -1 ∧ ∀ i, (h : i < l.length) → p l[i] = false) ∨ ∃ k, ∃ hk : k < l.length, at_ p l = (k : Int) ∧ p l[k] = true ∧ ∀ i, (h : i < l.length) → i < k → p l[i] = false := by
 cases h : l.findIdx? p with
 | none =>
  left
  refine ⟨by simp [at_, h], fun i hi => ?_⟩
  rw [List.findIdx?_eq_none_iff] at h
  exact h _ (List.getElem_mem hi)
 | some k =>
  right
  rw [List.findIdx?_eq_some_iff_getElem] at h
  obtain ⟨hk, h1, h2⟩ := h
  refine ⟨k, hk, ?_, h1, fun i hi hik => by simpa using h2 i hik⟩
  have : l.findIdx? p = some k := by
   rw [List.findIdx?_eq_some_iff_getElem]
   exact ⟨hk, h1, h2⟩
  simp [at_, this]
def putStep (ge ne : α → Bool) (g : α) (st : List α × Bool) (x : α) : List α × Bool :=
 if (!st.2 && ge x) = true then (if ne x = true then (st.1 ++ [g] ++ [x], true) else (st.1 ++ [g], true))
 else (if ne x = true then (st.1 ++ [x], st.2) else st)
def putTo (ge ne : α → Bool) (g : α) (l : List α) : List α × Bool := l.foldl (putStep ge ne g) ([], false)
def putL (ge ne : α → Bool) (g : α) (l : List α) : List α := if (putTo ge ne g l).2 = true then (putTo ge ne g l).1 else (putTo ge ne g l).1 ++ [g]
theorem putTo_snoc {ge ne : α → Bool} {g : α} (l : List α) (x : α) : putTo ge ne g (l ++ [x]) = putStep ge ne g (putTo ge ne g l) x := by
 simp [putTo, List.foldl_append]
theorem take_snoc_ {l : List α} {k : Nat} (hk : k < l.length) : l.take (k + 1) = l.take k ++ [l[k]] := by
 rw [List.take_succ_eq_append_getElem hk]
theorem putTo_next {ge ne : α → Bool} {g : α} {l : List α} {k : Nat} (hk : k < l.length) : putTo ge ne g (l.take (k + 1)) = putStep ge ne g (putTo ge ne g (l.take k)) l[k] := by
 rw [take_snoc_ hk, putTo_snoc]
theorem putStep_len {ge ne : α → Bool} {g : α} (st : List α × Bool) (x : α) : (putStep ge ne g st x).1.length ≤ st.1.length + 2 := by
 unfold putStep
 split <;> split <;> simp
theorem putTo_len {ge ne : α → Bool} {g : α} : ∀ (n : Nat) (l : List α), l.length = n → (putTo ge ne g l).1.length ≤ 2 * n := by
 intro n
 induction n with
 | zero => intro l h; obtain rfl := List.eq_nil_of_length_eq_zero h; simp [putTo]
 | succ n ih =>
  intro l h
  have hk : n < l.length := by omega
  have e : l = l.take (n + 1) := (List.take_of_length_le (by omega)).symm
  rw [e, putTo_next hk]
  have h1 := ih (l.take n) (by rw [List.length_take]; omega)
  have h2 := putStep_len (ge := ge) (ne := ne) (g := g) (putTo ge ne g (l.take n)) l[n]
  omega
theorem putTo_ahead {ge ne : α → Bool} {g : α} {l : List α} (h1 : ∀ x ∈ l, ge x = false) (h2 : ∀ x ∈ l, ne x = true) : ∀ (k : Nat), k ≤ l.length → putTo ge ne g (l.take k) = (l.take k, false) := by
 intro k
 induction k with
 | zero => intro _; simp [putTo]
 | succ k ih =>
  intro hk
  have hk' : k < l.length := hk
  rw [putTo_next hk', ih (by omega), take_snoc_ hk']
  simp [putStep, h1 _ (List.getElem_mem hk'), h2 _ (List.getElem_mem hk')]
theorem putTo_behind {ge ne : α → Bool} {g : α} {pre : List α} {out : List α} (hp : putTo ge ne g pre = (out, true)) {r : List α} (h2 : ∀ x ∈ r, ne x = true) : ∀ (k : Nat), k ≤ r.length → putTo ge ne g (pre ++ r.take k) = (out ++ r.take k, true) := by
 intro k
 induction k with
 | zero => intro _; simp [hp]
 | succ k ih =>
  intro hk
  have hk' : k < r.length := hk
  rw [take_snoc_ hk', ← List.append_assoc, putTo_snoc, ih (by omega)]
  simp [putStep, h2 _ (List.getElem_mem hk')]
theorem putL_new {ge ne : α → Bool} {g : α} {pre r : List α} (h1 : ∀ x ∈ pre, ge x = false) (h2 : ∀ x ∈ pre, ne x = true) (h3 : ∀ x ∈ r, ge x = true) (h4 : ∀ x ∈ r, ne x = true) :
  putL ge ne g (pre ++ r) = pre ++ [g] ++ r := by
 have hp : putTo ge ne g pre = (pre, false) := by simpa using putTo_ahead h1 h2 pre.length (Nat.le_refl _)
 cases r with
 | nil => simp [putL, hp]
 | cons x r =>
  have hx : putTo ge ne g (pre ++ [x]) = (pre ++ [g] ++ [x], true) := by
   rw [putTo_snoc, hp]
   simp [putStep, h3 x (by simp), h4 x (by simp)]
  have := putTo_behind hx (r := r) (fun y hy => h4 y (by simp [hy])) r.length (Nat.le_refl _)
  rw [List.take_length] at this
  have e : pre ++ x :: r = pre ++ [x] ++ r := by simp
  rw [e]
  unfold putL
  rw [this]
  simp
theorem putL_set {ge ne : α → Bool} {g x : α} {pre r : List α} (h1 : ∀ x ∈ pre, ge x = false) (h2 : ∀ x ∈ pre, ne x = true) (hx : ge x = true) (hx' : ne x = false) (h4 : ∀ x ∈ r, ne x = true) :
  putL ge ne g (pre ++ x :: r) = pre ++ g :: r := by
 have hp : putTo ge ne g pre = (pre, false) := by simpa using putTo_ahead h1 h2 pre.length (Nat.le_refl _)
 have hx2 : putTo ge ne g (pre ++ [x]) = (pre ++ [g], true) := by
  rw [putTo_snoc, hp]
  simp [putStep, hx, hx']
 have := putTo_behind hx2 (r := r) h4 r.length (Nat.le_refl _)
 rw [List.take_length] at this
 have e : pre ++ x :: r = pre ++ [x] ++ r := by simp
 rw [e]
 unfold putL
 rw [this]
 simp
end
end Go.Proofs.YtkclokmfomnbgaaGreat.Pl
namespace Go.Proofs.YtkclokmfomnbgaaGreat.Pl
set_option linter.unusedVariables false
section
variable {α : Type} {lt : α → α → Bool} {cf : α → Int} {l : List α}
theorem sorted_pair (htr : ∀ x y z, lt x y = true → lt y z = true → lt x z = true) (hs : sorted lt l = true) : ∀ j i, (hj : j < l.length) → (hij : i < j) → lt (l[i]'(by omega)) l[j] = true := by
 intro j
 induction j with
 | zero => intro i _ h; omega
 | succ j ih =>
  intro i hj hij
  have h1 := sorted_get hs j hj
  rcases (by omega : i < j ∨ i = j) with g | rfl
  ·exact htr _ _ _ (ih i (by omega) g) h1
  ·exact h1
def SMono (cf : α → Int) (l : List α) : Prop := ∀ i j, (hj : j < l.length) → (hij : i < j) → cf l[j] ≤ 0 → cf (l[i]'(by omega)) < 0
theorem smono_of (htr : ∀ x y z, lt x y = true → lt y z = true → lt x z = true) (hcf : ∀ x y, lt x y = true → cf y ≤ 0 → cf x < 0) (hs : sorted lt l = true) : SMono cf l :=
 fun i j hj hij h => hcf _ _ (sorted_pair htr hs j i hj hij) h
theorem SMono.mono (h : SMono cf l) : Mono cf l := fun i j hi hj hij hc => by
 rcases (by omega : i < j ∨ i = j) with g | rfl
 ·exact h i j hj g (by omega)
 ·exact hc
theorem hit_lt (h : hit cf l = true) : low cf l < l.length := by
 rcases Nat.lt_or_ge (low cf l) l.length with g | g
 ·exact g
 ·rw [hit_out (by omega)] at h; cases h
theorem hit_zero (h : hit cf l = true) : cf (l[low cf l]'(hit_lt h)) = 0 := by
 have := hit_in (hit_lt h)
 rw [this] at h
 simpa using h
theorem low_ahead {x : α} (hx : x ∈ l.take (low cf l)) : cf x < 0 := by
 obtain ⟨i, hi, rfl⟩ := List.getElem_of_mem hx
 rw [List.length_take] at hi
 rw [List.getElem_take]
 exact low_lt (by omega) (by omega)
theorem low_behind (hm : SMono cf l) (h : hit cf l = false) {x : α} (hx : x ∈ l.drop (low cf l)) : 0 < cf x := by
 obtain ⟨i, hi, rfl⟩ := List.getElem_of_mem hx
 rw [List.length_drop] at hi
 rw [List.getElem_drop]
 have hlo : low cf l < l.length := by omega
 have h0 := low_ge hlo
 have h1 : cf l[low cf l] ≠ 0 := by
  rw [hit_in hlo] at h
  simpa using h
 rcases Nat.eq_zero_or_pos i with rfl | hp
 ·simp only [Nat.add_zero]; omega
 ·have := hm (low cf l) (low cf l + i) (by omega) (by omega)
  omega
theorem hit_behind (hm : SMono cf l) (h : hit cf l = true) {x : α} (hx : x ∈ l.drop (low cf l + 1)) : 0 < cf x := by
 obtain ⟨i, hi, rfl⟩ := List.getElem_of_mem hx
 rw [List.length_drop] at hi
 rw [List.getElem_drop]
 have h0 := hit_zero h
 have := hm (low cf l) (low cf l + 1 + i) (by omega) (by omega)
 omega
theorem split_at {k : Nat} (hk : k < l.length) : l = l.take k ++ l[k] :: l.drop (k + 1) := by
 rw [← List.drop_eq_getElem_cons hk, List.take_append_drop]
theorem at_sorted (hm : SMono cf l) : at_ (fun x => decide (cf x = 0)) l = if hit cf l = true then (low cf l : Int) else -1 := by
 split
 ·rename_i h
  refine at_yes (hit_lt h) (fun i hi hlt => ?_) (by simpa using hit_zero h)
  have := low_lt (cf := cf) hi hlt
  simp; omega
 ·rename_i h
  refine at_no fun i hi => ?_
  have hf : hit cf l = false := by simpa using h
  rcases Nat.lt_or_ge i (low cf l) with g | g
  ·have := low_lt (cf := cf) hi g
   simp; omega
  ·have hx : l[i] ∈ l.drop (low cf l) := by
    rw [List.mem_iff_getElem]
    exact ⟨i - low cf l, by rw [List.length_drop]; omega, by rw [List.getElem_drop]; congr 1; omega⟩
   have := low_behind hm hf hx
   simp; omega
def putAt (cf : α → Int) (g : α) (l : List α) : List α := if hit cf l = true then l.set (low cf l) g else l.take (low cf l) ++ [g] ++ l.drop (low cf l)
theorem putL_sorted (hm : SMono cf l) (g : α) : putL (fun x => decide (0 ≤ cf x)) (fun x => decide (cf x ≠ 0)) g l = putAt cf g l := by
 unfold putAt
 split
 ·rename_i h
  have hl := hit_lt h
  have e : l = l.take (low cf l) ++ l[low cf l] :: l.drop (low cf l + 1) := split_at hl
  have e2 : l.set (low cf l) g = l.take (low cf l) ++ g :: l.drop (low cf l + 1) := by
   rw [List.set_eq_take_append_cons_drop, if_pos hl]
  rw [e2]
  conv => lhs; arg 4; rw [e]
  refine putL_set (fun x hx => ?_) (fun x hx => ?_) ?_ ?_ (fun x hx => ?_)
  ·have := low_ahead hx; simp; omega
  ·have := low_ahead hx; simp; omega
  ·have := hit_zero h; simp; omega
  ·simpa using hit_zero h
  ·have := hit_behind hm h hx; simp; omega
 ·rename_i h
  have hf : hit cf l = false := by simpa using h
  conv => lhs; arg 4; rw [← List.take_append_drop (low cf l) l]
  refine putL_new (fun x hx => ?_) (fun x hx => ?_) (fun x hx => ?_) (fun x hx => ?_)
  ·have := low_ahead hx; simp; omega
  ·have := low_ahead hx; simp; omega
  ·have := low_behind hm hf hx; simp; omega
  ·have := low_behind hm hf hx; simp; omega
end
end Go.Proofs.YtkclokmfomnbgaaGreat.Pl
namespace Go.Proofs.YtkclokmfomnbgaaGreat.Pl
set_option linter.unusedVariables false
structure Ord {α : Type} (lt : α → α → Bool) (cf : α → α → Int) : Prop where
 neg : ∀ g x, cf g x < 0 ↔ lt x g = true
 pos : ∀ g x, 0 < cf g x ↔ lt g x = true
 trans : ∀ x y z, lt x y = true → lt y z = true → lt x z = true
 left : ∀ g x y, cf g x = 0 → lt x y = lt g y
 right : ∀ g x y, cf g x = 0 → lt y x = lt y g
section
variable {α : Type} {lt : α → α → Bool} {cf : α → α → Int} {l : List α}
theorem Ord.smono (o : Ord lt cf) (hs : sorted lt l = true) (g : α) : SMono (cf g) l :=
 smono_of o.trans (fun x y h hy => by
  rw [o.neg]
  rcases (by omega : cf g y < 0 ∨ cf g y = 0) with q | q
  ·exact o.trans _ _ _ h ((o.neg g y).1 q)
  ·rw [← o.right g y x q]; exact h) hs
theorem sorted_of_pair (h : ∀ j i, (hj : j < l.length) → (hij : i < j) → lt (l[i]'(by omega)) l[j] = true) : sorted lt l = true :=
 sorted_of fun i hi => h (i + 1) i hi (by omega)
theorem putAt_len (g : α) (cf : α → Int) : (putAt cf g l).length = if hit cf l = true then l.length else l.length + 1 := by
 unfold putAt
 have := low_le (cf := cf) l
 split
 ·simp
 ·simp; omega
theorem putAt_mem {cf : α → Int} {g x : α} (h : x ∈ putAt cf g l) : x = g ∨ x ∈ l := by
 unfold putAt at h
 split at h
 ·rcases List.mem_or_eq_of_mem_set h with h | h
  ·exact .inr h
  ·exact .inl h
 ·simp only [List.append_assoc, List.mem_append, List.mem_cons, List.not_mem_nil, or_false] at h
  rcases h with h | h | h
  ·exact .inr (List.mem_of_mem_take h)
  ·exact .inl h
  ·exact .inr (List.mem_of_mem_drop h)
theorem sorted_iff (ht : ∀ x y z, lt x y = true → lt y z = true → lt x z = true) : sorted lt l = true ↔ l.Pairwise (fun x y => lt x y = true) := by
 constructor
 ·intro h
  rw [List.pairwise_iff_getElem]
  intro i j hi hj hij
  exact sorted_pair ht h j i hj hij
 ·intro h
  rw [List.pairwise_iff_getElem] at h
  exact sorted_of_pair fun j i hj hij => h i j (by omega) hj hij
theorem Ord.put (o : Ord lt cf) (hs : sorted lt l = true) (g : α) : sorted lt (putAt (cf g) g l) = true := by
 have hm := o.smono hs g
 rw [sorted_iff o.trans] at hs ⊢
 unfold putAt
 split
 ·rename_i h
  have hl := hit_lt h
  have h0 := hit_zero h
  rw [List.set_eq_take_append_cons_drop, if_pos hl]
  have e := split_at hl
  rw [e] at hs
  rw [List.pairwise_append, List.pairwise_cons] at hs ⊢
  refine ⟨hs.1, ⟨fun y hy => ?_, hs.2.1.2⟩, fun x hx y hy => ?_⟩
  ·rw [← o.left g _ y h0]; exact hs.2.1.1 y hy
  ·rcases List.mem_cons.1 hy with rfl | hy
   ·rw [← o.right _ _ x h0]; exact hs.2.2 x hx _ (List.mem_cons_self ..)
   ·exact hs.2.2 x hx y (List.mem_cons_of_mem _ hy)
 ·rename_i h
  have hf : hit (cf g) l = false := by simpa using h
  have e : l = l.take (low (cf g) l) ++ l.drop (low (cf g) l) := (List.take_append_drop _ _).symm
  rw [e, List.pairwise_append] at hs
  rw [List.append_assoc, List.pairwise_append, List.singleton_append, List.pairwise_cons]
  refine ⟨hs.1, ⟨fun y hy => (o.pos g y).1 (low_behind hm hf hy), hs.2.1⟩, fun x hx y hy => ?_⟩
  rcases List.mem_cons.1 hy with rfl | hy
  ·exact (o.neg _ x).1 (low_ahead hx)
  ·exact hs.2.2 x hx y hy
def upd (cf : α → α → Int) (nw : α → α → Bool) (l : List α) (g : α) : List α :=
 match l[low (cf g) l]? with
 | some x => if hit (cf g) l = true ∧ nw g x = false then l else putAt (cf g) g l
 | none => putAt (cf g) g l
theorem upd_new {nw : α → α → Bool} {g : α} (h : hit (cf g) l = false) : upd cf nw l g = putAt (cf g) g l := by
 unfold upd; split <;> simp [h]
theorem upd_set {nw : α → α → Bool} {g : α} {lo : Nat} (hlo : low (cf g) l = lo) (hlt : lo < l.length) (h : nw g l[lo] = true) : upd cf nw l g = putAt (cf g) g l := by
 subst hlo
 unfold upd
 rw [List.getElem?_eq_getElem hlt]
 simp [h]
theorem upd_old {nw : α → α → Bool} {g : α} {lo : Nat} (hh : hit (cf g) l = true) (hlo : low (cf g) l = lo) (hlt : lo < l.length) (h : nw g l[lo] = false) : upd cf nw l g = l := by
 subst hlo
 unfold upd
 rw [List.getElem?_eq_getElem hlt]
 simp [h, hh]
theorem upd_cases (nw : α → α → Bool) (g : α) : upd cf nw l g = l ∨ upd cf nw l g = putAt (cf g) g l := by
 unfold upd
 split
 ·split
  ·exact .inl rfl
  ·exact .inr rfl
 ·exact .inr rfl
def joinL (cf : α → α → Int) (nw : α → α → Bool) (a b : List α) : List α := b.foldl (upd cf nw) a
theorem joinL_next {nw : α → α → Bool} {a b : List α} {k : Nat} (hk : k < b.length) : joinL cf nw a (b.take (k + 1)) = upd cf nw (joinL cf nw a (b.take k)) b[k] := by
 unfold joinL
 rw [take_snoc_ hk, List.foldl_append]
 rfl
theorem Ord.upd (o : Ord lt cf) (nw : α → α → Bool) (hs : sorted lt l = true) (g : α) : sorted lt (upd cf nw l g) = true := by
 rcases upd_cases (cf := cf) (l := l) nw g with h | h
 ·rw [h]; exact hs
 ·rw [h]; exact o.put hs g
theorem upd_len (nw : α → α → Bool) (g : α) : l.length ≤ (upd cf nw l g).length ∧ (upd cf nw l g).length ≤ l.length + 1 := by
 rcases upd_cases (cf := cf) (l := l) nw g with h | h
 ·rw [h]; omega
 ·rw [h, putAt_len]; split <;> omega
theorem upd_mem {nw : α → α → Bool} {g x : α} (h : x ∈ upd cf nw l g) : x = g ∨ x ∈ l := by
 rcases upd_cases (cf := cf) (l := l) nw g with e | e
 ·rw [e] at h; exact .inr h
 ·rw [e] at h; exact putAt_mem h
theorem Ord.join (o : Ord lt cf) (nw : α → α → Bool) : ∀ (b : List α) {a : List α}, sorted lt a = true → sorted lt (joinL cf nw a b) = true
 | [], a, h => h
 | g :: b, a, h => o.join nw b (o.upd nw h g)
theorem joinL_len (nw : α → α → Bool) : ∀ (b a : List α), a.length ≤ (joinL cf nw a b).length ∧ (joinL cf nw a b).length ≤ a.length + b.length
 | [], a => by simp [joinL]
 | g :: b, a => by
  have h1 := upd_len (cf := cf) (l := a) nw g
  have h2 := joinL_len nw b (upd cf nw a g)
  simp only [joinL, List.foldl_cons, List.length_cons] at *
  omega
theorem joinL_mem {nw : α → α → Bool} : ∀ {b a : List α} {x : α}, x ∈ joinL cf nw a b → x ∈ a ∨ x ∈ b
 | [], a, x, h => .inl h
 | g :: b, a, x, h => by
  rcases joinL_mem (b := b) (a := upd cf nw a g) h with h | h
  ·rcases upd_mem h with rfl | h
   ·exact .inr (by simp)
   ·exact .inl h
  ·exact .inr (by simp [h])
end
end Go.Proofs.YtkclokmfomnbgaaGreat.Pl
namespace Go.Proofs.YtkclokmfomnbgaaGreat.Pl
set_option linter.unusedVariables false
section
variable {α : Type} {cf : α → α → Int} {nw : α → α → Bool} {l : List α} {g : α}
def hearF (cf : α → α → Int) (nw : α → α → Bool) (l : List α) (g : α) : Bool := match l[low (cf g) l]? with
 | some x => !(hit (cf g) l) || nw g x
 | none => true
theorem hearF_miss (h : hit (cf g) l = false) : hearF cf nw l g = true := by unfold hearF; split <;> simp [h]
theorem hearF_hit (h : hit (cf g) l = true) : hearF cf nw l g = nw g (l[low (cf g) l]'(hit_lt h)) := by
 unfold hearF; rw [List.getElem?_eq_getElem (hit_lt h)]; simp [h]
theorem upd_miss (h : hit (cf g) l = false) : upd cf nw l g = l.take (low (cf g) l) ++ [g] ++ l.drop (low (cf g) l) := by
 rw [upd_new h]; simp [putAt, h]
theorem upd_newer (h : hit (cf g) l = true) (h2 : nw g (l[low (cf g) l]'(hit_lt h)) = true) : upd cf nw l g = l.set (low (cf g) l) g := by
 rw [upd_set rfl (hit_lt h) h2]; simp [putAt, h]
theorem upd_older (h : hit (cf g) l = true) (h2 : nw g (l[low (cf g) l]'(hit_lt h)) = false) : upd cf nw l g = l := upd_old h rfl (hit_lt h) h2
theorem upd_put (h : hearF cf nw l g = true) : upd cf nw l g = putAt (cf g) g l := by
 rcases Bool.eq_false_or_eq_true (hit (cf g) l) with q | q
 ·rw [hearF_hit q] at h
  exact upd_set rfl (hit_lt q) h
 ·exact upd_new q
end
end Go.Proofs.YtkclokmfomnbgaaGreat.Pl
namespace Go.Proofs.YtkclokmfomnbgaaGreat.Pl
set_option linter.unusedVariables false
def sameL {α : Type} (e : α → α → Bool) (a b : List α) : Bool := decide (a.length = b.length) && (List.zip a b).all fun x => e x.1 x.2
theorem sameL_no {α : Type} {e : α → α → Bool} {a b : List α} (h : a.length ≠ b.length) : sameL e a b = false := by simp [sameL, h]
theorem sameL_at {α : Type} {e : α → α → Bool} {a b : List α} {k : Nat} (h1 : k < a.length) (h2 : k < b.length) (h : e a[k] b[k] = false) : sameL e a b = false := by
 unfold sameL
 rw [Bool.and_eq_false_iff]
 right
 rw [List.all_eq_false]
 have hz : k < (List.zip a b).length := by simp; omega
 exact ⟨(List.zip a b)[k], List.getElem_mem hz, by simp [h]⟩
theorem sameL_yes {α : Type} {e : α → α → Bool} {a b : List α} (hl : a.length = b.length) (h : ∀ k, (h1 : k < a.length) → (h2 : k < b.length) → e a[k] b[k] = true) : sameL e a b = true := by
 unfold sameL
 rw [Bool.and_eq_true_iff]
 refine ⟨by simpa using hl, List.all_eq_true.2 fun x hx => ?_⟩
 obtain ⟨k, hk, rfl⟩ := List.getElem_of_mem hx
 simp at hk ⊢
 exact h k (by omega) (by omega)
theorem sameL_refl {α : Type} {e : α → α → Bool} (he : ∀ x, e x x = true) (a : List α) : sameL e a a = true := sameL_yes rfl fun k _ _ => he _
end Go.Proofs.YtkclokmfomnbgaaGreat.Pl
namespace Go.Proofs.YtkclokmfomnbgaaGreat.Pl
set_option linter.unusedVariables false
def okB (n : Int) : Bool := decide ((97 ≤ n ∧ n ≤ 122) ∨ (48 ≤ n ∧ n ≤ 57) ∨ n = 45 ∨ n = 95)
def lab (s : List UInt8) : Bool := s.all (fun c => okB c.toNat) && decide (1 ≤ s.length ∧ s.length ≤ 30)
theorem lab_yes {s : List UInt8} (h : ∀ i, (hi : i < s.length) → okB (s[i]).toNat = true) (h1 : 1 ≤ s.length) (h2 : s.length ≤ 30) : lab s = true := by
 unfold lab
 rw [Bool.and_eq_true_iff]
 refine ⟨List.all_eq_true.2 fun c hc => ?_, by simp; omega⟩
 obtain ⟨i, hi, rfl⟩ := List.getElem_of_mem hc
 exact h i hi
theorem lab_bad {s : List UInt8} {i : Nat} (hi : i < s.length) (h : okB (s[i]).toNat = false) : lab s = false := by
 unfold lab
 rw [Bool.and_eq_false_iff]
 left
 rw [List.all_eq_false]
 exact ⟨s[i], List.getElem_mem hi, by simp [h]⟩
theorem lab_long {s : List UInt8} (h : ¬ (1 ≤ s.length ∧ s.length ≤ 30)) : lab s = false := by
 unfold lab
 simp only [h, decide_false, Bool.and_false]
theorem lab_bd {s : List UInt8} (h : lab s = true) : 1 ≤ s.length ∧ s.length ≤ 30 := by
 unfold lab at h
 simp only [Bool.and_eq_true, decide_eq_true_eq] at h
 exact h.2
theorem okB_no {n : Int} (h : ¬ ((97 ≤ n ∧ n ≤ 122) ∨ (48 ≤ n ∧ n ≤ 57) ∨ n = 45 ∨ n = 95)) : okB n = false := by
 unfold okB; simpa using h
theorem okB_yes {n : Int} (h : (97 ≤ n ∧ n ≤ 122) ∨ (48 ≤ n ∧ n ≤ 57) ∨ n = 45 ∨ n = 95) : okB n = true := by
 unfold okB; simpa using h
end Go.Proofs.YtkclokmfomnbgaaGreat.Pl
namespace Go.Proofs.YtkclokmfomnbgaaGreat.Pl
set_option linter.unusedVariables false
def wi (n a b : Int) : Bool := decide (a ≤ n) && decide (n ≤ b)
theorem wi_iff {n a b : Int} : wi n a b = true ↔ a ≤ n ∧ n ≤ b := by simp [wi]
def okPl (x y z h s : Int) : Bool := wi x (-10000000) 10000000 && wi y (-10000000) 10000000 && wi z (-10000000) 10000000 && wi h 0 1000000 && wi s 0 1000
def ckPl (x y z h s : Int) : Int := if okPl x y z h s then 0 else 3
end Go.Proofs.YtkclokmfomnbgaaGreat.Pl
namespace Go.Proofs.YtkclokmfomnbgaaGreat
set_option linter.unusedVariables false
abbrev zq1 : List Value := [(.string ⟨#[]⟩), (.int .i64 0), (.int .i64 0), (.int .i64 0), (.bool false), (.int .i64 0)]
abbrev zq2 : List Value := [(.string ⟨#[]⟩), (.int .i64 0), (.int .i64 0), (.int .i64 0), (.bool false)]
abbrev zq3 : List Value := [(.string ⟨#[]⟩), (.string ⟨#[]⟩), (.string ⟨#[]⟩), (.string ⟨#[]⟩), (.int .i64 0), (.int .i64 0), (.bool false), (.int .i64 0), (.bool false)]
def rc_hearsayref_IsAddress : RCode :=
 .seq (.reg [Rq 2 (.mv (.const (.bool false)))])
 (.seq (.reg [Rq 3 (.mv 0),Rq 4 (.call (.func 41) [3, (Kq 0), (Kq 4294967295)]),Rq 2 (.mv 4)])
 (.ret))
theorem ck_hearsayref_IsAddress : chkFun Tryz.prog 14 1 = some (rc_hearsayref_IsAddress, [2]) := by kernel_rfl
def rc_hearsayref_between : RCode :=
 .seq (.reg [Rq 6 (.mv (.const (.bool false)))])
 (.seq (.reg [Rq 7 (.mv 0),Rq 8 (.mv 1),Rq 9 (.bin .geq 7 8),Rq 10 (.mv 9),Gq 11 10 true (.mv 0),Gq 12 10 true (.mv 2),Gq 13 10 true (.bin .leq 11 12),Rq 14 (.pick 10 13 (.const (.bool false))),Rq 6 (.mv 14)])
 (.ret))
theorem ck_hearsayref_between : chkFun Tryz.prog 41 3 = some (rc_hearsayref_between, [6]) := by kernel_rfl
def rc_member_Check : RCode :=
 .seq (.reg [Rq 2 (.mv (Kq 0))])
 (.seq (.reg [Rq 3 (.mv 0),Rq 4 (.mks 22 1 1 [(.slice none 0 0)] [(0, 3)]),Rq 5 (.call (.func 101) [4]),Rq 2 (.mv 5)])
 (.ret))
theorem ck_member_Check : chkFun Tryz.prog 43 1 = some (rc_member_Check, [2]) := by kernel_rfl
def rc_rumor_Check : RCode :=
 .seq (.reg [Rq 2 (.mv (Kq 0))])
 (.seq (.seq (.reg [Rq 7 (.mv 0),Rq 8 (.len false 7),Rq 9 (.bin .gtr 8 (Kq 20))])
 (.cond 9
 (.seq (.reg [Rq 2 (.mv (Kq 2))])
 (.ret))
 (.skip)))
 (.seq (.reg [Rq 10 (.mkm),Rq 3 (.mv 10)])
 (.seq (.seq (.reg [Rq 11 (.mv 0),Rq 12 (.len false 11),Rq 13 (.mv (Kq 0))])
 (.block 0
 (.loop
 (.seq (.reg [Rq 14 (.bin .lss 13 12)])
 (.seq (.cond 14
 (.skip)
 (.exit 0))
 (.seq (.block 1
 (.seq (.reg [Rq 15 (.idxA 6 11 13),Rq 16 (.load true 6 15),Rq 5 (.zbox 80 zq1),Sq 6 5 16])
 (.seq (.seq (.reg [Rq 17 (.fldA 0 5),Rq 18 (.load true 5 17),Rq 19 (.call (.func 102) [18]),Rq 6 (.mv 19)])
 (.seq (.reg [Rq 20 (.mv 6),Rq 21 (.bin .neq 20 (Kq 0))])
 (.cond 21
 (.seq (.reg [Rq 22 (.mv 6),Rq 2 (.mv 22)])
 (.ret))
 (.skip))))
 (.reg [Rq 23 (.mv 3),Rq 24 (.fldA 0 5),Rq 25 (.fldA 0 24),Rq 26 (.load false 1 25),⟨none, none, .mupd .string 23 26 (.const (.bool true))⟩]))))
 (.reg [Rq 27 (.bin .add 13 (Kq 1)),Rq 13 (.mv 27)])))))))
 (.seq (.block 2
 (.seq (.reg [Rq 29 (.mv 0),Rq 30 (.call (.func 103) [29, (.func 104)]),Rq 28 (.mv 30)])
 (.cond 28
 (.seq (.reg [Rq 2 (.mv (Kq 3))])
 (.ret))
 (.seq (.reg [Rq 32 (.mv 3),Rq 33 (.mlen 32),Rq 34 (.mv 0),Rq 35 (.len false 34),Rq 36 (.bin .lss 33 35),Rq 31 (.mv 36)])
 (.cond 31
 (.seq (.reg [Rq 2 (.mv (Kq 6))])
 (.ret))
 (.skip))))))
 (.seq (.reg [Rq 2 (.mv (Kq 0))])
 (.ret))))))
theorem ck_rumor_Check : chkFun Tryz.prog 44 1 = some (rc_rumor_Check, [2]) := by kernel_rfl
def rc_catalog_Check : RCode :=
 .seq (.reg [Rq 2 (.mv (Kq 0))])
 (.seq (.reg [Rq 3 (.mv 0),Rq 4 (.mks 24 1 1 [(.slice none 0 0)] [(0, 3)]),Rq 5 (.call (.func 105) [4]),Rq 2 (.mv 5)])
 (.ret))
theorem ck_catalog_Check : chkFun Tryz.prog 45 1 = some (rc_catalog_Check, [2]) := by kernel_rfl
def rc_centre_Check : RCode :=
 .seq (.reg [Rq 2 (.mv (Kq 0))])
 (.seq (.reg [Rq 3 (.mv 0),Rq 4 (.mks 25 1 1 [(.slice none 0 0)] [(0, 3)]),Rq 5 (.call (.func 106) [4]),Rq 2 (.mv 5)])
 (.ret))
theorem ck_centre_Check : chkFun Tryz.prog 46 1 = some (rc_centre_Check, [2]) := by kernel_rfl
def rc_place_Check : RCode :=
 .seq (.reg [Rq 1 (.box 27 5 0),Rq 2 (.mv (Kq 0))])
 (.seq (.reg [Rq 3 (.mv (.func 107))])
 (.seq (.seq (.reg [Rq 4 (.mv 3),Rq 5 (.fldA 0 1),Rq 6 (.load false 1 5),Rq 7 (.call 4 [6]),Rq 8 (.not 7),Rq 9 (.mv 8),Gq 10 9 false (.mv 3),Gq 11 9 false (.fldA 1 1),Gq 12 9 false (.load false 1 11),Gq 13 9 false (.call 10 [12]),Gq 14 9 false (.not 13),Rq 15 (.pick 9 (.const (.bool true)) 14),Rq 16 (.mv 15),Gq 17 16 false (.mv 3),Gq 18 16 false (.fldA 2 1),Gq 19 16 false (.load false 1 18),Gq 20 16 false (.call 17 [19]),Gq 21 16 false (.not 20),Rq 22 (.pick 16 (.const (.bool true)) 21),Rq 23 (.mv 22),Gq 24 23 false (.fldA 3 1),Gq 25 23 false (.load false 1 24),Gq 26 23 false (.call (.func 108) [25, (Kq 0), (Kq 1000000)]),Gq 27 23 false (.not 26),Rq 28 (.pick 23 (.const (.bool true)) 27),Rq 29 (.mv 28),Gq 30 29 false (.fldA 4 1),Gq 31 29 false (.load false 1 30),Gq 32 29 false (.call (.func 108) [31, (Kq 0), (Kq 1000)]),Gq 33 29 false (.not 32),Rq 34 (.pick 29 (.const (.bool true)) 33)])
 (.cond 34
 (.seq (.reg [Rq 2 (.mv (Kq 3))])
 (.ret))
 (.skip)))
 (.seq (.reg [Rq 2 (.mv (Kq 0))])
 (.ret))))
theorem ck_place_Check : chkFun Tryz.prog 47 1 = some (rc_place_Check, [2]) := by kernel_rfl
def rc_member_Find : RCode :=
 .seq (.reg [Rq 4 (.mv (Kq 0)),Rq 5 (.mv (.const (.bool false)))])
 (.seq (.reg [Rq 6 (.mv 0),Rq 7 (.mv 1),Rq 8 (.call (.func 109) [6, 7, (.func 110)]),Rq 9 (.ext 8 0),Rq 10 (.ext 8 1),Rq 4 (.mv 9),Rq 5 (.mv 10)])
 (.ret))
theorem ck_member_Find : chkFun Tryz.prog 49 2 = some (rc_member_Find, [4, 5]) := by kernel_rfl
def rc_hearsayref_CheckMembers : RCode :=
 .seq (.reg [Rq 2 (.mv (Kq 0))])
 (.seq (.seq (.reg [Rq 6 (.mv 0),Rq 7 (.len false 6),Rq 8 (.bin .gtr 7 (Kq 20))])
 (.cond 8
 (.seq (.reg [Rq 2 (.mv (Kq 2))])
 (.ret))
 (.skip)))
 (.seq (.seq (.reg [Rq 3 (.mv (Kq 0))])
 (.block 0
 (.loop
 (.seq (.seq (.reg [Rq 9 (.mv 3),Rq 10 (.mv 0),Rq 11 (.len false 10),Rq 12 (.bin .lss 9 11)])
 (.cond 12
 (.skip)
 (.exit 0)))
 (.seq (.block 1
 (.seq (.reg [Rq 15 (.mv 0),Rq 16 (.mv 3),Rq 17 (.idxA 5 15 16),Rq 18 (.load true 5 17),Rq 19 (.call (.func 112) [18]),Rq 4 (.mv 19)])
 (.seq (.reg [Rq 20 (.mv 4),Rq 21 (.bin .neq 20 (Kq 0))])
 (.cond 21
 (.seq (.reg [Rq 22 (.mv 4),Rq 2 (.mv 22)])
 (.ret))
 (.skip)))))
 (.reg [Rq 13 (.mv 3),Rq 14 (.bin .add 13 (Kq 1)),Rq 3 (.mv 14)]))))))
 (.seq (.seq (.reg [Rq 5 (.mv (Kq 1))])
 (.block 2
 (.loop
 (.seq (.seq (.reg [Rq 23 (.mv 5),Rq 24 (.mv 0),Rq 25 (.len false 24),Rq 26 (.bin .lss 23 25)])
 (.cond 26
 (.skip)
 (.exit 2)))
 (.seq (.block 3
 (.seq (.dreg [[Rq 29 (.mv 0),Rq 30 (.mv 5),Rq 31 (.idxA 5 29 30),Rq 32 (.fldA 0 31),Rq 33 (.load false 1 32),Rq 34 (.mv 0),Rq 35 (.mv 5),Rq 36 (.bin .sub 35 (Kq 1)),Rq 37 (.idxA 5 34 36),Rq 38 (.fldA 0 37),Rq 39 (.load false 1 38)],[Rq 40 (.bin .leq 33 39)]])
 (.cond 40
 (.seq (.reg [Rq 2 (.mv (Kq 4))])
 (.ret))
 (.skip))))
 (.reg [Rq 27 (.mv 5),Rq 28 (.bin .add 27 (Kq 1)),Rq 5 (.mv 28)]))))))
 (.seq (.reg [Rq 2 (.mv (Kq 0))])
 (.ret)))))
theorem ck_hearsayref_CheckMembers : chkFun Tryz.prog 51 1 = some (rc_hearsayref_CheckMembers, [2]) := by kernel_rfl
def rc_hearsayref_CheckRumors : RCode :=
 .seq (.reg [Rq 2 (.mv (Kq 0))])
 (.seq (.seq (.reg [Rq 8 (.mv 0),Rq 9 (.len false 8),Rq 10 (.bin .gtr 9 (Kq 20))])
 (.cond 10
 (.seq (.reg [Rq 2 (.mv (Kq 2))])
 (.ret))
 (.skip)))
 (.seq (.seq (.reg [Rq 3 (.mv (Kq 0))])
 (.block 0
 (.loop
 (.seq (.seq (.reg [Rq 11 (.mv 3),Rq 12 (.mv 0),Rq 13 (.len false 12),Rq 14 (.bin .lss 11 13)])
 (.cond 14
 (.skip)
 (.exit 0)))
 (.seq (.block 1
 (.seq (.reg [Rq 17 (.mv 0),Rq 18 (.mv 3),Rq 19 (.idxA 6 17 18),Rq 20 (.fldA 0 19),Rq 21 (.load true 5 20),Rq 22 (.call (.func 112) [21]),Rq 4 (.mv 22)])
 (.seq (.reg [Rq 23 (.mv 4),Rq 24 (.bin .neq 23 (Kq 0))])
 (.cond 24
 (.seq (.reg [Rq 25 (.mv 4),Rq 2 (.mv 25)])
 (.ret))
 (.skip)))))
 (.reg [Rq 15 (.mv 3),Rq 16 (.bin .add 15 (Kq 1)),Rq 3 (.mv 16)]))))))
 (.seq (.seq (.reg [Rq 5 (.mv (Kq 0))])
 (.block 2
 (.loop
 (.seq (.seq (.reg [Rq 26 (.mv 5),Rq 27 (.mv 0),Rq 28 (.len false 27),Rq 29 (.bin .lss 26 28)])
 (.cond 29
 (.skip)
 (.exit 2)))
 (.seq (.block 3
 (.seq (.reg [Rq 32 (.mv 0),Rq 33 (.mv 5),Rq 34 (.idxA 6 32 33),Rq 35 (.fldA 5 34),Rq 36 (.load false 1 35),Rq 37 (.call (.func 41) [36, (Kq 0), (Kq 100)]),Rq 38 (.not 37)])
 (.cond 38
 (.seq (.reg [Rq 2 (.mv (Kq 3))])
 (.ret))
 (.skip))))
 (.reg [Rq 30 (.mv 5),Rq 31 (.bin .add 30 (Kq 1)),Rq 5 (.mv 31)]))))))
 (.seq (.seq (.reg [Rq 6 (.mv (Kq 0))])
 (.block 4
 (.loop
 (.seq (.seq (.reg [Rq 39 (.mv 6),Rq 40 (.mv 0),Rq 41 (.len false 40),Rq 42 (.bin .lss 39 41)])
 (.cond 42
 (.skip)
 (.exit 4)))
 (.seq (.block 5
 (.seq (.reg [Rq 7 (.mv (Kq 0))])
 (.block 6
 (.loop
 (.seq (.seq (.reg [Rq 45 (.mv 7),Rq 46 (.mv 6),Rq 47 (.bin .lss 45 46)])
 (.cond 47
 (.skip)
 (.exit 6)))
 (.seq (.block 7
 (.seq (.dreg [[Rq 50 (.mv 0),Rq 51 (.mv 7),Rq 52 (.idxA 6 50 51),Rq 53 (.fldA 0 52),Rq 54 (.fldA 0 53),Rq 55 (.load false 1 54),Rq 56 (.mv 0),Rq 57 (.mv 6),Rq 58 (.idxA 6 56 57),Rq 59 (.fldA 0 58),Rq 60 (.fldA 0 59),Rq 61 (.load false 1 60)],[Rq 62 (.bin .eql 55 61)]])
 (.cond 62
 (.seq (.reg [Rq 2 (.mv (Kq 6))])
 (.ret))
 (.skip))))
 (.reg [Rq 48 (.mv 7),Rq 49 (.bin .add 48 (Kq 1)),Rq 7 (.mv 49)])))))))
 (.reg [Rq 43 (.mv 6),Rq 44 (.bin .add 43 (Kq 1)),Rq 6 (.mv 44)]))))))
 (.seq (.reg [Rq 2 (.mv (Kq 0))])
 (.ret))))))
theorem ck_hearsayref_CheckRumors : chkFun Tryz.prog 52 1 = some (rc_hearsayref_CheckRumors, [2]) := by kernel_rfl
def rc_hearsayref_CheckCatalog : RCode :=
 .seq (.reg [Rq 2 (.mv (Kq 0))])
 (.seq (.seq (.reg [Rq 6 (.mv 0),Rq 7 (.len false 6),Rq 8 (.bin .gtr 7 (Kq 40))])
 (.cond 8
 (.seq (.reg [Rq 2 (.mv (Kq 2))])
 (.ret))
 (.skip)))
 (.seq (.seq (.reg [Rq 3 (.mv (Kq 0))])
 (.block 0
 (.loop
 (.seq (.seq (.reg [Rq 9 (.mv 3),Rq 10 (.mv 0),Rq 11 (.len false 10),Rq 12 (.bin .lss 9 11)])
 (.cond 12
 (.skip)
 (.exit 0)))
 (.seq (.block 1
 (.seq (.reg [Rq 15 (.mv 0),Rq 16 (.mv 3),Rq 17 (.idxA 9 15 16),Rq 18 (.load true 9 17),Rq 19 (.call (.func 113) [18]),Rq 4 (.mv 19)])
 (.seq (.reg [Rq 20 (.mv 4),Rq 21 (.bin .neq 20 (Kq 0))])
 (.cond 21
 (.seq (.reg [Rq 22 (.mv 4),Rq 2 (.mv 22)])
 (.ret))
 (.skip)))))
 (.reg [Rq 13 (.mv 3),Rq 14 (.bin .add 13 (Kq 1)),Rq 3 (.mv 14)]))))))
 (.seq (.seq (.reg [Rq 5 (.mv (Kq 1))])
 (.block 2
 (.loop
 (.seq (.seq (.reg [Rq 23 (.mv 5),Rq 24 (.mv 0),Rq 25 (.len false 24),Rq 26 (.bin .lss 23 25)])
 (.cond 26
 (.skip)
 (.exit 2)))
 (.seq (.block 3
 (.seq (.dreg [[Rq 29 (.mv 0),Rq 30 (.mv 5),Rq 31 (.bin .sub 30 (Kq 1)),Rq 32 (.idxA 9 29 31),Rq 33 (.load true 9 32),Rq 34 (.mv 0),Rq 35 (.mv 5),Rq 36 (.idxA 9 34 35),Rq 37 (.load true 9 36)],[Rq 38 (.call (.func 114) [33, 37])],[Rq 39 (.not 38)]])
 (.cond 39
 (.seq (.reg [Rq 2 (.mv (Kq 4))])
 (.ret))
 (.skip))))
 (.reg [Rq 27 (.mv 5),Rq 28 (.bin .add 27 (Kq 1)),Rq 5 (.mv 28)]))))))
 (.seq (.reg [Rq 2 (.mv (Kq 0))])
 (.ret)))))
theorem ck_hearsayref_CheckCatalog : chkFun Tryz.prog 53 1 = some (rc_hearsayref_CheckCatalog, [2]) := by kernel_rfl
def rc_hearsayref_CheckGateways : RCode :=
 .seq (.reg [Rq 2 (.mv (Kq 0))])
 (.seq (.seq (.reg [Rq 5 (.mv 0),Rq 6 (.len false 5),Rq 7 (.bin .gtr 6 (Kq 6))])
 (.cond 7
 (.seq (.reg [Rq 2 (.mv (Kq 2))])
 (.ret))
 (.skip)))
 (.seq (.seq (.reg [Rq 3 (.mv (Kq 0))])
 (.block 0
 (.loop
 (.seq (.seq (.reg [Rq 8 (.mv 3),Rq 9 (.mv 0),Rq 10 (.len false 9),Rq 11 (.bin .lss 8 10)])
 (.cond 11
 (.skip)
 (.exit 0)))
 (.seq (.block 1
 (.seq (.seq (.reg [Rq 14 (.mv 0),Rq 15 (.mv 3),Rq 16 (.idxA 3 14 15),Rq 17 (.fldA 0 16),Rq 18 (.load false 1 17),Rq 19 (.call (.func 13) [18]),Rq 20 (.not 19)])
 (.cond 20
 (.seq (.reg [Rq 2 (.mv (Kq 1))])
 (.ret))
 (.skip)))
 (.seq (.reg [Rq 21 (.mv 0),Rq 22 (.mv 3),Rq 23 (.idxA 3 21 22),Rq 24 (.fldA 1 23),Rq 25 (.load false 1 24),Rq 26 (.call (.func 14) [25]),Rq 27 (.not 26),Rq 28 (.mv 27),Gq 29 28 false (.mv 0),Gq 30 28 false (.mv 3),Gq 31 28 false (.idxA 3 29 30),Gq 32 28 false (.fldA 2 31),Gq 33 28 false (.load false 1 32),Gq 34 28 false (.call (.func 41) [33, (Kq 1), (Kq 1000000)]),Gq 35 28 false (.not 34),Rq 36 (.pick 28 (.const (.bool true)) 35)])
 (.cond 36
 (.seq (.reg [Rq 2 (.mv (Kq 3))])
 (.ret))
 (.skip)))))
 (.reg [Rq 12 (.mv 3),Rq 13 (.bin .add 12 (Kq 1)),Rq 3 (.mv 13)]))))))
 (.seq (.seq (.reg [Rq 4 (.mv (Kq 1))])
 (.block 2
 (.loop
 (.seq (.seq (.reg [Rq 37 (.mv 4),Rq 38 (.mv 0),Rq 39 (.len false 38),Rq 40 (.bin .lss 37 39)])
 (.cond 40
 (.skip)
 (.exit 2)))
 (.seq (.block 3
 (.seq (.dreg [[Rq 43 (.mv 0),Rq 44 (.mv 4),Rq 45 (.idxA 3 43 44),Rq 46 (.fldA 0 45),Rq 47 (.load false 1 46),Rq 48 (.mv 0),Rq 49 (.mv 4),Rq 50 (.bin .sub 49 (Kq 1)),Rq 51 (.idxA 3 48 50),Rq 52 (.fldA 0 51),Rq 53 (.load false 1 52)],[Rq 54 (.bin .leq 47 53)]])
 (.cond 54
 (.seq (.reg [Rq 2 (.mv (Kq 4))])
 (.ret))
 (.skip))))
 (.reg [Rq 41 (.mv 4),Rq 42 (.bin .add 41 (Kq 1)),Rq 4 (.mv 42)]))))))
 (.seq (.reg [Rq 2 (.mv (Kq 0))])
 (.ret)))))
theorem ck_hearsayref_CheckGateways : chkFun Tryz.prog 54 1 = some (rc_hearsayref_CheckGateways, [2]) := by kernel_rfl
def rc_hearsayref_CheckPlace : RCode :=
 .seq (.reg [Rq 1 (.box 27 5 0),Rq 2 (.mv (Kq 0))])
 (.seq (.seq (.reg [Rq 3 (.fldA 0 1),Rq 4 (.load false 1 3),Rq 5 (.call (.func 41) [4, (.const (.int .i64 (-10000000))), (Kq 10000000)]),Rq 6 (.not 5),Rq 7 (.mv 6),Gq 8 7 false (.fldA 1 1),Gq 9 7 false (.load false 1 8),Gq 10 7 false (.call (.func 41) [9, (.const (.int .i64 (-10000000))), (Kq 10000000)]),Gq 11 7 false (.not 10),Rq 12 (.pick 7 (.const (.bool true)) 11),Rq 13 (.mv 12),Gq 14 13 false (.fldA 2 1),Gq 15 13 false (.load false 1 14),Gq 16 13 false (.call (.func 41) [15, (.const (.int .i64 (-10000000))), (Kq 10000000)]),Gq 17 13 false (.not 16),Rq 18 (.pick 13 (.const (.bool true)) 17),Rq 19 (.mv 18),Gq 20 19 false (.fldA 3 1),Gq 21 19 false (.load false 1 20),Gq 22 19 false (.call (.func 41) [21, (Kq 0), (Kq 1000000)]),Gq 23 19 false (.not 22),Rq 24 (.pick 19 (.const (.bool true)) 23),Rq 25 (.mv 24),Gq 26 25 false (.fldA 4 1),Gq 27 25 false (.load false 1 26),Gq 28 25 false (.call (.func 41) [27, (Kq 0), (Kq 1000)]),Gq 29 25 false (.not 28),Rq 30 (.pick 25 (.const (.bool true)) 29)])
 (.cond 30
 (.seq (.reg [Rq 2 (.mv (Kq 3))])
 (.ret))
 (.skip)))
 (.seq (.reg [Rq 2 (.mv (Kq 0))])
 (.ret)))
theorem ck_hearsayref_CheckPlace : chkFun Tryz.prog 55 1 = some (rc_hearsayref_CheckPlace, [2]) := by kernel_rfl
def rc_hearsayref_MemberAt : RCode :=
 .seq (.reg [Rq 4 (.mv (Kq 0))])
 (.seq (.seq (.reg [Rq 5 (.mv (Kq 0))])
 (.block 0
 (.loop
 (.seq (.seq (.reg [Rq 6 (.mv 5),Rq 7 (.mv 0),Rq 8 (.len false 7),Rq 9 (.bin .lss 6 8)])
 (.cond 9
 (.skip)
 (.exit 0)))
 (.seq (.block 1
 (.seq (.reg [Rq 12 (.mv 0),Rq 13 (.mv 5),Rq 14 (.idxA 5 12 13),Rq 15 (.fldA 0 14),Rq 16 (.load false 1 15),Rq 17 (.mv 1),Rq 18 (.bin .eql 16 17)])
 (.cond 18
 (.seq (.reg [Rq 19 (.mv 5),Rq 4 (.mv 19)])
 (.ret))
 (.skip))))
 (.reg [Rq 10 (.mv 5),Rq 11 (.bin .add 10 (Kq 1)),Rq 5 (.mv 11)]))))))
 (.seq (.reg [Rq 4 (.mv (.const (.int .i64 (-1))))])
 (.ret)))
theorem ck_hearsayref_MemberAt : chkFun Tryz.prog 57 2 = some (rc_hearsayref_MemberAt, [4]) := by kernel_rfl
def rc_hearsayref_NewerMember : RCode :=
 .seq (.reg [Rq 2 (.box 37 5 0),Rq 3 (.box 37 5 1),Rq 4 (.mv (.const (.bool false)))])
 (.seq (.seq (.reg [Rq 5 (.fldA 2 2),Rq 6 (.load false 1 5),Rq 7 (.fldA 2 3),Rq 8 (.load false 1 7),Rq 9 (.bin .neq 6 8)])
 (.cond 9
 (.seq (.reg [Rq 10 (.fldA 2 2),Rq 11 (.load false 1 10),Rq 12 (.fldA 2 3),Rq 13 (.load false 1 12),Rq 14 (.bin .gtr 11 13),Rq 4 (.mv 14)])
 (.ret))
 (.skip)))
 (.seq (.seq (.reg [Rq 15 (.fldA 1 2),Rq 16 (.load false 1 15),Rq 17 (.fldA 1 3),Rq 18 (.load false 1 17),Rq 19 (.bin .neq 16 18)])
 (.cond 19
 (.seq (.reg [Rq 20 (.fldA 1 2),Rq 21 (.load false 1 20),Rq 22 (.fldA 1 3),Rq 23 (.load false 1 22),Rq 24 (.bin .gtr 21 23),Rq 4 (.mv 24)])
 (.ret))
 (.skip)))
 (.seq (.seq (.reg [Rq 25 (.fldA 3 2),Rq 26 (.load false 1 25),Rq 27 (.fldA 3 3),Rq 28 (.load false 1 27),Rq 29 (.bin .neq 26 28)])
 (.cond 29
 (.seq (.reg [Rq 30 (.fldA 3 2),Rq 31 (.load false 1 30),Rq 32 (.fldA 3 3),Rq 33 (.load false 1 32),Rq 34 (.bin .gtr 31 33),Rq 4 (.mv 34)])
 (.ret))
 (.skip)))
 (.seq (.reg [Rq 35 (.fldA 4 2),Rq 36 (.load false 1 35),Rq 37 (.mv 36),Gq 38 37 true (.fldA 4 3),Gq 39 37 true (.load false 1 38),Gq 40 37 true (.not 39),Rq 41 (.pick 37 40 (.const (.bool false))),Rq 4 (.mv 41)])
 (.ret)))))
theorem ck_hearsayref_NewerMember : chkFun Tryz.prog 58 2 = some (rc_hearsayref_NewerMember, [4]) := by kernel_rfl
def rc_member_Live : RCode :=
 .seq (.reg [Rq 2 (.mv (.const (.slice none 0 0))),Rq 3 (.mv (Kq 0))])
 (.seq (.seq (.reg [Rq 8 (.mv 0),Rq 9 (.mks 22 1 1 [(.slice none 0 0)] [(0, 8)]),Rq 10 (.call (.func 101) [9]),Rq 4 (.mv 10)])
 (.seq (.reg [Rq 11 (.mv 4),Rq 12 (.bin .neq 11 (Kq 0))])
 (.cond 12
 (.seq (.reg [Rq 13 (.mv 4),Rq 2 (.mv (.const (.slice none 0 0))),Rq 3 (.mv 13)])
 (.ret))
 (.skip))))
 (.seq (.reg [Rq 5 (.mv (.const (.slice none 0 0)))])
 (.seq (.seq (.reg [Rq 14 (.mv 0),Rq 15 (.len false 14),Rq 16 (.mv (Kq 0))])
 (.block 0
 (.loop
 (.seq (.reg [Rq 17 (.bin .lss 16 15)])
 (.seq (.cond 17
 (.skip)
 (.exit 0))
 (.seq (.block 1
 (.seq (.reg [Rq 18 (.idxA 5 14 16),Rq 19 (.load true 5 18),Rq 7 (.zbox 37 zq2),Sq 5 7 19])
 (.seq (.reg [Rq 20 (.fldA 1 7),Rq 21 (.load false 1 20),Rq 22 (.bin .leq 21 (Kq 2))])
 (.cond 22
 (.reg [Rq 23 (.mv 5),Rq 24 (.fldA 0 7),Rq 25 (.load false 1 24),Rq 26 (.mks 9 1 1 [(.string ⟨#[]⟩)] [(0, 25)]),Rq 27 (.app 9 1 16 (.string ⟨#[]⟩) 23 26),Rq 5 (.mv 27)])
 (.skip)))))
 (.reg [Rq 28 (.bin .add 16 (Kq 1)),Rq 16 (.mv 28)])))))))
 (.seq (.reg [Rq 29 (.mv 5),Rq 2 (.mv 29),Rq 3 (.mv (Kq 0))])
 (.ret)))))
theorem ck_member_Live : chkFun Tryz.prog 60 1 = some (rc_member_Live, [2, 3]) := by kernel_rfl
def rc_rumor_Times : RCode :=
 .seq (.reg [Rq 2 (.mv (Kq 0)),Rq 3 (.mv (Kq 0))])
 (.seq (.seq (.reg [Rq 5 (.mv 0),Rq 6 (.bin .lss 5 (Kq 0)),Rq 7 (.mv 6),Gq 8 7 false (.mv 0),Gq 9 7 false (.bin .gtr 8 (Kq 20)),Rq 10 (.pick 7 (.const (.bool true)) 9)])
 (.cond 10
 (.seq (.reg [Rq 2 (.mv (Kq 0)),Rq 3 (.mv (Kq 3))])
 (.ret))
 (.skip)))
 (.seq (.reg [Rq 4 (.mv (Kq 0))])
 (.seq (.block 0
 (.loop
 (.seq (.seq (.reg [Rq 11 (.mv 4),Rq 12 (.bin .shl (Kq 1) 11),Rq 13 (.mv 0),Rq 14 (.bin .leq 12 13)])
 (.cond 14
 (.skip)
 (.exit 0)))
 (.block 1
 (.reg [Rq 15 (.mv 4),Rq 16 (.bin .add 15 (Kq 1)),Rq 4 (.mv 16)])))))
 (.seq (.reg [Rq 17 (.mv 4),Rq 18 (.bin .mul (Kq 3) 17),Rq 2 (.mv 18),Rq 3 (.mv (Kq 0))])
 (.ret)))))
theorem ck_rumor_Times : chkFun Tryz.prog 61 1 = some (rc_rumor_Times, [2, 3]) := by kernel_rfl
def rc_rumor_Take : RCode :=
 .seq (.reg [Rq 3 (.box 23 1 0),Rq 5 (.box 3 1 2),Rq 6 (.mv (.const (.slice none 0 0))),Rq 7 (.mv (.const (.slice none 0 0))),Rq 8 (.mv (Kq 0))])
 (.seq (.seq (.reg [Rq 15 (.load false 1 3),Rq 16 (.call (.func 44) [15]),Rq 9 (.mv 16)])
 (.seq (.reg [Rq 17 (.mv 9),Rq 18 (.bin .neq 17 (Kq 0))])
 (.cond 18
 (.seq (.reg [Rq 19 (.mv 9),Rq 6 (.mv (.const (.slice none 0 0))),Rq 7 (.mv (.const (.slice none 0 0))),Rq 8 (.mv 19)])
 (.ret))
 (.skip))))
 (.seq (.seq (.reg [Rq 20 (.mv 1),Rq 21 (.bin .lss 20 (Kq 1)),Rq 22 (.mv 21),Gq 23 22 false (.mv 1),Gq 24 22 false (.bin .gtr 23 (Kq 20)),Rq 25 (.pick 22 (.const (.bool true)) 24),Rq 26 (.mv 25),Gq 27 26 false (.load false 1 5),Gq 28 26 false (.bin .lss 27 (Kq 1)),Rq 29 (.pick 26 (.const (.bool true)) 28),Rq 30 (.mv 29),Gq 31 30 false (.load false 1 5),Gq 32 30 false (.bin .gtr 31 (Kq 100)),Rq 33 (.pick 30 (.const (.bool true)) 32)])
 (.cond 33
 (.seq (.reg [Rq 6 (.mv (.const (.slice none 0 0))),Rq 7 (.mv (.const (.slice none 0 0))),Rq 8 (.mv (Kq 3))])
 (.ret))
 (.skip)))
 (.seq (.reg [Rq 34 (.load false 1 3),Rq 35 (.len false 34),Rq 36 (.mkn 3 1 8 [(.int .i64 0)] 35 35),Rq 10 (.mv 36)])
 (.seq (.seq (.reg [Rq 37 (.mv 10),Rq 38 (.len false 37),Rq 39 (.mv (Kq 0))])
 (.block 0
 (.loop
 (.seq (.reg [Rq 40 (.bin .lss 39 38)])
 (.seq (.cond 40
 (.skip)
 (.exit 0))
 (.seq (.block 1
 (.seq (.reg [Rq 41 (.mv 39),Rq 11 (.mv 41)])
 (.reg [Rq 42 (.mv 10),Rq 43 (.mv 11),Rq 44 (.mv 11),Rq 45 (.idxA 1 42 43),Sq 1 45 44])))
 (.reg [Rq 46 (.bin .add 39 (Kq 1)),Rq 39 (.mv 46)])))))))
 (.seq (.reg [Rq 47 (.mv 10),Rq 48 (.mkfn 121 [3]),Rq 49 (.call (.func 120) [47, 48])])
 (.seq (.reg [Rq 50 (.load false 1 3),Rq 51 (.call (.func 116) [50]),Sq 1 3 51])
 (.seq (.reg [Rq 12 (.mv (.const (.slice none 0 0)))])
 (.seq (.seq (.reg [Rq 52 (.mv 10),Rq 53 (.mv 1),Rq 54 (.load false 1 3),Rq 55 (.len false 54),Rq 56 (.mm false 53 55),Rq 57 (.slcL 1 52 none (some 56) none),Rq 58 (.len false 57),Rq 59 (.mv (Kq 0))])
 (.block 2
 (.loop
 (.seq (.reg [Rq 60 (.bin .lss 59 58)])
 (.seq (.cond 60
 (.skip)
 (.exit 2))
 (.seq (.block 3
 (.seq (.reg [Rq 61 (.idxA 1 57 59),Rq 62 (.load false 1 61),Rq 14 (.mv 62)])
 (.seq (.reg [Rq 63 (.mv 12),Rq 64 (.load false 1 3),Rq 65 (.mv 14),Rq 66 (.idxA 6 64 65),Rq 67 (.fldA 0 66),Rq 68 (.load true 5 67),Rq 69 (.mks 37 5 1 zq2 [(0, 68)]),Rq 70 (.app 37 5 48 (.agg #[(.string ⟨#[]⟩), (.int .i64 0), (.int .i64 0), (.int .i64 0), (.bool false)]) 63 69),Rq 12 (.mv 70)])
 (.reg [Rq 71 (.load false 1 3),Rq 72 (.mv 14),Rq 73 (.idxA 6 71 72),Rq 74 (.fldA 5 73),Rq 75 (.load false 1 74),Rq 76 (.bin .add 75 (Kq 1)),Rq 77 (.idxA 6 71 72),Rq 78 (.fldA 5 77),Sq 1 78 76]))))
 (.reg [Rq 79 (.bin .add 59 (Kq 1)),Rq 59 (.mv 79)])))))))
 (.seq (.reg [Rq 80 (.mv 12),Rq 81 (.load false 1 3),Rq 82 (.mkfn 125 [5]),Rq 83 (.call (.func 124) [81, 82]),Rq 6 (.mv 80),Rq 7 (.mv 83),Rq 8 (.mv (Kq 0))])
 (.ret))))))))))
theorem ck_rumor_Take : chkFun Tryz.prog 62 3 = some (rc_rumor_Take, [6, 7, 8]) := by kernel_rfl
def rc_hearsayref_SameMembers : RCode :=
 .seq (.reg [Rq 4 (.mv (.const (.bool false)))])
 (.seq (.seq (.reg [Rq 6 (.mv 0),Rq 7 (.len false 6),Rq 8 (.mv 1),Rq 9 (.len false 8),Rq 10 (.bin .neq 7 9)])
 (.cond 10
 (.seq (.reg [Rq 4 (.mv (.const (.bool false)))])
 (.ret))
 (.skip)))
 (.seq (.seq (.reg [Rq 5 (.mv (Kq 0))])
 (.block 0
 (.loop
 (.seq (.seq (.reg [Rq 11 (.mv 5),Rq 12 (.mv 0),Rq 13 (.len false 12),Rq 14 (.bin .lss 11 13)])
 (.cond 14
 (.skip)
 (.exit 0)))
 (.seq (.block 1
 (.seq (.dreg [[Rq 17 (.mv 0),Rq 18 (.mv 5),Rq 19 (.idxA 5 17 18),Rq 20 (.load true 5 19),Rq 21 (.mv 1),Rq 22 (.mv 5),Rq 23 (.idxA 5 21 22),Rq 24 (.load true 5 23)],[Rq 25 (.eqS true [1, 0, 0, 0, 2] 20 24)]])
 (.cond 25
 (.seq (.reg [Rq 4 (.mv (.const (.bool false)))])
 (.ret))
 (.skip))))
 (.reg [Rq 15 (.mv 5),Rq 16 (.bin .add 15 (Kq 1)),Rq 5 (.mv 16)]))))))
 (.seq (.reg [Rq 4 (.mv (.const (.bool true)))])
 (.ret))))
theorem ck_hearsayref_SameMembers : chkFun Tryz.prog 70 2 = some (rc_hearsayref_SameMembers, [4]) := by kernel_rfl
def rc_hearsayref_SameServices : RCode :=
 .seq (.reg [Rq 4 (.mv (.const (.bool false)))])
 (.seq (.seq (.reg [Rq 6 (.mv 0),Rq 7 (.len false 6),Rq 8 (.mv 1),Rq 9 (.len false 8),Rq 10 (.bin .neq 7 9)])
 (.cond 10
 (.seq (.reg [Rq 4 (.mv (.const (.bool false)))])
 (.ret))
 (.skip)))
 (.seq (.seq (.reg [Rq 5 (.mv (Kq 0))])
 (.block 0
 (.loop
 (.seq (.seq (.reg [Rq 11 (.mv 5),Rq 12 (.mv 0),Rq 13 (.len false 12),Rq 14 (.bin .lss 11 13)])
 (.cond 14
 (.skip)
 (.exit 0)))
 (.seq (.block 1
 (.seq (.dreg [[Rq 17 (.mv 0),Rq 18 (.mv 5),Rq 19 (.idxA 9 17 18),Rq 20 (.load true 9 19),Rq 21 (.mv 1),Rq 22 (.mv 5),Rq 23 (.idxA 9 21 22),Rq 24 (.load true 9 23)],[Rq 25 (.eqS true [1, 1, 1, 1, 0, 0, 2, 0, 2] 20 24)]])
 (.cond 25
 (.seq (.reg [Rq 4 (.mv (.const (.bool false)))])
 (.ret))
 (.skip))))
 (.reg [Rq 15 (.mv 5),Rq 16 (.bin .add 15 (Kq 1)),Rq 5 (.mv 16)]))))))
 (.seq (.reg [Rq 4 (.mv (.const (.bool true)))])
 (.ret))))
theorem ck_hearsayref_SameServices : chkFun Tryz.prog 71 2 = some (rc_hearsayref_SameServices, [4]) := by kernel_rfl
def rc_hearsayref_SameGateways : RCode :=
 .seq (.reg [Rq 4 (.mv (.const (.bool false)))])
 (.seq (.seq (.reg [Rq 6 (.mv 0),Rq 7 (.len false 6),Rq 8 (.mv 1),Rq 9 (.len false 8),Rq 10 (.bin .neq 7 9)])
 (.cond 10
 (.seq (.reg [Rq 4 (.mv (.const (.bool false)))])
 (.ret))
 (.skip)))
 (.seq (.seq (.reg [Rq 5 (.mv (Kq 0))])
 (.block 0
 (.loop
 (.seq (.seq (.reg [Rq 11 (.mv 5),Rq 12 (.mv 0),Rq 13 (.len false 12),Rq 14 (.bin .lss 11 13)])
 (.cond 14
 (.skip)
 (.exit 0)))
 (.seq (.block 1
 (.seq (.dreg [[Rq 17 (.mv 0),Rq 18 (.mv 5),Rq 19 (.idxA 3 17 18),Rq 20 (.load true 3 19),Rq 21 (.mv 1),Rq 22 (.mv 5),Rq 23 (.idxA 3 21 22),Rq 24 (.load true 3 23)],[Rq 25 (.eqS true [1, 0, 0] 20 24)]])
 (.cond 25
 (.seq (.reg [Rq 4 (.mv (.const (.bool false)))])
 (.ret))
 (.skip))))
 (.reg [Rq 15 (.mv 5),Rq 16 (.bin .add 15 (Kq 1)),Rq 5 (.mv 16)]))))))
 (.seq (.reg [Rq 4 (.mv (.const (.bool true)))])
 (.ret))))
theorem ck_hearsayref_SameGateways : chkFun Tryz.prog 72 2 = some (rc_hearsayref_SameGateways, [4]) := by kernel_rfl
def rc_catalog_Join : RCode :=
 .seq (.reg [Rq 4 (.mv (.const (.slice none 0 0))),Rq 5 (.mv (Kq 0))])
 (.seq (.seq (.reg [Rq 12 (.mv 0),Rq 13 (.mv 1),Rq 14 (.mks 24 1 2 [(.slice none 0 0)] [(0, 12), (1, 13)]),Rq 15 (.call (.func 105) [14]),Rq 6 (.mv 15)])
 (.seq (.reg [Rq 16 (.mv 6),Rq 17 (.bin .neq 16 (Kq 0))])
 (.cond 17
 (.seq (.reg [Rq 18 (.mv 6),Rq 4 (.mv (.const (.slice none 0 0))),Rq 5 (.mv 18)])
 (.ret))
 (.skip))))
 (.seq (.reg [Rq 19 (.mv 0),Rq 20 (.call (.func 117) [19]),Rq 7 (.mv 20)])
 (.seq (.seq (.reg [Rq 21 (.mv 1),Rq 22 (.len false 21),Rq 23 (.mv (Kq 0))])
 (.block 0
 (.loop
 (.seq (.reg [Rq 24 (.bin .lss 23 22)])
 (.seq (.cond 24
 (.skip)
 (.exit 0))
 (.seq (.block 1
 (.seq (.reg [Rq 25 (.idxA 9 21 23),Rq 26 (.load true 9 25),Rq 9 (.zbox 64 zq3),Sq 9 9 26])
 (.seq (.reg [Rq 28 (.mv 7),Rq 29 (.fldA 0 9),Rq 30 (.load false 1 29),Rq 31 (.fldA 1 9),Rq 32 (.load false 1 31),Rq 33 (.call (.func 134) [28, 30, 32]),Rq 27 (.mv 33),Rq 34 (.ext 27 0),Rq 35 (.ext 27 1),Rq 10 (.mv 34),Rq 11 (.mv 35)])
 (.block 2
 (.seq (.reg [Rq 37 (.mv 11),Rq 38 (.not 37),Rq 36 (.mv 38)])
 (.cond 36
 (.reg [Rq 39 (.mv 7),Rq 40 (.mv 10),Rq 41 (.load true 9 9),Rq 42 (.mks 64 9 1 zq3 [(0, 41)]),Rq 43 (.call (.func 135) [39, 40, 42]),Rq 7 (.mv 43)])
 (.seq (.dreg [[Rq 45 (.load true 9 9),Rq 46 (.mv 7),Rq 47 (.mv 10),Rq 48 (.idxA 9 46 47),Rq 49 (.load true 9 48)],[Rq 50 (.call (.func 136) [45, 49])],[Rq 51 (.bin .gtr 50 (Kq 0))],[Rq 44 (.mv 51)]])
 (.cond 44
 (.reg [Rq 52 (.mv 7),Rq 53 (.mv 10),Rq 54 (.load true 9 9),Rq 55 (.idxA 9 52 53),Sq 9 55 54])
 (.skip)))))))))
 (.reg [Rq 56 (.bin .add 23 (Kq 1)),Rq 23 (.mv 56)])))))))
 (.seq (.seq (.reg [Rq 57 (.mv 7),Rq 58 (.len false 57),Rq 59 (.bin .gtr 58 (Kq 40))])
 (.cond 59
 (.seq (.reg [Rq 4 (.mv (.const (.slice none 0 0))),Rq 5 (.mv (Kq 2))])
 (.ret))
 (.skip)))
 (.seq (.reg [Rq 60 (.mv 7),Rq 4 (.mv 60),Rq 5 (.mv (Kq 0))])
 (.ret))))))
theorem ck_catalog_Join : chkFun Tryz.prog 76 2 = some (rc_catalog_Join, [4, 5]) := by kernel_rfl
def rc_centre_Join : RCode :=
 .seq (.reg [Rq 4 (.mv (.const (.slice none 0 0))),Rq 5 (.mv (Kq 0))])
 (.seq (.seq (.reg [Rq 12 (.mv 0),Rq 13 (.mv 1),Rq 14 (.mks 25 1 2 [(.slice none 0 0)] [(0, 12), (1, 13)]),Rq 15 (.call (.func 106) [14]),Rq 6 (.mv 15)])
 (.seq (.reg [Rq 16 (.mv 6),Rq 17 (.bin .neq 16 (Kq 0))])
 (.cond 17
 (.seq (.reg [Rq 18 (.mv 6),Rq 4 (.mv (.const (.slice none 0 0))),Rq 5 (.mv 18)])
 (.ret))
 (.skip))))
 (.seq (.reg [Rq 19 (.mv 0),Rq 20 (.call (.func 118) [19]),Rq 7 (.mv 20)])
 (.seq (.seq (.reg [Rq 21 (.mv 1),Rq 22 (.len false 21),Rq 23 (.mv (Kq 0))])
 (.block 0
 (.loop
 (.seq (.reg [Rq 24 (.bin .lss 23 22)])
 (.seq (.cond 24
 (.skip)
 (.exit 0))
 (.seq (.block 1
 (.seq (.reg [Rq 25 (.idxA 3 21 23),Rq 26 (.load true 3 25),Rq 9 (.zbox 125 [(.string ⟨#[]⟩), (.int .i64 0), (.int .i64 0)]),Sq 3 9 26])
 (.seq (.reg [Rq 28 (.mv 7),Rq 29 (.fldA 0 9),Rq 30 (.load false 1 29),Rq 31 (.call (.func 137) [28, 30]),Rq 27 (.mv 31),Rq 32 (.ext 27 0),Rq 33 (.ext 27 1),Rq 10 (.mv 32),Rq 11 (.mv 33)])
 (.block 2
 (.seq (.reg [Rq 35 (.mv 11),Rq 36 (.not 35),Rq 34 (.mv 36)])
 (.cond 34
 (.reg [Rq 37 (.mv 7),Rq 38 (.mv 10),Rq 39 (.load true 3 9),Rq 40 (.mks 125 3 1 [(.string ⟨#[]⟩), (.int .i64 0), (.int .i64 0)] [(0, 39)]),Rq 41 (.call (.func 138) [37, 38, 40]),Rq 7 (.mv 41)])
 (.seq (.dreg [[Rq 43 (.fldA 2 9),Rq 44 (.load false 1 43),Rq 45 (.mv 7),Rq 46 (.mv 10),Rq 47 (.idxA 3 45 46),Rq 48 (.fldA 2 47),Rq 49 (.load false 1 48),Rq 50 (.call (.func 123) [44, 49]),Rq 51 (.fldA 1 9),Rq 52 (.load false 1 51),Rq 53 (.mv 7),Rq 54 (.mv 10),Rq 55 (.idxA 3 53 54),Rq 56 (.fldA 1 55),Rq 57 (.load false 1 56)],[Rq 58 (.call (.func 123) [52, 57])],[Rq 59 (.mks 3 1 2 [(.int .i64 0)] [(0, 50), (1, 58)])],[Rq 60 (.call (.func 122) [59])],[Rq 61 (.bin .gtr 60 (Kq 0))],[Rq 42 (.mv 61)]])
 (.cond 42
 (.reg [Rq 62 (.mv 7),Rq 63 (.mv 10),Rq 64 (.load true 3 9),Rq 65 (.idxA 3 62 63),Sq 3 65 64])
 (.skip)))))))))
 (.reg [Rq 66 (.bin .add 23 (Kq 1)),Rq 23 (.mv 66)])))))))
 (.seq (.seq (.reg [Rq 67 (.mv 7),Rq 68 (.len false 67),Rq 69 (.bin .gtr 68 (Kq 6))])
 (.cond 69
 (.seq (.reg [Rq 4 (.mv (.const (.slice none 0 0))),Rq 5 (.mv (Kq 2))])
 (.ret))
 (.skip)))
 (.seq (.reg [Rq 70 (.mv 7),Rq 4 (.mv 70),Rq 5 (.mv (Kq 0))])
 (.ret))))))
theorem ck_centre_Join : chkFun Tryz.prog 77 2 = some (rc_centre_Join, [4, 5]) := by kernel_rfl
def rc_hearsayref_JoinServices : RCode :=
 .seq (.reg [Rq 4 (.mv (.const (.slice none 0 0)))])
 (.seq (.seq (.reg [Rq 5 (.mv (Kq 0))])
 (.block 0
 (.loop
 (.seq (.seq (.reg [Rq 7 (.mv 5),Rq 8 (.mv 1),Rq 9 (.len false 8),Rq 10 (.bin .lss 7 9)])
 (.cond 10
 (.skip)
 (.exit 0)))
 (.seq (.block 1
 (.seq (.dreg [[Rq 13 (.mv 0),Rq 14 (.mv 1),Rq 15 (.mv 5),Rq 16 (.idxA 9 14 15),Rq 17 (.fldA 0 16),Rq 18 (.load false 1 17),Rq 19 (.mv 1),Rq 20 (.mv 5),Rq 21 (.idxA 9 19 20),Rq 22 (.fldA 1 21),Rq 23 (.load false 1 22)],[Rq 24 (.call (.func 86) [13, 18, 23])],[Rq 6 (.mv 24)]])
 (.seq (.dreg [[Rq 25 (.mv 6)],[Rq 26 (.bin .lss 25 (Kq 0))],[Rq 27 (.mv 26)],[Gq 28 27 false (.mv 1),Gq 29 27 false (.mv 5),Gq 30 27 false (.idxA 9 28 29),Gq 31 27 false (.load true 9 30),Gq 32 27 false (.mv 0),Gq 33 27 false (.mv 6),Gq 34 27 false (.idxA 9 32 33),Gq 35 27 false (.load true 9 34)],[Gq 36 27 false (.call (.func 87) [31, 35])],[Rq 37 (.pick 27 (.const (.bool true)) 36)]])
 (.cond 37
 (.reg [Rq 38 (.mv 0),Rq 39 (.mv 1),Rq 40 (.mv 5),Rq 41 (.idxA 9 39 40),Rq 42 (.load true 9 41),Rq 43 (.call (.func 145) [38, 42]),Rq 0 (.mv 43)])
 (.skip)))))
 (.reg [Rq 11 (.mv 5),Rq 12 (.bin .add 11 (Kq 1)),Rq 5 (.mv 12)]))))))
 (.seq (.reg [Rq 44 (.mv 0),Rq 4 (.mv 44)])
 (.ret)))
theorem ck_hearsayref_JoinServices : chkFun Tryz.prog 82 2 = some (rc_hearsayref_JoinServices, [4]) := by kernel_rfl
def rc_hearsayref_ServiceAt : RCode :=
 .seq (.reg [Rq 6 (.mv (Kq 0))])
 (.seq (.seq (.reg [Rq 7 (.mv (Kq 0))])
 (.block 0
 (.loop
 (.seq (.seq (.reg [Rq 8 (.mv 7),Rq 9 (.mv 0),Rq 10 (.len false 9),Rq 11 (.bin .lss 8 10)])
 (.cond 11
 (.skip)
 (.exit 0)))
 (.seq (.block 1
 (.seq (.reg [Rq 14 (.mv 0),Rq 15 (.mv 7),Rq 16 (.idxA 9 14 15),Rq 17 (.fldA 0 16),Rq 18 (.load false 1 17),Rq 19 (.mv 1),Rq 20 (.bin .eql 18 19),Rq 21 (.mv 20),Gq 22 21 true (.mv 0),Gq 23 21 true (.mv 7),Gq 24 21 true (.idxA 9 22 23),Gq 25 21 true (.fldA 1 24),Gq 26 21 true (.load false 1 25),Gq 27 21 true (.mv 2),Gq 28 21 true (.bin .eql 26 27),Rq 29 (.pick 21 28 (.const (.bool false)))])
 (.cond 29
 (.seq (.reg [Rq 30 (.mv 7),Rq 6 (.mv 30)])
 (.ret))
 (.skip))))
 (.reg [Rq 12 (.mv 7),Rq 13 (.bin .add 12 (Kq 1)),Rq 7 (.mv 13)]))))))
 (.seq (.reg [Rq 6 (.mv (.const (.int .i64 (-1))))])
 (.ret)))
theorem ck_hearsayref_ServiceAt : chkFun Tryz.prog 86 3 = some (rc_hearsayref_ServiceAt, [6]) := by kernel_rfl
def rc_hearsayref_NewerService : RCode :=
 .seq (.reg [Rq 2 (.box 64 9 0),Rq 3 (.box 64 9 1),Rq 4 (.mv (.const (.bool false)))])
 (.seq (.block 0
 (.seq (.reg [Rq 6 (.fldA 7 2),Rq 7 (.load false 1 6),Rq 8 (.fldA 7 3),Rq 9 (.load false 1 8),Rq 10 (.bin .neq 7 9),Rq 5 (.mv 10)])
 (.cond 5
 (.seq (.reg [Rq 11 (.fldA 7 2),Rq 12 (.load false 1 11),Rq 13 (.fldA 7 3),Rq 14 (.load false 1 13),Rq 15 (.bin .gtr 12 14),Rq 4 (.mv 15)])
 (.ret))
 (.seq (.reg [Rq 17 (.fldA 8 2),Rq 18 (.load false 1 17),Rq 19 (.fldA 8 3),Rq 20 (.load false 1 19),Rq 21 (.eqb true 18 20),Rq 16 (.mv 21)])
 (.cond 16
 (.seq (.reg [Rq 22 (.fldA 8 2),Rq 23 (.load false 1 22),Rq 4 (.mv 23)])
 (.ret))
 (.seq (.reg [Rq 25 (.fldA 2 2),Rq 26 (.load false 1 25),Rq 27 (.fldA 2 3),Rq 28 (.load false 1 27),Rq 29 (.bin .neq 26 28),Rq 24 (.mv 29)])
 (.cond 24
 (.seq (.reg [Rq 30 (.fldA 2 2),Rq 31 (.load false 1 30),Rq 32 (.fldA 2 3),Rq 33 (.load false 1 32),Rq 34 (.bin .gtr 31 33),Rq 4 (.mv 34)])
 (.ret))
 (.seq (.reg [Rq 36 (.fldA 3 2),Rq 37 (.load false 1 36),Rq 38 (.fldA 3 3),Rq 39 (.load false 1 38),Rq 40 (.bin .neq 37 39),Rq 35 (.mv 40)])
 (.cond 35
 (.seq (.reg [Rq 41 (.fldA 3 2),Rq 42 (.load false 1 41),Rq 43 (.fldA 3 3),Rq 44 (.load false 1 43),Rq 45 (.bin .gtr 42 44),Rq 4 (.mv 45)])
 (.ret))
 (.seq (.reg [Rq 47 (.fldA 4 2),Rq 48 (.load false 1 47),Rq 49 (.fldA 4 3),Rq 50 (.load false 1 49),Rq 51 (.bin .neq 48 50),Rq 46 (.mv 51)])
 (.cond 46
 (.seq (.reg [Rq 52 (.fldA 4 2),Rq 53 (.load false 1 52),Rq 54 (.fldA 4 3),Rq 55 (.load false 1 54),Rq 56 (.bin .gtr 53 55),Rq 4 (.mv 56)])
 (.ret))
 (.seq (.reg [Rq 58 (.fldA 5 2),Rq 59 (.load false 1 58),Rq 60 (.fldA 5 3),Rq 61 (.load false 1 60),Rq 62 (.bin .neq 59 61),Rq 57 (.mv 62)])
 (.cond 57
 (.seq (.reg [Rq 63 (.fldA 5 2),Rq 64 (.load false 1 63),Rq 65 (.fldA 5 3),Rq 66 (.load false 1 65),Rq 67 (.bin .gtr 64 66),Rq 4 (.mv 67)])
 (.ret))
 (.skip))))))))))))))
 (.seq (.reg [Rq 68 (.fldA 6 2),Rq 69 (.load false 1 68),Rq 70 (.mv 69),Gq 71 70 true (.fldA 6 3),Gq 72 70 true (.load false 1 71),Gq 73 70 true (.not 72),Rq 74 (.pick 70 73 (.const (.bool false))),Rq 4 (.mv 74)])
 (.ret)))
theorem ck_hearsayref_NewerService : chkFun Tryz.prog 87 2 = some (rc_hearsayref_NewerService, [4]) := by kernel_rfl
def rc_hearsayref_GatewayAt : RCode :=
 .seq (.reg [Rq 4 (.mv (Kq 0))])
 (.seq (.seq (.reg [Rq 5 (.mv (Kq 0))])
 (.block 0
 (.loop
 (.seq (.seq (.reg [Rq 6 (.mv 5),Rq 7 (.mv 0),Rq 8 (.len false 7),Rq 9 (.bin .lss 6 8)])
 (.cond 9
 (.skip)
 (.exit 0)))
 (.seq (.block 1
 (.seq (.reg [Rq 12 (.mv 0),Rq 13 (.mv 5),Rq 14 (.idxA 3 12 13),Rq 15 (.fldA 0 14),Rq 16 (.load false 1 15),Rq 17 (.mv 1),Rq 18 (.bin .eql 16 17)])
 (.cond 18
 (.seq (.reg [Rq 19 (.mv 5),Rq 4 (.mv 19)])
 (.ret))
 (.skip))))
 (.reg [Rq 10 (.mv 5),Rq 11 (.bin .add 10 (Kq 1)),Rq 5 (.mv 11)]))))))
 (.seq (.reg [Rq 4 (.mv (.const (.int .i64 (-1))))])
 (.ret)))
theorem ck_hearsayref_GatewayAt : chkFun Tryz.prog 88 2 = some (rc_hearsayref_GatewayAt, [4]) := by kernel_rfl
def rc_hearsayref_SameRumors : RCode :=
 .seq (.reg [Rq 4 (.mv (.const (.bool false)))])
 (.seq (.seq (.reg [Rq 6 (.mv 0),Rq 7 (.len false 6),Rq 8 (.mv 1),Rq 9 (.len false 8),Rq 10 (.bin .neq 7 9)])
 (.cond 10
 (.seq (.reg [Rq 4 (.mv (.const (.bool false)))])
 (.ret))
 (.skip)))
 (.seq (.seq (.reg [Rq 5 (.mv (Kq 0))])
 (.block 0
 (.loop
 (.seq (.seq (.reg [Rq 11 (.mv 5),Rq 12 (.mv 0),Rq 13 (.len false 12),Rq 14 (.bin .lss 11 13)])
 (.cond 14
 (.skip)
 (.exit 0)))
 (.seq (.block 1
 (.seq (.dreg [[Rq 17 (.mv 0),Rq 18 (.mv 5),Rq 19 (.idxA 6 17 18),Rq 20 (.load true 6 19),Rq 21 (.mv 1),Rq 22 (.mv 5),Rq 23 (.idxA 6 21 22),Rq 24 (.load true 6 23)],[Rq 25 (.eqS true [1, 0, 0, 0, 2, 0] 20 24)]])
 (.cond 25
 (.seq (.reg [Rq 4 (.mv (.const (.bool false)))])
 (.ret))
 (.skip))))
 (.reg [Rq 15 (.mv 5),Rq 16 (.bin .add 15 (Kq 1)),Rq 5 (.mv 16)]))))))
 (.seq (.reg [Rq 4 (.mv (.const (.bool true)))])
 (.ret))))
theorem ck_hearsayref_SameRumors : chkFun Tryz.prog 89 2 = some (rc_hearsayref_SameRumors, [4]) := by kernel_rfl
def rc_member_check : RCode :=
 .seq (.reg [Rq 2 (.mv (Kq 0))])
 (.seq (.seq (.reg [Rq 7 (.mv 0),Rq 8 (.len false 7),Rq 9 (.mv (Kq 0))])
 (.block 0
 (.loop
 (.seq (.reg [Rq 10 (.bin .lss 9 8)])
 (.seq (.cond 10
 (.skip)
 (.exit 0))
 (.seq (.block 1
 (.seq (.reg [Rq 11 (.idxA 1 7 9),Rq 12 (.load false 1 11),Rq 4 (.mv 12)])
 (.seq (.seq (.reg [Rq 13 (.mv 4),Rq 14 (.len false 13),Rq 15 (.bin .gtr 14 (Kq 20))])
 (.cond 15
 (.seq (.reg [Rq 2 (.mv (Kq 2))])
 (.ret))
 (.skip)))
 (.seq (.seq (.reg [Rq 16 (.mv 4),Rq 17 (.call (.func 159) [16]),Rq 5 (.mv 17)])
 (.seq (.reg [Rq 18 (.mv 5),Rq 19 (.bin .neq 18 (Kq 0))])
 (.cond 19
 (.seq (.reg [Rq 20 (.mv 5),Rq 2 (.mv 20)])
 (.ret))
 (.skip))))
 (.seq (.reg [Rq 6 (.mv (Kq 1))])
 (.block 2
 (.loop
 (.seq (.seq (.reg [Rq 21 (.mv 6),Rq 22 (.mv 4),Rq 23 (.len false 22),Rq 24 (.bin .lss 21 23)])
 (.cond 24
 (.skip)
 (.exit 2)))
 (.seq (.block 3
 (.seq (.dreg [[Rq 27 (.mv 4),Rq 28 (.mv 6),Rq 29 (.idxA 5 27 28),Rq 30 (.fldA 0 29),Rq 31 (.load false 1 30),Rq 32 (.mv 4),Rq 33 (.mv 6),Rq 34 (.bin .sub 33 (Kq 1)),Rq 35 (.idxA 5 32 34),Rq 36 (.fldA 0 35),Rq 37 (.load false 1 36)],[Rq 38 (.bin .leq 31 37)]])
 (.cond 38
 (.seq (.reg [Rq 2 (.mv (Kq 4))])
 (.ret))
 (.skip))))
 (.reg [Rq 25 (.mv 6),Rq 26 (.bin .add 25 (Kq 1)),Rq 6 (.mv 26)]))))))))))
 (.reg [Rq 39 (.bin .add 9 (Kq 1)),Rq 9 (.mv 39)])))))))
 (.seq (.reg [Rq 2 (.mv (Kq 0))])
 (.ret)))
theorem ck_member_check : chkFun Tryz.prog 101 1 = some (rc_member_check, [2]) := by kernel_rfl
def rc_member_One : RCode :=
 .seq (.reg [Rq 1 (.box 37 5 0),Rq 2 (.mv (Kq 0))])
 (.seq (.reg [Rq 3 (.load true 5 1),Rq 4 (.call (.func 160) [3]),Rq 2 (.mv 4)])
 (.ret))
theorem ck_member_One : chkFun Tryz.prog 102 1 = some (rc_member_One, [2]) := by kernel_rfl
def rc_slices_ContainsFunc_api_Rumor_api_Rumor : RCode :=
 .seq (.reg [Rq 4 (.mv (.const (.bool false)))])
 (.seq (.reg [Rq 5 (.mv 0),Rq 6 (.mv 1),Rq 7 (.call (.func 161) [5, 6]),Rq 8 (.bin .geq 7 (Kq 0)),Rq 4 (.mv 8)])
 (.ret))
theorem ck_slices_ContainsFunc_api_Rumor_api_Rumor : chkFun Tryz.prog 103 2 = some (rc_slices_ContainsFunc_api_Rumor_api_Rumor, [4]) := by kernel_rfl
def rc_rumor_Check_1 : RCode :=
 .seq (.reg [Rq 1 (.box 80 6 0),Rq 2 (.mv (.const (.bool false)))])
 (.seq (.reg [Rq 3 (.fldA 5 1),Rq 4 (.load false 1 3),Rq 5 (.bin .lss 4 (Kq 0)),Rq 6 (.mv 5),Gq 7 6 false (.fldA 5 1),Gq 8 6 false (.load false 1 7),Gq 9 6 false (.bin .gtr 8 (Kq 100)),Rq 10 (.pick 6 (.const (.bool true)) 9),Rq 2 (.mv 10)])
 (.ret))
theorem ck_rumor_Check_1 : chkFun Tryz.prog 104 1 = some (rc_rumor_Check_1, [2]) := by kernel_rfl
def rc_catalog_check : RCode :=
 .seq (.reg [Rq 2 (.mv (Kq 0))])
 (.seq (.seq (.reg [Rq 9 (.mv 0),Rq 10 (.len false 9),Rq 11 (.mv (Kq 0))])
 (.block 0
 (.loop
 (.seq (.reg [Rq 12 (.bin .lss 11 10)])
 (.seq (.cond 12
 (.skip)
 (.exit 0))
 (.seq (.block 1
 (.seq (.reg [Rq 13 (.idxA 1 9 11),Rq 14 (.load false 1 13),Rq 4 (.mv 14)])
 (.seq (.seq (.reg [Rq 15 (.mv 4),Rq 16 (.len false 15),Rq 17 (.bin .gtr 16 (Kq 40))])
 (.cond 17
 (.seq (.reg [Rq 2 (.mv (Kq 2))])
 (.ret))
 (.skip)))
 (.seq (.seq (.reg [Rq 18 (.mv 4),Rq 19 (.len false 18),Rq 20 (.mv (Kq 0))])
 (.block 2
 (.loop
 (.seq (.reg [Rq 21 (.bin .lss 20 19)])
 (.seq (.cond 21
 (.skip)
 (.exit 2))
 (.seq (.block 3
 (.seq (.reg [Rq 22 (.idxA 9 18 20),Rq 23 (.load true 9 22),Rq 6 (.zbox 64 zq3),Sq 9 6 23])
 (.seq (.reg [Rq 24 (.load true 9 6),Rq 25 (.call (.func 155) [24]),Rq 7 (.mv 25)])
 (.seq (.reg [Rq 26 (.mv 7),Rq 27 (.bin .neq 26 (Kq 0))])
 (.cond 27
 (.seq (.reg [Rq 28 (.mv 7),Rq 2 (.mv 28)])
 (.ret))
 (.skip))))))
 (.reg [Rq 29 (.bin .add 20 (Kq 1)),Rq 20 (.mv 29)])))))))
 (.seq (.reg [Rq 8 (.mv (Kq 1))])
 (.block 4
 (.loop
 (.seq (.seq (.reg [Rq 30 (.mv 8),Rq 31 (.mv 4),Rq 32 (.len false 31),Rq 33 (.bin .lss 30 32)])
 (.cond 33
 (.skip)
 (.exit 4)))
 (.seq (.block 5
 (.seq (.dreg [[Rq 36 (.mv 4),Rq 37 (.mv 8),Rq 38 (.bin .sub 37 (Kq 1)),Rq 39 (.idxA 9 36 38),Rq 40 (.load true 9 39),Rq 41 (.mv 4),Rq 42 (.mv 8),Rq 43 (.idxA 9 41 42),Rq 44 (.load true 9 43)],[Rq 45 (.call (.func 162) [40, 44])],[Rq 46 (.bin .geq 45 (Kq 0))]])
 (.cond 46
 (.seq (.reg [Rq 2 (.mv (Kq 4))])
 (.ret))
 (.skip))))
 (.reg [Rq 34 (.mv 8),Rq 35 (.bin .add 34 (Kq 1)),Rq 8 (.mv 35)]))))))))))
 (.reg [Rq 47 (.bin .add 11 (Kq 1)),Rq 11 (.mv 47)])))))))
 (.seq (.reg [Rq 2 (.mv (Kq 0))])
 (.ret)))
theorem ck_catalog_check : chkFun Tryz.prog 105 1 = some (rc_catalog_check, [2]) := by kernel_rfl
def rc_centre_check : RCode :=
 .seq (.reg [Rq 2 (.mv (Kq 0))])
 (.seq (.seq (.reg [Rq 9 (.mv 0),Rq 10 (.len false 9),Rq 11 (.mv (Kq 0))])
 (.block 0
 (.loop
 (.seq (.reg [Rq 12 (.bin .lss 11 10)])
 (.seq (.cond 12
 (.skip)
 (.exit 0))
 (.seq (.block 1
 (.seq (.reg [Rq 13 (.idxA 1 9 11),Rq 14 (.load false 1 13),Rq 4 (.mv 14)])
 (.seq (.seq (.reg [Rq 15 (.mv 4),Rq 16 (.len false 15),Rq 17 (.bin .gtr 16 (Kq 6))])
 (.cond 17
 (.seq (.reg [Rq 2 (.mv (Kq 2))])
 (.ret))
 (.skip)))
 (.seq (.seq (.reg [Rq 18 (.mv 4),Rq 19 (.len false 18),Rq 20 (.mv (Kq 0))])
 (.block 2
 (.loop
 (.seq (.reg [Rq 21 (.bin .lss 20 19)])
 (.seq (.cond 21
 (.skip)
 (.exit 2))
 (.seq (.block 3
 (.seq (.reg [Rq 22 (.idxA 3 18 20),Rq 23 (.load true 3 22),Rq 6 (.zbox 125 [(.string ⟨#[]⟩), (.int .i64 0), (.int .i64 0)]),Sq 3 6 23])
 (.seq (.reg [Rq 24 (.load true 3 6),Rq 25 (.call (.func 157) [24]),Rq 7 (.mv 25)])
 (.seq (.reg [Rq 26 (.mv 7),Rq 27 (.bin .neq 26 (Kq 0))])
 (.cond 27
 (.seq (.reg [Rq 28 (.mv 7),Rq 2 (.mv 28)])
 (.ret))
 (.skip))))))
 (.reg [Rq 29 (.bin .add 20 (Kq 1)),Rq 20 (.mv 29)])))))))
 (.seq (.reg [Rq 8 (.mv (Kq 1))])
 (.block 4
 (.loop
 (.seq (.seq (.reg [Rq 30 (.mv 8),Rq 31 (.mv 4),Rq 32 (.len false 31),Rq 33 (.bin .lss 30 32)])
 (.cond 33
 (.skip)
 (.exit 4)))
 (.seq (.block 5
 (.seq (.dreg [[Rq 36 (.mv 4),Rq 37 (.mv 8),Rq 38 (.idxA 3 36 37),Rq 39 (.fldA 0 38),Rq 40 (.load false 1 39),Rq 41 (.mv 4),Rq 42 (.mv 8),Rq 43 (.bin .sub 42 (Kq 1)),Rq 44 (.idxA 3 41 43),Rq 45 (.fldA 0 44),Rq 46 (.load false 1 45)],[Rq 47 (.bin .leq 40 46)]])
 (.cond 47
 (.seq (.reg [Rq 2 (.mv (Kq 4))])
 (.ret))
 (.skip))))
 (.reg [Rq 34 (.mv 8),Rq 35 (.bin .add 34 (Kq 1)),Rq 8 (.mv 35)]))))))))))
 (.reg [Rq 48 (.bin .add 11 (Kq 1)),Rq 11 (.mv 48)])))))))
 (.seq (.reg [Rq 2 (.mv (Kq 0))])
 (.ret)))
theorem ck_centre_check : chkFun Tryz.prog 106 1 = some (rc_centre_check, [2]) := by kernel_rfl
def rc_place_Check_1 : RCode :=
 .seq (.reg [Rq 2 (.mv (.const (.bool false)))])
 (.seq (.reg [Rq 3 (.mv 0),Rq 4 (.call (.func 108) [3, (.const (.int .i64 (-10000000))), (Kq 10000000)]),Rq 2 (.mv 4)])
 (.ret))
theorem ck_place_Check_1 : chkFun Tryz.prog 107 1 = some (rc_place_Check_1, [2]) := by kernel_rfl
def rc_place_within : RCode :=
 .seq (.reg [Rq 6 (.mv (.const (.bool false)))])
 (.seq (.reg [Rq 7 (.mv 0),Rq 8 (.mv 1),Rq 9 (.bin .geq 7 8),Rq 10 (.mv 9),Gq 11 10 true (.mv 0),Gq 12 10 true (.mv 2),Gq 13 10 true (.bin .leq 11 12),Rq 14 (.pick 10 13 (.const (.bool false))),Rq 6 (.mv 14)])
 (.ret))
theorem ck_place_within : chkFun Tryz.prog 108 3 = some (rc_place_within, [6]) := by kernel_rfl
def rc_slices_BinarySearchFunc_api_Member_api_Member_string : RCode :=
 .seq (.reg [Rq 6 (.mv (Kq 0)),Rq 7 (.mv (.const (.bool false)))])
 (.seq (.reg [Rq 12 (.mv 0),Rq 13 (.len false 12),Rq 8 (.mv 13)])
 (.seq (.reg [Rq 14 (.mv 8),Rq 9 (.mv (Kq 0)),Rq 10 (.mv 14)])
 (.seq (.block 0
 (.loop
 (.seq (.seq (.reg [Rq 15 (.mv 9),Rq 16 (.mv 10),Rq 17 (.bin .lss 15 16)])
 (.cond 17
 (.skip)
 (.exit 0)))
 (.block 1
 (.seq (.reg [Rq 18 (.mv 9),Rq 19 (.mv 10),Rq 20 (.bin .add 18 19),Rq 21 (.conv .u64 20),Rq 22 (.bin .shr 21 (.const (.int .u64 1))),Rq 23 (.conv .i64 22),Rq 11 (.mv 23)])
 (.seq (.reg [Rq 24 (.mv 2),Rq 25 (.mv 0),Rq 26 (.mv 11),Rq 27 (.idxA 5 25 26),Rq 28 (.load true 5 27),Rq 29 (.mv 1),Rq 30 (.call 24 [28, 29]),Rq 31 (.bin .lss 30 (Kq 0))])
 (.cond 31
 (.reg [Rq 32 (.mv 11),Rq 33 (.bin .add 32 (Kq 1)),Rq 9 (.mv 33)])
 (.reg [Rq 34 (.mv 11),Rq 10 (.mv 34)]))))))))
 (.seq (.reg [Rq 35 (.mv 9),Rq 36 (.mv 9),Rq 37 (.mv 8),Rq 38 (.bin .lss 36 37),Rq 39 (.mv 38),Gq 40 39 true (.mv 2),Gq 41 39 true (.mv 0),Gq 42 39 true (.mv 9),Gq 43 39 true (.idxA 5 41 42),Gq 44 39 true (.load true 5 43),Gq 45 39 true (.mv 1),Gq 46 39 true (.call 40 [44, 45]),Gq 47 39 true (.bin .eql 46 (Kq 0)),Rq 48 (.pick 39 47 (.const (.bool false))),Rq 6 (.mv 35),Rq 7 (.mv 48)])
 (.ret)))))
theorem ck_slices_BinarySearchFunc_api_Member_api_Member_string : chkFun Tryz.prog 109 3 = some (rc_slices_BinarySearchFunc_api_Member_api_Member_string, [6, 7]) := by kernel_rfl
def rc_member_Find_1 : RCode :=
 .seq (.reg [Rq 2 (.box 37 5 0),Rq 4 (.mv (Kq 0))])
 (.seq (.reg [Rq 5 (.fldA 0 2),Rq 6 (.load false 1 5),Rq 7 (.mv 1),Rq 8 (.call (.func 65) [6, 7]),Rq 4 (.mv 8)])
 (.ret))
theorem ck_member_Find_1 : chkFun Tryz.prog 110 2 = some (rc_member_Find_1, [4]) := by kernel_rfl
def rc_member_Compare : RCode :=
 .seq (.reg [Rq 2 (.box 37 5 0),Rq 3 (.box 37 5 1),Rq 4 (.mv (Kq 0))])
 (.seq (.dreg [[Rq 5 (.fldA 2 2),Rq 6 (.load false 1 5),Rq 7 (.fldA 2 3),Rq 8 (.load false 1 7),Rq 9 (.call (.func 123) [6, 8]),Rq 10 (.fldA 1 2),Rq 11 (.load false 1 10),Rq 12 (.fldA 1 3),Rq 13 (.load false 1 12),Rq 14 (.call (.func 123) [11, 13]),Rq 15 (.fldA 3 2),Rq 16 (.load false 1 15),Rq 17 (.fldA 3 3),Rq 18 (.load false 1 17),Rq 19 (.call (.func 123) [16, 18]),Rq 20 (.fldA 4 2),Rq 21 (.load false 1 20),Rq 22 (.call (.func 163) [21]),Rq 23 (.fldA 4 3),Rq 24 (.load false 1 23)],[Rq 25 (.call (.func 163) [24])],[Rq 26 (.call (.func 123) [22, 25])],[Rq 27 (.mks 3 1 4 [(.int .i64 0)] [(0, 9), (1, 14), (2, 19), (3, 26)])],[Rq 28 (.call (.func 122) [27])],[Rq 4 (.mv 28)]])
 (.ret))
theorem ck_member_Compare : chkFun Tryz.prog 111 2 = some (rc_member_Compare, [4]) := by kernel_rfl
def rc_hearsayref_OneMember : RCode :=
 .seq (.reg [Rq 1 (.box 37 5 0),Rq 2 (.mv (Kq 0))])
 (.seq (.block 0
 (.seq (.reg [Rq 4 (.fldA 0 1),Rq 5 (.load false 1 4),Rq 6 (.call (.func 13) [5]),Rq 7 (.not 6),Rq 3 (.mv 7)])
 (.cond 3
 (.seq (.reg [Rq 2 (.mv (Kq 1))])
 (.ret))
 (.seq (.reg [Rq 9 (.fldA 1 1),Rq 10 (.load false 1 9),Rq 11 (.call (.func 41) [10, (Kq 1), (Kq 4)]),Rq 12 (.not 11),Rq 8 (.mv 12)])
 (.cond 8
 (.seq (.reg [Rq 2 (.mv (Kq 7))])
 (.ret))
 (.seq (.seq (.reg [Rq 14 (.fldA 2 1),Rq 15 (.load false 1 14),Rq 16 (.call (.func 41) [15, (Kq 1), (Kq 1000000)]),Rq 17 (.not 16),Rq 13 (.mv 17)])
 (.cond 13
 (.skip)
 (.reg [Rq 18 (.fldA 3 1),Rq 19 (.load false 1 18),Rq 20 (.call (.func 14) [19]),Rq 21 (.not 20),Rq 13 (.mv 21)])))
 (.cond 13
 (.seq (.reg [Rq 2 (.mv (Kq 3))])
 (.ret))
 (.skip))))))))
 (.seq (.reg [Rq 2 (.mv (Kq 0))])
 (.ret)))
theorem ck_hearsayref_OneMember : chkFun Tryz.prog 112 1 = some (rc_hearsayref_OneMember, [2]) := by kernel_rfl
def rc_hearsayref_OneService : RCode :=
 .seq (.reg [Rq 1 (.box 64 9 0),Rq 2 (.mv (Kq 0))])
 (.seq (.seq (.reg [Rq 3 (.fldA 0 1),Rq 4 (.load false 1 3),Rq 5 (.call (.func 13) [4]),Rq 6 (.not 5),Rq 7 (.mv 6),Gq 8 7 false (.fldA 1 1),Gq 9 7 false (.load false 1 8),Gq 10 7 false (.call (.func 13) [9]),Gq 11 7 false (.not 10),Rq 12 (.pick 7 (.const (.bool true)) 11),Rq 13 (.mv 12),Gq 14 13 false (.fldA 2 1),Gq 15 13 false (.load false 1 14),Gq 16 13 false (.call (.func 13) [15]),Gq 17 13 false (.not 16),Rq 18 (.pick 13 (.const (.bool true)) 17),Rq 19 (.mv 18),Gq 20 19 false (.fldA 3 1),Gq 21 19 false (.load false 1 20),Gq 22 19 false (.bin .neq 21 (.const (.string ⟨#[]⟩))),Gq 23 19 false (.mv 22),Gq 24 23 true (.fldA 3 1),Gq 25 23 true (.load false 1 24),Gq 26 23 true (.call (.func 13) [25]),Gq 27 23 true (.not 26),Gq 28 19 false (.pick 23 27 (.const (.bool false))),Rq 29 (.pick 19 (.const (.bool true)) 28)])
 (.cond 29
 (.seq (.reg [Rq 2 (.mv (Kq 1))])
 (.ret))
 (.skip)))
 (.seq (.seq (.reg [Rq 30 (.fldA 4 1),Rq 31 (.load false 1 30),Rq 32 (.call (.func 14) [31]),Rq 33 (.not 32),Rq 34 (.mv 33),Gq 35 34 false (.fldA 5 1),Gq 36 34 false (.load false 1 35),Gq 37 34 false (.call (.func 41) [36, (Kq 0), (Kq 65535)]),Gq 38 34 false (.not 37),Rq 39 (.pick 34 (.const (.bool true)) 38),Rq 40 (.mv 39),Gq 41 40 false (.fldA 7 1),Gq 42 40 false (.load false 1 41),Gq 43 40 false (.call (.func 41) [42, (Kq 1), (Kq 1000000)]),Gq 44 40 false (.not 43),Rq 45 (.pick 40 (.const (.bool true)) 44)])
 (.cond 45
 (.seq (.reg [Rq 2 (.mv (Kq 3))])
 (.ret))
 (.skip)))
 (.seq (.reg [Rq 2 (.mv (Kq 0))])
 (.ret))))
theorem ck_hearsayref_OneService : chkFun Tryz.prog 113 1 = some (rc_hearsayref_OneService, [2]) := by kernel_rfl
def rc_hearsayref_ahead : RCode :=
 .seq (.reg [Rq 2 (.box 64 9 0),Rq 3 (.box 64 9 1),Rq 4 (.mv (.const (.bool false)))])
 (.seq (.reg [Rq 5 (.fldA 0 2),Rq 6 (.load false 1 5),Rq 7 (.fldA 0 3),Rq 8 (.load false 1 7),Rq 9 (.bin .lss 6 8),Rq 10 (.mv 9),Gq 11 10 false (.fldA 0 2),Gq 12 10 false (.load false 1 11),Gq 13 10 false (.fldA 0 3),Gq 14 10 false (.load false 1 13),Gq 15 10 false (.bin .eql 12 14),Gq 16 10 false (.mv 15),Gq 17 16 true (.fldA 1 2),Gq 18 16 true (.load false 1 17),Gq 19 16 true (.fldA 1 3),Gq 20 16 true (.load false 1 19),Gq 21 16 true (.bin .lss 18 20),Gq 22 10 false (.pick 16 21 (.const (.bool false))),Rq 23 (.pick 10 (.const (.bool true)) 22),Rq 4 (.mv 23)])
 (.ret))
theorem ck_hearsayref_ahead : chkFun Tryz.prog 114 2 = some (rc_hearsayref_ahead, [4]) := by kernel_rfl
def rc_slices_Clone_api_Rumor_api_Rumor : RCode :=
 .seq (.reg [Rq 2 (.mv (.const (.slice none 0 0)))])
 (.seq (.seq (.reg [Rq 3 (.mv 0),Rq 4 (.isnil false 3)])
 (.cond 4
 (.seq (.reg [Rq 2 (.mv (.const (.slice none 0 0)))])
 (.ret))
 (.skip)))
 (.seq (.reg [Rq 5 (.mks 80 6 0 zq1 []),Rq 6 (.mv 0),Rq 7 (.app 80 6 56 (.agg #[(.string ⟨#[]⟩), (.int .i64 0), (.int .i64 0), (.int .i64 0), (.bool false), (.int .i64 0)]) 5 6),Rq 2 (.mv 7)])
 (.ret)))
theorem ck_slices_Clone_api_Rumor_api_Rumor : chkFun Tryz.prog 116 1 = some (rc_slices_Clone_api_Rumor_api_Rumor, [2]) := by kernel_rfl
def rc_rumor_Take_1 : RCode :=
 .seq (.reg [Rq 5 (.mv (Kq 0))])
 (.seq (.dreg [[Rq 6 (.load false 1 2),Rq 7 (.mv 0),Rq 8 (.idxA 6 6 7),Rq 9 (.fldA 5 8),Rq 10 (.load false 1 9),Rq 11 (.load false 1 2),Rq 12 (.mv 1),Rq 13 (.idxA 6 11 12),Rq 14 (.fldA 5 13),Rq 15 (.load false 1 14),Rq 16 (.call (.func 123) [10, 15]),Rq 17 (.mv 1),Rq 18 (.mv 0)],[Rq 19 (.call (.func 123) [17, 18])],[Rq 20 (.mks 3 1 2 [(.int .i64 0)] [(0, 16), (1, 19)])],[Rq 21 (.call (.func 122) [20])],[Rq 5 (.mv 21)]])
 (.ret))
theorem ck_rumor_Take_1 : chkFun Tryz.prog 121 3 = some (rc_rumor_Take_1, [5]) := by kernel_rfl
def rc_cmp_Or_int : RCode :=
 .seq (.reg [Rq 2 (.mv (Kq 0))])
 (.seq (.reg [Rq 3 (.mv (Kq 0))])
 (.seq (.seq (.reg [Rq 6 (.mv 0),Rq 7 (.len false 6),Rq 8 (.mv (Kq 0))])
 (.block 0
 (.loop
 (.seq (.reg [Rq 9 (.bin .lss 8 7)])
 (.seq (.cond 9
 (.skip)
 (.exit 0))
 (.seq (.block 1
 (.seq (.reg [Rq 10 (.idxA 1 6 8),Rq 11 (.load false 1 10),Rq 5 (.mv 11)])
 (.seq (.reg [Rq 12 (.mv 5),Rq 13 (.mv 3),Rq 14 (.bin .neq 12 13)])
 (.cond 14
 (.seq (.reg [Rq 15 (.mv 5),Rq 2 (.mv 15)])
 (.ret))
 (.skip)))))
 (.reg [Rq 16 (.bin .add 8 (Kq 1)),Rq 8 (.mv 16)])))))))
 (.seq (.reg [Rq 17 (.mv 3),Rq 2 (.mv 17)])
 (.ret))))
theorem ck_cmp_Or_int : chkFun Tryz.prog 122 1 = some (rc_cmp_Or_int, [2]) := by kernel_rfl
def rc_slices_DeleteFunc_api_Rumor_api_Rumor : RCode :=
 .seq (.reg [Rq 4 (.mv (.const (.slice none 0 0)))])
 (.seq (.reg [Rq 8 (.mv 0),Rq 9 (.mv 1),Rq 10 (.call (.func 161) [8, 9]),Rq 5 (.mv 10)])
 (.seq (.seq (.reg [Rq 11 (.mv 5),Rq 12 (.bin .eql 11 (.const (.int .i64 (-1))))])
 (.cond 12
 (.seq (.reg [Rq 13 (.mv 0),Rq 4 (.mv 13)])
 (.ret))
 (.skip)))
 (.seq (.seq (.reg [Rq 14 (.mv 5),Rq 15 (.bin .add 14 (Kq 1)),Rq 6 (.mv 15)])
 (.block 0
 (.loop
 (.seq (.seq (.reg [Rq 16 (.mv 6),Rq 17 (.mv 0),Rq 18 (.len false 17),Rq 19 (.bin .lss 16 18)])
 (.cond 19
 (.skip)
 (.exit 0)))
 (.seq (.block 1
 (.seq (.reg [Rq 22 (.mv 0),Rq 23 (.mv 6),Rq 24 (.idxA 6 22 23),Rq 25 (.load true 6 24),Rq 7 (.zbox 80 zq1),Sq 6 7 25])
 (.seq (.reg [Rq 26 (.mv 1),Rq 27 (.load true 6 7),Rq 28 (.call 26 [27]),Rq 29 (.not 28)])
 (.cond 29
 (.seq (.reg [Rq 30 (.mv 0),Rq 31 (.mv 5),Rq 32 (.load true 6 7),Rq 33 (.idxA 6 30 31),Sq 6 33 32])
 (.reg [Rq 34 (.mv 5),Rq 35 (.bin .add 34 (Kq 1)),Rq 5 (.mv 35)]))
 (.skip)))))
 (.reg [Rq 20 (.mv 6),Rq 21 (.bin .add 20 (Kq 1)),Rq 6 (.mv 21)]))))))
 (.seq (.reg [Rq 36 (.mv 0),Rq 37 (.mv 5),Rq 38 (.slcL 6 36 (some 37) none none),⟨none, none, .clr 6 zq1 38⟩])
 (.seq (.reg [Rq 39 (.mv 0),Rq 40 (.mv 5),Rq 41 (.slcL 6 39 none (some 40) none),Rq 4 (.mv 41)])
 (.ret))))))
theorem ck_slices_DeleteFunc_api_Rumor_api_Rumor : chkFun Tryz.prog 124 2 = some (rc_slices_DeleteFunc_api_Rumor_api_Rumor, [4]) := by kernel_rfl
def rc_rumor_Take_2 : RCode :=
 .seq (.reg [Rq 2 (.box 80 6 0),Rq 3 (.mv (.const (.bool false)))])
 (.seq (.reg [Rq 4 (.fldA 5 2),Rq 5 (.load false 1 4),Rq 6 (.load false 1 1),Rq 7 (.bin .geq 5 6),Rq 3 (.mv 7)])
 (.ret))
theorem ck_rumor_Take_2 : chkFun Tryz.prog 125 2 = some (rc_rumor_Take_2, [3]) := by kernel_rfl
def rc_hearsayref_HearMember : RCode :=
 .seq (.reg [Rq 3 (.box 37 5 1),Rq 4 (.mv (.const (.slice none 0 0))),Rq 5 (.mv (.const (.bool false)))])
 (.seq (.reg [Rq 10 (.mv 0),Rq 11 (.fldA 0 3),Rq 12 (.load false 1 11),Rq 13 (.call (.func 57) [10, 12]),Rq 6 (.mv 13)])
 (.seq (.seq (.dreg [[Rq 14 (.mv 6)],[Rq 15 (.bin .geq 14 (Kq 0))],[Rq 16 (.mv 15)],[Gq 17 16 true (.load true 5 3),Gq 18 16 true (.mv 0),Gq 19 16 true (.mv 6),Gq 20 16 true (.idxA 5 18 19),Gq 21 16 true (.load true 5 20)],[Gq 22 16 true (.call (.func 58) [17, 21])],[Gq 23 16 true (.not 22)],[Rq 24 (.pick 16 23 (.const (.bool false)))]])
 (.cond 24
 (.seq (.reg [Rq 25 (.mv 0),Rq 4 (.mv 25),Rq 5 (.mv (.const (.bool false)))])
 (.ret))
 (.skip)))
 (.seq (.reg [Rq 7 (.mv (.const (.slice none 0 0)))])
 (.seq (.reg [Rq 8 (.mv (.const (.bool false)))])
 (.seq (.seq (.reg [Rq 9 (.mv (Kq 0))])
 (.block 0
 (.loop
 (.seq (.seq (.reg [Rq 26 (.mv 9),Rq 27 (.mv 0),Rq 28 (.len false 27),Rq 29 (.bin .lss 26 28)])
 (.cond 29
 (.skip)
 (.exit 0)))
 (.seq (.block 1
 (.seq (.seq (.dreg [[Rq 32 (.mv 8)],[Rq 33 (.not 32)],[Rq 34 (.mv 33)],[Gq 35 34 true (.mv 0),Gq 36 34 true (.mv 9),Gq 37 34 true (.idxA 5 35 36),Gq 38 34 true (.fldA 0 37),Gq 39 34 true (.load false 1 38),Gq 40 34 true (.fldA 0 3),Gq 41 34 true (.load false 1 40)],[Gq 42 34 true (.bin .geq 39 41)],[Rq 43 (.pick 34 42 (.const (.bool false)))]])
 (.cond 43
 (.seq (.reg [Rq 44 (.mv 7),Rq 45 (.load true 5 3),Rq 46 (.mks 37 5 1 zq2 [(0, 45)]),Rq 47 (.app 37 5 48 (.agg #[(.string ⟨#[]⟩), (.int .i64 0), (.int .i64 0), (.int .i64 0), (.bool false)]) 44 46),Rq 7 (.mv 47)])
 (.reg [Rq 8 (.mv (.const (.bool true)))]))
 (.skip)))
 (.seq (.dreg [[Rq 48 (.mv 0),Rq 49 (.mv 9),Rq 50 (.idxA 5 48 49),Rq 51 (.fldA 0 50),Rq 52 (.load false 1 51),Rq 53 (.fldA 0 3),Rq 54 (.load false 1 53)],[Rq 55 (.bin .neq 52 54)]])
 (.cond 55
 (.reg [Rq 56 (.mv 7),Rq 57 (.mv 0),Rq 58 (.mv 9),Rq 59 (.idxA 5 57 58),Rq 60 (.load true 5 59),Rq 61 (.mks 37 5 1 zq2 [(0, 60)]),Rq 62 (.app 37 5 48 (.agg #[(.string ⟨#[]⟩), (.int .i64 0), (.int .i64 0), (.int .i64 0), (.bool false)]) 56 61),Rq 7 (.mv 62)])
 (.skip)))))
 (.reg [Rq 30 (.mv 9),Rq 31 (.bin .add 30 (Kq 1)),Rq 9 (.mv 31)]))))))
 (.seq (.seq (.reg [Rq 63 (.mv 8),Rq 64 (.not 63)])
 (.cond 64
 (.reg [Rq 65 (.mv 7),Rq 66 (.load true 5 3),Rq 67 (.mks 37 5 1 zq2 [(0, 66)]),Rq 68 (.app 37 5 48 (.agg #[(.string ⟨#[]⟩), (.int .i64 0), (.int .i64 0), (.int .i64 0), (.bool false)]) 65 67),Rq 7 (.mv 68)])
 (.skip)))
 (.seq (.reg [Rq 69 (.mv 7),Rq 4 (.mv 69),Rq 5 (.mv (.const (.bool true)))])
 (.ret))))))))
theorem ck_hearsayref_HearMember : chkFun Tryz.prog 129 2 = some (rc_hearsayref_HearMember, [4, 5]) := by kernel_rfl
def rc_member_Hear : RCode :=
 .seq (.reg [Rq 3 (.box 37 5 1),Rq 4 (.mv (.const (.slice none 0 0))),Rq 5 (.mv (.const (.bool false))),Rq 6 (.mv (Kq 0))])
 (.seq (.reg [Rq 9 (.mv 0),Rq 10 (.mks 22 1 1 [(.slice none 0 0)] [(0, 9)]),Rq 11 (.call (.func 101) [10]),Rq 7 (.mv 11)])
 (.seq (.seq (.reg [Rq 12 (.mv 7),Rq 13 (.bin .eql 12 (Kq 0))])
 (.cond 13
 (.reg [Rq 14 (.load true 5 3),Rq 15 (.call (.func 160) [14]),Rq 7 (.mv 15)])
 (.skip)))
 (.seq (.seq (.reg [Rq 16 (.mv 7),Rq 17 (.bin .neq 16 (Kq 0))])
 (.cond 17
 (.seq (.reg [Rq 18 (.mv 7),Rq 4 (.mv (.const (.slice none 0 0))),Rq 5 (.mv (.const (.bool false))),Rq 6 (.mv 18)])
 (.ret))
 (.skip)))
 (.seq (.dreg [[Rq 20 (.mv 0),Rq 21 (.call (.func 115) [20]),Rq 22 (.load true 5 3)],[Rq 23 (.call (.func 176) [21, 22])],[Rq 19 (.mv 23)],[Rq 24 (.ext 19 0),Rq 25 (.ext 19 1),Rq 0 (.mv 24)],[Rq 8 (.mv 25)]])
 (.seq (.seq (.reg [Rq 26 (.mv 0),Rq 27 (.len false 26),Rq 28 (.bin .gtr 27 (Kq 20))])
 (.cond 28
 (.seq (.reg [Rq 4 (.mv (.const (.slice none 0 0))),Rq 5 (.mv (.const (.bool false))),Rq 6 (.mv (Kq 2))])
 (.ret))
 (.skip)))
 (.seq (.reg [Rq 29 (.mv 0),Rq 30 (.mv 8),Rq 4 (.mv 29),Rq 5 (.mv 30),Rq 6 (.mv (Kq 0))])
 (.ret)))))))
theorem ck_member_Hear : chkFun Tryz.prog 131 2 = some (rc_member_Hear, [4, 5, 6]) := by kernel_rfl
def rc_member_Refute : RCode :=
 .seq (.reg [Rq 4 (.mv (.const (.slice none 0 0))),Rq 5 (.mv (.const (.bool false))),Rq 6 (.mv (Kq 0))])
 (.seq (.seq (.reg [Rq 10 (.mv 0),Rq 11 (.mks 22 1 1 [(.slice none 0 0)] [(0, 10)]),Rq 12 (.call (.func 101) [11]),Rq 7 (.mv 12)])
 (.seq (.reg [Rq 13 (.mv 7),Rq 14 (.bin .neq 13 (Kq 0))])
 (.cond 14
 (.seq (.reg [Rq 15 (.mv 7),Rq 4 (.mv (.const (.slice none 0 0))),Rq 5 (.mv (.const (.bool false))),Rq 6 (.mv 15)])
 (.ret))
 (.skip))))
 (.seq (.seq (.reg [Rq 16 (.mv 1),Rq 17 (.call (.func 42) [16]),Rq 18 (.not 17)])
 (.cond 18
 (.seq (.reg [Rq 4 (.mv (.const (.slice none 0 0))),Rq 5 (.mv (.const (.bool false))),Rq 6 (.mv (Kq 1))])
 (.ret))
 (.skip)))
 (.seq (.reg [Rq 19 (.mv 0),Rq 20 (.call (.func 115) [19]),Rq 0 (.mv 20)])
 (.seq (.reg [Rq 22 (.mv 0),Rq 23 (.mv 1),Rq 24 (.call (.func 49) [22, 23]),Rq 21 (.mv 24),Rq 25 (.ext 21 0),Rq 26 (.ext 21 1),Rq 8 (.mv 25),Rq 9 (.mv 26)])
 (.seq (.seq (.reg [Rq 27 (.mv 9),Rq 28 (.not 27),Rq 29 (.mv 28),Gq 30 29 false (.mv 0),Gq 31 29 false (.mv 8),Gq 32 29 false (.idxA 5 30 31),Gq 33 29 false (.fldA 1 32),Gq 34 29 false (.load false 1 33),Gq 35 29 false (.bin .eql 34 (Kq 1)),Rq 36 (.pick 29 (.const (.bool true)) 35),Rq 37 (.mv 36),Gq 38 37 false (.mv 0),Gq 39 37 false (.mv 8),Gq 40 37 false (.idxA 5 38 39),Gq 41 37 false (.fldA 1 40),Gq 42 37 false (.load false 1 41),Gq 43 37 false (.bin .eql 42 (Kq 4)),Rq 44 (.pick 37 (.const (.bool true)) 43)])
 (.cond 44
 (.seq (.reg [Rq 45 (.mv 0),Rq 4 (.mv 45),Rq 5 (.mv (.const (.bool false))),Rq 6 (.mv (Kq 0))])
 (.ret))
 (.skip)))
 (.seq (.seq (.reg [Rq 46 (.mv 0),Rq 47 (.mv 8),Rq 48 (.idxA 5 46 47),Rq 49 (.fldA 2 48),Rq 50 (.load false 1 49),Rq 51 (.bin .eql 50 (Kq 1000000))])
 (.cond 51
 (.seq (.reg [Rq 4 (.mv (.const (.slice none 0 0))),Rq 5 (.mv (.const (.bool false))),Rq 6 (.mv (Kq 3))])
 (.ret))
 (.skip)))
 (.seq (.reg [Rq 52 (.mv 0),Rq 53 (.mv 8),Rq 54 (.idxA 5 52 53),Rq 55 (.fldA 1 54),Sq 1 55 (Kq 1)])
 (.seq (.reg [Rq 56 (.mv 0),Rq 57 (.mv 8),Rq 58 (.idxA 5 56 57),Rq 59 (.fldA 2 58),Rq 60 (.load false 1 59),Rq 61 (.bin .add 60 (Kq 1)),Rq 62 (.idxA 5 56 57),Rq 63 (.fldA 2 62),Sq 1 63 61])
 (.seq (.reg [Rq 64 (.mv 0),Rq 4 (.mv 64),Rq 5 (.mv (.const (.bool true))),Rq 6 (.mv (Kq 0))])
 (.ret))))))))))
theorem ck_member_Refute : chkFun Tryz.prog 133 2 = some (rc_member_Refute, [4, 5, 6]) := by kernel_rfl
def rc_catalog_find : RCode :=
 .seq (.reg [Rq 6 (.mv (Kq 0)),Rq 7 (.mv (.const (.bool false)))])
 (.seq (.reg [Rq 8 (.mv 0),Rq 9 (.mv 1),Rq 10 (.mv 2),Rq 11 (.build zq3 [(0, 1, 9), (1, 1, 10)]),Rq 12 (.call (.func 178) [8, 11, (.func 162)]),Rq 13 (.ext 12 0),Rq 14 (.ext 12 1),Rq 6 (.mv 13),Rq 7 (.mv 14)])
 (.ret))
theorem ck_catalog_find : chkFun Tryz.prog 134 3 = some (rc_catalog_find, [6, 7]) := by kernel_rfl
def rc_catalog_compare : RCode :=
 .seq (.reg [Rq 2 (.box 64 9 0),Rq 3 (.box 64 9 1),Rq 4 (.mv (Kq 0))])
 (.seq (.dreg [[Rq 5 (.fldA 7 2),Rq 6 (.load false 1 5),Rq 7 (.fldA 7 3),Rq 8 (.load false 1 7),Rq 9 (.call (.func 123) [6, 8]),Rq 10 (.fldA 8 2),Rq 11 (.load false 1 10),Rq 12 (.call (.func 181) [11]),Rq 13 (.fldA 8 3),Rq 14 (.load false 1 13),Rq 15 (.call (.func 181) [14]),Rq 16 (.call (.func 123) [12, 15]),Rq 17 (.fldA 2 2),Rq 18 (.load false 1 17),Rq 19 (.fldA 2 3),Rq 20 (.load false 1 19),Rq 21 (.call (.func 65) [18, 20]),Rq 22 (.fldA 3 2),Rq 23 (.load false 1 22),Rq 24 (.fldA 3 3),Rq 25 (.load false 1 24),Rq 26 (.call (.func 65) [23, 25]),Rq 27 (.fldA 4 2),Rq 28 (.load false 1 27),Rq 29 (.fldA 4 3),Rq 30 (.load false 1 29),Rq 31 (.call (.func 123) [28, 30]),Rq 32 (.fldA 5 2),Rq 33 (.load false 1 32),Rq 34 (.fldA 5 3),Rq 35 (.load false 1 34),Rq 36 (.call (.func 123) [33, 35]),Rq 37 (.fldA 6 2),Rq 38 (.load false 1 37),Rq 39 (.call (.func 181) [38]),Rq 40 (.fldA 6 3),Rq 41 (.load false 1 40)],[Rq 42 (.call (.func 181) [41])],[Rq 43 (.call (.func 123) [39, 42])],[Rq 44 (.mks 3 1 7 [(.int .i64 0)] [(0, 9), (1, 16), (2, 21), (3, 26), (4, 31), (5, 36), (6, 43)])],[Rq 45 (.call (.func 122) [44])],[Rq 4 (.mv 45)]])
 (.ret))
theorem ck_catalog_compare : chkFun Tryz.prog 136 2 = some (rc_catalog_compare, [4]) := by kernel_rfl
def rc_centre_find : RCode :=
 .seq (.reg [Rq 4 (.mv (Kq 0)),Rq 5 (.mv (.const (.bool false)))])
 (.seq (.reg [Rq 6 (.mv 0),Rq 7 (.mv 1),Rq 8 (.call (.func 182) [6, 7, (.func 183)]),Rq 9 (.ext 8 0),Rq 10 (.ext 8 1),Rq 4 (.mv 9),Rq 5 (.mv 10)])
 (.ret))
theorem ck_centre_find : chkFun Tryz.prog 137 2 = some (rc_centre_find, [4, 5]) := by kernel_rfl
def rc_hearsayref_PutRumor : RCode :=
 .seq (.reg [Rq 3 (.box 37 5 1),Rq 4 (.mv (.const (.slice none 0 0))),Rq 5 (.mv (Kq 0))])
 (.seq (.reg [Rq 6 (.mv (.const (.slice none 0 0)))])
 (.seq (.seq (.reg [Rq 7 (.mv (Kq 0))])
 (.block 0
 (.loop
 (.seq (.seq (.reg [Rq 8 (.mv 7),Rq 9 (.mv 0),Rq 10 (.len false 9),Rq 11 (.bin .lss 8 10)])
 (.cond 11
 (.skip)
 (.exit 0)))
 (.seq (.block 1
 (.seq (.dreg [[Rq 14 (.mv 0),Rq 15 (.mv 7),Rq 16 (.idxA 6 14 15),Rq 17 (.fldA 0 16),Rq 18 (.fldA 0 17),Rq 19 (.load false 1 18),Rq 20 (.fldA 0 3),Rq 21 (.load false 1 20)],[Rq 22 (.bin .neq 19 21)]])
 (.cond 22
 (.reg [Rq 23 (.mv 6),Rq 24 (.mv 0),Rq 25 (.mv 7),Rq 26 (.idxA 6 24 25),Rq 27 (.load true 6 26),Rq 28 (.mks 80 6 1 zq1 [(0, 27)]),Rq 29 (.app 80 6 56 (.agg #[(.string ⟨#[]⟩), (.int .i64 0), (.int .i64 0), (.int .i64 0), (.bool false), (.int .i64 0)]) 23 28),Rq 6 (.mv 29)])
 (.seq (.dreg [[Rq 30 (.load true 5 3),Rq 31 (.mv 0),Rq 32 (.mv 7),Rq 33 (.idxA 6 31 32),Rq 34 (.fldA 0 33),Rq 35 (.load true 5 34)],[Rq 36 (.call (.func 58) [30, 35])],[Rq 37 (.not 36)]])
 (.cond 37
 (.seq (.reg [Rq 38 (.mv 0),Rq 4 (.mv 38),Rq 5 (.mv (Kq 0))])
 (.ret))
 (.skip))))))
 (.reg [Rq 12 (.mv 7),Rq 13 (.bin .add 12 (Kq 1)),Rq 7 (.mv 13)]))))))
 (.seq (.seq (.reg [Rq 39 (.mv 6),Rq 40 (.len false 39),Rq 41 (.bin .eql 40 (Kq 20))])
 (.cond 41
 (.seq (.reg [Rq 4 (.mv (.const (.slice none 0 0))),Rq 5 (.mv (Kq 2))])
 (.ret))
 (.skip)))
 (.seq (.reg [Rq 42 (.mv 6),Rq 43 (.load true 5 3),Rq 44 (.build zq1 [(0, 5, 43)]),Rq 45 (.mks 80 6 1 zq1 [(0, 44)]),Rq 46 (.app 80 6 56 (.agg #[(.string ⟨#[]⟩), (.int .i64 0), (.int .i64 0), (.int .i64 0), (.bool false), (.int .i64 0)]) 42 45),Rq 4 (.mv 46),Rq 5 (.mv (Kq 0))])
 (.ret)))))
theorem ck_hearsayref_PutRumor : chkFun Tryz.prog 143 2 = some (rc_hearsayref_PutRumor, [4, 5]) := by kernel_rfl
def rc_hearsayref_RefuteOf : RCode :=
 .seq (.reg [Rq 4 (.mv (.const (.slice none 0 0))),Rq 5 (.mv (.const (.bool false))),Rq 6 (.mv (Kq 0))])
 (.seq (.reg [Rq 11 (.mv 0),Rq 12 (.mv 1),Rq 13 (.call (.func 57) [11, 12]),Rq 7 (.mv 13)])
 (.seq (.seq (.reg [Rq 14 (.mv 7),Rq 15 (.bin .lss 14 (Kq 0)),Rq 16 (.mv 15),Gq 17 16 false (.mv 0),Gq 18 16 false (.mv 7),Gq 19 16 false (.idxA 5 17 18),Gq 20 16 false (.fldA 1 19),Gq 21 16 false (.load false 1 20),Gq 22 16 false (.bin .eql 21 (Kq 1)),Rq 23 (.pick 16 (.const (.bool true)) 22),Rq 24 (.mv 23),Gq 25 24 false (.mv 0),Gq 26 24 false (.mv 7),Gq 27 24 false (.idxA 5 25 26),Gq 28 24 false (.fldA 1 27),Gq 29 24 false (.load false 1 28),Gq 30 24 false (.bin .eql 29 (Kq 4)),Rq 31 (.pick 24 (.const (.bool true)) 30)])
 (.cond 31
 (.seq (.reg [Rq 32 (.mv 0),Rq 4 (.mv 32),Rq 5 (.mv (.const (.bool false))),Rq 6 (.mv (Kq 0))])
 (.ret))
 (.skip)))
 (.seq (.reg [Rq 33 (.mv 0),Rq 34 (.mv 7),Rq 35 (.idxA 5 33 34),Rq 36 (.load true 5 35),Rq 8 (.zbox 37 zq2),Sq 5 8 36])
 (.seq (.seq (.reg [Rq 37 (.fldA 2 8),Rq 38 (.load false 1 37),Rq 39 (.bin .eql 38 (Kq 1000000))])
 (.cond 39
 (.seq (.reg [Rq 4 (.mv (.const (.slice none 0 0))),Rq 5 (.mv (.const (.bool false))),Rq 6 (.mv (Kq 3))])
 (.ret))
 (.skip)))
 (.seq (.reg [Rq 40 (.fldA 1 8),Sq 1 40 (Kq 1)])
 (.seq (.reg [Rq 41 (.fldA 2 8),Rq 42 (.load false 1 41),Rq 43 (.bin .add 42 (Kq 1)),Rq 44 (.fldA 2 8),Sq 1 44 43])
 (.seq (.reg [Rq 46 (.mv 0),Rq 47 (.load true 5 8),Rq 48 (.call (.func 129) [46, 47]),Rq 45 (.mv 48),Rq 49 (.ext 45 0),Rq 50 (.ext 45 1),Rq 9 (.mv 49),Rq 10 (.mv 50)])
 (.seq (.reg [Rq 51 (.mv 9),Rq 4 (.mv 51),Rq 5 (.mv (.const (.bool true))),Rq 6 (.mv (Kq 0))])
 (.ret)))))))))
theorem ck_hearsayref_RefuteOf : chkFun Tryz.prog 144 2 = some (rc_hearsayref_RefuteOf, [4, 5, 6]) := by kernel_rfl
def rc_hearsayref_PutService : RCode :=
 .seq (.reg [Rq 3 (.box 64 9 1),Rq 4 (.mv (.const (.slice none 0 0)))])
 (.seq (.reg [Rq 5 (.mv (.const (.slice none 0 0)))])
 (.seq (.reg [Rq 6 (.mv (.const (.bool false)))])
 (.seq (.seq (.reg [Rq 7 (.mv (Kq 0))])
 (.block 0
 (.loop
 (.seq (.seq (.reg [Rq 8 (.mv 7),Rq 9 (.mv 0),Rq 10 (.len false 9),Rq 11 (.bin .lss 8 10)])
 (.cond 11
 (.skip)
 (.exit 0)))
 (.seq (.block 1
 (.seq (.seq (.dreg [[Rq 14 (.mv 6)],[Rq 15 (.not 14)],[Rq 16 (.mv 15)],[Gq 17 16 true (.mv 0),Gq 18 16 true (.mv 7),Gq 19 16 true (.idxA 9 17 18),Gq 20 16 true (.load true 9 19),Gq 21 16 true (.load true 9 3)],[Gq 22 16 true (.call (.func 114) [20, 21])],[Gq 23 16 true (.not 22)],[Rq 24 (.pick 16 23 (.const (.bool false)))]])
 (.cond 24
 (.seq (.reg [Rq 25 (.mv 5),Rq 26 (.load true 9 3),Rq 27 (.mks 64 9 1 zq3 [(0, 26)]),Rq 28 (.app 64 9 104 (.agg #[(.string ⟨#[]⟩), (.string ⟨#[]⟩), (.string ⟨#[]⟩), (.string ⟨#[]⟩), (.int .i64 0), (.int .i64 0), (.bool false), (.int .i64 0), (.bool false)]) 25 27),Rq 5 (.mv 28)])
 (.reg [Rq 6 (.mv (.const (.bool true)))]))
 (.skip)))
 (.seq (.dreg [[Rq 29 (.mv 0),Rq 30 (.mv 7),Rq 31 (.idxA 9 29 30),Rq 32 (.fldA 0 31),Rq 33 (.load false 1 32),Rq 34 (.fldA 0 3),Rq 35 (.load false 1 34)],[Rq 36 (.bin .neq 33 35)],[Rq 37 (.mv 36)],[Gq 38 37 false (.mv 0),Gq 39 37 false (.mv 7),Gq 40 37 false (.idxA 9 38 39),Gq 41 37 false (.fldA 1 40),Gq 42 37 false (.load false 1 41),Gq 43 37 false (.fldA 1 3),Gq 44 37 false (.load false 1 43)],[Gq 45 37 false (.bin .neq 42 44)],[Rq 46 (.pick 37 (.const (.bool true)) 45)]])
 (.cond 46
 (.reg [Rq 47 (.mv 5),Rq 48 (.mv 0),Rq 49 (.mv 7),Rq 50 (.idxA 9 48 49),Rq 51 (.load true 9 50),Rq 52 (.mks 64 9 1 zq3 [(0, 51)]),Rq 53 (.app 64 9 104 (.agg #[(.string ⟨#[]⟩), (.string ⟨#[]⟩), (.string ⟨#[]⟩), (.string ⟨#[]⟩), (.int .i64 0), (.int .i64 0), (.bool false), (.int .i64 0), (.bool false)]) 47 52),Rq 5 (.mv 53)])
 (.skip)))))
 (.reg [Rq 12 (.mv 7),Rq 13 (.bin .add 12 (Kq 1)),Rq 7 (.mv 13)]))))))
 (.seq (.seq (.reg [Rq 54 (.mv 6),Rq 55 (.not 54)])
 (.cond 55
 (.reg [Rq 56 (.mv 5),Rq 57 (.load true 9 3),Rq 58 (.mks 64 9 1 zq3 [(0, 57)]),Rq 59 (.app 64 9 104 (.agg #[(.string ⟨#[]⟩), (.string ⟨#[]⟩), (.string ⟨#[]⟩), (.string ⟨#[]⟩), (.int .i64 0), (.int .i64 0), (.bool false), (.int .i64 0), (.bool false)]) 56 58),Rq 5 (.mv 59)])
 (.skip)))
 (.seq (.reg [Rq 60 (.mv 5),Rq 4 (.mv 60)])
 (.ret))))))
theorem ck_hearsayref_PutService : chkFun Tryz.prog 145 2 = some (rc_hearsayref_PutService, [4]) := by kernel_rfl
def rc_catalog_one : RCode :=
 .seq (.reg [Rq 1 (.box 64 9 0),Rq 2 (.mv (Kq 0))])
 (.seq (.block 0
 (.seq (.reg [Rq 4 (.fldA 0 1),Rq 5 (.load false 1 4),Rq 6 (.call (.func 42) [5]),Rq 7 (.not 6),Rq 8 (.mv 7),Gq 9 8 false (.fldA 1 1),Gq 10 8 false (.load false 1 9),Gq 11 8 false (.call (.func 42) [10]),Gq 12 8 false (.not 11),Rq 13 (.pick 8 (.const (.bool true)) 12),Rq 14 (.mv 13),Gq 15 14 false (.fldA 2 1),Gq 16 14 false (.load false 1 15),Gq 17 14 false (.call (.func 42) [16]),Gq 18 14 false (.not 17),Rq 19 (.pick 14 (.const (.bool true)) 18),Rq 20 (.mv 19),Gq 21 20 false (.fldA 3 1),Gq 22 20 false (.load false 1 21),Gq 23 20 false (.call (.func 189) [22]),Gq 24 20 false (.not 23),Rq 25 (.pick 20 (.const (.bool true)) 24),Rq 3 (.mv 25)])
 (.cond 3
 (.seq (.reg [Rq 2 (.mv (Kq 1))])
 (.ret))
 (.seq (.reg [Rq 27 (.fldA 4 1),Rq 28 (.load false 1 27),Rq 29 (.call (.func 190) [28, (Kq 0), (Kq 4294967295)]),Rq 30 (.not 29),Rq 31 (.mv 30),Gq 32 31 false (.fldA 5 1),Gq 33 31 false (.load false 1 32),Gq 34 31 false (.call (.func 190) [33, (Kq 0), (Kq 65535)]),Gq 35 31 false (.not 34),Rq 36 (.pick 31 (.const (.bool true)) 35),Rq 37 (.mv 36),Gq 38 37 false (.fldA 7 1),Gq 39 37 false (.load false 1 38),Gq 40 37 false (.call (.func 190) [39, (Kq 1), (Kq 1000000)]),Gq 41 37 false (.not 40),Rq 42 (.pick 37 (.const (.bool true)) 41),Rq 26 (.mv 42)])
 (.cond 26
 (.seq (.reg [Rq 2 (.mv (Kq 3))])
 (.ret))
 (.skip))))))
 (.seq (.reg [Rq 2 (.mv (Kq 0))])
 (.ret)))
theorem ck_catalog_one : chkFun Tryz.prog 155 1 = some (rc_catalog_one, [2]) := by kernel_rfl
def rc_centre_one : RCode :=
 .seq (.reg [Rq 1 (.box 125 3 0),Rq 2 (.mv (Kq 0))])
 (.seq (.block 0
 (.seq (.reg [Rq 4 (.fldA 0 1),Rq 5 (.load false 1 4),Rq 6 (.call (.func 42) [5]),Rq 7 (.not 6),Rq 3 (.mv 7)])
 (.cond 3
 (.seq (.reg [Rq 2 (.mv (Kq 1))])
 (.ret))
 (.seq (.reg [Rq 9 (.fldA 1 1),Rq 10 (.load false 1 9),Rq 11 (.call (.func 191) [10, (Kq 0), (Kq 4294967295)]),Rq 12 (.not 11),Rq 13 (.mv 12),Gq 14 13 false (.fldA 2 1),Gq 15 13 false (.load false 1 14),Gq 16 13 false (.call (.func 191) [15, (Kq 1), (Kq 1000000)]),Gq 17 13 false (.not 16),Rq 18 (.pick 13 (.const (.bool true)) 17),Rq 8 (.mv 18)])
 (.cond 8
 (.seq (.reg [Rq 2 (.mv (Kq 3))])
 (.ret))
 (.skip))))))
 (.seq (.reg [Rq 2 (.mv (Kq 0))])
 (.ret)))
theorem ck_centre_one : chkFun Tryz.prog 157 1 = some (rc_centre_one, [2]) := by kernel_rfl
def rc_member_Each : RCode :=
 .seq (.reg [Rq 2 (.mv (Kq 0))])
 (.seq (.seq (.reg [Rq 6 (.mv 0),Rq 7 (.len false 6),Rq 8 (.mv (Kq 0))])
 (.block 0
 (.loop
 (.seq (.reg [Rq 9 (.bin .lss 8 7)])
 (.seq (.cond 9
 (.skip)
 (.exit 0))
 (.seq (.block 1
 (.seq (.reg [Rq 10 (.idxA 5 6 8),Rq 11 (.load true 5 10),Rq 4 (.zbox 37 zq2),Sq 5 4 11])
 (.seq (.reg [Rq 12 (.load true 5 4),Rq 13 (.call (.func 160) [12]),Rq 5 (.mv 13)])
 (.seq (.reg [Rq 14 (.mv 5),Rq 15 (.bin .neq 14 (Kq 0))])
 (.cond 15
 (.seq (.reg [Rq 16 (.mv 5),Rq 2 (.mv 16)])
 (.ret))
 (.skip))))))
 (.reg [Rq 17 (.bin .add 8 (Kq 1)),Rq 8 (.mv 17)])))))))
 (.seq (.reg [Rq 2 (.mv (Kq 0))])
 (.ret)))
theorem ck_member_Each : chkFun Tryz.prog 159 1 = some (rc_member_Each, [2]) := by kernel_rfl
def rc_member_one : RCode :=
 .seq (.reg [Rq 1 (.box 37 5 0),Rq 2 (.mv (Kq 0))])
 (.seq (.block 0
 (.seq (.reg [Rq 4 (.fldA 0 1),Rq 5 (.load false 1 4),Rq 6 (.call (.func 42) [5]),Rq 7 (.not 6),Rq 3 (.mv 7)])
 (.cond 3
 (.seq (.reg [Rq 2 (.mv (Kq 1))])
 (.ret))
 (.seq (.reg [Rq 9 (.fldA 1 1),Rq 10 (.load false 1 9),Rq 11 (.call (.func 192) [10, (Kq 1), (Kq 4)]),Rq 12 (.not 11),Rq 8 (.mv 12)])
 (.cond 8
 (.seq (.reg [Rq 2 (.mv (Kq 7))])
 (.ret))
 (.seq (.reg [Rq 14 (.fldA 2 1),Rq 15 (.load false 1 14),Rq 16 (.call (.func 192) [15, (Kq 1), (Kq 1000000)]),Rq 17 (.not 16),Rq 18 (.mv 17),Gq 19 18 false (.fldA 3 1),Gq 20 18 false (.load false 1 19),Gq 21 18 false (.call (.func 192) [20, (Kq 0), (Kq 4294967295)]),Gq 22 18 false (.not 21),Rq 23 (.pick 18 (.const (.bool true)) 22),Rq 13 (.mv 23)])
 (.cond 13
 (.seq (.reg [Rq 2 (.mv (Kq 3))])
 (.ret))
 (.skip))))))))
 (.seq (.reg [Rq 2 (.mv (Kq 0))])
 (.ret)))
theorem ck_member_one : chkFun Tryz.prog 160 1 = some (rc_member_one, [2]) := by kernel_rfl
def rc_slices_IndexFunc_api_Rumor_api_Rumor : RCode :=
 .seq (.reg [Rq 4 (.mv (Kq 0))])
 (.seq (.seq (.reg [Rq 6 (.mv 0),Rq 7 (.len false 6),Rq 8 (.mv (Kq 0))])
 (.block 0
 (.loop
 (.seq (.reg [Rq 9 (.bin .lss 8 7)])
 (.seq (.cond 9
 (.skip)
 (.exit 0))
 (.seq (.block 1
 (.seq (.reg [Rq 10 (.mv 8),Rq 5 (.mv 10)])
 (.seq (.reg [Rq 11 (.mv 1),Rq 12 (.mv 0),Rq 13 (.mv 5),Rq 14 (.idxA 6 12 13),Rq 15 (.load true 6 14),Rq 16 (.call 11 [15])])
 (.cond 16
 (.seq (.reg [Rq 17 (.mv 5),Rq 4 (.mv 17)])
 (.ret))
 (.skip)))))
 (.reg [Rq 18 (.bin .add 8 (Kq 1)),Rq 8 (.mv 18)])))))))
 (.seq (.reg [Rq 4 (.mv (.const (.int .i64 (-1))))])
 (.ret)))
theorem ck_slices_IndexFunc_api_Rumor_api_Rumor : chkFun Tryz.prog 161 2 = some (rc_slices_IndexFunc_api_Rumor_api_Rumor, [4]) := by kernel_rfl
def rc_catalog_order : RCode :=
 .seq (.reg [Rq 2 (.box 64 9 0),Rq 3 (.box 64 9 1),Rq 4 (.mv (Kq 0))])
 (.seq (.dreg [[Rq 5 (.fldA 0 2),Rq 6 (.load false 1 5),Rq 7 (.fldA 0 3),Rq 8 (.load false 1 7),Rq 9 (.call (.func 65) [6, 8]),Rq 10 (.fldA 1 2),Rq 11 (.load false 1 10),Rq 12 (.fldA 1 3),Rq 13 (.load false 1 12)],[Rq 14 (.call (.func 65) [11, 13])],[Rq 15 (.mks 3 1 2 [(.int .i64 0)] [(0, 9), (1, 14)])],[Rq 16 (.call (.func 122) [15])],[Rq 4 (.mv 16)]])
 (.ret))
theorem ck_catalog_order : chkFun Tryz.prog 162 2 = some (rc_catalog_order, [4]) := by kernel_rfl
def rc_member_number : RCode :=
 .seq (.reg [Rq 2 (.mv (Kq 0))])
 (.seq (.seq (.reg [Rq 3 (.mv 0)])
 (.cond 3
 (.seq (.reg [Rq 2 (.mv (Kq 1))])
 (.ret))
 (.skip)))
 (.seq (.reg [Rq 2 (.mv (Kq 0))])
 (.ret)))
theorem ck_member_number : chkFun Tryz.prog 163 1 = some (rc_member_number, [2]) := by kernel_rfl
def rc_member_put : RCode :=
 .seq (.reg [Rq 3 (.box 37 5 1),Rq 4 (.mv (.const (.slice none 0 0))),Rq 5 (.mv (.const (.bool false)))])
 (.seq (.reg [Rq 9 (.mv 0),Rq 10 (.fldA 0 3),Rq 11 (.load false 1 10),Rq 12 (.call (.func 49) [9, 11]),Rq 8 (.mv 12),Rq 13 (.ext 8 0),Rq 14 (.ext 8 1),Rq 6 (.mv 13),Rq 7 (.mv 14)])
 (.seq (.block 0
 (.seq (.reg [Rq 16 (.mv 7),Rq 17 (.not 16),Rq 15 (.mv 17)])
 (.cond 15
 (.seq (.reg [Rq 18 (.mv 0),Rq 19 (.mv 6),Rq 20 (.load true 5 3),Rq 21 (.mks 37 5 1 zq2 [(0, 20)]),Rq 22 (.call (.func 206) [18, 19, 21]),Rq 4 (.mv 22),Rq 5 (.mv (.const (.bool true)))])
 (.ret))
 (.seq (.dreg [[Rq 24 (.load true 5 3),Rq 25 (.mv 0),Rq 26 (.mv 6),Rq 27 (.idxA 5 25 26),Rq 28 (.load true 5 27)],[Rq 29 (.call (.func 111) [24, 28])],[Rq 30 (.bin .gtr 29 (Kq 0))],[Rq 23 (.mv 30)]])
 (.cond 23
 (.seq (.reg [Rq 31 (.mv 0),Rq 32 (.mv 6),Rq 33 (.load true 5 3),Rq 34 (.idxA 5 31 32),Sq 5 34 33])
 (.seq (.reg [Rq 35 (.mv 0),Rq 4 (.mv 35),Rq 5 (.mv (.const (.bool true)))])
 (.ret)))
 (.skip))))))
 (.seq (.reg [Rq 36 (.mv 0),Rq 4 (.mv 36),Rq 5 (.mv (.const (.bool false)))])
 (.ret))))
theorem ck_member_put : chkFun Tryz.prog 176 2 = some (rc_member_put, [4, 5]) := by kernel_rfl
def rc_rumor_Put : RCode :=
 .seq (.reg [Rq 3 (.box 37 5 1),Rq 4 (.mv (.const (.slice none 0 0))),Rq 5 (.mv (Kq 0))])
 (.seq (.reg [Rq 8 (.mv 0),Rq 9 (.call (.func 44) [8]),Rq 6 (.mv 9)])
 (.seq (.seq (.reg [Rq 10 (.mv 6),Rq 11 (.bin .eql 10 (Kq 0))])
 (.cond 11
 (.reg [Rq 12 (.load true 5 3),Rq 13 (.call (.func 102) [12]),Rq 6 (.mv 13)])
 (.skip)))
 (.seq (.seq (.reg [Rq 14 (.mv 6),Rq 15 (.bin .neq 14 (Kq 0))])
 (.cond 15
 (.seq (.reg [Rq 16 (.mv 6),Rq 4 (.mv (.const (.slice none 0 0))),Rq 5 (.mv 16)])
 (.ret))
 (.skip)))
 (.seq (.reg [Rq 17 (.mv 0),Rq 18 (.call (.func 116) [17]),Rq 0 (.mv 18)])
 (.seq (.seq (.reg [Rq 19 (.mv 0),Rq 20 (.mkfn 207 [3]),Rq 21 (.call (.func 161) [19, 20]),Rq 7 (.mv 21)])
 (.seq (.reg [Rq 22 (.mv 7),Rq 23 (.bin .geq 22 (Kq 0))])
 (.cond 23
 (.seq (.seq (.dreg [[Rq 24 (.load true 5 3),Rq 25 (.mv 0),Rq 26 (.mv 7),Rq 27 (.idxA 6 25 26),Rq 28 (.fldA 0 27),Rq 29 (.load true 5 28)],[Rq 30 (.call (.func 111) [24, 29])],[Rq 31 (.bin .leq 30 (Kq 0))]])
 (.cond 31
 (.seq (.reg [Rq 32 (.mv 0),Rq 4 (.mv 32),Rq 5 (.mv (Kq 0))])
 (.ret))
 (.skip)))
 (.reg [Rq 33 (.mv 0),Rq 34 (.mv 7),Rq 35 (.mv 7),Rq 36 (.bin .add 35 (Kq 1)),Rq 37 (.call (.func 208) [33, 34, 36]),Rq 0 (.mv 37)]))
 (.skip))))
 (.seq (.seq (.reg [Rq 38 (.mv 0),Rq 39 (.len false 38),Rq 40 (.bin .eql 39 (Kq 20))])
 (.cond 40
 (.seq (.reg [Rq 4 (.mv (.const (.slice none 0 0))),Rq 5 (.mv (Kq 2))])
 (.ret))
 (.skip)))
 (.seq (.reg [Rq 41 (.mv 0),Rq 42 (.load true 5 3),Rq 43 (.build zq1 [(0, 5, 42)]),Rq 44 (.mks 80 6 1 zq1 [(0, 43)]),Rq 45 (.app 80 6 56 (.agg #[(.string ⟨#[]⟩), (.int .i64 0), (.int .i64 0), (.int .i64 0), (.bool false), (.int .i64 0)]) 41 44),Rq 4 (.mv 45),Rq 5 (.mv (Kq 0))])
 (.ret))))))))
theorem ck_rumor_Put : chkFun Tryz.prog 177 2 = some (rc_rumor_Put, [4, 5]) := by kernel_rfl
def rc_slices_BinarySearchFunc_api_Service_api_Service_api_Service : RCode :=
 .seq (.reg [Rq 4 (.box 64 9 1),Rq 6 (.mv (Kq 0)),Rq 7 (.mv (.const (.bool false)))])
 (.seq (.reg [Rq 12 (.mv 0),Rq 13 (.len false 12),Rq 8 (.mv 13)])
 (.seq (.reg [Rq 14 (.mv 8),Rq 9 (.mv (Kq 0)),Rq 10 (.mv 14)])
 (.seq (.block 0
 (.loop
 (.seq (.seq (.reg [Rq 15 (.mv 9),Rq 16 (.mv 10),Rq 17 (.bin .lss 15 16)])
 (.cond 17
 (.skip)
 (.exit 0)))
 (.block 1
 (.seq (.reg [Rq 18 (.mv 9),Rq 19 (.mv 10),Rq 20 (.bin .add 18 19),Rq 21 (.conv .u64 20),Rq 22 (.bin .shr 21 (.const (.int .u64 1))),Rq 23 (.conv .i64 22),Rq 11 (.mv 23)])
 (.seq (.dreg [[Rq 24 (.mv 2),Rq 25 (.mv 0),Rq 26 (.mv 11),Rq 27 (.idxA 9 25 26),Rq 28 (.load true 9 27),Rq 29 (.load true 9 4)],[Rq 30 (.call 24 [28, 29])],[Rq 31 (.bin .lss 30 (Kq 0))]])
 (.cond 31
 (.reg [Rq 32 (.mv 11),Rq 33 (.bin .add 32 (Kq 1)),Rq 9 (.mv 33)])
 (.reg [Rq 34 (.mv 11),Rq 10 (.mv 34)]))))))))
 (.seq (.dreg [[Rq 35 (.mv 9),Rq 36 (.mv 9),Rq 37 (.mv 8),Rq 38 (.bin .lss 36 37),Rq 39 (.mv 38),Gq 40 39 true (.mv 2),Gq 41 39 true (.mv 0),Gq 42 39 true (.mv 9),Gq 43 39 true (.idxA 9 41 42),Gq 44 39 true (.load true 9 43),Gq 45 39 true (.load true 9 4),Gq 46 39 true (.call 40 [44, 45]),Gq 47 39 true (.bin .eql 46 (Kq 0)),Rq 48 (.pick 39 47 (.const (.bool false))),Rq 6 (.mv 35)],[Rq 7 (.mv 48)]])
 (.ret)))))
theorem ck_slices_BinarySearchFunc_api_Service_api_Service_api_Service : chkFun Tryz.prog 178 3 = some (rc_slices_BinarySearchFunc_api_Service_api_Service_api_Service, [6, 7]) := by kernel_rfl
def rc_catalog_number : RCode :=
 .seq (.reg [Rq 2 (.mv (Kq 0))])
 (.seq (.seq (.reg [Rq 3 (.mv 0)])
 (.cond 3
 (.seq (.reg [Rq 2 (.mv (Kq 1))])
 (.ret))
 (.skip)))
 (.seq (.reg [Rq 2 (.mv (Kq 0))])
 (.ret)))
theorem ck_catalog_number : chkFun Tryz.prog 181 1 = some (rc_catalog_number, [2]) := by kernel_rfl
def rc_slices_BinarySearchFunc_api_Gateway_api_Gateway_string : RCode :=
 .seq (.reg [Rq 6 (.mv (Kq 0)),Rq 7 (.mv (.const (.bool false)))])
 (.seq (.reg [Rq 12 (.mv 0),Rq 13 (.len false 12),Rq 8 (.mv 13)])
 (.seq (.reg [Rq 14 (.mv 8),Rq 9 (.mv (Kq 0)),Rq 10 (.mv 14)])
 (.seq (.block 0
 (.loop
 (.seq (.seq (.reg [Rq 15 (.mv 9),Rq 16 (.mv 10),Rq 17 (.bin .lss 15 16)])
 (.cond 17
 (.skip)
 (.exit 0)))
 (.block 1
 (.seq (.reg [Rq 18 (.mv 9),Rq 19 (.mv 10),Rq 20 (.bin .add 18 19),Rq 21 (.conv .u64 20),Rq 22 (.bin .shr 21 (.const (.int .u64 1))),Rq 23 (.conv .i64 22),Rq 11 (.mv 23)])
 (.seq (.reg [Rq 24 (.mv 2),Rq 25 (.mv 0),Rq 26 (.mv 11),Rq 27 (.idxA 3 25 26),Rq 28 (.load true 3 27),Rq 29 (.mv 1),Rq 30 (.call 24 [28, 29]),Rq 31 (.bin .lss 30 (Kq 0))])
 (.cond 31
 (.reg [Rq 32 (.mv 11),Rq 33 (.bin .add 32 (Kq 1)),Rq 9 (.mv 33)])
 (.reg [Rq 34 (.mv 11),Rq 10 (.mv 34)]))))))))
 (.seq (.reg [Rq 35 (.mv 9),Rq 36 (.mv 9),Rq 37 (.mv 8),Rq 38 (.bin .lss 36 37),Rq 39 (.mv 38),Gq 40 39 true (.mv 2),Gq 41 39 true (.mv 0),Gq 42 39 true (.mv 9),Gq 43 39 true (.idxA 3 41 42),Gq 44 39 true (.load true 3 43),Gq 45 39 true (.mv 1),Gq 46 39 true (.call 40 [44, 45]),Gq 47 39 true (.bin .eql 46 (Kq 0)),Rq 48 (.pick 39 47 (.const (.bool false))),Rq 6 (.mv 35),Rq 7 (.mv 48)])
 (.ret)))))
theorem ck_slices_BinarySearchFunc_api_Gateway_api_Gateway_string : chkFun Tryz.prog 182 3 = some (rc_slices_BinarySearchFunc_api_Gateway_api_Gateway_string, [6, 7]) := by kernel_rfl
def rc_centre_find_1 : RCode :=
 .seq (.reg [Rq 2 (.box 125 3 0),Rq 4 (.mv (Kq 0))])
 (.seq (.reg [Rq 5 (.fldA 0 2),Rq 6 (.load false 1 5),Rq 7 (.mv 1),Rq 8 (.call (.func 65) [6, 7]),Rq 4 (.mv 8)])
 (.ret))
theorem ck_centre_find_1 : chkFun Tryz.prog 183 2 = some (rc_centre_find_1, [4]) := by kernel_rfl
def rc_catalog_maybe : RCode :=
 .seq (.reg [Rq 2 (.mv (.const (.bool false)))])
 (.seq (.reg [Rq 3 (.mv 0),Rq 4 (.bin .eql 3 (.const (.string ⟨#[]⟩))),Rq 5 (.mv 4),Gq 6 5 false (.mv 0),Gq 7 5 false (.call (.func 42) [6]),Rq 8 (.pick 5 (.const (.bool true)) 7),Rq 2 (.mv 8)])
 (.ret))
theorem ck_catalog_maybe : chkFun Tryz.prog 189 1 = some (rc_catalog_maybe, [2]) := by kernel_rfl
def rc_catalog_within : RCode :=
 .seq (.reg [Rq 6 (.mv (.const (.bool false)))])
 (.seq (.reg [Rq 7 (.mv 0),Rq 8 (.mv 1),Rq 9 (.bin .geq 7 8),Rq 10 (.mv 9),Gq 11 10 true (.mv 0),Gq 12 10 true (.mv 2),Gq 13 10 true (.bin .leq 11 12),Rq 14 (.pick 10 13 (.const (.bool false))),Rq 6 (.mv 14)])
 (.ret))
theorem ck_catalog_within : chkFun Tryz.prog 190 3 = some (rc_catalog_within, [6]) := by kernel_rfl
def rc_centre_within : RCode :=
 .seq (.reg [Rq 6 (.mv (.const (.bool false)))])
 (.seq (.reg [Rq 7 (.mv 0),Rq 8 (.mv 1),Rq 9 (.bin .geq 7 8),Rq 10 (.mv 9),Gq 11 10 true (.mv 0),Gq 12 10 true (.mv 2),Gq 13 10 true (.bin .leq 11 12),Rq 14 (.pick 10 13 (.const (.bool false))),Rq 6 (.mv 14)])
 (.ret))
theorem ck_centre_within : chkFun Tryz.prog 191 3 = some (rc_centre_within, [6]) := by kernel_rfl
def rc_member_within : RCode :=
 .seq (.reg [Rq 6 (.mv (.const (.bool false)))])
 (.seq (.reg [Rq 7 (.mv 0),Rq 8 (.mv 1),Rq 9 (.bin .geq 7 8),Rq 10 (.mv 9),Gq 11 10 true (.mv 0),Gq 12 10 true (.mv 2),Gq 13 10 true (.bin .leq 11 12),Rq 14 (.pick 10 13 (.const (.bool false))),Rq 6 (.mv 14)])
 (.ret))
theorem ck_member_within : chkFun Tryz.prog 192 3 = some (rc_member_within, [6]) := by kernel_rfl
def rc_rumor_Put_1 : RCode :=
 .seq (.reg [Rq 2 (.box 80 6 0),Rq 3 (.mv (.const (.bool false)))])
 (.seq (.reg [Rq 4 (.fldA 0 2),Rq 5 (.fldA 0 4),Rq 6 (.load false 1 5),Rq 7 (.fldA 0 1),Rq 8 (.load false 1 7),Rq 9 (.bin .eql 6 8),Rq 3 (.mv 9)])
 (.ret))
theorem ck_rumor_Put_1 : chkFun Tryz.prog 207 2 = some (rc_rumor_Put_1, [3]) := by kernel_rfl
def rc_slices_Delete_api_Rumor_api_Rumor : RCode :=
 .seq (.reg [Rq 6 (.mv (.const (.slice none 0 0)))])
 (.seq (.reg [Rq 8 (.mv 0),Rq 9 (.mv 1),Rq 10 (.mv 2),Rq 11 (.mv 0),Rq 12 (.len false 11),Rq 13 (.slcL 6 8 (some 9) (some 10) (some 12))])
 (.seq (.seq (.reg [Rq 14 (.mv 1),Rq 15 (.mv 2),Rq 16 (.bin .eql 14 15)])
 (.cond 16
 (.seq (.reg [Rq 17 (.mv 0),Rq 6 (.mv 17)])
 (.ret))
 (.skip)))
 (.seq (.reg [Rq 18 (.mv 0),Rq 19 (.len false 18),Rq 7 (.mv 19)])
 (.seq (.dreg [[Rq 20 (.mv 0),Rq 21 (.mv 1),Rq 22 (.slcL 6 20 none (some 21) none),Rq 23 (.mv 0),Rq 24 (.mv 2),Rq 25 (.slcL 6 23 (some 24) none none)],[Rq 26 (.app 80 6 56 (.agg #[(.string ⟨#[]⟩), (.int .i64 0), (.int .i64 0), (.int .i64 0), (.bool false), (.int .i64 0)]) 22 25)],[Rq 0 (.mv 26)]])
 (.seq (.reg [Rq 27 (.mv 0),Rq 28 (.mv 0),Rq 29 (.len false 28),Rq 30 (.mv 7),Rq 31 (.slcL 6 27 (some 29) (some 30) none),⟨none, none, .clr 6 zq1 31⟩])
 (.seq (.reg [Rq 32 (.mv 0),Rq 6 (.mv 32)])
 (.ret)))))))
theorem ck_slices_Delete_api_Rumor_api_Rumor : chkFun Tryz.prog 208 3 = some (rc_slices_Delete_api_Rumor_api_Rumor, [6]) := by kernel_rfl
end Go.Proofs.YtkclokmfomnbgaaGreat
namespace Go.Proofs.YtkclokmfomnbgaaGreat
open Go.ChangeShapes Go.WideShapes Go.ChangeAt Go.RowKit
set_option linter.unusedVariables false
section
variable {H : Type} {enc : TypeId × Value → H} {P : Program}
theorem trodAll_stays (hl : laidOutB P = true) {W W' : World} {B : Nat} (hb : Below B W W') (sp : Nat → Bool) :
  ∀ {ts : List TypeId} {vs : List Value} {ds : List (DataW H)} {p : List MemPlace}, (∀ t ∈ ts, P.readableRec t = true ∧ t < P.types.size) →
   DataW.TrodAll enc P W 0 (fun _ => true) true ts vs ds p → (∀ x ∈ p, sp x.block = true) → (∀ x ∈ p, x.block < B) → B = W.heap.size → DataW.TrodAll enc P W' 0 sp true ts vs ds p
 | [], _, _, _, _, h, _, _, _ => by
  obtain ⟨rfl, rfl, rfl⟩ := trodAll_nil h
  exact trodAll_mk0
 | t :: ts, _, _, _, ht, h, hs, hlt, hB => by
  obtain ⟨v, vs1, d, ds1, a, b, rfl, rfl, rfl, h1, h2⟩ := trodAll_cons h
  obtain ⟨hr, hrow⟩ := ht t (by simp)
  subst hB
  refine ⟨a, b, WideElems.Trod_stays hl hr hrow h1 (fun x hx => hb.same (hlt x (by simp [hx]))) (fun x hx => hs x (by simp [hx])), ?_, rfl⟩
  exact trodAll_stays hl hb sp (fun t h => ht t (by simp [h])) h2 (fun x hx => hs x (by simp [hx])) (fun x hx => hlt x (by simp [hx])) rfl
theorem law_post {f : Func} {s : ChangeSpec} {apart fresh handsOn again : Bool} {W W' : World} {args : Array Value} {ds gs : List (DataW H)} {before : List MemPlace} {tb : TypeId}
  (hW : DataW.Whole enc P f.params.toList s.vars apart W args.toList ds gs before) (hl : laidOutB P = true) (hr : ∀ t ∈ f.params.toList, P.readableRec t = true ∧ t < P.types.size)
  (hv : s.vars = []) (hf : s.fn H (ds ++ gs) = { results := [.lit (.bool true)], args := ds }) (hres : f.resultTypes = #[tb]) (hbool : P.underlying tb = some .bool)
  (hb : Below W.heap.size W W') : s.post enc P f apart fresh handsOn again W args (.bool true) W' := by
 have hW0 := hW
 have hlt : ∀ p ∈ before, p.block < W.heap.size := fun p hp => hW.lt p hp
 obtain ⟨p, q, hA, hV, rfl, hz, hn⟩ := hW
 rw [hv] at hV
 obtain ⟨rfl, rfl⟩ := trodVars_none hV
 simp only [List.append_nil] at *
 have hst : ∀ sp : Nat → Bool, (∀ x ∈ p, sp x.block = true) → DataW.TrodAll enc P W' 0 sp true f.params.toList args.toList ds p := fun sp hs => trodAll_stays hl hb sp hr hA hs hlt rfl
 have hold : ∀ x ∈ p, (fun b => decide (b < W.heap.size)) x.block = true := fun x hx => by simpa using hlt x hx
 have hR : ∀ (b : Nat) (sp : Nat → Bool) (hd : Bool), DataW.TrodAll enc P W' b sp hd f.resultTypes.toList ((Value.bool true).resultList f.resultTypes.size) [.lit (.bool true)] [] := fun b sp hd => by
  rw [hres]
  exact trodAll_cons_mk (shut_bool hbool _) trodAll_mk0
 refine ⟨ds, [], p, [], p, [], hW0, ?_, ?_, ?_, ?_, fun _ => ?_⟩
 ·rw [List.append_nil, hf]; exact hR _ _ _
 ·rw [List.append_nil, hf]; exact hst _ hold
 ·rw [List.append_nil, hv, hf]; rfl
 ·exact World.keptBut_mono (fun x hx => ⟨hx, by simp [hx]⟩) (hb.frame (· ∈ p))
 ·obtain ⟨_, _, _, _, _, hz', hn'⟩ := hW0
  refine ⟨ok_one hres rfl (okWide_bool_mk hbool _), _, [], ([] ++ p) ++ [], ⟨[] ++ p, [], trodAll_append (hst _ (fun _ _ => rfl)) (hR _ _ _), ?_, rfl, ?_, ?_⟩, ?_⟩
  ·rw [hv]; rfl
  ·intro b off hp
   rw [hb.frozen (hlt _ (by simpa using hp))]
   exact hz b off (by simpa using hp)
  ·intro ha
   simpa using hn ha
  ·intro x hx _
   simpa using hx
end
end Go.Proofs.YtkclokmfomnbgaaGreat
namespace Go.Proofs.YtkclokmfomnbgaaGreat
open Go.Joins Go.ChangeShapes Go.WideShapes Go.RowKit Go.Deep
set_option linter.unusedVariables false
inductive Ty where
 | i
 | s
 | b
 | l (row : List Ty)
inductive FitV : Ty → V → Prop where
 | i (n : Int) (h1 : -9223372036854775808 ≤ n) (h2 : n ≤ 9223372036854775807) : FitV .i (.v (.int .i64 n))
 | s (x : ByteArray) (h : x.size ≤ 9223372036854775807) : FitV .s (.v (.string x))
 | b (x : Bool) : FitV .b (.v (.bool x))
 | l (tys : List Ty) (rows : List (List V)) (hl : rows.length ≤ 9223372036854775807) (hr : ∀ row ∈ rows, tys.length = row.length) (h : ∀ row ∈ rows, ∀ (j : Nat) (t : Ty) (u : V), tys[j]? = some t → row[j]? = some u → FitV t u) : FitV (.l tys) (.sl false rows)
def Fits (tys : List Ty) (us : List V) : Prop := tys.length = us.length ∧ ∀ (j : Nat) (t : Ty) (u : V), tys[j]? = some t → us[j]? = some u → FitV t u
def tyFs (P : Program) (rc : TypeId → Option (List Ty)) : List Field → Nat → Option (List Ty)
  | [], _ => some []
  | f :: fs, off => match rc f.type with
    | some ts => if f.offset == off && P.cellsOf f.type == ts.length then (match tyFs P rc fs (off + ts.length) with
      | some r => some (ts ++ r)
      | none => none) else none
    | none => none
def tyOf (P : Program) : Nat → TypeId → Option (List Ty)
 | 0, _ => none
 | d + 1, t => match P.underlying t with
  | some (.int .i64) => some [.i]
  | some .string => some [.s]
  | some .bool => some [.b]
  | some (.struct fs) => match tyFs P (tyOf P d) fs.toList 0 with
   | some ts => if P.cellsOf t == ts.length then some ts else none
   | none => none
  | some (.slice e) => match tyOf P d e with
   | some ts => if P.cellsOf e == ts.length && 0 < ts.length then some [.l ts] else none
   | none => none
  | _ => none
section
variable {H : Type} {enc : TypeId × Value → H} {P : Program} {w : World} {base : Nat} {spare : Nat → Bool} {held : Bool}
def Reads (w : World) (tys : List Ty) (cs : List Value) (us : List V) : Prop :=
 Fits tys us ∧ cs.length = us.length ∧ ∀ (j : Nat) (u : V) (x : Value), us[j]? = some u → cs[j]? = some x → RV w (fun b => b < w.heap.size) noG u x
theorem Reads.app {t1 t2 : List Ty} {c1 c2 : List Value} {u1 u2 : List V} (h1 : Reads w t1 c1 u1) (h2 : Reads w t2 c2 u2) : Reads w (t1 ++ t2) (c1 ++ c2) (u1 ++ u2) := by
 obtain ⟨⟨a1, a2⟩, a3, a4⟩ := h1
 obtain ⟨⟨b1, b2⟩, b3, b4⟩ := h2
 refine ⟨⟨by simp [a1, b1], fun j t u g1 g2 => ?_⟩, by simp [a3, b3], fun j u x g1 g2 => ?_⟩
 ·by_cases hj : j < t1.length
  ·rw [List.getElem?_append_left hj] at g1
   rw [List.getElem?_append_left (by omega)] at g2
   exact a2 j t u g1 g2
  ·rw [List.getElem?_append_right (by omega)] at g1 g2
   rw [← a1] at g2
   exact b2 _ t u g1 g2
 ·by_cases hj : j < u1.length
  ·rw [List.getElem?_append_left hj] at g1
   rw [List.getElem?_append_left (by omega)] at g2
   exact a4 j u x g1 g2
  ·rw [List.getElem?_append_right (by omega)] at g1 g2
   rw [a3] at g2
   exact b4 _ u x g1 g2
theorem reads_one {t : Ty} {x : Value} {u : V} (h : FitV t u) (hr : RV w (fun b => b < w.heap.size) noG u x) : Reads w [t] [x] [u] := by
 refine ⟨⟨rfl, fun j t' u' g1 g2 => ?_⟩, rfl, fun j u' x' g1 g2 => ?_⟩
 ·cases j with
  | zero => simp at g1 g2; subst g1 g2; exact h
  | succ j => simp at g1
 ·cases j with
  | zero => simp at g1 g2; subst g1 g2; exact hr
  | succ j => simp at g1
theorem add_full (a : Addr) (n : Nat) (h : a.spot = none) : a.add n = ⟨a.block, a.off + n, none⟩ := by
 obtain ⟨b, o, sp⟩ := a
 simp only at h; subst h
 unfold Addr.add
 split <;> simp_all
theorem reads_fields {d fuel : Nat} {cs : List Value} (rc : ∀ (t : TypeId) (tys : List Ty) (cs : List Value) (x : DataW H × List MemPlace), tyOf P d t = some tys → DataW.trod enc P w base spare held fuel t cs = some x → ∃ us, Reads w tys cs us) :
  ∀ (fs : List Field) (off : Nat) (tys : List Ty) (xs : List (DataW H × List MemPlace)), tyFs P (tyOf P d) fs off = some tys → (∀ (i : Nat) (f : Field), fs[i]? = some f → ∃ x, DataW.trod enc P w base spare held fuel f.type ((cs.drop f.offset).take (P.cellsOf f.type)) = some x) →
   ∃ us, Reads w tys ((cs.drop off).take tys.length) us := by
 intro fs
 induction fs with
 | nil =>
  intro off tys xs h _
  simp only [tyFs, Option.some.injEq] at h; subst h
  exact ⟨[], ⟨rfl, by simp⟩, by simp, by simp⟩
 | cons f fs ih =>
  intro off tys xs h hf
  simp only [tyFs] at h
  split at h
  ·rename_i ts hts
   split at h
   ·rename_i hc
    simp only [Bool.and_eq_true, beq_iff_eq] at hc
    split at h
    ·rename_i r hr
     injection h with h; subst h
     obtain ⟨x0, hx0⟩ := hf 0 f rfl
     obtain ⟨us1, h1⟩ := rc _ _ _ _ hts hx0
     obtain ⟨us2, h2⟩ := ih _ _ xs hr (fun i g hg => hf (i + 1) g (by simpa using hg))
     rw [hc.1, hc.2] at h1
     have hlen : ((cs.drop off).take ts.length).length = ts.length := by rw [h1.2.1, ← h1.1.1]
     refine ⟨us1 ++ us2, ?_⟩
     have e : (cs.drop off).take (ts ++ r).length = (cs.drop off).take ts.length ++ (cs.drop (off + ts.length)).take r.length := by
      rw [List.length_append, List.take_add, List.drop_drop]
     rw [e]
     exact h1.app h2
    ·cases h
   ·cases h
  ·cases h
theorem reads_of : ∀ (d fuel : Nat) (t : TypeId) (tys : List Ty) (cs : List Value) (x : DataW H × List MemPlace), tyOf P d t = some tys → DataW.trod enc P w base spare held fuel t cs = some x → ∃ us, Reads w tys cs us := by
 intro d
 induction d with
 | zero => intro fuel t tys cs x h; cases h
 | succ d ih =>
  intro fuel t tys cs x h hd
  simp only [tyOf] at h
  split at h
  ·rename_i hu
   injection h with h; subst h
   obtain ⟨n, rfl, _, hw⟩ := DataW.trod_int hu hd
   have hb : -9223372036854775808 ≤ n ∧ n ≤ 9223372036854775807 := by simpa [Lit.wf, IntKind.min, IntKind.max, IntKind.signed, IntKind.bits] using hw
   exact ⟨_, reads_one (.i n hb.1 hb.2) (.v _)⟩
  ·rename_i hu
   injection h with h; subst h
   obtain ⟨s, rfl, _, hs⟩ := DataW.trod_string hu hd
   exact ⟨_, reads_one (.s s (by simpa [maxLen] using hs)) (.v _)⟩
  ·rename_i hu
   injection h with h; subst h
   obtain ⟨s, rfl, _⟩ := DataW.trod_bool hu hd
   exact ⟨_, reads_one (.b s) (.v _)⟩
  ·rename_i fs hu
   split at h
   ·rename_i ts hts
    split at h
    ·rename_i hc
     simp only [beq_iff_eq] at hc
     injection h with h; subst h
     obtain ⟨xs, n, rfl, _, hcl, hxl, hf⟩ := DataW.trod_struct hu hd
     obtain ⟨us, hus⟩ := reads_fields (cs := cs) (fun t tys cs x h1 h2 => ih n t tys cs x h1 h2) fs.toList 0 ts xs hts (fun i f hi => by
      have hi' : fs[i]? = some f := by simpa using hi
      have hlt : i < xs.length := by rw [hxl]; exact (Array.getElem?_eq_some_iff.1 hi').1
      exact ⟨_, (hf i f hi').trans (List.getElem?_eq_getElem hlt)⟩)
     refine ⟨us, ?_⟩
     rwa [List.drop_zero, ← hc, ← hcl, List.take_length] at hus
    ·cases h
   ·cases h
  ·rename_i e hu
   split at h
   ·rename_i ts hts
    split at h
    ·rename_i hc
     simp only [Bool.and_eq_true, beq_iff_eq, decide_eq_true_eq] at hc
     injection h with h; subst h
     rcases open_slice hu hd with ⟨rfl, _⟩ | ⟨a, len, cap, m, n, D, Pl, rfl, hb, hl, hm, hmm, _, hi⟩
     ·exact ⟨[.sl false []], reads_one (.l _ [] (by simp) (by simp) (by simp)) (.nil _ _ _ (by simp))⟩
     ·have hlm : len ≤ m := by rw [hmm]; split <;> omega
      have hall : ∀ i : Nat, ∃ p : List Value × List V, i < len → Reads w ts p.1 p.2 ∧ ∀ j, j < ts.length → w.cell? (a.add (i * ts.length + j)) = p.1[j]? := fun i => by
       by_cases hil : i < len
       ·obtain ⟨cs', h1, h2⟩ := hi i (by omega)
        obtain ⟨us, hus⟩ := ih n e ts cs' _ hts h2
        obtain ⟨_, h3, h4⟩ := World.cells?_some h1
        rw [hc.1] at h3 h4
        exact ⟨(cs', us), fun _ => ⟨hus, fun j hj => by rw [← Go.Deep.add_add]; exact h4 j hj⟩⟩
       ·exact ⟨([], []), fun h => absurd h hil⟩
      obtain ⟨f, hf⟩ := Classical.axiomOfChoice hall
      have hsp : 0 < len → a.spot = none ∧ a.block < w.heap.size := fun h0 => by
       obtain ⟨h1, h2⟩ := hf 0 h0
       have hx := h2 0 hc.2
       have hlt : 0 < (f 0).1.length := by rw [h1.2.1, ← h1.1.1]; exact hc.2
       rw [List.getElem?_eq_getElem hlt] at hx
       have e : a.add (0 * ts.length + 0) = a := by simp [Addr.add]
       rw [e] at hx
       refine ⟨?_, World.block_lt_of_cell? w _ hx⟩
       unfold World.cell? at hx
       split at hx
       ·cases hq : a.spot with
        | none => rfl
        | some k => simp [hq] at hx
       ·cases hx
      refine ⟨[.sl false ((List.range len).map fun i => (f i).2)], reads_one (.l _ _ (by simp only [List.length_map, List.length_range]; simp only [maxLen] at hm; omega) ?_ ?_) ?_⟩
      ·intro row hrow
       simp only [List.mem_map, List.mem_range] at hrow
       obtain ⟨i, hil, rfl⟩ := hrow
       exact (hf i hil).1.1.1
      ·intro row hrow j t u g1 g2
       simp only [List.mem_map, List.mem_range] at hrow
       obtain ⟨i, hil, rfl⟩ := hrow
       exact (hf i hil).1.1.2 j t u g1 g2
      ·rcases Nat.eq_zero_or_pos len with h0 | h0
       ·subst h0; exact .nil _ _ _ (by simp)
       ·obtain ⟨h1, h2⟩ := hsp h0
        obtain ⟨b, off, sp⟩ := a
        simp only at h1 h2
        subst h1
        have hrows : ∀ (i : Nat) (row : List V), ((List.range len).map fun i => (f i).2)[i]? = some row → i < len ∧ row = (f i).2 := fun i row h => by
         have hlt := (List.getElem?_eq_some_iff.1 h).1
         simp only [List.length_map, List.length_range] at hlt
         simp [hlt] at h
         exact ⟨hlt, h.symm⟩
        have e := RV.sl (w := w) (R := fun b => b < w.heap.size) (G := noG) false ((List.range len).map fun i => (f i).2) b off cap ts.length (fun i j => ((f i).1[j]?).getD undef) h2 (by simpa using hl) (by simp) (by
          intro row hrow
          simp only [List.mem_map, List.mem_range] at hrow
          obtain ⟨i, hil, rfl⟩ := hrow
          exact (hf i hil).1.1.1.symm) (by
          intro i j row u g1 g2
          obtain ⟨hil, rfl⟩ := hrows i row g1
          have hj : j < ts.length := by have := (List.getElem?_eq_some_iff.1 g2).1; rw [(hf i hil).1.1.1]; exact this
          have hjl : j < (f i).1.length := by rw [(hf i hil).1.2.1, ← (hf i hil).1.1.1]; exact hj
          have hx := (hf i hil).2 j hj
          rw [add_full _ _ rfl, List.getElem?_eq_getElem hjl] at hx
          rw [List.getElem?_eq_getElem hjl]
          simp only [Option.getD_some]
          rw [Nat.add_assoc]; exact hx) (by
          intro i j row u g1 g2
          obtain ⟨hil, rfl⟩ := hrows i row g1
          have hj : j < ts.length := by have := (List.getElem?_eq_some_iff.1 g2).1; rw [(hf i hil).1.1.1]; exact this
          have hjl : j < (f i).1.length := by rw [(hf i hil).1.2.1, ← (hf i hil).1.1.1]; exact hj
          rw [List.getElem?_eq_getElem hjl]
          exact (hf i hil).1.2.2 j u _ g2 (List.getElem?_eq_getElem hjl))
        have e2 : ((List.range len).map fun i => (f i).2).length = len := by simp
        rw [e2] at e
        exact e
    ·cases h
   ·cases h
  ·cases h
theorem open_struct {t : TypeId} {tys : List Ty} {r : Reach} {b0 : Nat} {v : Value} {fs : Array Field} {d : DataW H} {p : List MemPlace} {dp : Nat} (hs : P.underlying t = some (.struct fs)) (ht : tyOf P dp t = some tys) (hv : Value.okWide P w r b0 t v) (h : DataW.Trod enc P w base spare held t v d p) :
  ∃ us, Fits tys us ∧ RV w (fun b => b < w.heap.size) noG (.agg us) v := by
 obtain ⟨cs, rfl, hsz⟩ := okWide_struct hs hv
 obtain ⟨fuel, hf⟩ := h
 obtain ⟨us, h1, h3, h4⟩ := reads_of dp fuel t _ _ _ ht hf
 obtain ⟨cs⟩ := cs
 exact ⟨us, h1, .agg us cs h3.symm h4⟩
end
theorem fits_cons {t : Ty} {ts : List Ty} {us : List V} (h : Fits (t :: ts) us) : ∃ u us', us = u :: us' ∧ FitV t u ∧ Fits ts us' := by
 obtain ⟨h1, h2⟩ := h
 match us, h1 with
 | u :: us', h1 => exact ⟨u, us', rfl, h2 0 _ _ rfl rfl, by simpa using h1, fun j t' u' g1 g2 => h2 (j + 1) t' u' (by simpa using g1) (by simpa using g2)⟩
theorem fits_nil {us : List V} (h : Fits [] us) : us = [] := List.eq_nil_of_length_eq_zero h.1.symm
theorem fit_i {u : V} (h : FitV .i u) : ∃ n : Int, u = .v (.int .i64 n) ∧ -9223372036854775808 ≤ n ∧ n ≤ 9223372036854775807 := by cases h with | i n h1 h2 => exact ⟨n, rfl, h1, h2⟩
theorem fit_s {u : V} (h : FitV .s u) : ∃ x : ByteArray, u = .v (.string x) ∧ x.size ≤ 9223372036854775807 := by cases h with | s x h => exact ⟨x, rfl, h⟩
theorem fit_b {u : V} (h : FitV .b u) : ∃ x : Bool, u = .v (.bool x) := by cases h with | b x => exact ⟨x, rfl⟩
theorem fit_l {tys : List Ty} {u : V} (h : FitV (.l tys) u) : ∃ rows, u = .sl false rows ∧ rows.length ≤ 9223372036854775807 ∧ ∀ row ∈ rows, Fits tys row := by
 cases h with | l tys rows hl hr h => exact ⟨rows, rfl, hl, fun row hm => ⟨hr row hm, h row hm⟩⟩
theorem rows_dec {α : Type} {enc : α → List V} {p : α → Prop} {tys : List Ty} (hd : ∀ row, Fits tys row → ∃ x : α, row = enc x ∧ p x) : ∀ (rows : List (List V)), (∀ row ∈ rows, Fits tys row) → ∃ l : List α, rows = l.map enc ∧ ∀ x ∈ l, p x
 | [], _ => ⟨[], rfl, by simp⟩
 | row :: rows, h => by
  obtain ⟨x, hx, px⟩ := hd row (h row (by simp))
  obtain ⟨l, hl, pl⟩ := rows_dec hd rows fun r hr => h r (by simp [hr])
  exact ⟨x :: l, by simp [hx, hl], by simpa using ⟨px, pl⟩⟩
theorem fit_list {α : Type} {enc : α → List V} {p : α → Prop} {tys : List Ty} {u : V} (hd : ∀ row, Fits tys row → ∃ x : α, row = enc x ∧ p x) (h : FitV (.l tys) u) : ∃ l : List α, u = .sl false (l.map enc) ∧ l.length ≤ 9223372036854775807 ∧ ∀ x ∈ l, p x := by
 obtain ⟨rows, rfl, hl, hr⟩ := fit_l h
 obtain ⟨l, rfl, hp⟩ := rows_dec hd rows hr
 exact ⟨l, rfl, by simpa using hl, hp⟩
theorem pars_v {w : World} {R : Nat → Prop} : ∀ {xs ys : List Value}, Pars w R (xs.map fun x => .c (.v x)) ys → ys = xs
 | xs, ys, h => by
  apply List.ext_getElem?
  intro i
  have hl := h.len
  rw [List.length_map] at hl
  by_cases hi : i < xs.length
  ·have h1 : xs[i]? = some xs[i] := List.getElem?_eq_getElem hi
   have h2 : ys[i]? = some (ys[i]'(by omega)) := List.getElem?_eq_getElem (by omega)
   have h3 : ParOk w R (.c (.v xs[i])) (ys[i]'(by omega)) := h.ok i _ _ (by rw [List.getElem?_map, h1]; rfl) h2
   have h4 : RV w R noG (.v xs[i]) (ys[i]'(by omega)) := h3
   rw [h1, h2, rv_v h4]
  ·rw [List.getElem?_eq_none (by omega), List.getElem?_eq_none (by omega)]
theorem no_blk {ps : List Par} {xs : List Value} {b : Nat} (h : ∀ p ∈ ps, ∃ u, p = .c u) : ¬ ParBlk ps xs b := by
 rintro ⟨i, T, sz, rows, x, h1, _⟩
 obtain ⟨u, hu⟩ := h _ (List.mem_of_getElem? h1)
 cases hu
theorem fr_of_below {L : Nat → Prop} {w w' : World} (h : Below w.heap.size w w') (hd : w.drawn ≤ w'.drawn) : Fr L w w' := ⟨h.os, h.tape, h.output, h.size, fun k hk _ => h.block k hk, hd⟩
theorem fun_flat {P : Program} {f : FuncId} {xs : List Value} {v : Value} (hc : Callable P f) (h : ∀ w, Calls P f xs.toArray w fun e w' => e = .returned v ∧ Below w.heap.size w w' ∧ w.drawn ≤ w'.drawn) : Fun P f (xs.map fun x => .c (.v x)) [.c (.v v)] := by
 refine ⟨hc, fun w R ys hlt hp => ?_⟩
 obtain rfl := pars_v hp
 refine (h w).mono fun e w' ⟨he, hb, hd⟩ => ⟨[v], R, by rw [he]; rfl, fr_of_below hb hd, fun _ h => h, fun b h => .inl h, ⟨rfl, ?_, ?_, ?_⟩, ?_⟩
 ·intro i p x h1 h2
  cases i with
  | zero => simp at h1 h2; subst h1 h2; exact .v _
  | succ i => simp at h1
 ·intro i j T sz rows T' sz' rows' x y b _ h1
  cases i with
  | zero => simp at h1
  | succ i => simp at h1
 ·intro b hb'
  exact absurd hb' (no_blk (by simp))
 ·intro b hb'
  exact absurd hb' (no_blk (by simp))
theorem callable {P : Program} {f : FuncId} {fn : Func} (h1 : P.funcs[f]? = some fn) (h2 : (fn.name == "runtime.NumGoroutine") = false) (h3 : fn.body.isNone = false) : Callable P f := ⟨fn, h1, h2, h3⟩
theorem tieF {P : Program} {f : FuncId} {ps : List Par} {xs : List Value} {v : Value} {w : World} (hF : Fun P f ps [.c (.v v)]) (hc : ∀ p ∈ ps, ∃ u, p = .c u) (hl : ps.length = xs.length)
  (hp : ∀ (i : Nat) (u : V) (x : Value), ps[i]? = some (.c u) → xs[i]? = some x → RV w (fun b => b < w.heap.size) noG u x) : Calls P f xs.toArray w fun e w' => e = .returned v ∧ Below w.heap.size w w' := by
 refine (hF.2 w (fun b => b < w.heap.size) xs (fun _ h => h) ⟨hl, ?_, ?_, ?_⟩).mono ?_
 ·intro i p x h1 h2
  obtain ⟨u, rfl⟩ := hc p (List.mem_of_getElem? h1)
  exact hp i u x h1 h2
 ·intro i j T sz rows T' sz' rows' x y b _ h1
  obtain ⟨u, hu⟩ := hc _ (List.mem_of_getElem? h1)
  cases hu
 ·intro b hb; exact absurd hb (no_blk hc)
 ·rintro e w' ⟨ys, R', rfl, hfr, _, _, hpr, _⟩
  have hy : ys.length = 1 := hpr.len.symm
  match ys, hy with
  | [y], _ =>
   have : RV w' R' noG (.v v) y := hpr.ok 0 _ y rfl rfl
   obtain rfl := rv_v this
   exact ⟨rfl, hfr.os, hfr.tape, hfr.output, hfr.size, fun k hk => hfr.block k hk (no_blk hc)⟩
def RVL (w : World) : List V → List Value → Prop
 | [], [] => True
 | u :: us, x :: xs => RV w (fun b => b < w.heap.size) noG u x ∧ RVL w us xs
 | _, _ => False
theorem rvl_len {w : World} : ∀ {us : List V} {xs : List Value}, RVL w us xs → us.length = xs.length
 | [], [], _ => rfl
 | u :: us, x :: xs, h => by simp [rvl_len h.2]
 | [], _ :: _, h => h.elim
 | _ :: _, [], h => h.elim
theorem rvl_at {w : World} : ∀ {us : List V} {xs : List Value}, RVL w us xs → ∀ (i : Nat) (u : V) (x : Value), us[i]? = some u → xs[i]? = some x → RV w (fun b => b < w.heap.size) noG u x
 | [], [], _, i, u, x, h1, _ => by simp at h1
 | u' :: us, x' :: xs, h, 0, u, x, h1, h2 => by simp at h1 h2; subst h1 h2; exact h.1
 | u' :: us, x' :: xs, h, i + 1, u, x, h1, h2 => rvl_at h.2 i u x (by simpa using h1) (by simpa using h2)
 | [], _ :: _, h, _, _, _, _, _ => h.elim
 | _ :: _, [], h, _, _, _, _, _ => h.elim
theorem tieL {P : Program} {f : FuncId} {us : List V} {xs : List Value} {v : Value} {w : World} (hF : Fun P f (us.map .c) [.c (.v v)]) (h : RVL w us xs) : Calls P f xs.toArray w fun e w' => e = .returned v ∧ Below w.heap.size w w' :=
 tieF hF (by simp) (by rw [List.length_map]; exact rvl_len h) (fun i u x h1 h2 => by
  rw [List.getElem?_map] at h1
  cases hq : us[i]? with
  | none => rw [hq] at h1; cases h1
  | some u' => rw [hq] at h1; simp at h1; subst h1; exact rvl_at h i u' x hq h2)
end Go.Proofs.YtkclokmfomnbgaaGreat
namespace Go.Proofs.YtkclokmfomnbgaaGreat
open Go.RowKit
set_option linter.unusedVariables false
theorem hid {p : Prop} (h : p) : Hid p := h
theorem ret_int {k : IntKind} {a b : Int} (h : a = b) : Ending.returned (.int k a) = .returned (.int k b) := by rw [h]
theorem ret_bool {a b : Bool} (h : a = b) : Ending.returned (.bool a) = .returned (.bool b) := by rw [h]
theorem keep_all {W w1 : World} {g : Nat} {f : Nat → Option Value} (hb : Below W.heap.size W w1) (hlt : g < W.heap.size) (h : ∀ i, W.cell? ⟨g, i, none⟩ = f i) : ∀ i, w1.cell? ⟨g, i, none⟩ = f i :=
 fun i => (hb.cell (p := ⟨g, i, none⟩) hlt).trans (h i)
theorem flat_len {α : Type} {enc : α → List Value} {sz : Nat} (hs : ∀ x, (enc x).length = sz) : ∀ l : List α, (l.flatMap enc).length = l.length * sz
 | [] => by simp
 | x :: r => by rw [List.flatMap_cons, List.length_append, hs, flat_len hs r, List.length_cons, Nat.add_mul]; omega
theorem flat_get {α : Type} {enc : α → List Value} {sz : Nat} (hs : ∀ x, (enc x).length = sz) : ∀ {l : List α} (i j : Nat) (hi : i < l.length) (hj : j < sz), (l.flatMap enc)[i * sz + j]? = (enc l[i])[j]?
 | x :: r, 0, j, _, hj => by
  rw [List.flatMap_cons, Nat.zero_mul, Nat.zero_add, List.getElem?_append_left (by rw [hs]; exact hj)]; rfl
 | x :: r, i + 1, j, hi, hj => by
  rw [List.flatMap_cons, List.getElem?_append_right (by rw [hs, Nat.add_mul]; omega), hs, show (i + 1) * sz + j - sz = i * sz + j by rw [Nat.add_mul]; omega]
  exact flat_get hs i j (by simpa using hi) hj
def Blk (w : World) (g : Nat) (t : TypeId) (cs : Array Value) : Prop := w.heap[g]? = some (.cells cs t (0, 0))
section
variable {w w' : World} {g : Nat} {t : TypeId} {cs : Array Value}
theorem Blk.lt (h : Blk w g t cs) : g < w.heap.size := by
 rcases Nat.lt_or_ge g w.heap.size with hlt | hge
 ·exact hlt
 ·unfold Blk at h; rw [Array.getElem?_eq_none hge] at h; cases h
theorem Blk.cell (h : Blk w g t cs) (i : Nat) : w.cell? ⟨g, i, none⟩ = cs[i]? := by
 unfold Blk at h
 simp [World.cell?, h]
theorem Blk.frozen (h : Blk w g t cs) (i : Nat) : w.frozen? ⟨g, i, none⟩ = false := by
 unfold Blk at h
 simp [World.frozen?, h]
theorem Blk.new (w : World) (t : TypeId) (cs : Array Value) : Blk (w.alloc (.cells cs t)) w.heap.size t cs := heap_alloc_new w _
theorem Blk.new_ (w : World) (t : TypeId) (cs : Array Value) {g : Nat} (h : g = w.heap.size) : Blk (w.alloc (.cells cs t)) g t cs := h ▸ heap_alloc_new w _
theorem Blk.drew (h : Blk w g t cs) : Blk w.drew g t cs := h
theorem Blk.drewN (h : Blk w g t cs) (n : Nat) : Blk (w.drewN n) g t cs := h
theorem Blk.alloc (h : Blk w g t cs) (o : Obj) : Blk (w.alloc o) g t cs := (Below.heap_alloc w o g h.lt).trans h
theorem Blk.grown {row : Option Nat} (h : Blk w g t cs) (hb : w.grownBy w' row) (hg : some g ≠ row) : Blk w' g t cs := (hb.block g h.lt hg).trans h
end
end Go.Proofs.YtkclokmfomnbgaaGreat
namespace Go.Proofs.YtkclokmfomnbgaaGreat
open Go.RowKit Pl
set_option linter.unusedVariables false
theorem isNaNs_any (a : ByteArray) (w : World) : Calls Tryz.prog 128 #[.string a] w fun e w' => e = .returned (.bool false) ∧ w = w' := by
 have h : (a.toList == a.toList) = true := by simp
 go_enter Tryz.func128, Tryz.ntmps128
 go_wp2
 go_ret
 exact ⟨ret_bool (by simp), rfl⟩
theorem cmps_any (a b : ByteArray) (w : World) : Calls Tryz.prog 65 #[.string a, .string b] w fun e w' => e = .returned (.int .i64 (scmp a b)) ∧ w = w' := by
 rcases Bool.eq_false_or_eq_true (slt a b) with h | h
 ·have HE := hid (scmp_lt h)
  unfold slt at h
  go_enter Tryz.func65, Tryz.ntmps65
  go_wp2_with (go_at_call 128; refine (isNaNs_any _ _).mono ?_; rintro e w' ⟨rfl, rfl⟩)
  go_ret
  exact ⟨ret_int HE.out.symm, rfl⟩
 ·rcases Bool.eq_false_or_eq_true (slt b a) with g | g
  ·have HE := hid (scmp_gt g)
   have h2 : (a.toList == b.toList) = false := seq_no (fun e => by subst e; rw [slt_irrefl] at g; cases g)
   unfold slt at h
   clear g
   go_enter Tryz.func65, Tryz.ntmps65
   go_wp2_with (go_at_call 128; refine (isNaNs_any _ _).mono ?_; rintro e w' ⟨rfl, rfl⟩)
   go_ret
   exact ⟨ret_int HE.out.symm, rfl⟩
  ·obtain rfl := slt_tri h g
   have HE := hid (scmp_eq a)
   have h2 : (a.toList == a.toList) = true := by simp
   unfold slt at h
   clear g
   go_enter Tryz.func65, Tryz.ntmps65
   go_wp2_with (go_at_call 128; refine (isNaNs_any _ _).mono ?_; rintro e w' ⟨rfl, rfl⟩)
   go_ret
   exact ⟨ret_int HE.out.symm, rfl⟩
def icmp (a b : Int) : Int := if a < b then -1 else if b < a then 1 else 0
theorem isNaNi_any (a : Int) (w : World) : Calls Tryz.prog 165 #[.int .i64 a] w fun e w' => e = .returned (.bool false) ∧ w = w' := by
 have h : (a == a) = true := by simp
 go_enter Tryz.func165, Tryz.ntmps165
 go_wp2
 go_ret
 exact ⟨ret_bool (by simp), rfl⟩
theorem cmpi_any (a b : Int) (w : World) : Calls Tryz.prog 123 #[.int .i64 a, .int .i64 b] w fun e w' => e = .returned (.int .i64 (icmp a b)) ∧ w = w' := by
 by_cases h : a < b
 ·have HE : Hid (icmp a b = -1) := hid (by simp [icmp, h])
  go_enter Tryz.func123, Tryz.ntmps123
  go_wp2_with (go_at_call 165; refine (isNaNi_any _ _).mono ?_; rintro e w' ⟨rfl, rfl⟩)
  go_ret
  exact ⟨ret_int HE.out.symm, rfl⟩
 ·by_cases g : b < a
  ·have HE : Hid (icmp a b = 1) := hid (by simp [icmp, h, g])
   go_enter Tryz.func123, Tryz.ntmps123
   go_wp2_with (go_at_call 165; refine (isNaNi_any _ _).mono ?_; rintro e w' ⟨rfl, rfl⟩)
   go_ret
   exact ⟨ret_int HE.out.symm, rfl⟩
  ·have HE : Hid (icmp a b = 0) := hid (by simp [icmp, h, g])
   go_enter Tryz.func123, Tryz.ntmps123
   go_wp2_with (go_at_call 165; refine (isNaNi_any _ _).mono ?_; rintro e w' ⟨rfl, rfl⟩)
   go_ret
   exact ⟨ret_int HE.out.symm, rfl⟩
def firstNZ : List Int → Int
 | [] => 0
 | x :: r => if x = 0 then firstNZ r else x
theorem firstNZ_at : ∀ {l : List Int} {k : Nat} (hk : k < l.length), (∀ i, (h : i < l.length) → i < k → l[i] = 0) → l[k] ≠ 0 → firstNZ l = l[k]
 | x :: r, 0, _, _, hne => by
  simp only [List.getElem_cons_zero] at hne ⊢
  simp [firstNZ, hne]
 | x :: r, k + 1, hk, h, hne => by
  have h0 : x = 0 := h 0 (by simp) (by omega)
  subst h0
  simp only [firstNZ, if_true, List.getElem_cons_succ] at hne ⊢
  exact firstNZ_at (by simpa using hk) (fun i hi hik => h (i + 1) (by simpa using hi) (by omega)) hne
theorem firstNZ_zero : ∀ {l : List Int}, (∀ i, (h : i < l.length) → l[i] = 0) → firstNZ l = 0
 | [], _ => rfl
 | x :: r, h => by
  have h0 : x = 0 := h 0 (by simp)
  subst h0
  simp only [firstNZ, if_true]
  exact firstNZ_zero fun i hi => h (i + 1) (by simpa using hi)
end Go.Proofs.YtkclokmfomnbgaaGreat
namespace Go.Proofs.YtkclokmfomnbgaaGreat
open Go.RowKit Pl
set_option linter.unusedVariables false
theorem wrap_u64 {n : Int} (h1 : 0 ≤ n) (h2 : n ≤ 18446744073709551615) : IntKind.u64.wrap n = n := IntWalk.u64_in n ⟨h1, h2⟩
theorem fdiv_half {n : Int} (h : 0 ≤ n) : n.fdiv (2 ^ (min (1 : Int).toNat IntKind.u64.bits)) = n / 2 := by
 have e : (2 : Int) ^ (min (1 : Int).toNat IntKind.u64.bits) = 2 := by decide
 rw [e, Int.fdiv_eq_ediv_of_nonneg _ (by decide)]
class FlatRow {α : Type} (enc : α → List V) : Prop where
 flat : ∀ x, ∀ u ∈ enc x, ∃ v, u = .v v
theorem row_map {α : Type} {f : α → List V} {l : List α} {k : Nat} (h : k < l.length) : (l.map f)[k]? = some (f l[k]) := by simp [h]
theorem fl_row {α : Type} {enc : α → List V} [hf : FlatRow enc] {x : α} : ∀ u ∈ enc x, Fl u := fun u hu => by
 obtain ⟨v, rfl⟩ := hf.flat x u hu
 exact fl_v v
theorem fl_rows {α : Type} {enc : α → List V} [FlatRow enc] {l : List α} : ∀ row ∈ l.map enc, ∀ u ∈ row, Fl u := fun row hr u hu => by
 obtain ⟨x, _, rfl⟩ := List.mem_map.1 hr
 exact fl_row u hu
theorem cl_rows {α : Type} {enc : α → List V} [FlatRow enc] {l : List α} : ∀ row ∈ l.map enc, ∀ u ∈ row, Cl u := fun row hr u hu => (fl_rows row hr u hu).cl
theorem cl_list {α : Type} {enc : α → List V} [FlatRow enc] {c : Bool} {l : List α} : Cl (.sl c (l.map enc)) := cl_sl cl_rows
theorem cl_nil {c : Bool} : Cl (.sl c []) := cl_sl (by simp)
theorem cl_one {α : Type} {enc : α → List V} [FlatRow enc] {x : α} : Cl (.agg (enc x)) := cl_agg fun u hu => (fl_row u hu).cl
def vB : V → Bool
 | .v _ => true
 | _ => false
def vsB : List V → Bool
 | [] => true
 | u :: us => bif vB u then vsB us else false
def clB : V → Bool
 | .v _ => true
 | .agg cs => vsB cs
 | .tup cs => vsB cs
 | .clo _ cs => vsB cs
 | .sl false [] => true
 | _ => false
def clRs : List (List V) → Bool
 | [] => true
 | r :: rs => bif vsB r then clRs rs else false
theorem vB_fl {u : V} (h : vB u = true) : Fl u := by
 cases u <;> first | exact fl_v _ | cases h
theorem vsB_fl : ∀ {us : List V}, vsB us = true → ∀ u ∈ us, Fl u
 | [], _, u, hu => by cases hu
 | v :: us, h, u, hu => by
  unfold vsB at h
  cases hv : vB v with
  | false => rw [hv] at h; cases h
  | true =>
   rw [hv] at h
   rcases List.mem_cons.1 hu with rfl | hu
   ·exact vB_fl hv
   ·exact vsB_fl h u hu
theorem clRs_fl : ∀ {rs : List (List V)}, clRs rs = true → ∀ r ∈ rs, ∀ u ∈ r, Fl u
 | [], _, r, hr => by cases hr
 | r' :: rs, h, r, hr => by
  unfold clRs at h
  cases hv : vsB r' with
  | false => rw [hv] at h; cases h
  | true =>
   rw [hv] at h
   rcases List.mem_cons.1 hr with rfl | hr
   ·exact vsB_fl hv
   ·exact clRs_fl h r hr
theorem fl_clo {f : FuncId} {cs : List V} (h : ∀ u ∈ cs, Fl u) : Fl (.clo f cs) := fun w w' R R' G G' x hx => by
 cases hx with
 | clo f cs xs hl hh => exact .clo f cs xs hl fun i u x h1 h2 => h u (List.mem_of_getElem? h1) _ _ _ _ _ _ _ (hh i u x h1 h2)
theorem fl_b {u : V} (h : clB u = true) : Fl u := by
 cases u with
 | v x => exact fl_v x
 | agg cs => exact fl_agg (vsB_fl h)
 | tup cs => exact fl_tup (vsB_fl h)
 | clo f cs => exact fl_clo (vsB_fl h)
 | sl c rows => cases c <;> cases rows <;> first | exact fl_nil | cases h
 | _ => cases h
theorem cl_b {u : V} (h : clB u = true) : Cl u := (fl_b h).cl
theorem cl_rs {rs : List (List V)} (h : clRs rs = true) : ∀ r ∈ rs, ∀ u ∈ r, Cl u := fun r hr u hu => (clRs_fl h r hr u hu).cl
theorem cl_rl1 {α : Type} {enc : α → List V} [FlatRow enc] {c : Bool} {l : List α} : ∀ row ∈ [[V.sl c (l.map enc)]], ∀ u ∈ row, Cl u := by
 intro row hr u hu
 simp only [List.mem_cons, List.not_mem_nil, or_false] at hr; subst hr
 simp only [List.mem_cons, List.not_mem_nil, or_false] at hu; subst hu
 exact cl_list
theorem cl_rl2 {α : Type} {enc : α → List V} [FlatRow enc] {c d : Bool} {l m : List α} : ∀ row ∈ [[V.sl c (l.map enc)], [V.sl d (m.map enc)]], ∀ u ∈ row, Cl u := by
 intro row hr u hu
 simp only [List.mem_cons, List.not_mem_nil, or_false] at hr
 rcases hr with rfl | rfl <;> (simp only [List.mem_cons, List.not_mem_nil, or_false] at hu; subst hu; exact cl_list)
theorem cl_ll1 {α : Type} {enc : α → List V} [FlatRow enc] {c e : Bool} {l : List α} : Cl (.sl e [[V.sl c (l.map enc)]]) := cl_sl cl_rl1
theorem cl_ll2 {α : Type} {enc : α → List V} [FlatRow enc] {c d e : Bool} {l m : List α} : Cl (.sl e [[V.sl c (l.map enc)], [V.sl d (m.map enc)]]) := cl_sl cl_rl2
def flB : List Par → Bool
 | [] => true
 | .c u :: ps => bif clB u then flB ps else false
 | _ => false
theorem flat_b : ∀ {rs : List Par}, flB rs = true → flatRes rs
 | [], _ => fun r hr => by cases hr
 | .c u :: ps, h => by
  unfold flB at h
  cases hv : clB u with
  | false => rw [hv] at h; cases h
  | true =>
   rw [hv] at h
   intro r hr
   rcases List.mem_cons.1 hr with rfl | hr
   ·exact fl_b hv
   ·exact flat_b h r hr
 | .o _ _ _ :: _, h => by cases h
theorem flat_own {α : Type} {enc : α → List V} [FlatRow enc] {T : TypeId} {sz : Nat} {l : List α} : flatRes [.o T sz (l.map enc)] := by
 intro r hr
 simp only [List.mem_cons, List.not_mem_nil, or_false] at hr; subst hr
 exact fl_rows
theorem flat_own1 {α : Type} {enc : α → List V} [FlatRow enc] {T : TypeId} {sz : Nat} {l : List α} {ps : List Par} (h : flB ps = true) : flatRes (.o T sz (l.map enc) :: ps) := by
 intro r hr
 rcases List.mem_cons.1 hr with rfl | hr
 ·exact fl_rows
 ·exact flat_b h r hr
theorem cl_setB {α : Type} {enc : α → List V} [FlatRow enc] {l : List α} {i : Nat} {row : List V} (h : vsB row = true) : ∀ r ∈ (l.map enc).set i row, ∀ u ∈ r, Cl u := fun r hr u hu => by
 rcases List.mem_or_eq_of_mem_set hr with h1 | rfl
 ·exact cl_rows r h1 u hu
 ·exact (vsB_fl h u hu).cl
theorem cl_setG {rows : List (List V)} {i : Nat} {row : List V} (h0 : ∀ r ∈ rows, ∀ u ∈ r, Cl u) (h : vsB row = true) : ∀ r ∈ rows.set i row, ∀ u ∈ r, Cl u := fun r hr u hu => by
 rcases List.mem_or_eq_of_mem_set hr with h1 | rfl
 ·exact h0 r h1 u hu
 ·exact (vsB_fl h u hu).cl
theorem set_at {α : Type} {f : α → List V} {l : List α} {k : Nat} {r : List V} (h : k < l.length) : ((l.map f).set k r)[k]? = some r := by simp [h]
theorem cl_appB {rs rs' : List (List V)} (h : ∀ r ∈ rs, ∀ u ∈ r, Cl u) (h' : ∀ r ∈ rs', ∀ u ∈ r, Cl u) : ∀ r ∈ rs ++ rs', ∀ u ∈ r, Cl u := fun r hr u hu => by
 rcases List.mem_append.1 hr with h1 | h1
 ·exact h r h1 u hu
 ·exact h' r h1 u hu
theorem give' {H : Nat → Option Ent} {all : List Nat} {bor : Bool} {gone : List Nat} {id g : Nat} {T : TypeId} {sz : Nat} {rows : List (List V)} {us : List V} {ps : List Par} (he : H id = some ⟨g, .t T, sz, rows⟩) (hr : ∀ row ∈ rows, ∀ u ∈ row, Cl u) (hn : id ∉ gone) (ha : id ∈ all) (h : ArgsOk H all bor gone us ps) : ArgsOk H all bor (id :: gone) (.own id g :: us) (.o T sz rows :: ps) :=
 ArgsOk.give (e := ⟨g, .t T, sz, rows⟩) he rfl rfl hr hn ha h
theorem not_t {b : Bool} (h : (!b) = true) : b = false := by cases b; rfl; cases h
theorem not_f {b : Bool} (h : (!b) = false) : b = true := by cases b; cases h; rfl
theorem nobor {p : Prop} : false = true → p := by simp
theorem wi_t {n a b : Int} (h : decide (a ≤ n) = true) : wi n a b = decide (n ≤ b) := by simp [wi, h]
theorem wi_f {n a b : Int} (h : decide (a ≤ n) = false) : wi n a b = false := by simp [wi, h]
theorem up1 {n k : Nat} {p : (j : Nat) → (j < n) → Prop} (h0 : ∀ j (h : j < n), j < k → p j h) (hk : ∀ h : k < n, p k h) : ∀ j (h : j < n), j < k + 1 → p j h := fun j h hj => by
 rcases (by omega : j < k ∨ j = k) with g | rfl
 ·exact h0 j h g
 ·exact hk h
theorem up2 {n k : Nat} {p : (j : Nat) → (j + 1 < n) → Prop} (h0 : ∀ j (h : j + 1 < n), j < k → p j h) (hk : ∀ h : k + 1 < n, p k h) : ∀ j (h : j + 1 < n), j < k + 1 → p j h := fun j h hj => by
 rcases (by omega : j < k ∨ j = k) with g | rfl
 ·exact h0 j h g
 ·exact hk h
theorem cl_row {row : List V} (h : clRs [row] = true) : ∀ u ∈ row, Cl u := fun u hu => cl_rs h row (by simp) u hu
theorem GetR.cell1 {env : Nat → V} {H : Nat → Option Ent} {a id gen k off sz : Nat} {agg : Bool} {e : Ent} {row : List V} {r : List RT} {u : V} {us : List V} (h1 : env a = .ptr id gen k off) (h2 : H id = some e) (h3 : e.gen = gen) (h4 : e.rows[k]? = some row) (h5 : Nat.ble (off + sz) row.length = true) (hu : u = mkV agg ((row.drop off).take sz)) (h : GetR env H r us) :
  GetR env H ((a, some (agg, sz)) :: r) (u :: us) := by rw [hu]; exact .cell h1 h2 h3 h4 (Nat.le_of_ble_eq_true h5) h
theorem GetR.tmp1 {env : Nat → V} {H : Nat → Option Ent} {t : Nat} {r : List RT} {u : V} {us : List V} (hu : u = env t) (h : GetR env H r us) : GetR env H ((t, none) :: r) (u :: us) := by rw [hu]; exact .tmp h
class OneRow {α : Type} (enc : α → List V) (sz : outParam Nat) : Prop where
 len : ∀ x, (enc x).length = sz
 one : ∀ x, ∀ u ∈ enc x, ∃ v, u = .v v ∧ v.oneCell' = true
theorem ones_of {H : Nat → Option Ent} : ∀ {us : List V}, (∀ u ∈ us, ∃ v, u = .v v ∧ v.oneCell' = true) → ones H us
 | [], _ => trivial
 | u :: us, h => by
  obtain ⟨v, rfl, hv⟩ := h u (List.mem_cons_self ..)
  exact ⟨hv, ones_of fun w hw => h w (List.mem_cons_of_mem _ hw)⟩
theorem ones_rows {α : Type} {enc : α → List V} {sz : Nat} [OneRow enc sz] {H : Nat → Option Ent} {l : List α} : ∀ row ∈ l.map enc, row.length = sz ∧ ones H row := fun row hr => by
 obtain ⟨x, _, rfl⟩ := List.mem_map.1 hr
 exact ⟨OneRow.len x, ones_of (OneRow.one x)⟩
theorem outs_b {rs : List ParM} (h : rs.all outM = true) : ∀ p ∈ rs, outM p = true := List.all_eq_true.1 h
theorem cl_r1 {c : Bool} {rows : List (List V)} (h : clRs rows = true) : ∀ u ∈ [V.sl c rows], Cl u := fun u hu => by
 simp only [List.mem_cons, List.not_mem_nil, or_false] at hu; subst hu
 exact cl_sl (cl_rs h)
theorem cl_r1b {α : Type} {enc : α → List V} [FlatRow enc] {c : Bool} {l : List α} : ∀ u ∈ [V.sl c (l.map enc)], Cl u := fun u hu => by
 simp only [List.mem_cons, List.not_mem_nil, or_false] at hu; subst hu
 exact cl_list
theorem cl_rowF {α : Type} {enc : α → List V} [FlatRow enc] {x : α} : ∀ u ∈ enc x, Cl u := fun u hu => (fl_row u hu).cl
theorem cr_app {rs rs' : List (List V)} (h : ∀ r ∈ rs, ∀ u ∈ r, Cl u) (h' : ∀ r ∈ rs', ∀ u ∈ r, Cl u) : ∀ r ∈ rs ++ rs', ∀ u ∈ r, Cl u := cl_appB h h'
theorem cr_take {rs : List (List V)} {n : Nat} (h : ∀ r ∈ rs, ∀ u ∈ r, Cl u) : ∀ r ∈ rs.take n, ∀ u ∈ r, Cl u := fun r hr => h r (List.mem_of_mem_take hr)
theorem cr_drop {rs : List (List V)} {n : Nat} (h : ∀ r ∈ rs, ∀ u ∈ r, Cl u) : ∀ r ∈ rs.drop n, ∀ u ∈ r, Cl u := fun r hr => h r (List.mem_of_mem_drop hr)
theorem cr_repl {row : List V} {n : Nat} (h : clRs [row] = true) : ∀ r ∈ List.replicate n row, ∀ u ∈ r, Cl u := fun r hr => by
 obtain ⟨_, rfl⟩ := List.mem_replicate.1 hr
 exact cl_row h
theorem ret_osub {H : Nat → Option Ent} {id g n sz : Nat} {e : Ent} {T : TypeId} {rows : List (List V)} {us : List V} (hu : us = [.osub id g 0 n]) (he : H id = some e) (hg : e.gen = g) (hT : e.T = .t T) (hs : e.sz = sz) (hl : n ≤ e.rows.length) (hr : ∀ row ∈ e.rows, ∀ u ∈ row, Cl u) (hq : rows = e.rows.take n) : ArgsOk H [id] true [id] us [.o T sz rows] := by
 rw [hu, hq, ← hs]; exact .givv he hg hT hl hr (by simp) (by simp) (.nil _)
theorem ret_own {H : Nat → Option Ent} {id g sz : Nat} {e : Ent} {T : TypeId} {rows : List (List V)} {us : List V} (hu : us = [.own id g]) (he : H id = some e) (hg : e.gen = g) (hT : e.T = .t T) (hs : e.sz = sz) (hr : ∀ row ∈ rows, ∀ u ∈ row, Cl u) (hq : e.rows = rows) : ArgsOk H [id] true [id] us [.o T sz rows] := by
 subst hq; rw [hu, ← hs]; exact .give he hg hT hr (by simp) (by simp) (.nil _)
theorem flat_own2 {α β : Type} {enc : α → List V} {enc' : β → List V} [FlatRow enc] [FlatRow enc'] {T T' : TypeId} {sz sz' : Nat} {l : List α} {l' : List β} {ps : List Par} (h : flB ps = true) : flatRes (.o T sz (l.map enc) :: .o T' sz' (l'.map enc') :: ps) := by
 intro r hr
 rcases List.mem_cons.1 hr with rfl | hr
 ·exact fl_rows
 ·exact flat_own1 h r hr
theorem nI {a b : Nat} (h : Nat.ble a b = true := by exact rfl) : a ≤ b := Nat.le_of_ble_eq_true h
theorem oI {rs : List ParM} (h : rs.all outM = true := by exact rfl) : ∀ p ∈ rs, outM p = true := outs_b h
theorem dI {l : List Nat} (h : ndB l = true := by exact rfl) : l.Nodup := nd_b h
theorem tI {p : Prop} (h : p := by (repeat' (first | exact trivial | refine ⟨rfl, ?_⟩))) : p := h
theorem lI {p : Prop} (h : p := by (simp only [List.length_map, List.length_append, List.length_cons, List.length_nil, List.length_set, List.length_replicate, maxLen]; omega)) : p := h
theorem fI {rs : List Par} (h : flatRes rs := by (first | exact flat_b rfl | exact flat_own | exact flat_own1 rfl | exact flat_own2 rfl)) : flatRes rs := h
theorem mfI {rs : List ParM} (h : ∀ p ∈ rs, flatM p := by (intro p hp; simp only [exitsP, List.nil_append, List.append_nil, List.mem_cons, List.not_mem_nil, or_false] at hp; subst hp; first | exact flat_own | exact flat_b rfl)) : ∀ p ∈ rs, flatM p := h
theorem cBI {H : Nat → Option Ent} {all : List Nat} {cs cs' : List V} (h : CellsB H all cs cs' := by (repeat' (first | exact CellsB.nil | refine CellsB.same (by first | exact cl_b rfl | exact cl_list | exact cl_nil | assumption) ?_ | refine CellsB.nilsl _ ?_ | refine cB_own rfl rfl (by first | exact cl_rs rfl | exact cl_rows | exact cl_setB rfl | exact cl_setG (cl_setB rfl) rfl | exact cl_appB cl_rows (cl_rs rfl) | exact cl_rl1 | exact cl_rl2) (by decide) ?_))) : CellsB H all cs cs' := h
theorem aI {H : Nat → Option Ent} {all gone : List Nat} {bor : Bool} {us : List V} {ps : List Par} (h : ArgsOk H all bor gone us ps := by (repeat' (first | exact ArgsOk.nil _ | exact argsOk_cells (by assumption) | refine ArgsOk.same (by first | exact cl_b rfl | exact cl_list | exact cl_nil | exact cl_one | exact cl_ll1 | exact cl_ll2 | exact cl_clo (by assumption) | exact cl_agg' (by repeat' (first | exact clcs_nil | refine clcs_cons (by first | exact cl_b rfl | exact cl_list | exact cl_nil | assumption) ?_))) ?_ | refine ArgsOk.nilsl _ ?_ | refine ArgsOk.nilown _ _ (by decide) ?_ | refine ArgsOk.borp rfl rfl rfl (cl_row rfl) (by decide) ?_ | refine ArgsOk.borc (by (repeat' (first | exact cap_n | refine cap_p rfl rfl rfl (by first | exact cl_row rfl | exact cl_r1 rfl | exact cl_r1b) ?_ ?_ | refine cap_m rfl (by decide) ?_ | refine cap_c (by first | exact cl_b rfl | exact cl_list | exact cl_nil | exact cl_one | exact cl_ll1 | exact cl_ll2 | exact cl_clo (by assumption) | exact cl_agg' (by repeat' (first | exact clcs_nil | refine clcs_cons (by first | exact cl_b rfl | exact cl_list | exact cl_nil | assumption) ?_))) ?_ | decide))) ?_ | refine ArgsOk.bora cBI ?_ | refine ArgsOk.bor rfl rfl (deref_flat (by first | exact cl_rs rfl | exact cl_rows | exact cl_setB rfl | exact cl_setG (cl_setB rfl) rfl | exact cl_appB cl_rows (cl_rs rfl) | exact cl_rl1 | exact cl_rl2)) (by decide) ?_ | refine give' rfl (by first | exact cl_rs rfl | exact cl_rows | exact cl_setB rfl | exact cl_setG (cl_setB rfl) rfl | exact cl_appB cl_rows (cl_rs rfl) | exact cl_rl1 | exact cl_rl2) (by decide) (by decide) ?_))) : ArgsOk H all bor gone us ps := h
theorem aM {H : Nat → Option Ent} {all gone : List Nat} {bor : Bool} {us : List V} {ps : List ParM} (h : ArgsM H all bor gone us ps := by (repeat' (first | exact ArgsM.nil _ | refine aM_same (by first | exact cl_b rfl | exact cl_list | exact cl_nil | exact cl_one | exact cl_ll1 | exact cl_ll2 | exact cl_clo (by assumption) | exact cl_agg' (by repeat' (first | exact clcs_nil | refine clcs_cons (by first | exact cl_b rfl | exact cl_list | exact cl_nil | assumption) ?_))) ?_ | refine aM_nilsl _ ?_ | refine aM_nilown _ _ (by decide) ?_ | refine aM_mf rfl (cl_row rfl) (by decide) (by decide) rfl ?_ | refine aM_pf rfl (cl_row rfl) (by decide) (by decide) ?_ | refine aM_mo rfl (by decide) (by decide) ?_ | refine aM_po rfl (by decide) (by decide) ?_ | refine aM_borp rfl rfl rfl (cl_row rfl) (by decide) ?_ | refine aM_borc (by (repeat' (first | exact cap_n | refine cap_p rfl rfl rfl (by first | exact cl_row rfl | exact cl_r1 rfl | exact cl_r1b) ?_ ?_ | refine cap_m rfl (by decide) ?_ | refine cap_c (by first | exact cl_b rfl | exact cl_list | exact cl_nil | exact cl_one | exact cl_ll1 | exact cl_ll2 | exact cl_clo (by assumption) | exact cl_agg' (by repeat' (first | exact clcs_nil | refine clcs_cons (by first | exact cl_b rfl | exact cl_list | exact cl_nil | assumption) ?_))) ?_ | decide))) ?_ | refine aM_bora cBI ?_ | refine aM_bor rfl rfl (deref_flat (by first | exact cl_rs rfl | exact cl_rows | exact cl_setB rfl | exact cl_setG (cl_setB rfl) rfl | exact cl_appB cl_rows (cl_rs rfl) | exact cl_rl1 | exact cl_rl2)) (by decide) ?_ | refine aM_give rfl (by first | exact cl_rs rfl | exact cl_rows | exact cl_setB rfl | exact cl_setG (cl_setB rfl) rfl | exact cl_appB cl_rows (cl_rs rfl) | exact cl_rl1 | exact cl_rl2) (by decide) (by decide) ?_ | refine aM_ms rfl (by first | exact cl_rs rfl | exact cl_rows | exact cl_setB rfl | exact cl_setG (cl_setB rfl) rfl | exact cl_appB cl_rows (cl_rs rfl) | exact cl_rl1 | exact cl_rl2) (by decide) (by decide) (by simp) ?_))) : ArgsM H all bor gone us ps := h
theorem hxI {α : Type} {a b : α} {p : Prop} (hn : a = b) (h : a = b → p := by (intro hq; (repeat' (first | exact trivial | refine ⟨rfl, ?_⟩ | refine ⟨(by show some (Ent.mk _ _ _ _) = some (Ent.mk _ _ _ _); (first | (rw [hq]; done) | (rw [hq]; rfl) | (rw [hq, List.map_append]; done) | (rw [hq, List.map_append]; rfl) | (rw [hq, List.map_append, List.map_append]; done) | (rw [hq, List.map_append, List.map_append]; rfl))), ?_⟩ | refine ⟨(by show V.v _ = V.v _; (first | (rw [hq]; done) | (rw [hq]; rfl) | (rw [hq, List.map_append]; done) | (rw [hq, List.map_append]; rfl) | (rw [hq, List.map_append, List.map_append]; done) | (rw [hq, List.map_append, List.map_append]; rfl))), ?_⟩ | refine ⟨(by show V.sl _ _ = V.sl _ _; (first | (rw [hq]; done) | (rw [hq]; rfl) | (rw [hq, List.map_append]; done) | (rw [hq, List.map_append]; rfl) | (rw [hq, List.map_append, List.map_append]; done) | (rw [hq, List.map_append, List.map_append]; rfl))), ?_⟩)))) : p := h hn
structure Hold (q : Prop) : Prop where
 out : q
theorem goI {p q : Prop} (h : q) (e : Hold q → p := by (intro hq; (conv => whnf); (repeat' ((first | refine ⟨rfl, ?_⟩ | refine ⟨_, row_map (by assumption), ?_⟩ | refine ⟨_, (by exact some_rfl), ?_⟩ | refine ⟨_, wrap_ok (by omega) (by omega), ?_⟩ | refine ⟨_, wrap_u64 (by omega) (by omega), ?_⟩ | refine ⟨by decide, _, fdiv_half (by omega), ?_⟩); (conv => whnf))); exact hq.out)) : p := e ⟨h⟩
theorem G0 {p q : Prop} (h : q) (e : Hold q → p := by (intro hq; (conv => whnf); (repeat' ((first | refine ⟨rfl, ?_⟩ | refine ⟨_, row_map (by assumption), ?_⟩ | refine ⟨_, (by exact some_rfl), ?_⟩ | refine ⟨_, wrap_ok (by omega) (by omega), ?_⟩ | refine ⟨_, wrap_u64 (by omega) (by omega), ?_⟩ | refine ⟨by decide, _, fdiv_half (by omega), ?_⟩); (conv => whnf))); exact hq.out)) : p := e ⟨h⟩
theorem G1 {α0 : Type} {p : Prop} {q : α0 → Prop} (h : ∀ a0, q a0) (e : (∀ a0, Hold (q a0)) → p := by (intro hq; (conv => whnf); (repeat' ((first | refine ⟨rfl, ?_⟩ | refine ⟨_, row_map (by assumption), ?_⟩ | refine ⟨_, (by exact some_rfl), ?_⟩ | refine ⟨_, wrap_ok (by omega) (by omega), ?_⟩ | refine ⟨_, wrap_u64 (by omega) (by omega), ?_⟩ | refine ⟨by decide, _, fdiv_half (by omega), ?_⟩); (conv => whnf))); intro g0; (conv => whnf); (repeat' ((first | refine ⟨rfl, ?_⟩ | refine ⟨_, row_map (by assumption), ?_⟩ | refine ⟨_, (by exact some_rfl), ?_⟩ | refine ⟨_, wrap_ok (by omega) (by omega), ?_⟩ | refine ⟨_, wrap_u64 (by omega) (by omega), ?_⟩ | refine ⟨by decide, _, fdiv_half (by omega), ?_⟩); (conv => whnf))); exact (hq g0).out)) : p := e fun a0 => ⟨h a0⟩
theorem G2 {α0 α1 : Type} {p : Prop} {q : α0 → α1 → Prop} (h : ∀ a0 a1, q a0 a1) (e : (∀ a0 a1, Hold (q a0 a1)) → p := by (intro hq; (conv => whnf); (repeat' ((first | refine ⟨rfl, ?_⟩ | refine ⟨_, row_map (by assumption), ?_⟩ | refine ⟨_, (by exact some_rfl), ?_⟩ | refine ⟨_, wrap_ok (by omega) (by omega), ?_⟩ | refine ⟨_, wrap_u64 (by omega) (by omega), ?_⟩ | refine ⟨by decide, _, fdiv_half (by omega), ?_⟩); (conv => whnf))); intro g0; (conv => whnf); (repeat' ((first | refine ⟨rfl, ?_⟩ | refine ⟨_, row_map (by assumption), ?_⟩ | refine ⟨_, (by exact some_rfl), ?_⟩ | refine ⟨_, wrap_ok (by omega) (by omega), ?_⟩ | refine ⟨_, wrap_u64 (by omega) (by omega), ?_⟩ | refine ⟨by decide, _, fdiv_half (by omega), ?_⟩); (conv => whnf))); intro g1; (conv => whnf); (repeat' ((first | refine ⟨rfl, ?_⟩ | refine ⟨_, row_map (by assumption), ?_⟩ | refine ⟨_, (by exact some_rfl), ?_⟩ | refine ⟨_, wrap_ok (by omega) (by omega), ?_⟩ | refine ⟨_, wrap_u64 (by omega) (by omega), ?_⟩ | refine ⟨by decide, _, fdiv_half (by omega), ?_⟩); (conv => whnf))); exact (hq g0 g1).out)) : p := e fun a0 a1 => ⟨h a0 a1⟩
end Go.Proofs.YtkclokmfomnbgaaGreat
namespace Go.Proofs.YtkclokmfomnbgaaGreat
open Go.RowKit Pl
set_option linter.unusedVariables false
theorem lab_step {s : ByteArray} {k : Nat} (h : ∀ j, (hj : j < s.data.toList.length) → j < k → okB (s.data.toList[j]).toNat = true) (hlt : k < s.size) (hk : okB (s[k]).toNat = true) :
  ∀ j, (hj : j < s.data.toList.length) → j < k + 1 → okB (s.data.toList[j]).toNat = true := by
 intro j hj hjk
 rcases (by omega : j < k ∨ j = k) with g | rfl
 ·exact h j hj g
 ·exact hk
theorem isEmpty_size (s : ByteArray) : s.toList.isEmpty = decide (s.size = 0) := by
 rw [ByteArray.toList_eq, Bool.eq_iff_iff, List.isEmpty_iff_length_eq_zero, decide_eq_true_eq, Array.length_toList]
 rfl
theorem lab_endA {s : ByteArray} (h1 : 1 ≤ s.size ∧ s.size ≤ 30 → lab s.data.toList = true) (h2 : ¬ (1 ≤ s.size ∧ s.size ≤ 30) → lab s.data.toList = false) (e : s.toList.isEmpty = false) : decide ((s.size : Int) ≤ 30) = lab s.data.toList := by
 have e0 : s.size ≠ 0 := by simpa [isEmpty_size] using e
 by_cases g : s.size ≤ 30
 ·rw [h1 ⟨by omega, g⟩]; simp; omega
 ·rw [h2 (by omega)]; simp; omega
theorem lab_endB {s : ByteArray} (h2 : ¬ (1 ≤ s.size ∧ s.size ≤ 30) → lab s.data.toList = false) (e : s.toList.isEmpty = true) : false = lab s.data.toList := by
 have e0 : s.size = 0 := by simpa [isEmpty_size] using e
 rw [h2 (by omega)]
theorem cell_new (w : World) (C : Array Value) (t : TypeId) (fr : Nat × Nat) (k : Nat) : (w.alloc (.cells C t fr)).drew.cell? ⟨w.heap.size, k, none⟩ = C[k]? := by
 have h : (w.alloc (.cells C t fr)).drew.heap[w.heap.size]? = some (.cells C t fr) := heap_alloc_new w _
 unfold World.cell?
 rw [h]
 rfl
theorem lab_out {s : ByteArray} {k : Nat} (hlt : k < s.size) (hk : okB (s[k]).toNat = false) : false = lab s.data.toList :=
 (lab_bad (i := k) (s := s.data.toList) (by simpa using hlt) hk).symm
theorem refIsLabel_any (s : ByteArray) (w : World) (hs : s.size ≤ 9223372036854775807) :
    Calls Tryz.prog 13 #[.string s] w fun e w' => e = .returned (.bool (lab s.data.toList)) ∧ w = w' := by
  go_enter Tryz.func13, Tryz.ntmps13
  go_wp2
  go_loop [3] (fun i => ∃ k : Nat, k ≤ s.size ∧ i = .int .i64 k ∧ ∀ j, (hj : j < s.data.toList.length) → j < k → okB (s.data.toList[j]).toNat = true) (fun i => s.size - (intOf i).toNat)
  case atStart => exact ⟨0, Nat.zero_le _, rfl, fun j _ h => absurd h (by omega)⟩
  case round =>
    obtain ⟨k, hk, rfl, hall⟩ := hrel
    have HA := hid hall
    clear hall
    by_cases hlt : k < s.size
    · go_wp2
      all_goals first
        | (go_round
           case rel => exact ⟨k + 1, by omega, by go_num, lab_step HA.out hlt (okB_yes (by go_light; clear HA; first | omega | (simp_all; done) | (simp_all; omega)))⟩
           case measure => simp [intOf]; omega)
        | (go_ret
           exact ⟨ret_bool (lab_out hlt (okB_no (by go_light; clear HA; first | omega | (simp_all; done) | (simp_all; omega)))), rfl⟩)
    · have HL := fun (g : 1 ≤ s.size ∧ s.size ≤ 30) => lab_yes (s := s.data.toList) (fun i hi => HA.out i hi (by simp at hi; omega)) (by simpa using g.1) (by simpa using g.2)
      have HN := fun (g : ¬ (1 ≤ s.size ∧ s.size ≤ 30)) => lab_long (s := s.data.toList) (by simpa using g)
      have HL := hid HL
      have HN := hid HN
      clear HA
      go_wp2
      all_goals go_ret
      all_goals exact ⟨ret_bool (by
        go_light
        by_cases g : 1 ≤ s.size ∧ s.size ≤ 30
        · rw [HL.out g] <;> first | rfl | (simp <;> omega)
        · rw [HN.out g] <;> first | rfl | (simp <;> omega)), rfl⟩
theorem bytes_run (s : ByteArray) (w : World) : ∃ (cap : Nat) (C : Array Value) (fr : Nat × Nat),
  (convert 9 135 (.string s)).run Tryz.prog w = .ok (.slice (some ⟨w.heap.size, 0, none⟩) s.size cap) (w.drew.alloc (.cells C 5 fr)) ∧
  ∀ j, (h : j < s.size) → C[j]? = some (.int .u8 ((s[j]).toNat : Int)) := by
 refine ⟨_, _, _, run_bytes_of_string w 9 135 5 s Tryz.underlying9 Tryz.underlying135 Tryz.underlying5, ?_⟩
 intro j h
 exact bytesRow_at s _ j h
set_option maxRecDepth 100000 in
theorem IsLabel_any (s : ByteArray) (w : World) (hs : s.size ≤ 9223372036854775807) :
    Calls Tryz.prog 42 #[.string s] w fun e w' => e = .returned (.bool (lab s.data.toList)) ∧ Below w.heap.size w w' ∧ w.drawn ≤ w'.drawn := by
  obtain ⟨cap, C, fr, hrun, hC⟩ := bytes_run s w
  have HC := hid hC
  clear hC
  have hB : Below w.heap.size w (w.alloc (.cells C 5 fr)).drew ∧ w.drawn ≤ (w.alloc (.cells C 5 fr)).drew.drawn := ⟨(by repeat (first | exact Below.refl _ _ | assumption | refine Below.drew ?_ | refine below_drewN ?_ _ | refine Below.alloc ?_ (by simp; try omega) _ | refine Below.setCell ?_ (by simp; try omega) _)), Nat.le_succ _⟩
  have HB := hid hB
  clear hB
  go_enter Tryz.func42, Tryz.ntmps42
  go_wp2
  go_loop [8] (fun i => ∃ k : Nat, k ≤ s.size ∧ i = .int .i64 k ∧ ∀ j, (hj : j < s.data.toList.length) → j < k → okB (s.data.toList[j]).toNat = true) (fun i => s.size - (intOf i).toNat)
  case atStart => exact ⟨0, Nat.zero_le _, rfl, fun j _ h => absurd h (by omega)⟩
  case round =>
    obtain ⟨k, hk, rfl, hall⟩ := hrel
    have HA := hid hall
    clear hall
    by_cases hlt : k < s.size
    · have hcell : (w.alloc (.cells C 5 fr)).drew.cell? ⟨w.heap.size, k, none⟩ = some (.int .u8 ((s[k]).toNat : Int)) := (cell_new w C 5 fr k).trans (HC.out k hlt)
      have hby : ((s[k]).toNat : Int) ≤ 255 := by have := (s[k]).toNat_lt; omega
      clear hrun
      go_wp2
      all_goals first
        | (go_round
           case rel => exact ⟨k + 1, by omega, by go_num, lab_step HA.out hlt (okB_yes (by go_light; clear HA; first | omega | (simp_all; done) | (simp_all; omega)))⟩
           case measure => simp [intOf]; omega)
        | (go_ret
           exact ⟨ret_bool (lab_out hlt (okB_no (by go_light; clear HA; first | omega | (simp_all; done) | (simp_all; omega)))), HB.out⟩)
    · have HL := fun (g : 1 ≤ s.size ∧ s.size ≤ 30) => lab_yes (s := s.data.toList) (fun i hi => HA.out i hi (by simp at hi; omega)) (by simpa using g.1) (by simpa using g.2)
      have HN := fun (g : ¬ (1 ≤ s.size ∧ s.size ≤ 30)) => lab_long (s := s.data.toList) (by simpa using g)
      have HL := hid HL
      have HN := hid HN
      clear HA
      go_wp2
      all_goals go_ret
      all_goals first
        | exact ⟨ret_bool (lab_endA HL.out HN.out ‹s.toList.isEmpty = false›), HB.out⟩
        | exact ⟨ret_bool (lab_endB HN.out ‹s.toList.isEmpty = true›), HB.out⟩
end Go.Proofs.YtkclokmfomnbgaaGreat
namespace Go.Proofs.YtkclokmfomnbgaaGreat
open Go.RowKit Pl
set_option linter.unusedVariables false
theorem label_fun (s : ByteArray) (hs : s.size ≤ 9223372036854775807) : Fun Tryz.prog 42 [.c (.v (.string s))] [.c (.v (.bool (lab s.data.toList)))] :=
 fun_flat (xs := [.string s]) (callable Tryz.func42 (by kernel_rfl) (by kernel_rfl)) fun w => (IsLabel_any s w hs).mono fun e w' h => ⟨h.1, h.2.1, h.2.2⟩
theorem rlabel_fun (s : ByteArray) (hs : s.size ≤ 9223372036854775807) : Fun Tryz.prog 13 [.c (.v (.string s))] [.c (.v (.bool (lab s.data.toList)))] :=
 fun_flat (xs := [.string s]) (callable Tryz.func13 (by kernel_rfl) (by kernel_rfl)) fun w => (refIsLabel_any s w hs).mono fun e w' ⟨h1, h2⟩ => ⟨h1, h2 ▸ Below.refl _ _, h2 ▸ Nat.le_refl _⟩
end Go.Proofs.YtkclokmfomnbgaaGreat
namespace Go.Proofs.YtkclokmfomnbgaaGreat
open Go.RowKit Pl
set_option linter.unusedVariables false
theorem cmps_fun (a b : ByteArray) : Fun Tryz.prog 65 [.c (.v (.string a)), .c (.v (.string b))] [.c (.v (.int .i64 (scmp a b)))] :=
 fun_flat (xs := [.string a, .string b]) (callable Tryz.func65 (by kernel_rfl) (by kernel_rfl)) fun w => (cmps_any a b w).mono fun e w' ⟨h1, h2⟩ => ⟨h1, h2 ▸ Below.refl _ _, h2 ▸ Nat.le_refl _⟩
theorem cmpi_fun (a b : Int) : Fun Tryz.prog 123 [.c (.v (.int .i64 a)), .c (.v (.int .i64 b))] [.c (.v (.int .i64 (icmp a b)))] :=
 fun_flat (xs := [.int .i64 a, .int .i64 b]) (callable Tryz.func123 (by kernel_rfl) (by kernel_rfl)) fun w => (cmpi_any a b w).mono fun e w' ⟨h1, h2⟩ => ⟨h1, h2 ▸ Below.refl _ _, h2 ▸ Nat.le_refl _⟩
theorem between_fun (n a b : Int) : Fun Tryz.prog 41 [.c (.v (.int .i64 n)), .c (.v (.int .i64 a)), .c (.v (.int .i64 b))] [.c (.v (.bool (wi n a b)))] := by
 refine fun_x ck_hearsayref_between rfl ?_
 refine G0 ?_
 (refine bIf_of (fun h => ?_) (fun h => ?_) <;> rw [h])
 ·refine G0 ?_
  rw [wi_t h]
  (exact ⟨[], aI⟩)
 ·refine G0 ?_
  rw [wi_f h]
  (exact ⟨[], aI⟩)
theorem address_fun (n : Int) : Fun Tryz.prog 14 [.c (.v (.int .i64 n))] [.c (.v (.bool (wi n 0 4294967295)))] := by
 refine fun_x ck_hearsayref_IsAddress rfl ?_
 refine G0 ?_
 (refine .inl ⟨_, _, false, [], aI, between_fun _ _ _, nobor, nI, ?_⟩)
 refine G1 ?_; intro gg
 (exact ⟨[], aI⟩)
theorem firstErr_one {α : Type} (e : α → Int) (a : α) : firstErr e [a] = e a := by
 by_cases h : e a = 0 <;> simp [firstErr, h]
theorem ckL_each {α : Type} {mx : Nat} {e : α → Int} {lt : α → α → Bool} {l : List α} (h1 : ¬ mx < l.length) (h2 : firstErr e l ≠ 0) : ckL mx e lt l = firstErr e l := by simp [ckL, h1, h2]
theorem ckL_no {α : Type} {mx : Nat} {e : α → Int} {lt : α → α → Bool} {l : List α} (h1 : ¬ mx < l.length) (h2 : firstErr e l = 0) (h3 : sorted lt l = false) : ckL mx e lt l = 4 := by simp [ckL, h1, h2, h3]
theorem ckL_yes {α : Type} {mx : Nat} {e : α → Int} {lt : α → α → Bool} {l : List α} (h1 : ¬ mx < l.length) (h2 : firstErr e l = 0) (h3 : sorted lt l = true) : ckL mx e lt l = 0 := by simp [ckL, h1, h2, h3]
theorem icmp_eq (a : Int) : icmp a a = 0 := by simp [icmp]
theorem icmp_ne {a b : Int} (h : a ≠ b) : icmp a b ≠ 0 := by
 unfold icmp; split
 ·decide
 ·split
  ·decide
  ·omega
theorem icmp_pos {a b : Int} : 0 < icmp a b ↔ b < a := by
 unfold icmp; split
 ·constructor <;> intro h <;> omega
 ·split <;> (constructor <;> intro h <;> omega)
theorem nz_ne {a b : Int} {r : List Int} (h : (a != b) = true) : decide (0 < firstNZ (icmp a b :: r)) = decide (b < a) := by
 have h : a ≠ b := by simpa using h
 simp [firstNZ, icmp_ne h, icmp_pos]
theorem nz_eq {a b : Int} {r : List Int} (h : (a != b) = false) : firstNZ (icmp a b :: r) = firstNZ r := by
 have h : a = b := by simpa using h
 subst h; simp [firstNZ, icmp_eq]
theorem scmp_pos {a b : ByteArray} : 0 < scmp a b ↔ slt b a = true := by
 constructor
 ·intro h
  rcases Bool.eq_false_or_eq_true (slt b a) with q | q
  ·exact q
  ·rcases Bool.eq_false_or_eq_true (slt a b) with p | p
   ·rw [scmp_lt p] at h; omega
   ·have := slt_tri p q
    rw [this, scmp_eq] at h; omega
 ·intro h; rw [scmp_gt h]; decide
theorem nzs_ne {a b : ByteArray} {r : List Int} (h : (!(a.toList == b.toList)) = true) : decide (0 < firstNZ (scmp a b :: r)) = slt b a := by
 have h : a ≠ b := fun e => by subst e; simp at h
 have h0 : scmp a b ≠ 0 := fun e => h (scmp_zero.1 e)
 simp [firstNZ, h0, scmp_pos]
theorem nzs_eq {a b : ByteArray} {r : List Int} (h : (!(a.toList == b.toList)) = false) : firstNZ (scmp a b :: r) = firstNZ r := by
 have h : a = b := seq_iff.1 (by simpa using h)
 subst h; simp [firstNZ, scmp_eq]
def b2i (b : Bool) : Int := if b then 1 else 0
theorem nzb_last {p q : Bool} : decide (0 < firstNZ [icmp (b2i p) (b2i q)]) = (p && !q) := by cases p <;> cases q <;> decide
def orRow (n : Int) : List V := [.v (.int .i64 n)]
instance : FlatRow orRow := ⟨fun x u hu => by simp [orRow] at hu; exact ⟨_, hu⟩⟩
theorem or_fun (c : Bool) (l : List Int) (hl : l.length ≤ 9223372036854775807) : Fun Tryz.prog 122 [.c (.sl c (l.map orRow))] [.c (.v (.int .i64 (firstNZ l)))] := by
 refine fun_x ck_cmp_Or_int rfl ?_
 refine G0 ?_
 (refine ⟨[], none, {k : Nat // k ≤ l.length ∧ ∀ j, (h : j < l.length) → j < k → l[j] = 0}, [3, 6, 7], fun ⟨k, hk, h0⟩ => [(8, .v (.int .i64 k))], [], fun ⟨k, hk, h0⟩ => [], fun ⟨k, hk, h0⟩ => l.length - k, trivial, fun _ => ⟨trivial, fun _ => ⟨⟨0, by omega, fun j _ h => by omega⟩, tI, keptE_refl _ _, tI, keptH_refl _ _⟩⟩, fun ⟨k, hk, h0⟩ => ?_⟩)
 refine G0 ?_
 rw [List.length_map]
 (refine bIf_of (fun h => ?_) (fun h => ?_) <;> rw [h])
 ·have hlt : k < l.length := by simpa using h
  refine G0 ?_
  refine ⟨k, _, rfl, row_map hlt, ?_⟩
  refine G0 ?_
  (refine bIf_of (fun h => ?_) (fun h => ?_) <;> rw [h])
  ·refine G0 ?_
   rw [firstNZ_at hlt h0 (by simpa using h)]
   (exact ⟨[], aI⟩)
  ·refine G0 ?_
   (exact ⟨none, trivial, fun _ => ⟨⟨k + 1, by omega, up1 (p := fun j h => l[j] = 0) h0 (fun _ => by simpa using h)⟩, by show l.length - (k + 1) < l.length - k; omega, tI, tI, tI, tI⟩⟩)
 ·have hge : ¬ k < l.length := by simpa using h
  refine G0 ?_
  rw [firstNZ_zero (l := l) (fun i hi => h0 i hi (by omega))]
  (exact ⟨[], aI⟩)
end Go.Proofs.YtkclokmfomnbgaaGreat
namespace Go.Proofs.YtkclokmfomnbgaaGreat.Pl
set_option linter.unusedVariables false
structure Mb where
 n : ByteArray
 st : Int
 lf : Int
 ad : Int
 sv : Bool
def Mb.enc (m : Mb) : List Value := [.string m.n, .int .i64 m.st, .int .i64 m.lf, .int .i64 m.ad, .bool m.sv]
def Mb.row (m : Mb) : List V := [.v (.string m.n), .v (.int .i64 m.st), .v (.int .i64 m.lf), .v (.int .i64 m.ad), .v (.bool m.sv)]
theorem Mb.enc_len (m : Mb) : m.enc.length = 5 := rfl
theorem Mb.enc_one (m : Mb) : ∀ u ∈ m.enc, u.oneCell' = true := by
 intro u hu
 simp [Mb.enc] at hu
 rcases hu with rfl | rfl | rfl | rfl | rfl <;> rfl
instance : FlatRow Mb.row := ⟨fun x u hu => by simp [Mb.row] at hu; rcases hu with rfl | rfl | rfl | rfl | rfl <;> exact ⟨_, rfl⟩⟩
def Mb.ok (m : Mb) : Prop := m.n.size ≤ 9223372036854775807
def Mb.err (m : Mb) : Int := if lab m.n.data.toList then (if wi m.st 1 4 then (if wi m.lf 1 1000000 && wi m.ad 0 4294967295 then 0 else 3) else 7) else 1
def Mb.lt (g h : Mb) : Bool := slt g.n h.n
def ckMb (l : List Mb) : Int := ckL 20 Mb.err Mb.lt l
def Mb.cf (name : ByteArray) (g : Mb) : Int := scmp g.n name
def Mb.kf (g x : Mb) : Int := Mb.cf g.n x
def Mb.cmp (g x : Mb) : Int := firstNZ [icmp g.lf x.lf, icmp g.st x.st, icmp g.ad x.ad, icmp (b2i g.sv) (b2i x.sv)]
def Mb.nw (g x : Mb) : Bool := decide (0 < Mb.cmp g x)
def Mb.is (name : ByteArray) (m : Mb) : Bool := m.n.toList == name.toList
def Mb.same (g h : Mb) : Bool := (g.n.toList == h.n.toList) && ((g.st == h.st) && ((g.lf == h.lf) && ((g.ad == h.ad) && ((g.sv == h.sv) && true))))
theorem Mb.same_iff {g h : Mb} : Mb.same g h = true ↔ g = h := by
 obtain ⟨a, b, c, d, e⟩ := g
 obtain ⟨a', b', c', d', e'⟩ := h
 have tl : ∀ a b : ByteArray, a.toList = b.toList ↔ a = b := fun a b => ⟨toList_inj, fun h => by rw [h]⟩
 simp only [Mb.same, Bool.and_true, Bool.and_eq_true, beq_iff_eq, tl, Mb.mk.injEq]
theorem Mb.err_cases (m : Mb) : m.err = 0 ∨ m.err = 1 ∨ m.err = 3 ∨ m.err = 7 := by
 unfold Mb.err
 split
 ·split
  ·split <;> simp
  ·simp
 ·simp
theorem Mb.lt_trans (x y z : Mb) (h1 : Mb.lt x y = true) (h2 : Mb.lt y z = true) : Mb.lt x z = true := slt_trans h1 h2
theorem Mb.ord : Ord Mb.lt Mb.kf where
 neg := fun g x => by unfold Mb.kf Mb.cf Mb.lt; exact scmp_neg
 pos := fun g x => by
  unfold Mb.kf Mb.cf Mb.lt
  constructor
  ·intro h
   rcases Bool.eq_false_or_eq_true (slt g.n x.n) with q | q
   ·exact q
   ·rcases Bool.eq_false_or_eq_true (slt x.n g.n) with p | p
    ·rw [scmp_lt p] at h; omega
    ·have := slt_tri q p
     rw [this, scmp_eq] at h; omega
  ·intro h; rw [scmp_gt h]; omega
 trans := Mb.lt_trans
 left := fun g x y h => by
  unfold Mb.kf Mb.cf at h
  rw [scmp_zero] at h
  unfold Mb.lt; rw [h]
 right := fun g x y h => by
  unfold Mb.kf Mb.cf at h
  rw [scmp_zero] at h
  unfold Mb.lt; rw [h]
theorem Mb.lt_cf (name : ByteArray) (x y : Mb) (h : Mb.lt x y = true) (hy : Mb.cf name y ≤ 0) : Mb.cf name x < 0 := by
 unfold Mb.cf at *
 rw [scmp_neg]
 rcases Bool.eq_false_or_eq_true (slt y.n name) with g | g
 ·exact slt_trans h g
 ·have h0 : scmp y.n name = 0 := by
   rcases (by omega : scmp y.n name < 0 ∨ scmp y.n name = 0) with q | q
   ·rw [scmp_neg] at q; rw [q] at g; cases g
   ·exact q
  rw [scmp_zero] at h0
  rw [← h0]
  exact h
theorem ckMb_inv {l : List Mb} (h : ckMb l = 0) : l.length ≤ 20 ∧ (∀ i, (hi : i < l.length) → (l[i]).err = 0) ∧ sorted Mb.lt l = true := ckL_inv Mb.err_cases h
theorem Mb.smono {l : List Mb} (h : sorted Mb.lt l = true) (name : ByteArray) : SMono (Mb.cf name) l := smono_of Mb.lt_trans (Mb.lt_cf name) h
def Mb.ge (m x : Mb) : Bool := !(Op.bytesLess x.n.toList m.n.toList)
def Mb.ne (m x : Mb) : Bool := !(x.n.toList == m.n.toList)
theorem Mb.ge_eq (m : Mb) : Mb.ge m = fun x => decide (0 ≤ Mb.kf m x) := by
 funext x
 have h := scmp_neg (a := x.n) (b := m.n)
 unfold Mb.ge Mb.kf Mb.cf
 unfold slt at h
 cases hb : Op.bytesLess x.n.toList m.n.toList with
 | true => have := h.2 hb; simp; omega
 | false =>
  have : ¬ scmp x.n m.n < 0 := fun e => by rw [h.1 e] at hb; cases hb
  simp; omega
theorem Mb.is_eq (name : ByteArray) : Mb.is name = fun x => decide (Mb.cf name x = 0) := by
 funext x
 unfold Mb.is Mb.cf
 by_cases h : x.n = name
 ·rw [h, scmp_eq]; simp
 ·have h2 : scmp x.n name ≠ 0 := fun e => h (scmp_zero.1 e)
  rw [seq_no h]; simp [h2]
theorem Mb.ne_eq (m : Mb) : Mb.ne m = fun x => decide (Mb.kf m x ≠ 0) := by
 funext x
 have := congrFun (Mb.is_eq m.n) x
 unfold Mb.is at this
 unfold Mb.ne Mb.kf
 rw [this]; simp
theorem Mb.at_eq {l : List Mb} (hs : sorted Mb.lt l = true) (name : ByteArray) : at_ (Mb.is name) l = if hit (Mb.cf name) l = true then (low (Mb.cf name) l : Int) else -1 := by
 rw [Mb.is_eq]; exact at_sorted (Mb.smono hs name)
theorem Mb.putL_eq {l : List Mb} (hs : sorted Mb.lt l = true) {m : Mb} (h : hearF Mb.kf Mb.nw l m = true) : putL (Mb.ge m) (Mb.ne m) m l = upd Mb.kf Mb.nw l m := by
 rw [Mb.ge_eq, Mb.ne_eq, upd_put h]
 exact putL_sorted (Mb.smono hs m.n) m
def hearM (l : List Mb) (m : Mb) : Int × List Mb × Bool :=
 if ckMb l ≠ 0 then (ckMb l, [], false) else if m.err ≠ 0 then (m.err, [], false) else if 20 < (upd Mb.kf Mb.nw l m).length then (2, [], false) else (0, upd Mb.kf Mb.nw l m, hearF Mb.kf Mb.nw l m)
theorem hearM_ck {l : List Mb} {m : Mb} (h : ckMb l ≠ 0) : hearM l m = (ckMb l, [], false) := by simp [hearM, h]
theorem hearM_one {l : List Mb} {m : Mb} (h : ckMb l = 0) (h1 : m.err ≠ 0) : hearM l m = (m.err, [], false) := by simp [hearM, h, h1]
theorem hearM_many {l : List Mb} {m : Mb} (h : ckMb l = 0) (h1 : m.err = 0) (h2 : 20 < (upd Mb.kf Mb.nw l m).length) : hearM l m = (2, [], false) := by simp [hearM, h, h1, h2]
theorem hearM_ok {l : List Mb} {m : Mb} (h : ckMb l = 0) (h1 : m.err = 0) (h2 : ¬ 20 < (upd Mb.kf Mb.nw l m).length) : hearM l m = (0, upd Mb.kf Mb.nw l m, hearF Mb.kf Mb.nw l m) := by simp [hearM, h, h1, h2]
def Mb.up (x : Mb) : Mb := ⟨x.n, 1, x.lf + 1, x.ad, x.sv⟩
theorem Mb.up_nw (x : Mb) : Mb.nw x.up x = true := by
 have h : x.up.lf ≠ x.lf := by show x.lf + 1 ≠ x.lf; omega
 unfold Mb.nw Mb.cmp
 rw [nz_ne (by simpa using h)]
 exact decide_eq_true (by show x.lf < x.lf + 1; omega)
def refR (l : List Mb) (me : ByteArray) : Int × List Mb × Bool := match l[low (Mb.cf me) l]? with
 | some x => if hit (Mb.cf me) l = true then (if x.st = 1 then (0, l, false) else if x.st = 4 then (0, l, false) else if x.lf = 1000000 then (3, [], false) else (0, l.set (low (Mb.cf me) l) x.up, true)) else (0, l, false)
 | none => (0, l, false)
def refM (l : List Mb) (me : ByteArray) : Int × List Mb × Bool :=
 if ckMb l ≠ 0 then (ckMb l, [], false) else if lab me.data.toList = false then (1, [], false) else refR l me
theorem refR_miss {l : List Mb} {me : ByteArray} (h : hit (Mb.cf me) l = false) : refR l me = (0, l, false) := by unfold refR; split <;> simp [h]
theorem refR_hit {l : List Mb} {me : ByteArray} (h : hit (Mb.cf me) l = true) : refR l me = (if (l[low (Mb.cf me) l]'(hit_lt h)).st = 1 then (0, l, false) else if (l[low (Mb.cf me) l]'(hit_lt h)).st = 4 then (0, l, false) else if (l[low (Mb.cf me) l]'(hit_lt h)).lf = 1000000 then (3, [], false) else (0, l.set (low (Mb.cf me) l) (l[low (Mb.cf me) l]'(hit_lt h)).up, true)) := by
 unfold refR; rw [List.getElem?_eq_getElem (hit_lt h)]; simp [h]
theorem refM_ck {l : List Mb} {me : ByteArray} (h : ckMb l ≠ 0) : refM l me = (ckMb l, [], false) := by simp [refM, h]
theorem refM_lab {l : List Mb} {me : ByteArray} (h : ckMb l = 0) (h1 : lab me.data.toList = false) : refM l me = (1, [], false) := by simp [refM, h, h1]
theorem refM_ok {l : List Mb} {me : ByteArray} (h : ckMb l = 0) (h1 : lab me.data.toList = true) : refM l me = refR l me := by simp [refM, h, h1]
theorem Mb.up_upd {l : List Mb} {me : ByteArray} (h : hit (Mb.cf me) l = true) : upd Mb.kf Mb.nw l (l[low (Mb.cf me) l]'(hit_lt h)).up = l.set (low (Mb.cf me) l) (l[low (Mb.cf me) l]'(hit_lt h)).up := by
 have h0 : (l[low (Mb.cf me) l]'(hit_lt h)).n = me := scmp_zero.1 (hit_zero h)
 have e : Mb.kf (l[low (Mb.cf me) l]'(hit_lt h)).up = Mb.cf me := by funext x; show Mb.cf (l[low (Mb.cf me) l]'(hit_lt h)).n x = _; rw [h0]
 have h1 : hit (Mb.kf (l[low (Mb.cf me) l]'(hit_lt h)).up) l = true := by rw [e]; exact h
 have hlow : low (Mb.kf (l[low (Mb.cf me) l]'(hit_lt h)).up) l = low (Mb.cf me) l := by rw [e]
 have := upd_set (nw := Mb.nw) (cf := Mb.kf) hlow (hit_lt h) (Mb.up_nw _)
 rw [this]; simp only [putAt, h1, hlow, if_true]
def liveS (l : List Mb) : List ByteArray := (l.filter fun m => decide (m.st ≤ 2)).map (·.n)
theorem liveS_next {l : List Mb} {k : Nat} (hk : k < l.length) : liveS (l.take (k + 1)) = if (l[k]).st ≤ 2 then liveS (l.take k) ++ [(l[k]).n] else liveS (l.take k) := by
 unfold liveS
 rw [take_snoc_ hk, List.filter_append, List.map_append]
 split <;> rename_i h <;> simp [h]
theorem liveS_len (l : List Mb) : (liveS l).length ≤ l.length := by unfold liveS; rw [List.length_map]; exact List.length_filter_le _ _
def liveM (l : List Mb) : Int × List ByteArray := if ckMb l ≠ 0 then (ckMb l, []) else (0, liveS l)
theorem Mb.err_inv {m : Mb} (h : m.err = 0) : lab m.n.data.toList = true ∧ (1 ≤ m.st ∧ m.st ≤ 4) ∧ (1 ≤ m.lf ∧ m.lf ≤ 1000000) ∧ (0 ≤ m.ad ∧ m.ad ≤ 4294967295) := by
 unfold Mb.err at h
 split at h
 ·rename_i h1
  split at h
  ·rename_i h2
   split at h
   ·rename_i h3
    rw [Bool.and_eq_true, wi_iff, wi_iff] at h3
    exact ⟨h1, wi_iff.1 h2, h3⟩
   ·omega
  ·omega
 ·omega
theorem mb_dec (row : List V) (h : Fits [.s, .i, .i, .i, .b] row) : ∃ m : Mb, row = m.row ∧ m.ok := by
 obtain ⟨u0, _, rfl, f0, h⟩ := fits_cons h
 obtain ⟨u1, _, rfl, f1, h⟩ := fits_cons h
 obtain ⟨u2, _, rfl, f2, h⟩ := fits_cons h
 obtain ⟨u3, _, rfl, f3, h⟩ := fits_cons h
 obtain ⟨u4, _, rfl, f4, h⟩ := fits_cons h
 obtain rfl := fits_nil h
 obtain ⟨n, rfl, hn⟩ := fit_s f0
 obtain ⟨a, rfl, _⟩ := fit_i f1
 obtain ⟨b, rfl, _⟩ := fit_i f2
 obtain ⟨c, rfl, _⟩ := fit_i f3
 obtain ⟨d, rfl⟩ := fit_b f4
 exact ⟨⟨n, a, b, c, d⟩, rfl, hn⟩
end Go.Proofs.YtkclokmfomnbgaaGreat.Pl
namespace Go.Proofs.YtkclokmfomnbgaaGreat.Pl
set_option linter.unusedVariables false
structure Ru where
 m : Mb
 t : Int
def Ru.row (r : Ru) : List V := [.v (.string r.m.n), .v (.int .i64 r.m.st), .v (.int .i64 r.m.lf), .v (.int .i64 r.m.ad), .v (.bool r.m.sv), .v (.int .i64 r.t)]
instance : FlatRow Ru.row := ⟨fun x u hu => by simp [Ru.row] at hu; rcases hu with rfl | rfl | rfl | rfl | rfl | rfl <;> exact ⟨_, rfl⟩⟩
instance : OneRow Ru.row 6 := ⟨fun _ => rfl, fun x u hu => by simp [Ru.row] at hu; rcases hu with rfl | rfl | rfl | rfl | rfl | rfl <;> exact ⟨_, rfl, rfl⟩⟩
instance : OneRow Mb.row 5 := ⟨fun _ => rfl, fun x u hu => by simp [Mb.row] at hu; rcases hu with rfl | rfl | rfl | rfl | rfl <;> exact ⟨_, rfl, rfl⟩⟩
def Ru.ok (r : Ru) : Prop := r.m.ok
theorem ru_dec (row : List V) (h : Fits [.s, .i, .i, .i, .b, .i] row) : ∃ m : Ru, row = m.row ∧ m.ok := by
 obtain ⟨u0, _, rfl, f0, h⟩ := fits_cons h
 obtain ⟨u1, _, rfl, f1, h⟩ := fits_cons h
 obtain ⟨u2, _, rfl, f2, h⟩ := fits_cons h
 obtain ⟨u3, _, rfl, f3, h⟩ := fits_cons h
 obtain ⟨u4, _, rfl, f4, h⟩ := fits_cons h
 obtain ⟨u5, _, rfl, f5, h⟩ := fits_cons h
 obtain rfl := fits_nil h
 obtain ⟨n, rfl, hn⟩ := fit_s f0
 obtain ⟨a, rfl, _⟩ := fit_i f1
 obtain ⟨b, rfl, _⟩ := fit_i f2
 obtain ⟨c, rfl, _⟩ := fit_i f3
 obtain ⟨d, rfl⟩ := fit_b f4
 obtain ⟨e, rfl, _⟩ := fit_i f5
 exact ⟨⟨⟨n, a, b, c, d⟩, e⟩, rfl, hn⟩
end Go.Proofs.YtkclokmfomnbgaaGreat.Pl
namespace Go.Proofs.YtkclokmfomnbgaaGreat.Pl
set_option linter.unusedVariables false
def ents (l : List (ByteArray × V)) : List (Value × V) := l.map fun p => (.string p.1, p.2)
def look (k : ByteArray) : List (ByteArray × V) → Nat → Option (Nat × V)
 | [], _ => none
 | (a, v) :: es, i => if k = a then some (i, v) else look k es (i + 1)
theorem findE_str (k : ByteArray) : ∀ (l : List (ByteArray × V)) (i : Nat), findE .string (.string k) (ents l) i = some (look k l i)
 | [], i => rfl
 | (a, v) :: es, i => by
  have ih := findE_str k es (i + 1)
  unfold ents at ih
  by_cases h : k = a
  ·subst h
   have hb : (k == k) = true := (Go.MapKept.bytes_beq k k).2 rfl
   simp [ents, findE, look, Instr.sameNow, hb]
  ·have hb : (k == a) = false := by
    cases q : (k == a) with
    | true => exact absurd ((Go.MapKept.bytes_beq k a).1 q) h
    | false => rfl
   simp only [ents, List.map_cons, findE, look, Instr.sameNow, hb, if_neg h]
   exact ih
def put (l : List (ByteArray × V)) (k : ByteArray) (v : V) : List (ByteArray × V) := match look k l 0 with
 | some (i, _) => l.set i (k, v)
 | none => l ++ [(k, v)]
theorem putE_str (l : List (ByteArray × V)) (k : ByteArray) (v : V) : putE (ents l) (.string k) v (look k l 0) = ents (put l k v) := by
 unfold put putE
 cases h : look k l 0 with
 | none => simp [ents]
 | some p => obtain ⟨i, u⟩ := p; simp [ents, List.map_set]
theorem ents_len (l : List (ByteArray × V)) : (ents l).length = l.length := by simp [ents]
theorem look_some {k : ByteArray} : ∀ {l : List (ByteArray × V)} {i j : Nat} {v : V}, look k l i = some (j, v) → i ≤ j ∧ l[j - i]? = some (k, v)
 | [], i, j, v, h => by simp [look] at h
 | (a, u) :: es, i, j, v, h => by
  unfold look at h
  split at h
  ·rename_i e
   simp only [Option.some.injEq, Prod.mk.injEq] at h
   obtain ⟨rfl, rfl⟩ := h
   subst e
   exact ⟨Nat.le_refl _, by simp⟩
  ·obtain ⟨h1, h2⟩ := look_some h
   exact ⟨by omega, by rw [show j - i = (j - (i + 1)) + 1 by omega]; simpa using h2⟩
theorem look_none {k : ByteArray} : ∀ {l : List (ByteArray × V)} {i : Nat}, look k l i = none ↔ k ∉ l.map (·.1)
 | [], i => by simp [look]
 | (a, u) :: es, i => by
  unfold look
  split
  ·rename_i e; subst e; simp
  ·rename_i e
   rw [look_none (l := es) (i := i + 1)]
   simp [e]
open Classical in
theorem put_keys {l : List (ByteArray × V)} {k : ByteArray} {v : V} : (put l k v).map (·.1) = if k ∈ l.map (·.1) then l.map (·.1) else l.map (·.1) ++ [k] := by
 unfold put
 cases h : look k l 0 with
 | none => rw [if_neg (look_none.1 h)]; simp
 | some p =>
  obtain ⟨i, u⟩ := p
  have hk : k ∈ l.map (·.1) := Classical.byContradiction fun q => by rw [look_none.2 q] at h; cases h
  rw [if_pos hk]
  obtain ⟨_, h2⟩ := look_some h
  simp only [Nat.sub_zero] at h2
  show (l.set i (k, v)).map (·.1) = l.map (·.1)
  rw [List.map_set]
  apply List.ext_getElem? ; intro j
  rw [List.getElem?_set]
  split
  ·rename_i e; subst e
   split
   ·simp [h2]
   ·rename_i q; simp at q; simp [q]
  ·rfl
structure Names (l : List (ByteArray × V)) (ns : List ByteArray) : Prop where
 mem : ∀ n, n ∈ l.map (·.1) ↔ n ∈ ns
 le : l.length ≤ ns.length
 all : l.length = ns.length ↔ ns.Nodup
 cl : ∀ p ∈ l, Cl p.2
theorem Names.nil : Names [] [] := ⟨by simp, by simp, by simp, by simp⟩
theorem Names.put {l : List (ByteArray × V)} {ns : List ByteArray} (h : Names l ns) (k : ByteArray) (v : V) (hv : Cl v) : Names (put l k v) (ns ++ [k]) := by
 have hk := put_keys (l := l) (k := k) (v := v)
 have hlen : (Pl.put l k v).length = ((Pl.put l k v).map (·.1)).length := by simp
 have hm := h.mem k
 refine ⟨fun n => ?_, ?_, ?_, fun p hp => ?_⟩
 ·rw [hk]
  split
  ·rename_i q
   rw [h.mem n]; simp
   intro e; subst e; exact hm.1 q
  ·simp only [List.mem_append, h.mem n]
 ·rw [hlen, hk]
  have := h.le
  split <;> simp <;> omega
 ·rw [hlen, hk]
  split
  ·rename_i q
   have := h.le
   constructor
   ·intro e; simp at e; omega
   ·intro e
    have := (List.nodup_append.1 e).2.2 k (hm.1 q) k (by simp)
    exact absurd rfl this
  ·rename_i q
   have hq : k ∉ ns := fun e => q (hm.2 e)
   simp only [List.length_append, List.length_map, List.length_cons, List.length_nil]
   rw [List.nodup_append]
   constructor
   ·intro e
    refine ⟨h.all.1 (by omega), by simp, ?_⟩
    intro a ha b hb e'
    simp at hb; subst hb; subst e'; exact hq ha
   ·intro e
    have := h.all.2 e.1
    omega
 ·unfold Pl.put at hp
  split at hp
  ·rcases List.mem_or_eq_of_mem_set hp with q | rfl
   ·exact h.cl p q
   ·exact hv
  ·rcases List.mem_append.1 hp with q | q
   ·exact h.cl p q
   ·simp at q; subst q; exact hv
end Go.Proofs.YtkclokmfomnbgaaGreat.Pl
namespace Go.Proofs.YtkclokmfomnbgaaGreat.Pl
set_option linter.unusedVariables false
theorem any_at {α : Type} (p : α → Bool) (l : List α) : decide (0 ≤ at_ p l) = l.any p := by
 rcases at_inv (p := p) (l := l) with ⟨h1, h2⟩ | ⟨k, hk, h1, h2, _⟩
 ·rw [h1]
  cases hq : l.any p with
  | false => rfl
  | true =>
   obtain ⟨x, hx, hp⟩ := List.any_eq_true.1 hq
   obtain ⟨i, hi, rfl⟩ := List.getElem_of_mem hx
   rw [h2 i hi] at hp; cases hp
 ·rw [h1]
  have : l.any p = true := List.any_eq_true.2 ⟨_, List.getElem_mem hk, h2⟩
  rw [this]; simp
def keep {α : Type} (p : α → Bool) (l : List α) : List α := l.filter fun x => !p x
theorem keep_all {α : Type} {p : α → Bool} {l : List α} (h : ∀ i, (h : i < l.length) → p l[i] = false) : keep p l = l := by
 unfold keep; rw [List.filter_eq_self]; intro x hx
 obtain ⟨i, hi, rfl⟩ := List.getElem_of_mem hx
 simp [h i hi]
theorem keep_take {α : Type} {p : α → Bool} {l : List α} {k : Nat} (h : k < l.length) : keep p (l.take (k + 1)) = if p l[k] = true then keep p (l.take k) else keep p (l.take k) ++ [l[k]] := by
 unfold keep
 rw [List.take_add_one, List.getElem?_eq_getElem h, List.filter_append]
 cases q : p l[k] <;> simp [q]
structure Moved {α : Type} (p : α → Bool) (l l' : List α) (i j : Nat) : Prop where
 ij : i < j
 jl : j ≤ l.length
 len : l'.length = l.length
 ahead : l'.take i = keep p (l.take j)
 behind : ∀ k, (h : k < l.length) → j ≤ k → l'[k]'(by rw [len]; exact h) = l[k]
theorem Moved.start {α : Type} {p : α → Bool} {l : List α} {k : Nat} (hk : k < l.length) (h1 : p l[k] = true) (h0 : ∀ i, (h : i < l.length) → i < k → p l[i] = false) : Moved p l l k (k + 1) := by
 refine ⟨by omega, by omega, rfl, ?_, fun _ _ _ => rfl⟩
 rw [keep_take hk, if_pos h1, keep_all]
 intro i hi
 simp at hi
 simp only [List.getElem_take]
 exact h0 i (by omega) (by omega)
theorem Moved.gone {α : Type} {p : α → Bool} {l l' : List α} {i j : Nat} (h : Moved p l l' i j) (hj : j < l.length) (hp : p l[j] = true) : Moved p l l' i (j + 1) := by
 refine ⟨by have := h.ij; omega, by omega, h.len, ?_, fun k hk hkj => h.behind k hk (by omega)⟩
 rw [keep_take hj, if_pos hp]; exact h.ahead
theorem Moved.stays {α : Type} {p : α → Bool} {l l' : List α} {i j : Nat} (h : Moved p l l' i j) (hj : j < l.length) (hp : p l[j] = false) : Moved p l (l'.set i l[j]) (i + 1) (j + 1) := by
 have hij := h.ij
 have hlen := h.len
 refine ⟨by omega, by omega, by simp [hlen], ?_, fun k hk hkj => ?_⟩
 ·rw [keep_take hj, if_neg (by simp [hp]), List.take_add_one, List.take_set_of_le (Nat.le_refl _), h.ahead]
  congr 1
  rw [List.getElem?_set_self (by omega)]; rfl
 ·rw [List.getElem_set_ne (by omega)]
  exact h.behind k hk (by omega)
theorem Moved.fin {α : Type} {p : α → Bool} {l l' : List α} {i j : Nat} (h : Moved p l l' i j) (hj : ¬ j < l.length) : l'.take i = keep p l := by
 rw [h.ahead, List.take_of_length_le (by omega)]
theorem erase_cut {α : Type} (l : List α) (i : Nat) : l.eraseIdx i = l.take i ++ l.drop (i + 1) := List.eraseIdx_eq_take_drop_succ l i
theorem erase_rows {α β : Type} {f : α → β} {l : List α} {i : Nat} (hi : i < l.length) {z : β} {t : List β} {k : Nat} :
  (l.eraseIdx i).map f = (((((l.map f).take i ++ ((l.map f).drop (i + 1)).take ((l.map f).length - (i + 1)) ++ (l.map f).drop (i + ((l.map f).length - (i + 1)))).take (0 + (i + ((l.map f).length - (i + 1))))) ++ List.replicate k z ++ t)).take (i + ((l.map f).length - (i + 1))) := by
 have h1 : ((l.map f).drop (i + 1)).take ((l.map f).length - (i + 1)) = (l.map f).drop (i + 1) := List.take_of_length_le (by simp)
 have h2 : ((l.map f).take i ++ (l.map f).drop (i + 1)).length = i + ((l.map f).length - (i + 1)) := by simp; omega
 rw [h1, Nat.zero_add, ← h2, List.take_left, List.append_assoc, List.take_left, erase_cut, List.map_append, List.map_take, List.map_drop]
end Go.Proofs.YtkclokmfomnbgaaGreat.Pl
namespace Go.Proofs.YtkclokmfomnbgaaGreat.Pl
set_option linter.unusedVariables false
def Ru.err (r : Ru) : Int := r.m.err
def Ru.bad (r : Ru) : Bool := !(wi r.t 0 100)
def Ru.nm (r : Ru) : ByteArray := r.m.n
def Ru.is (n : ByteArray) (r : Ru) : Bool := r.m.n.toList == n.toList
open Classical in
noncomputable def ckRu (l : List Ru) : Int := if 20 < l.length then 2 else if firstErr Ru.err l ≠ 0 then firstErr Ru.err l else if l.any Ru.bad = true then 3 else if (l.map Ru.nm).Nodup then 0 else 6
theorem ckRu_many {l : List Ru} (h : 20 < l.length) : ckRu l = 2 := by simp [ckRu, h]
theorem ckRu_each {l : List Ru} (h : ¬ 20 < l.length) (h2 : firstErr Ru.err l ≠ 0) : ckRu l = firstErr Ru.err l := by simp [ckRu, h, h2]
theorem ckRu_rng {l : List Ru} (h : ¬ 20 < l.length) (h2 : firstErr Ru.err l = 0) (h3 : l.any Ru.bad = true) : ckRu l = 3 := by simp only [ckRu, h, h2, h3, if_false, if_true, ne_eq, not_true]
theorem ckRu_two {l : List Ru} (h : ¬ 20 < l.length) (h2 : firstErr Ru.err l = 0) (h3 : l.any Ru.bad = false) (h4 : ¬ (l.map Ru.nm).Nodup) : ckRu l = 6 := by simp only [ckRu, h, h2, h3, h4, if_false, ne_eq, not_true, Bool.false_eq_true]
theorem ckRu_ok {l : List Ru} (h : ¬ 20 < l.length) (h2 : firstErr Ru.err l = 0) (h3 : l.any Ru.bad = false) (h4 : (l.map Ru.nm).Nodup) : ckRu l = 0 := by simp only [ckRu, h, h2, h3, h4, if_false, if_true, ne_eq, not_true, Bool.false_eq_true]
structure RuOk (l : List Ru) : Prop where
 len : l.length ≤ 20
 each : firstErr Ru.err l = 0
 rng : ∀ i, (h : i < l.length) → 0 ≤ l[i].t ∧ l[i].t ≤ 100
 nd : (l.map Ru.nm).Nodup
theorem Ru.bad_iff (r : Ru) : r.bad = false ↔ 0 ≤ r.t ∧ r.t ≤ 100 := by simp [Ru.bad, wi]
theorem ckRu_inv {l : List Ru} (h : ckRu l = 0) : RuOk l := by
 unfold ckRu at h
 split at h
 ·omega
 ·split at h
  ·rename_i h2; exact absurd h h2
  ·split at h
   ·omega
   ·split at h
    ·rename_i h1 h2 h3 h4
     refine ⟨by omega, Classical.byContradiction h2, fun i hi => ?_, h4⟩
     rw [← Ru.bad_iff]
     cases q : l[i].bad with
     | false => rfl
     | true => exact absurd (List.any_eq_true.2 ⟨_, List.getElem_mem hi, q⟩) h3
    ·omega
def putFin (l : List Ru) (m : Mb) : Int × List Ru := if l.length = 20 then (2, []) else (0, l ++ [⟨m, 0⟩])
def putR (l : List Ru) (m : Mb) : Int × List Ru := match l[(at_ (Ru.is m.n) l).toNat]? with
 | some r => if 0 ≤ at_ (Ru.is m.n) l then (if Mb.cmp m r.m ≤ 0 then (0, l) else putFin (l.eraseIdx (at_ (Ru.is m.n) l).toNat) m) else putFin l m
 | none => putFin l m
noncomputable def putRu (l : List Ru) (m : Mb) : Int × List Ru := if ckRu l ≠ 0 then (ckRu l, []) else if m.err ≠ 0 then (m.err, []) else putR l m
theorem putRu_ck {l : List Ru} {m : Mb} (h : ckRu l ≠ 0) : putRu l m = (ckRu l, []) := by simp [putRu, h]
theorem putRu_one {l : List Ru} {m : Mb} (h : ckRu l = 0) (h1 : m.err ≠ 0) : putRu l m = (m.err, []) := by simp [putRu, h, h1]
theorem putRu_ok {l : List Ru} {m : Mb} (h : ckRu l = 0) (h1 : m.err = 0) : putRu l m = putR l m := by simp [putRu, h, h1]
theorem putR_no {l : List Ru} {m : Mb} (h : ¬ 0 ≤ at_ (Ru.is m.n) l) : putR l m = putFin l m := by
 unfold putR
 split
 ·rw [if_neg h]
 ·rfl
theorem putR_old {l : List Ru} {m : Mb} {r : Ru} (h : 0 ≤ at_ (Ru.is m.n) l) (hr : l[(at_ (Ru.is m.n) l).toNat]? = some r) (hc : Mb.cmp m r.m ≤ 0) : putR l m = (0, l) := by
 unfold putR; rw [hr]; simp only [if_pos h, if_pos hc]
theorem putR_new {l : List Ru} {m : Mb} {r : Ru} (h : 0 ≤ at_ (Ru.is m.n) l) (hr : l[(at_ (Ru.is m.n) l).toNat]? = some r) (hc : ¬ Mb.cmp m r.m ≤ 0) : putR l m = putFin (l.eraseIdx (at_ (Ru.is m.n) l).toNat) m := by
 unfold putR; rw [hr]; simp only [if_pos h, if_neg hc]
theorem Ru.is_iff {n : ByteArray} {r : Ru} : Ru.is n r = true ↔ r.nm = n := by
 unfold Ru.is Ru.nm
 constructor
 ·intro h; exact toList_inj (by simpa using h)
 ·intro h; rw [h]; simp
theorem nd_inj {α : Type} {l : List α} (h : l.Nodup) {i j : Nat} (hi : i < l.length) (hj : j < l.length) (e : l[i] = l[j]) : i = j := by
 have := List.pairwise_iff_getElem.1 h
 rcases (by omega : i < j ∨ i = j ∨ j < i) with q | q | q
 ·exact absurd e (this i j hi hj q)
 ·exact q
 ·exact absurd e.symm (this j i hj hi q)
theorem nd_get {l : List Ru} (h : (l.map Ru.nm).Nodup) {i j : Nat} (hi : i < l.length) (hj : j < l.length) (e : l[i].nm = l[j].nm) : i = j :=
 nd_inj h (by simpa using hi) (by simpa using hj) (by simpa using e)
def others (n : ByteArray) (l : List Ru) : List Ru := l.filter fun r => !(Ru.is n r)
theorem others_none {n : ByteArray} {l : List Ru} (h : ∀ r ∈ l, Ru.is n r = false) : others n l = l := by
 unfold others; rw [List.filter_eq_self]; intro r hr; simp [h r hr]
theorem others_erase {n : ByteArray} : ∀ {l : List Ru} (i : Nat) (hi : i < l.length), (l.map Ru.nm).Nodup → Ru.is n l[i] = true → others n l = l.eraseIdx i
 | r :: l, 0, hi, hn, h => by
  have h : Ru.is n r = true := h
  have : ∀ x ∈ l, Ru.is n x = false := fun x hx => by
   cases q : Ru.is n x with
   | false => rfl
   | true =>
    have e1 := Ru.is_iff.1 h
    have e2 := Ru.is_iff.1 q
    rw [List.map_cons, List.nodup_cons] at hn
    exact absurd (List.mem_map.2 ⟨x, hx, e2.trans e1.symm⟩) hn.1
  have e := others_none this
  unfold others at e ⊢
  simp only [List.filter_cons, h, Bool.not_true, Bool.false_eq_true, if_false, List.eraseIdx_cons_zero]
  exact e
 | r :: l, i + 1, hi, hn, h => by
  rw [List.map_cons, List.nodup_cons] at hn
  have hi' : i < l.length := by simpa using hi
  have h : Ru.is n l[i] = true := h
  have hr : Ru.is n r = false := by
   cases q : Ru.is n r with
   | false => rfl
   | true => exact absurd (List.mem_map.2 ⟨l[i], List.getElem_mem _, (Ru.is_iff.1 h).trans (Ru.is_iff.1 q).symm⟩) hn.1
  have e := others_erase i hi' hn.2 h
  unfold others at e ⊢
  simp only [List.filter_cons, hr, Bool.not_false, if_true, List.eraseIdx_cons_succ]
  rw [e]
theorem others_take {n : ByteArray} {l : List Ru} {k : Nat} (h : k < l.length) : others n (l.take (k + 1)) = if Ru.is n l[k] = true then others n (l.take k) else others n (l.take k) ++ [l[k]] := by
 unfold others
 rw [List.take_add_one, List.getElem?_eq_getElem h, List.filter_append]
 cases q : Ru.is n l[k] <;> simp [q]
def tt (l : List Ru) (i : Nat) : Int := (l[i]?.map Ru.t).getD 0
theorem tt_at {l : List Ru} {i : Nat} (h : i < l.length) : tt l i = l[i].t := by simp [tt, h]
def befB (l : List Ru) (i k : Nat) : Bool := decide (tt l i < tt l k) || (tt l i == tt l k && decide (k < i))
theorem befB_iff {l : List Ru} {i k : Nat} : befB l i k = true ↔ tt l i < tt l k ∨ (tt l i = tt l k ∧ k < i) := by simp [befB]
structure Ordd (l : List Ru) (o : List Nat) : Prop where
 len : o.length = l.length
 nd : o.Nodup
 mem : ∀ i, i ∈ o ↔ i < l.length
 pw : ∀ (i j : Nat) (hi : i < o.length) (hj : j < o.length), i < j → befB l o[i] o[j] = true
def bumpS (l : List Ru) (s : List Nat) : List Ru := l.mapIdx fun i r => if i ∈ s then ⟨r.m, r.t + 1⟩ else r
theorem bumpS_len (l : List Ru) (s : List Nat) : (bumpS l s).length = l.length := by simp [bumpS]
theorem bumpS_nil (l : List Ru) : bumpS l [] = l := by
 apply List.ext_getElem?; intro i; simp [bumpS]
theorem bumpS_at {l : List Ru} {s : List Nat} {i : Nat} (h : i < l.length) : (bumpS l s)[i]'(by rw [bumpS_len]; exact h) = if i ∈ s then ⟨l[i].m, l[i].t + 1⟩ else l[i] := by simp [bumpS]
theorem bumpS_set {l : List Ru} {s : List Nat} {i : Nat} (h : i < l.length) : (bumpS l s).set i ⟨l[i].m, l[i].t + 1⟩ = bumpS l (s ++ [i]) := by
 apply List.ext_getElem
 ·simp [bumpS]
 ·intro j h1 h2
  have hj : j < l.length := by simpa [bumpS] using h1
  rw [List.getElem_set, bumpS_at hj, bumpS_at hj]
  by_cases e : i = j
  ·subst e; simp
  ·have e' : ¬ j = i := fun q => e q.symm
   simp [e, e']
def toldL (l : List Ru) (s : List Nat) : List Mb := s.filterMap fun i => l[i]?.map Ru.m
theorem toldL_snoc {l : List Ru} {s : List Nat} {i : Nat} (h : i < l.length) : toldL l (s ++ [i]) = toldL l s ++ [l[i].m] := by simp [toldL, List.filterMap_append, h]
def restL (l : List Ru) (times : Int) : List Ru := l.filter fun r => decide (r.t < times)
def takeR (l : List Ru) (o : List Nat) (most times : Int) : List Mb × List Ru :=
 (toldL l (o.take (min most.toNat l.length)), restL (bumpS l (o.take (min most.toNat l.length))) times)
theorem take_snoc {o : List Nat} {k : Nat} (h : k < o.length) : o.take (k + 1) = o.take k ++ [o[k]] := by
 rw [List.take_add_one, List.getElem?_eq_getElem h]; rfl
theorem not_took {o : List Nat} (hn : o.Nodup) {k : Nat} (hk : k < o.length) : o[k] ∉ o.take k := fun q => by
 obtain ⟨j, hj, e⟩ := List.mem_iff_getElem.1 q
 simp only [List.getElem_take] at e
 have hj' : j < k := by simp at hj; omega
 have := nd_inj hn (by omega) hk e
 omega
def timesL (n : Int) : Int := if n < 1 then 0 else if n < 2 then 3 else if n < 4 then 6 else if n < 8 then 9 else if n < 16 then 12 else 15
end Go.Proofs.YtkclokmfomnbgaaGreat.Pl
namespace Go.Proofs.YtkclokmfomnbgaaGreat.Pl
set_option linter.unusedVariables false
structure Good {α : Type} (c : α → α → Int) : Prop where
 anti : ∀ a b, c b a = - c a b
 pp : ∀ a b d, 0 < c a b → 0 < c b d → 0 < c a d
 zp : ∀ a b d, c a b = 0 → 0 < c b d → 0 < c a d
 pz : ∀ a b d, 0 < c a b → c b d = 0 → 0 < c a d
 zz : ∀ a b d, c a b = 0 → c b d = 0 → c a d = 0
theorem icmp_zero {a b : Int} : icmp a b = 0 ↔ a = b := ⟨fun h => Classical.byContradiction fun hn => icmp_ne hn h, fun h => h ▸ icmp_eq a⟩
theorem good_int {α : Type} (f : α → Int) : Good fun g x => icmp (f g) (f x) where
 anti := fun a b => by unfold icmp; split <;> (try split) <;> (try split) <;> omega
 pp := fun a b d h k => by rw [icmp_pos] at *; omega
 zp := fun a b d h k => by rw [icmp_pos] at *; rw [icmp_zero] at h; omega
 pz := fun a b d h k => by rw [icmp_pos] at *; rw [icmp_zero] at k; omega
 zz := fun a b d h k => by rw [icmp_zero] at *; omega
theorem nz_cons (x : Int) (r : List Int) : firstNZ (x :: r) = if x = 0 then firstNZ r else x := rfl
theorem good_list {α : Type} : ∀ (cs : List (α → α → Int)), (∀ c ∈ cs, Good c) → Good fun g x => firstNZ (cs.map fun c => c g x)
 | [], _ => ⟨fun _ _ => rfl, fun _ _ _ h => by simp [firstNZ] at h, fun _ _ _ _ h => by simp [firstNZ] at h, fun _ _ _ h => by simp [firstNZ] at h, fun _ _ _ _ _ => rfl⟩
 | c :: cs, h => by
  have hc := h c (by simp)
  have ih := good_list cs fun c hm => h c (by simp [hm])
  refine ⟨fun a b => ?_, fun a b d p q => ?_, fun a b d p q => ?_, fun a b d p q => ?_, fun a b d p q => ?_⟩ <;> simp only [List.map_cons, nz_cons] at *
  ·rw [hc.anti a b]
   by_cases h0 : c a b = 0
   ·rw [if_pos (by omega), if_pos h0]; exact ih.anti a b
   ·rw [if_neg (by omega), if_neg h0]
  all_goals
   rcases Classical.em (c a b = 0) with h1 | h1 <;> rcases Classical.em (c b d = 0) with h2 | h2 <;> (try simp only [h1, h2, if_true, if_false] at p q)
  all_goals first
   | (have h3 := hc.zz _ _ _ h1 h2; rw [if_pos h3]; first | exact ih.pp _ _ _ p q | exact ih.zp _ _ _ p q | exact ih.pz _ _ _ p q | exact ih.zz _ _ _ p q)
   | (have h3 := hc.zp _ _ _ h1 q; rw [if_neg (by omega)]; exact h3)
   | (have h3 := hc.pz _ _ _ p h2; rw [if_neg (by omega)]; exact h3)
   | (have h3 := hc.pp _ _ _ p q; rw [if_neg (by omega)]; exact h3)
   | omega
theorem nz_zero : ∀ {l : List Int}, firstNZ l = 0 → ∀ x ∈ l, x = 0
 | [], _, x, hx => by cases hx
 | y :: l, h, x, hx => by
  rw [nz_cons] at h
  split at h
  ·rename_i h0
   rcases List.mem_cons.1 hx with rfl | hx
   ·exact h0
   ·exact nz_zero h x hx
  ·rename_i h0; exact absurd h h0
structure Newest {α : Type} (cf : α → α → Int) (nw : α → α → Bool) : Prop where
 irr : ∀ x, nw x x = false
 trans : ∀ x y z, nw x y = true → nw y z = true → nw x z = true
 tot : ∀ x y, cf x y = 0 → nw x y = false → nw y x = false → x = y
theorem newest_of {α : Type} {cf : α → α → Int} {c : α → α → Int} (hc : Good c) (ht : ∀ x y, cf x y = 0 → c x y = 0 → x = y) : Newest cf fun g x => decide (0 < c g x) where
 irr := fun x => decide_eq_false fun h => by have := hc.anti x x; omega
 trans := fun x y z h k => decide_eq_true (hc.pp _ _ _ (of_decide_eq_true h) (of_decide_eq_true k))
 tot := fun x y h1 h2 h3 => ht x y h1 (by have := of_decide_eq_false h2; have := of_decide_eq_false h3; have := hc.anti x y; omega)
section
variable {α : Type} {lt : α → α → Bool} {cf : α → α → Int} {nw : α → α → Bool}
theorem Ord.irr (o : Ord lt cf) (ho : ∀ x, cf x x = 0) (x : α) : lt x x = false := by
 cases h : lt x x with
 | false => rfl
 | true => have := (o.neg x x).2 h; rw [ho] at this; omega
theorem sorted_uniq (o : Ord lt cf) (ho : ∀ x, cf x x = 0) {l : List α} (hs : sorted lt l = true) {x y : α} (hx : x ∈ l) (hy : y ∈ l) (h : cf x y = 0) : x = y := by
 obtain ⟨i, hi, rfl⟩ := List.getElem_of_mem hx
 obtain ⟨j, hj, rfl⟩ := List.getElem_of_mem hy
 rcases Nat.lt_trichotomy i j with g | g | g
 ·have := sorted_pair o.trans hs j i hj g
  have h2 := o.left _ _ l[j] h
  rw [this] at h2
  rw [o.irr ho] at h2; cases h2
 ·subst g; rfl
 ·have := sorted_pair o.trans hs i j hi g
  have h2 := o.right _ _ l[j] h
  rw [this, o.irr ho] at h2
  have := o.left _ _ l[j] h
  rw [o.irr ho] at this
  have h3 := o.right l[i] l[j] l[j] h
  rw [o.irr ho] at h3
  have h4 := sorted_pair o.trans hs i j hi g
  rw [h4] at h3; cases h3
structure Rep (lt : α → α → Bool) (cf : α → α → Int) (nw : α → α → Bool) (l : List α) (S : α → Prop) : Prop where
 srt : sorted lt l = true
 sub : ∀ x ∈ l, S x
 top : ∀ y, S y → ∃ z ∈ l, cf z y = 0 ∧ nw y z = false
theorem rep_self (n : Newest cf nw) (ho : ∀ x, cf x x = 0) {l : List α} (hs : sorted lt l = true) : Rep lt cf nw l (· ∈ l) := ⟨hs, fun x h => h, fun y h => ⟨y, h, ho y, n.irr y⟩⟩
theorem hit_mem {f : α → Int} {l : List α} (h : hit f l = true) : l[low f l]'(hit_lt h) ∈ l := List.getElem_mem _
theorem rep_upd (o : Ord lt cf) (n : Newest cf nw) (ho : ∀ x, cf x x = 0) (hsym : ∀ x y, cf x y = 0 → cf y x = 0) (htr : ∀ x y z, cf x y = 0 → cf y z = 0 → cf x z = 0) {l : List α} {S : α → Prop} (h : Rep lt cf nw l S) (g : α) : Rep lt cf nw (upd cf nw l g) (fun x => S x ∨ x = g) := by
 have hs := o.upd nw h.srt g
 refine ⟨hs, fun x hx => ?_, fun y hy => ?_⟩
 ·rcases upd_mem hx with rfl | hx
  ·exact .inr rfl
  ·exact .inl (h.sub x hx)
 ·
  rcases Bool.eq_false_or_eq_true (hit (cf g) l) with q | q
  ·have hz := hit_zero q
   rcases Bool.eq_false_or_eq_true (nw g (l[low (cf g) l]'(hit_lt q))) with p | p
   ·rw [upd_newer q p]
    have hg : g ∈ l.set (low (cf g) l) g := List.mem_set (hit_lt q) g
    have stay : ∀ z ∈ l, z ≠ l[low (cf g) l]'(hit_lt q) → z ∈ l.set (low (cf g) l) g := fun z hz hne => by
     obtain ⟨i, hi, rfl⟩ := List.getElem_of_mem hz
     have hil : i ≠ low (cf g) l := fun e => hne (by subst e; rfl)
     rw [List.mem_iff_getElem]
     exact ⟨i, by simpa using hi, by rw [List.getElem_set_ne (fun e => hil e.symm)]⟩
    rcases hy with hy | rfl
    ·obtain ⟨z, hzl, h1, h2⟩ := h.top y hy
     by_cases hzz : z = l[low (cf g) l]'(hit_lt q)
     ·refine ⟨g, hg, ?_, ?_⟩
      ·rw [hzz] at h1; exact htr _ _ _ hz h1
      ·cases hb : nw y g with
       | false => rfl
       | true =>
        rw [hzz] at h2
        rw [n.trans _ _ _ hb p] at h2; cases h2
     ·exact ⟨z, stay z hzl hzz, h1, h2⟩
    ·exact ⟨y, hg, ho y, n.irr y⟩
   ·rw [upd_older q p]
    rcases hy with hy | rfl
    ·exact h.top y hy
    ·exact ⟨_, hit_mem q, hsym _ _ hz, p⟩
  ·rw [upd_miss q]
   have stay : ∀ z ∈ l, z ∈ l.take (low (cf g) l) ++ [g] ++ l.drop (low (cf g) l) := fun z hz => by
    have e := List.take_append_drop (low (cf g) l) l
    rw [← e, List.mem_append] at hz
    simp only [List.mem_append, List.mem_cons, List.not_mem_nil, or_false]
    rcases hz with h | h
    ·exact .inl (.inl h)
    ·exact .inr h
   rcases hy with hy | rfl
   ·obtain ⟨z, hzl, h1, h2⟩ := h.top y hy
    exact ⟨z, stay z hzl, h1, h2⟩
   ·exact ⟨y, by simp, ho y, n.irr y⟩
theorem Rep.congr {l : List α} {S S' : α → Prop} (h : Rep lt cf nw l S) (hS : ∀ x, S x ↔ S' x) : Rep lt cf nw l S' := ⟨h.srt, fun x hx => (hS x).1 (h.sub x hx), fun y hy => h.top y ((hS y).2 hy)⟩
theorem hit_of {f : α → Int} {l : List α} (hm : SMono f l) {x : α} (hx : x ∈ l) (h : f x = 0) : hit f l = true := by
 cases hb : hit f l with
 | true => rfl
 | false =>
  have e := List.take_append_drop (low f l) l
  rw [← e, List.mem_append] at hx
  rcases hx with q | q
  ·have := low_ahead q; omega
  ·have := low_behind hm hb q; omega
theorem low_put {f : α → Int} {l : List α} (hm : SMono f l) (h : hit f l = true) {g : α} (hg : f g = 0) : low f (l.set (low f l) g) = low f l ∧ hit f (l.set (low f l) g) = true := by
 have hlt := hit_lt h
 have h1 : low f l = low f (l.set (low f l) g) := low_uniq (by rw [List.length_set]; omega) (fun i hi hlo => by
   rw [List.getElem_set_ne (by omega)]; exact low_lt _ hlo) (fun i hi hlo => by
   by_cases hq : i = low f l
   ·subst hq; rw [List.getElem_set_self]; omega
   ·rw [List.getElem_set_ne (fun e => hq e.symm)]
    have hil : i < l.length := by simpa using hi
    have hz := hit_zero h
    rcases (by omega : f l[i] < 0 ∨ 0 ≤ f l[i]) with q | q
    ·have := hm (low f l) i hil (by omega) (by omega); omega
    ·exact q)
 refine ⟨h1.symm, ?_⟩
 have hl2 : low f (l.set (low f l) g) < (l.set (low f l) g).length := by rw [← h1, List.length_set]; exact hlt
 rw [hit_in hl2]
 simp only [← h1, List.getElem_set_self, hg, decide_true]
end
end Go.Proofs.YtkclokmfomnbgaaGreat.Pl
namespace Go.Proofs.YtkclokmfomnbgaaGreat.Pl
set_option linter.unusedVariables false
structure Gw where
 c : ByteArray
 a : Int
 v : Int
def Gw.enc (g : Gw) : List Value := [.string g.c, .int .i64 g.a, .int .i64 g.v]
def Gw.row (g : Gw) : List V := [.v (.string g.c), .v (.int .i64 g.a), .v (.int .i64 g.v)]
theorem Gw.enc_len (g : Gw) : g.enc.length = 3 := rfl
theorem Gw.enc_one (g : Gw) : ∀ u ∈ g.enc, u.oneCell' = true := by
 intro u hu
 simp [Gw.enc] at hu
 rcases hu with rfl | rfl | rfl <;> rfl
instance : FlatRow Gw.row := ⟨fun x u hu => by simp [Gw.row] at hu; rcases hu with rfl | rfl | rfl <;> exact ⟨_, rfl⟩⟩
def Gw.ok (g : Gw) : Prop := g.c.size ≤ 9223372036854775807
def Gw.err (g : Gw) : Int := if lab g.c.data.toList then (if wi g.a 0 4294967295 && wi g.v 1 1000000 then 0 else 3) else 1
def Gw.lt (g h : Gw) : Bool := slt g.c h.c
def ckGw (l : List Gw) : Int := ckL 6 Gw.err Gw.lt l
def Gw.cf (name : ByteArray) (g : Gw) : Int := scmp g.c name
def Gw.kf (g x : Gw) : Int := Gw.cf g.c x
def Gw.cmp (g x : Gw) : Int := firstNZ [icmp g.v x.v, icmp g.a x.a]
def Gw.nw (g x : Gw) : Bool := decide (0 < Gw.cmp g x)
def Gw.is (name : ByteArray) (m : Gw) : Bool := m.c.toList == name.toList
def Gw.same (g h : Gw) : Bool := (g.c.toList == h.c.toList) && ((g.a == h.a) && ((g.v == h.v) && true))
theorem Gw.same_iff {g h : Gw} : Gw.same g h = true ↔ g = h := by
 obtain ⟨a, b, c⟩ := g
 obtain ⟨a', b', c'⟩ := h
 have tl : ∀ a b : ByteArray, a.toList = b.toList ↔ a = b := fun a b => ⟨toList_inj, fun h => by rw [h]⟩
 simp only [Gw.same, Bool.and_true, Bool.and_eq_true, beq_iff_eq, tl, Gw.mk.injEq]
theorem Gw.err_cases (m : Gw) : m.err = 0 ∨ m.err = 1 ∨ m.err = 3 ∨ m.err = 7 := by
 unfold Gw.err
 split
 ·split <;> simp
 ·simp
theorem Gw.lt_trans (x y z : Gw) (h1 : Gw.lt x y = true) (h2 : Gw.lt y z = true) : Gw.lt x z = true := slt_trans h1 h2
theorem Gw.ord : Ord Gw.lt Gw.kf where
 neg := fun g x => by unfold Gw.kf Gw.cf Gw.lt; exact scmp_neg
 pos := fun g x => by
  unfold Gw.kf Gw.cf Gw.lt
  constructor
  ·intro h
   rcases Bool.eq_false_or_eq_true (slt g.c x.c) with q | q
   ·exact q
   ·rcases Bool.eq_false_or_eq_true (slt x.c g.c) with p | p
    ·rw [scmp_lt p] at h; omega
    ·have := slt_tri q p
     rw [this, scmp_eq] at h; omega
  ·intro h; rw [scmp_gt h]; omega
 trans := Gw.lt_trans
 left := fun g x y h => by
  unfold Gw.kf Gw.cf at h
  rw [scmp_zero] at h
  unfold Gw.lt; rw [h]
 right := fun g x y h => by
  unfold Gw.kf Gw.cf at h
  rw [scmp_zero] at h
  unfold Gw.lt; rw [h]
theorem Gw.lt_cf (name : ByteArray) (x y : Gw) (h : Gw.lt x y = true) (hy : Gw.cf name y ≤ 0) : Gw.cf name x < 0 := by
 unfold Gw.cf at *
 rw [scmp_neg]
 rcases Bool.eq_false_or_eq_true (slt y.c name) with g | g
 ·exact slt_trans h g
 ·have h0 : scmp y.c name = 0 := by
   rcases (by omega : scmp y.c name < 0 ∨ scmp y.c name = 0) with q | q
   ·rw [scmp_neg] at q; rw [q] at g; cases g
   ·exact q
  rw [scmp_zero] at h0
  rw [← h0]
  exact h
theorem ckGw_inv {l : List Gw} (h : ckGw l = 0) : l.length ≤ 6 ∧ (∀ i, (hi : i < l.length) → (l[i]).err = 0) ∧ sorted Gw.lt l = true := ckL_inv Gw.err_cases h
theorem Gw.smono {l : List Gw} (h : sorted Gw.lt l = true) (name : ByteArray) : SMono (Gw.cf name) l := smono_of Gw.lt_trans (Gw.lt_cf name) h
def Gw.ge (m x : Gw) : Bool := !(Op.bytesLess x.c.toList m.c.toList)
def Gw.ne (m x : Gw) : Bool := !(x.c.toList == m.c.toList)
theorem Gw.ge_eq (m : Gw) : Gw.ge m = fun x => decide (0 ≤ Gw.kf m x) := by
 funext x
 have h := scmp_neg (a := x.c) (b := m.c)
 unfold Gw.ge Gw.kf Gw.cf
 unfold slt at h
 cases hb : Op.bytesLess x.c.toList m.c.toList with
 | true => have := h.2 hb; simp; omega
 | false =>
  have : ¬ scmp x.c m.c < 0 := fun e => by rw [h.1 e] at hb; cases hb
  simp; omega
theorem Gw.is_eq (name : ByteArray) : Gw.is name = fun x => decide (Gw.cf name x = 0) := by
 funext x
 unfold Gw.is Gw.cf
 by_cases h : x.c = name
 ·rw [h, scmp_eq]; simp
 ·have h2 : scmp x.c name ≠ 0 := fun e => h (scmp_zero.1 e)
  rw [seq_no h]; simp [h2]
theorem Gw.ne_eq (m : Gw) : Gw.ne m = fun x => decide (Gw.kf m x ≠ 0) := by
 funext x
 have := congrFun (Gw.is_eq m.c) x
 unfold Gw.is at this
 unfold Gw.ne Gw.kf
 rw [this]; simp
theorem Gw.at_eq {l : List Gw} (hs : sorted Gw.lt l = true) (name : ByteArray) : at_ (Gw.is name) l = if hit (Gw.cf name) l = true then (low (Gw.cf name) l : Int) else -1 := by
 rw [Gw.is_eq]; exact at_sorted (Gw.smono hs name)
theorem Gw.putL_eq {l : List Gw} (hs : sorted Gw.lt l = true) {m : Gw} (h : hearF Gw.kf Gw.nw l m = true) : putL (Gw.ge m) (Gw.ne m) m l = upd Gw.kf Gw.nw l m := by
 rw [Gw.ge_eq, Gw.ne_eq, upd_put h]
 exact putL_sorted (Gw.smono hs m.c) m
def joinG (a b : List Gw) : Int × List Gw :=
 if ckGw a ≠ 0 then (ckGw a, []) else if ckGw b ≠ 0 then (ckGw b, []) else if 6 < (joinL Gw.kf Gw.nw a b).length then (2, []) else (0, joinL Gw.kf Gw.nw a b)
theorem joinG_bad {a b : List Gw} (h : firstErr ckGw [a, b] ≠ 0) : joinG a b = (firstErr ckGw [a, b], []) := by
 by_cases h1 : ckGw a = 0
 ·by_cases h2 : ckGw b = 0
  ·simp [firstErr, h1, h2] at h
  ·simp [joinG, firstErr, h1, h2]
 ·simp [joinG, firstErr, h1]
theorem first_twoG {a b : List Gw} (h : firstErr ckGw [a, b] = 0) : ckGw a = 0 ∧ ckGw b = 0 := by
 by_cases h1 : ckGw a = 0
 ·by_cases h2 : ckGw b = 0
  ·exact ⟨h1, h2⟩
  ·simp [firstErr, h1, h2] at h
 ·simp [firstErr, h1] at h
theorem joinG_many {a b : List Gw} (h : ckGw a = 0) (h1 : ckGw b = 0) (h2 : 6 < (joinL Gw.kf Gw.nw a b).length) : joinG a b = (2, []) := by simp [joinG, h, h1, h2]
theorem joinG_ok {a b : List Gw} (h : ckGw a = 0) (h1 : ckGw b = 0) (h2 : ¬ 6 < (joinL Gw.kf Gw.nw a b).length) : joinG a b = (0, joinL Gw.kf Gw.nw a b) := by simp [joinG, h, h1, h2]
structure Rt where
 c : ByteArray
 a : Int
def Rt.row (r : Rt) : List V := [.v (.string r.c), .v (.int .i64 r.a)]
instance : FlatRow Rt.row := ⟨fun x u hu => by simp [Rt.row] at hu; rcases hu with rfl | rfl <;> exact ⟨_, rfl⟩⟩
def Rt.same (g h : Rt) : Bool := (g.c.toList == h.c.toList) && ((g.a == h.a) && true)
theorem Rt.same_iff {g h : Rt} : Rt.same g h = true ↔ g = h := by
 obtain ⟨a, b⟩ := g
 obtain ⟨a', b'⟩ := h
 have tl : ∀ a b : ByteArray, a.toList = b.toList ↔ a = b := fun a b => ⟨toList_inj, fun h => by rw [h]⟩
 simp only [Rt.same, Bool.and_true, Bool.and_eq_true, beq_iff_eq, tl, Rt.mk.injEq]
theorem Gw.err_inv {m : Gw} (h : m.err = 0) : lab m.c.data.toList = true ∧ (0 ≤ m.a ∧ m.a ≤ 4294967295) ∧ (1 ≤ m.v ∧ m.v ≤ 1000000) := by
 unfold Gw.err at h
 split at h
 ·rename_i h1
  split at h
  ·rename_i h2
   rw [Bool.and_eq_true, wi_iff, wi_iff] at h2
   exact ⟨h1, h2⟩
  ·omega
 ·omega
theorem gw_dec (row : List V) (h : Fits [.s, .i, .i] row) : ∃ m : Gw, row = m.row ∧ m.ok := by
 obtain ⟨u0, _, rfl, f0, h⟩ := fits_cons h
 obtain ⟨u1, _, rfl, f1, h⟩ := fits_cons h
 obtain ⟨u2, _, rfl, f2, h⟩ := fits_cons h
 obtain rfl := fits_nil h
 obtain ⟨n, rfl, hn⟩ := fit_s f0
 obtain ⟨a, rfl, _⟩ := fit_i f1
 obtain ⟨b, rfl, _⟩ := fit_i f2
 exact ⟨⟨n, a, b⟩, rfl, hn⟩
end Go.Proofs.YtkclokmfomnbgaaGreat.Pl
namespace Go.Proofs.YtkclokmfomnbgaaGreat.Pl
set_option linter.unusedVariables false
structure Sv where
 nd : ByteArray
 id : ByteArray
 nm : ByteArray
 tg : ByteArray
 ad : Int
 pt : Int
 ps : Bool
 vs : Int
 gn : Bool
def Sv.enc (m : Sv) : List Value := [.string m.nd, .string m.id, .string m.nm, .string m.tg, .int .i64 m.ad, .int .i64 m.pt, .bool m.ps, .int .i64 m.vs, .bool m.gn]
def Sv.row (m : Sv) : List V := [.v (.string m.nd), .v (.string m.id), .v (.string m.nm), .v (.string m.tg), .v (.int .i64 m.ad), .v (.int .i64 m.pt), .v (.bool m.ps), .v (.int .i64 m.vs), .v (.bool m.gn)]
theorem Sv.enc_len (m : Sv) : m.enc.length = 9 := rfl
theorem Sv.enc_one (m : Sv) : ∀ u ∈ m.enc, u.oneCell' = true := by
 intro u hu
 simp [Sv.enc] at hu
 rcases hu with rfl | rfl | rfl | rfl | rfl | rfl | rfl | rfl | rfl <;> rfl
instance : FlatRow Sv.row := ⟨fun x u hu => by simp [Sv.row] at hu; rcases hu with rfl | rfl | rfl | rfl | rfl | rfl | rfl | rfl | rfl <;> exact ⟨_, rfl⟩⟩
def Sv.ok (m : Sv) : Prop := m.nd.size ≤ 9223372036854775807 ∧ m.id.size ≤ 9223372036854775807 ∧ m.nm.size ≤ 9223372036854775807 ∧ m.tg.size ≤ 9223372036854775807
def emp (s : ByteArray) : Bool := s.toList == (ByteArray.mk #[]).toList
def mayb (s : ByteArray) : Bool := emp s || lab s.data.toList
def Sv.err (m : Sv) : Int := if lab m.nd.data.toList then (if lab m.id.data.toList then (if lab m.nm.data.toList then (if mayb m.tg then (if wi m.ad 0 4294967295 then (if wi m.pt 0 65535 then (if wi m.vs 1 1000000 then 0 else 3) else 3) else 3) else 1) else 1) else 1) else 1
def Sv.cf (nd id : ByteArray) (x : Sv) : Int := firstNZ [scmp x.nd nd, scmp x.id id]
def Sv.kf (g x : Sv) : Int := Sv.cf g.nd g.id x
def Sv.lt (g h : Sv) : Bool := decide (Sv.cf h.nd h.id g < 0)
def ckSv (l : List Sv) : Int := ckL 40 Sv.err Sv.lt l
def Sv.cmp (g x : Sv) : Int := firstNZ [icmp g.vs x.vs, icmp (b2i g.gn) (b2i x.gn), scmp g.nm x.nm, scmp g.tg x.tg, icmp g.ad x.ad, icmp g.pt x.pt, icmp (b2i g.ps) (b2i x.ps)]
def Sv.nw (g x : Sv) : Bool := decide (0 < Sv.cmp g x)
def Sv.is (nd id : ByteArray) (m : Sv) : Bool := (m.nd.toList == nd.toList) && (m.id.toList == id.toList)
def Sv.same (g h : Sv) : Bool := (g.nd.toList == h.nd.toList) && ((g.id.toList == h.id.toList) && ((g.nm.toList == h.nm.toList) && ((g.tg.toList == h.tg.toList) && ((g.ad == h.ad) && ((g.pt == h.pt) && ((g.ps == h.ps) && ((g.vs == h.vs) && ((g.gn == h.gn) && true))))))))
theorem Sv.same_iff {g h : Sv} : Sv.same g h = true ↔ g = h := by
 obtain ⟨a, b, c, d, e, f, i, j, k⟩ := g
 obtain ⟨a', b', c', d', e', f', i', j', k'⟩ := h
 have tl : ∀ a b : ByteArray, a.toList = b.toList ↔ a = b := fun a b => ⟨toList_inj, fun h => by rw [h]⟩
 simp only [Sv.same, Bool.and_true, Bool.and_eq_true, beq_iff_eq, tl, Sv.mk.injEq]
theorem Sv.err_cases (m : Sv) : m.err = 0 ∨ m.err = 1 ∨ m.err = 3 ∨ m.err = 7 := by
 unfold Sv.err
 repeat' split
 all_goals simp
theorem cf2_eq {a b c d : ByteArray} (h : a = b) : firstNZ [scmp a b, scmp c d] = scmp c d := by
 subst h
 by_cases h : scmp c d = 0 <;> simp [firstNZ, scmp_eq, h]
theorem cf2_ne {a b c d : ByteArray} (h : a ≠ b) : firstNZ [scmp a b, scmp c d] = scmp a b := by
 have : scmp a b ≠ 0 := fun e => h (scmp_zero.1 e)
 simp [firstNZ, this]
theorem Sv.cf_neg {nd id : ByteArray} {x : Sv} : Sv.cf nd id x < 0 ↔ slt x.nd nd = true ∨ (x.nd = nd ∧ slt x.id id = true) := by
 unfold Sv.cf
 by_cases h : x.nd = nd
 ·rw [cf2_eq h, scmp_neg, h]; simp [slt_irrefl]
 ·rw [cf2_ne h, scmp_neg]; simp [h]
theorem Sv.cf_pos {nd id : ByteArray} {x : Sv} : 0 < Sv.cf nd id x ↔ slt nd x.nd = true ∨ (x.nd = nd ∧ slt id x.id = true) := by
 unfold Sv.cf
 by_cases h : x.nd = nd
 ·rw [cf2_eq h, scmp_pos, h]; simp [slt_irrefl]
 ·rw [cf2_ne h, scmp_pos]; simp [h]
theorem Sv.cf_zero {nd id : ByteArray} {x : Sv} : Sv.cf nd id x = 0 ↔ x.nd = nd ∧ x.id = id := by
 unfold Sv.cf
 by_cases h : x.nd = nd
 ·rw [cf2_eq h, scmp_zero]; simp [h]
 ·rw [cf2_ne h, scmp_zero]; simp [h]
theorem Sv.lt_iff {x y : Sv} : Sv.lt x y = true ↔ slt x.nd y.nd = true ∨ (x.nd = y.nd ∧ slt x.id y.id = true) := by
 unfold Sv.lt; rw [decide_eq_true_iff, Sv.cf_neg]
theorem Sv.lt_trans (x y z : Sv) (h1 : Sv.lt x y = true) (h2 : Sv.lt y z = true) : Sv.lt x z = true := by
 rw [Sv.lt_iff] at *
 rcases h1 with h1 | ⟨e1, h1⟩ <;> rcases h2 with h2 | ⟨e2, h2⟩
 ·exact .inl (slt_trans h1 h2)
 ·exact .inl (e2 ▸ h1)
 ·exact .inl (by rw [e1]; exact h2)
 ·exact .inr ⟨e1.trans e2, slt_trans h1 h2⟩
theorem Sv.ord : Ord Sv.lt Sv.kf where
 neg := fun g x => by unfold Sv.lt Sv.kf; rw [decide_eq_true_iff]
 pos := fun g x => by unfold Sv.kf; rw [Sv.cf_pos, Sv.lt_iff]; constructor <;> (rintro (h | ⟨e, h⟩); exact .inl h; exact .inr ⟨e.symm, h⟩)
 trans := Sv.lt_trans
 left := fun g x y h => by
  obtain ⟨e1, e2⟩ := Sv.cf_zero.1 h
  unfold Sv.lt Sv.cf; rw [e1, e2]
 right := fun g x y h => by
  obtain ⟨e1, e2⟩ := Sv.cf_zero.1 h
  unfold Sv.lt; rw [e1, e2]
theorem Sv.lt_cf (nd id : ByteArray) (x y : Sv) (h : Sv.lt x y = true) (hy : Sv.cf nd id y ≤ 0) : Sv.cf nd id x < 0 := by
 rw [Sv.lt_iff] at h
 rw [Sv.cf_neg]
 rcases (by omega : Sv.cf nd id y < 0 ∨ Sv.cf nd id y = 0) with q | q
 ·rw [Sv.cf_neg] at q
  rcases h with h1 | ⟨e1, h1⟩ <;> rcases q with h2 | ⟨e2, h2⟩
  ·exact .inl (slt_trans h1 h2)
  ·exact .inl (e2 ▸ h1)
  ·exact .inl (by rw [e1]; exact h2)
  ·exact .inr ⟨e1.trans e2, slt_trans h1 h2⟩
 ·obtain ⟨e1, e2⟩ := Sv.cf_zero.1 q
  rw [← e1, ← e2]; exact h
theorem ckSv_inv {l : List Sv} (h : ckSv l = 0) : l.length ≤ 40 ∧ (∀ i, (hi : i < l.length) → (l[i]).err = 0) ∧ sorted Sv.lt l = true := ckL_inv Sv.err_cases h
theorem Sv.smono {l : List Sv} (h : sorted Sv.lt l = true) (nd id : ByteArray) : SMono (Sv.cf nd id) l := smono_of Sv.lt_trans (Sv.lt_cf nd id) h
theorem Sv.ahead1 {x y : Sv} (h : Op.bytesLess x.nd.toList y.nd.toList = true) : Sv.lt x y = true := Sv.lt_iff.2 (.inl h)
theorem Sv.ahead2 {x y : Sv} (h : Op.bytesLess x.nd.toList y.nd.toList = false) (h2 : (x.nd.toList == y.nd.toList) = true) : Sv.lt x y = Op.bytesLess x.id.toList y.id.toList := by
 have e := seq_iff.1 h2
 have h' : slt x.nd y.nd = false := h
 have := Sv.lt_iff (x := x) (y := y)
 show Sv.lt x y = slt x.id y.id
 cases hb : slt x.id y.id with
 | true => exact this.2 (.inr ⟨e, hb⟩)
 | false =>
  cases hl : Sv.lt x y with
  | false => rfl
  | true => rcases this.1 hl with q | ⟨_, q⟩ <;> simp_all
theorem Sv.ahead3 {x y : Sv} (h : Op.bytesLess x.nd.toList y.nd.toList = false) (h2 : (x.nd.toList == y.nd.toList) = false) : Sv.lt x y = false := by
 have e : x.nd ≠ y.nd := fun e => by rw [e] at h2; simp at h2
 have h' : slt x.nd y.nd = false := h
 cases hl : Sv.lt x y with
 | false => rfl
 | true => rcases Sv.lt_iff.1 hl with q | ⟨q, _⟩ <;> simp_all
def Sv.ge (m x : Sv) : Bool := !(Sv.lt x m)
def Sv.ne (m x : Sv) : Bool := !(Sv.is m.nd m.id x)
theorem Sv.ge_eq (m : Sv) : Sv.ge m = fun x => decide (0 ≤ Sv.kf m x) := by
 funext x
 unfold Sv.ge Sv.lt Sv.kf
 by_cases h : Sv.cf m.nd m.id x < 0
 ·simp [h]
 ·simp [h]; omega
theorem Sv.is_eq (nd id : ByteArray) : Sv.is nd id = fun x => decide (Sv.cf nd id x = 0) := by
 funext x
 unfold Sv.is
 by_cases h : x.nd = nd ∧ x.id = id
 ·rw [h.1, h.2]
  have : Sv.cf nd id x = 0 := Sv.cf_zero.2 h
  simp [this]
 ·have h2 : ¬ Sv.cf nd id x = 0 := fun e => h (Sv.cf_zero.1 e)
  have h3 : (x.nd.toList == nd.toList && x.id.toList == id.toList) = false := by
   cases hb : (x.nd.toList == nd.toList && x.id.toList == id.toList) with
   | false => rfl
   | true => rw [Bool.and_eq_true, seq_iff, seq_iff] at hb; exact absurd hb h
  rw [h3]; simp [h2]
theorem Sv.ne_eq (m : Sv) : Sv.ne m = fun x => decide (Sv.kf m x ≠ 0) := by
 funext x
 have := congrFun (Sv.is_eq m.nd m.id) x
 unfold Sv.ne Sv.kf
 rw [this]; simp
theorem Sv.at_eq {l : List Sv} (hs : sorted Sv.lt l = true) (nd id : ByteArray) : at_ (Sv.is nd id) l = if hit (Sv.cf nd id) l = true then (low (Sv.cf nd id) l : Int) else -1 := by
 rw [Sv.is_eq]; exact at_sorted (Sv.smono hs nd id)
theorem Sv.putL_put {l : List Sv} (hs : sorted Sv.lt l = true) (m : Sv) : putL (Sv.ge m) (Sv.ne m) m l = putAt (Sv.kf m) m l := by
 rw [Sv.ge_eq, Sv.ne_eq]
 exact putL_sorted (Sv.smono hs m.nd m.id) m
theorem sv_dec (row : List V) (h : Fits [.s, .s, .s, .s, .i, .i, .b, .i, .b] row) : ∃ m : Sv, row = m.row ∧ m.ok := by
 obtain ⟨u0, _, rfl, f0, h⟩ := fits_cons h
 obtain ⟨u1, _, rfl, f1, h⟩ := fits_cons h
 obtain ⟨u2, _, rfl, f2, h⟩ := fits_cons h
 obtain ⟨u3, _, rfl, f3, h⟩ := fits_cons h
 obtain ⟨u4, _, rfl, f4, h⟩ := fits_cons h
 obtain ⟨u5, _, rfl, f5, h⟩ := fits_cons h
 obtain ⟨u6, _, rfl, f6, h⟩ := fits_cons h
 obtain ⟨u7, _, rfl, f7, h⟩ := fits_cons h
 obtain ⟨u8, _, rfl, f8, h⟩ := fits_cons h
 obtain rfl := fits_nil h
 obtain ⟨a, rfl, ha⟩ := fit_s f0
 obtain ⟨b, rfl, hb⟩ := fit_s f1
 obtain ⟨c, rfl, hc⟩ := fit_s f2
 obtain ⟨d, rfl, hd⟩ := fit_s f3
 obtain ⟨e, rfl, _⟩ := fit_i f4
 obtain ⟨f, rfl, _⟩ := fit_i f5
 obtain ⟨g, rfl⟩ := fit_b f6
 obtain ⟨i, rfl, _⟩ := fit_i f7
 obtain ⟨j, rfl⟩ := fit_b f8
 exact ⟨⟨a, b, c, d, e, f, g, i, j⟩, rfl, ha, hb, hc, hd⟩
theorem nzb_ne {p q : Bool} {r : List Int} (h : (p != q) = true) : decide (0 < firstNZ (icmp (b2i p) (b2i q) :: r)) = p := by cases p <;> cases q <;> first | (cases h; done) | simp [firstNZ, icmp, b2i]
theorem nzb_eq {p q : Bool} {r : List Int} (h : (p != q) = false) : firstNZ (icmp (b2i p) (b2i q) :: r) = firstNZ r := by cases p <;> cases q <;> first | (cases h; done) | simp [firstNZ, icmp, b2i]
theorem sgt_eq (a b : ByteArray) : (!(Op.bytesLess a.toList b.toList || a.toList == b.toList)) = slt b a := by rw [sle_eq]; simp
end Go.Proofs.YtkclokmfomnbgaaGreat.Pl
namespace Go.Proofs.YtkclokmfomnbgaaGreat.Pl
set_option linter.unusedVariables false
def isqAux (n : Nat) : Nat → Nat
 | 0 => 0
 | k + 1 => if (k + 1) * (k + 1) ≤ n then k + 1 else isqAux n k
def isq (n : Nat) : Nat := isqAux n n
def rt (n : Int) : Int := (isq n.toNat : Int)
end Go.Proofs.YtkclokmfomnbgaaGreat.Pl
namespace Go.Proofs.YtkclokmfomnbgaaGreat.Pl
set_option linter.unusedVariables false
def sq3 (x y z x' y' z' : Int) : Int := (x - x') * (x - x') + (y - y') * (y - y') + (z - z') * (z - z')
def flat (x y z x' y' z' : Int) : Int := rt (sq3 x y z x' y' z')
end Go.Proofs.YtkclokmfomnbgaaGreat.Pl
namespace Go.Proofs.YtkclokmfomnbgaaGreat.Pl
set_option linter.unusedVariables false
structure Pc where
 x : Int
 y : Int
 z : Int
 h : Int
 s : Int
def Pc.row (p : Pc) : List V := [.v (.int .i64 p.x), .v (.int .i64 p.y), .v (.int .i64 p.z), .v (.int .i64 p.h), .v (.int .i64 p.s)]
instance : FlatRow Pc.row := ⟨fun x u hu => by simp [Pc.row] at hu; rcases hu with rfl | rfl | rfl | rfl | rfl <;> exact ⟨_, rfl⟩⟩
def Pc.ok (p : Pc) : Prop := True
def Pc.okb (p : Pc) : Bool := okPl p.x p.y p.z p.h p.s
def Pc.err (p : Pc) : Int := ckPl p.x p.y p.z p.h p.s
theorem Pc.err_ok {p : Pc} (h : p.okb = true) : p.err = 0 := by unfold Pc.err ckPl; unfold Pc.okb at h; rw [if_pos h]
theorem Pc.err_bad {p : Pc} (h : p.okb = false) : p.err = 3 := by unfold Pc.err ckPl; unfold Pc.okb at h; rw [if_neg (by rw [h]; decide)]
theorem Pc.err_iff {p : Pc} : p.err = 0 ↔ p.okb = true := by
 cases h : p.okb with
 | true => simp [Pc.err_ok h]
 | false => simp [Pc.err_bad h]
def Pc.flat (a b : Pc) : Int := Pl.flat a.x a.y a.z b.x b.y b.z
end Go.Proofs.YtkclokmfomnbgaaGreat.Pl
namespace Go.Proofs.YtkclokmfomnbgaaGreat
open Go.ChangeShapes Go.WideShapes Go.ChangeAt Go.RowKit
set_option linter.unusedVariables false
theorem list_sz {H : Type} {enc : TypeId × Value → H} {P : Program} {w : World} {base : Nat} {spare : Nat → Bool} {held : Bool} {t e : TypeId} {v : Value} {d : DataW H} {p : List MemPlace} {R : Nat → Prop} {G : Nat → Option Loc} {rows : List (List V)}
  (hu : P.underlying t = some (.slice e)) (h : DataW.Trod enc P w base spare held t v d p) (hv : RV w R G (.sl false rows) v) {ts : List TypeId} {ds : List (DataW H)} {j : Nat}
  (hz : (DataW.weightsEach P ts ds).all (· ≤ reachBytes) = true) (ht : ts[j]? = some t) (hd : ds[j]? = some d) : rows.length * P.bytesOf e ≤ 140737488351232 := by
 obtain ⟨fuel, hf⟩ := h
 have key : ∀ a len cap, v = .slice a len cap → rows.length = len → rows.length * P.bytesOf e ≤ 140737488351232 := fun a len cap hva hl => by
  subst hva
  rcases Go.Deep.open_slice hu hf with ⟨h1, _⟩ | ⟨a', len', cap', m, n, D, Pl, h1, _, _, _, _, h2, _⟩
  ·have h1 : [Value.slice a len cap] = [.slice none 0 0] := h1
   simp only [List.cons.injEq, Value.slice.injEq] at h1
   rw [hl, h1.1.2.1]; omega
  ·have h1 : [Value.slice a len cap] = [.slice (some a') len' cap'] := h1
   simp only [List.cons.injEq, Value.slice.injEq] at h1
   injection h2 with h2 _
   subst h2
   have := sized_slice hz ht hd hu
   rw [List.length_map, List.length_range] at this
   rw [hl, h1.1.2.1]
   have h3 : len' * P.bytesOf e ≤ (len' + ((List.range (m - len')).map fun j => D (len' + j)).length) * P.bytesOf e := Nat.mul_le_mul_right _ (by omega)
   have h4 : reachBytes = 140737488351232 := rfl
   omega
 generalize hu' : V.sl false rows = u at hv
 cases hv with
 | nil clip a cap hc => injection hu' with _ hr; subst hr; exact key _ _ _ rfl rfl
 | sl clip rows' b off cap sz f _ _ _ _ _ _ => injection hu' with _ hr; subst hr; exact key _ _ _ rfl rfl
 | _ => cases hu'
end Go.Proofs.YtkclokmfomnbgaaGreat
namespace Go.Proofs.YtkclokmfomnbgaaGreat.Pl
set_option linter.unusedVariables false
structure Wh where
 nd : ByteArray
 pl : Pc
def Wh.enc (x : Wh) : List Value := [.string x.nd, .int .i64 x.pl.x, .int .i64 x.pl.y, .int .i64 x.pl.z, .int .i64 x.pl.h, .int .i64 x.pl.s]
def Wh.row (x : Wh) : List V := [.v (.string x.nd), .v (.int .i64 x.pl.x), .v (.int .i64 x.pl.y), .v (.int .i64 x.pl.z), .v (.int .i64 x.pl.h), .v (.int .i64 x.pl.s)]
theorem Wh.enc_len (x : Wh) : x.enc.length = 6 := rfl
theorem Wh.enc_one (x : Wh) : ∀ u ∈ x.enc, u.oneCell' = true := by
 intro u hu
 simp [Wh.enc] at hu
 rcases hu with rfl | rfl | rfl | rfl | rfl | rfl <;> rfl
instance : FlatRow Wh.row := ⟨fun x u hu => by simp [Wh.row] at hu; rcases hu with rfl | rfl | rfl | rfl | rfl | rfl <;> exact ⟨_, rfl⟩⟩
instance : OneRow Wh.row 6 := ⟨fun _ => rfl, fun x u hu => by simp [Wh.row] at hu; rcases hu with rfl | rfl | rfl | rfl | rfl | rfl <;> exact ⟨_, rfl, rfl⟩⟩
def Wh.ok (x : Wh) : Prop := x.nd.size ≤ 9223372036854775807
def Wh.err (x : Wh) : Int := if lab x.nd.data.toList then x.pl.err else 1
def Wh.lt (g h : Wh) : Bool := slt g.nd h.nd
def ckWh (l : List Wh) : Int := ckL 20 Wh.err Wh.lt l
theorem wh_dec (row : List V) (h : Fits [.s, .i, .i, .i, .i, .i] row) : ∃ m : Wh, row = m.row ∧ m.ok := by
 obtain ⟨u0, _, rfl, f0, h⟩ := fits_cons h
 obtain ⟨u1, _, rfl, f1, h⟩ := fits_cons h
 obtain ⟨u2, _, rfl, f2, h⟩ := fits_cons h
 obtain ⟨u3, _, rfl, f3, h⟩ := fits_cons h
 obtain ⟨u4, _, rfl, f4, h⟩ := fits_cons h
 obtain ⟨u5, _, rfl, f5, h⟩ := fits_cons h
 obtain rfl := fits_nil h
 obtain ⟨n, rfl, hn⟩ := fit_s f0
 obtain ⟨a, rfl, _⟩ := fit_i f1
 obtain ⟨b, rfl, _⟩ := fit_i f2
 obtain ⟨c, rfl, _⟩ := fit_i f3
 obtain ⟨d, rfl, _⟩ := fit_i f4
 obtain ⟨e, rfl, _⟩ := fit_i f5
 exact ⟨⟨n, a, b, c, d, e⟩, rfl, hn⟩
structure Nd where
 nm : ByteArray
 ce : ByteArray
 ms : List Mb
 rs : List Ru
 sv : List Sv
 gs : List Gw
 pl : Pc
 wh : List Wh
def Nd.row (n : Nd) : List V := [.v (.string n.nm), .v (.string n.ce), .sl false (n.ms.map Mb.row), .sl false (n.rs.map Ru.row), .sl false (n.sv.map Sv.row), .sl false (n.gs.map Gw.row),
 .v (.int .i64 n.pl.x), .v (.int .i64 n.pl.y), .v (.int .i64 n.pl.z), .v (.int .i64 n.pl.h), .v (.int .i64 n.pl.s), .sl false (n.wh.map Wh.row)]
structure Nd.ok (n : Nd) : Prop where
 nm : n.nm.size ≤ 9223372036854775807
 ce : n.ce.size ≤ 9223372036854775807
 msl : n.ms.length ≤ 9223372036854775807
 ms : ∀ x ∈ n.ms, x.ok
 rsl : n.rs.length ≤ 9223372036854775807
 rs : ∀ x ∈ n.rs, x.ok
 svl : n.sv.length ≤ 9223372036854775807
 sv : ∀ x ∈ n.sv, x.ok
 gsl : n.gs.length ≤ 9223372036854775807
 gs : ∀ x ∈ n.gs, x.ok
 whl : n.wh.length ≤ 9223372036854775807
 wh : ∀ x ∈ n.wh, x.ok
def ruOk (ms : List Mb) (r : Ru) : Bool := match ms[low (Mb.cf r.m.n) ms]? with
 | some m => hit (Mb.cf r.m.n) ms && decide (Mb.cmp r.m m ≤ 0)
 | none => false
noncomputable def Nd.cks (n : Nd) : List Int := [ckMb n.ms, ckRu n.rs, ckSv n.sv, ckGw n.gs, n.pl.err, ckWh n.wh]
def Nd.mine (n : Nd) : Int := match n.ms[low (Mb.cf n.nm) n.ms]? with
 | some m => if m.st = 2 ∨ m.st = 3 then 4 else if n.rs.all (ruOk n.ms) then 0 else 4
 | none => 4
noncomputable def Nd.err (n : Nd) : Int :=
 if lab n.nm.data.toList = false ∨ lab n.ce.data.toList = false then 1
 else if firstErr (fun e => e) n.cks ≠ 0 then firstErr (fun e => e) n.cks
 else if hit (Mb.cf n.nm) n.ms = false then 5 else n.mine
theorem Nd.err_form {n : Nd} (h : lab n.nm.data.toList = false ∨ lab n.ce.data.toList = false) : n.err = 1 := if_pos h
theorem Nd.err_ck {n : Nd} (h1 : lab n.nm.data.toList = true) (h2 : lab n.ce.data.toList = true) (h : firstErr (fun e => e) n.cks ≠ 0) : n.err = firstErr (fun e => e) n.cks := by
 unfold Nd.err
 rw [if_neg (by rw [h1, h2]; simp), if_pos h]
theorem Nd.err_none {n : Nd} (h1 : lab n.nm.data.toList = true) (h2 : lab n.ce.data.toList = true) (h : firstErr (fun e => e) n.cks = 0) (h3 : hit (Mb.cf n.nm) n.ms = false) : n.err = 5 := by
 unfold Nd.err
 rw [if_neg (by rw [h1, h2]; simp), if_neg (by rw [h]; simp), if_pos h3]
theorem Nd.err_mine {n : Nd} (h1 : lab n.nm.data.toList = true) (h2 : lab n.ce.data.toList = true) (h : firstErr (fun e => e) n.cks = 0) (h3 : hit (Mb.cf n.nm) n.ms = true) : n.err = n.mine := by
 unfold Nd.err
 rw [if_neg (by rw [h1, h2]; simp), if_neg (by rw [h]; simp), if_neg (by rw [h3]; simp)]
theorem Nd.mine_at {n : Nd} {m : Mb} (h : n.ms[low (Mb.cf n.nm) n.ms]? = some m) : n.mine = if m.st = 2 ∨ m.st = 3 then 4 else if n.rs.all (ruOk n.ms) then 0 else 4 := by
 unfold Nd.mine; rw [h]
theorem ruOk_no {ms : List Mb} {r : Ru} (h : hit (Mb.cf r.m.n) ms = false) : ruOk ms r = false := by
 unfold ruOk
 split
 ·rw [h]; rfl
 ·rfl
theorem ruOk_at {ms : List Mb} {r : Ru} {m : Mb} (h : hit (Mb.cf r.m.n) ms = true) (hm : ms[low (Mb.cf r.m.n) ms]? = some m) : ruOk ms r = decide (Mb.cmp r.m m ≤ 0) := by
 unfold ruOk; rw [hm]; simp [h]
structure Nd.Good (n : Nd) : Prop where
 nm : lab n.nm.data.toList = true
 ce : lab n.ce.data.toList = true
 ms : ckMb n.ms = 0
 rs : ckRu n.rs = 0
 sv : ckSv n.sv = 0
 gs : ckGw n.gs = 0
 pl : n.pl.okb = true
 wh : ckWh n.wh = 0
 hit : hit (Mb.cf n.nm) n.ms = true
 st : ∀ m, n.ms[low (Mb.cf n.nm) n.ms]? = some m → m.st ≠ 2 ∧ m.st ≠ 3
 ru : ∀ r ∈ n.rs, ruOk n.ms r = true
theorem cks_zero {n : Nd} (h : firstErr (fun e => e) n.cks = 0) : ckMb n.ms = 0 ∧ ckRu n.rs = 0 ∧ ckSv n.sv = 0 ∧ ckGw n.gs = 0 ∧ n.pl.err = 0 ∧ ckWh n.wh = 0 := by
 have g := firstErr_get h
 exact ⟨g 0 (by show 0 < 6; omega), g 1 (by show 1 < 6; omega), g 2 (by show 2 < 6; omega), g 3 (by show 3 < 6; omega), g 4 (by show 4 < 6; omega), g 5 (by show 5 < 6; omega)⟩
theorem Nd.good {n : Nd} (h : n.err = 0) : n.Good := by
 by_cases h1 : lab n.nm.data.toList = false ∨ lab n.ce.data.toList = false
 ·rw [Nd.err_form h1] at h; cases h
 ·have h2 : lab n.nm.data.toList = true := by cases q : lab n.nm.data.toList <;> simp [q] at h1 ⊢
  have h3 : lab n.ce.data.toList = true := by cases q : lab n.ce.data.toList <;> simp [q] at h1 ⊢
  by_cases h4 : firstErr (fun e => e) n.cks = 0
  ·cases h5 : Pl.hit (Mb.cf n.nm) n.ms with
   | false => rw [Nd.err_none h2 h3 h4 h5] at h; cases h
   | true =>
    rw [Nd.err_mine h2 h3 h4 h5] at h
    have hm : n.ms[low (Mb.cf n.nm) n.ms]? = some (n.ms[low (Mb.cf n.nm) n.ms]'(hit_lt h5)) := List.getElem?_eq_getElem _
    rw [Nd.mine_at hm] at h
    obtain ⟨c1, c2, c3, c4, c5, c6⟩ := cks_zero h4
    split at h
    ·cases h
    ·rename_i h6
     split at h
     ·rename_i h7
      refine ⟨h2, h3, c1, c2, c3, c4, Pc.err_iff.1 c5, c6, h5, fun m hm' => ?_, fun r hr => List.all_eq_true.1 h7 r hr⟩
      rw [hm] at hm'; injection hm' with hm'; subst hm'
      exact ⟨fun q => h6 (.inl q), fun q => h6 (.inr q)⟩
     ·cases h
  ·rw [Nd.err_ck h2 h3 h4] at h; exact absurd h h4
end Go.Proofs.YtkclokmfomnbgaaGreat.Pl
