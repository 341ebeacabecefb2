/- Plain: sorted lists that are joined. No program in sight. -/
import Derived.Test.YtjgibmaadmkkgaaPlainSorted
namespace Go.Proofs.Ytjgibmaadmkkgaa.Pl
set_option linter.unusedVariables false

/-- how things are held against each other: 'cf g x': x against g's key; 'lt': stands ahead -/
structure Ord {α : Type} (lt : α → α → Bool) (cf : α → α → Int) : Prop where
  neg : ∀ g x, cf g x < 0 ↔ lt x g = true
  pos : ∀ g x, 0 < cf g x ↔ lt g x = true
  trans : ∀ x y z, lt x y = true → lt y z = true → lt x z = true
  left : ∀ g x y, cf g x = 0 → lt x y = lt g y
  right : ∀ g x y, cf g x = 0 → lt y x = lt y g

section
variable {α : Type} {lt : α → α → Bool} {cf : α → α → Int} {l : List α}

theorem Ord.smono (o : Ord lt cf) (hs : sorted lt l = true) (g : α) : SMono (cf g) l :=
  smono_of o.trans (fun x y h hy => by
    rw [o.neg]
    rcases (by omega : cf g y < 0 ∨ cf g y = 0) with q | q
    · exact o.trans _ _ _ h ((o.neg g y).1 q)
    · rw [← o.right g y x q]; exact h) hs
theorem sorted_of_pair (h : ∀ j i, (hj : j < l.length) → (hij : i < j) → lt (l[i]'(by omega)) l[j] = true) : sorted lt l = true :=
  sorted_of fun i hi => h (i + 1) i hi (by omega)
theorem putAt_len (g : α) (cf : α → Int) : (putAt cf g l).length = if hit cf l = true then l.length else l.length + 1 := by
  unfold putAt
  have := low_le (cf := cf) l
  split
  · simp
  · simp; omega
theorem putAt_mem {cf : α → Int} {g x : α} (h : x ∈ putAt cf g l) : x = g ∨ x ∈ l := by
  unfold putAt at h
  split at h
  · rcases List.mem_or_eq_of_mem_set h with h | h
    · exact .inr h
    · exact .inl h
  · simp only [List.append_assoc, List.mem_append, List.mem_cons, List.not_mem_nil, or_false] at h
    rcases h with h | h | h
    · exact .inr (List.mem_of_mem_take h)
    · exact .inl h
    · exact .inr (List.mem_of_mem_drop h)
/-- sorted lists as chains -/
theorem sorted_iff (ht : ∀ x y z, lt x y = true → lt y z = true → lt x z = true) : sorted lt l = true ↔ l.Pairwise (fun x y => lt x y = true) := by
  constructor
  · intro h
    rw [List.pairwise_iff_getElem]
    intro i j hi hj hij
    exact sorted_pair ht h j i hj hij
  · intro h
    rw [List.pairwise_iff_getElem] at h
    exact sorted_of_pair fun j i hj hij => h i j (by omega) hj hij
theorem Ord.put (o : Ord lt cf) (hs : sorted lt l = true) (g : α) : sorted lt (putAt (cf g) g l) = true := by
  have hm := o.smono hs g
  rw [sorted_iff o.trans] at hs ⊢
  unfold putAt
  split
  · rename_i h
    have hl := hit_lt h
    have h0 := hit_zero h
    rw [List.set_eq_take_append_cons_drop, if_pos hl]
    have e := split_at hl
    rw [e] at hs
    rw [List.pairwise_append, List.pairwise_cons] at hs ⊢
    refine ⟨hs.1, ⟨fun y hy => ?_, hs.2.1.2⟩, fun x hx y hy => ?_⟩
    · rw [← o.left g _ y h0]; exact hs.2.1.1 y hy
    · rcases List.mem_cons.1 hy with rfl | hy
      · rw [← o.right _ _ x h0]; exact hs.2.2 x hx _ (List.mem_cons_self ..)
      · exact hs.2.2 x hx y (List.mem_cons_of_mem _ hy)
  · rename_i h
    have hf : hit (cf g) l = false := by simpa using h
    have e : l = l.take (low (cf g) l) ++ l.drop (low (cf g) l) := (List.take_append_drop _ _).symm
    rw [e, List.pairwise_append] at hs
    rw [List.append_assoc, List.pairwise_append, List.singleton_append, List.pairwise_cons]
    refine ⟨hs.1, ⟨fun y hy => (o.pos g y).1 (low_behind hm hf hy), hs.2.1⟩, fun x hx y hy => ?_⟩
    rcases List.mem_cons.1 hy with rfl | hy
    · exact (o.neg _ x).1 (low_ahead hx)
    · exact hs.2.2 x hx y hy

/-- put what is newer -/
def upd (cf : α → α → Int) (nw : α → α → Bool) (l : List α) (g : α) : List α :=
  match l[low (cf g) l]? with
  | some x => if hit (cf g) l = true ∧ nw g x = false then l else putAt (cf g) g l
  | none => putAt (cf g) g l
theorem upd_new {nw : α → α → Bool} {g : α} (h : hit (cf g) l = false) : upd cf nw l g = putAt (cf g) g l := by
  unfold upd; split <;> simp [h]
theorem upd_set {nw : α → α → Bool} {g : α} {lo : Nat} (hlo : low (cf g) l = lo) (hlt : lo < l.length) (h : nw g l[lo] = true) : upd cf nw l g = putAt (cf g) g l := by
  subst hlo
  unfold upd
  rw [List.getElem?_eq_getElem hlt]
  simp [h]
theorem upd_old {nw : α → α → Bool} {g : α} {lo : Nat} (hh : hit (cf g) l = true) (hlo : low (cf g) l = lo) (hlt : lo < l.length) (h : nw g l[lo] = false) : upd cf nw l g = l := by
  subst hlo
  unfold upd
  rw [List.getElem?_eq_getElem hlt]
  simp [h, hh]
theorem upd_cases (nw : α → α → Bool) (g : α) : upd cf nw l g = l ∨ upd cf nw l g = putAt (cf g) g l := by
  unfold upd
  split
  · split
    · exact .inl rfl
    · exact .inr rfl
  · exact .inr rfl
def joinL (cf : α → α → Int) (nw : α → α → Bool) (a b : List α) : List α := b.foldl (upd cf nw) a
theorem joinL_next {nw : α → α → Bool} {a b : List α} {k : Nat} (hk : k < b.length) : joinL cf nw a (b.take (k + 1)) = upd cf nw (joinL cf nw a (b.take k)) b[k] := by
  unfold joinL
  rw [take_snoc_ hk, List.foldl_append]
  rfl
theorem Ord.upd (o : Ord lt cf) (nw : α → α → Bool) (hs : sorted lt l = true) (g : α) : sorted lt (upd cf nw l g) = true := by
  rcases upd_cases (cf := cf) (l := l) nw g with h | h
  · rw [h]; exact hs
  · rw [h]; exact o.put hs g
theorem upd_len (nw : α → α → Bool) (g : α) : l.length ≤ (upd cf nw l g).length ∧ (upd cf nw l g).length ≤ l.length + 1 := by
  rcases upd_cases (cf := cf) (l := l) nw g with h | h
  · rw [h]; omega
  · rw [h, putAt_len]; split <;> omega
theorem upd_mem {nw : α → α → Bool} {g x : α} (h : x ∈ upd cf nw l g) : x = g ∨ x ∈ l := by
  rcases upd_cases (cf := cf) (l := l) nw g with e | e
  · rw [e] at h; exact .inr h
  · rw [e] at h; exact putAt_mem h
theorem Ord.join (o : Ord lt cf) (nw : α → α → Bool) : ∀ (b : List α) {a : List α}, sorted lt a = true → sorted lt (joinL cf nw a b) = true
  | [], a, h => h
  | g :: b, a, h => o.join nw b (o.upd nw h g)
theorem joinL_len (nw : α → α → Bool) : ∀ (b a : List α), a.length ≤ (joinL cf nw a b).length ∧ (joinL cf nw a b).length ≤ a.length + b.length
  | [], a => by simp [joinL]
  | g :: b, a => by
    have h1 := upd_len (cf := cf) (l := a) nw g
    have h2 := joinL_len nw b (upd cf nw a g)
    simp only [joinL, List.foldl_cons, List.length_cons] at *
    omega
theorem joinL_mem {nw : α → α → Bool} : ∀ {b a : List α} {x : α}, x ∈ joinL cf nw a b → x ∈ a ∨ x ∈ b
  | [], a, x, h => .inl h
  | g :: b, a, x, h => by
    rcases joinL_mem (b := b) (a := upd cf nw a g) h with h | h
    · rcases upd_mem h with rfl | h
      · exact .inr (by simp)
      · exact .inl h
    · exact .inr (by simp [h])
end
end Go.Proofs.Ytjgibmaadmkkgaa.Pl
