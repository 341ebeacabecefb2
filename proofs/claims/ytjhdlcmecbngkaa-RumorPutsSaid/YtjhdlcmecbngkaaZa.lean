/- Texts of this claim, joined. -/
import Derived.WalkKit
import Derived.Below
import Derived.WalkSmall
import Derived.Laws.AppendOwn
import Derived.Orders
import Derived.Calls
import Derived.Laws.Slices
import Derived.Laws.Small
import Derived.Laws.StructEq
import Derived.MapKept
import Derived.Lib.ConvBytes
import Derived.Laws.BytesArg
import Derived.Lib.SliceRun
import Derived.Maps.AppendAt
import Derived.ArgAppend
import Derived.Deep.Upon
/- Abstract values: what a slot of a frame is known to be, and what a world is known to hold. No program in sight. -/
namespace Go.Proofs.Ytjhdlcmecbngkaa
open Go.RowKit
set_option linter.unusedVariables false

/-- what is known of a value -/
inductive V where
  | any
  | v (x : Value)
  | agg (cs : List V)
  | tup (cs : List V)
  | sl (clip : Bool) (rows : List (List V))
  | own (id gen : Nat)
  | ptr (id gen i off : Nat)
  | rptr (row : List V) (off : Nat)
  | clo (f : FuncId) (caps : List V)
  | obj (id gen : Nat)
  | osub (id gen lo hi : Nat)
  | rmap (ents : List (Value × V))

/-- where an object is: 'box': it is named by pointers alone, or a map; 'op': it is known by what holds of it alone, over these blocks -/
structure Loc where
  gen : Nat
  sz : Nat
  val : Value
  box : Bool
  op : Option (Nat → Prop)
def Loc.ft (l : Loc) (b : Nat) : Prop := match l.op with | none => l.val.ownBlock = some b | some F => F b
theorem Loc.ft_of {l : Loc} (h : l.op = none) {b : Nat} : l.ft b ↔ l.val.ownBlock = some b := by simp only [Loc.ft, h]
def pv : Value → Value
  | .slice (some a) _ _ => .pointer (some ⟨a.block, 0, none⟩)
  | x => x
/-- the same place, whatever blocks are its own now -/
structure SameL (l l' : Loc) : Prop where
  gen : l'.gen = l.gen
  sz : l'.sz = l.sz
  val : l'.val = l.val
  box : l'.box = l.box
theorem SameL.refl (l : Loc) : SameL l l := ⟨rfl, rfl, rfl, rfl⟩
theorem SameL.trans {a b c : Loc} (h : SameL a b) (k : SameL b c) : SameL a c := ⟨k.gen.trans h.gen, k.sz.trans h.sz, k.val.trans h.val, k.box.trans h.box⟩

/-- a part of a slice, by its value -/
def SubV (v : Value) (sz lo hi : Nat) (x : Value) : Prop :=
  (v = .slice none 0 0 ∧ lo = 0 ∧ hi = 0 ∧ x = .slice none 0 0) ∨
  ∃ b n cap off, v = .slice (some ⟨b, 0, none⟩) n cap ∧ lo ≤ hi ∧ hi ≤ cap ∧ (lo = 0 ∨ cap ≠ lo → off = lo * sz) ∧ x = .slice (some ⟨b, off, none⟩) (hi - lo) (cap - lo)
inductive RV (w : World) (R : Nat → Prop) (G : Nat → Option Loc) : V → Value → Prop where
  | any (x : Value) : RV w R G .any x
  | v (x : Value) : RV w R G (.v x) x
  | agg (cs : List V) (xs : List Value) (hl : cs.length = xs.length) (h : ∀ (i : Nat) (u : V) (x : Value), cs[i]? = some u → xs[i]? = some x → RV w R G u x) : RV w R G (.agg cs) (.agg xs.toArray)
  | tup (cs : List V) (xs : List Value) (hl : cs.length = xs.length) (h : ∀ (i : Nat) (u : V) (x : Value), cs[i]? = some u → xs[i]? = some x → RV w R G u x) : RV w R G (.tup cs) (.tuple xs.toArray)
  | nil (clip : Bool) (a : Option Addr) (cap : Nat) (hc : clip = true → cap = 0) : RV w R G (.sl clip []) (.slice a 0 cap)
  | sl (clip : Bool) (rows : List (List V)) (b off cap sz : Nat) (f : Nat → Nat → Value) (hR : R b) (hcap : rows.length ≤ cap) (hclip : clip = true → cap = rows.length)
      (hs : ∀ row ∈ rows, row.length = sz)
      (hcell : ∀ (i j : Nat) (row : List V) (u : V), rows[i]? = some row → row[j]? = some u → w.cell? ⟨b, off + i * sz + j, none⟩ = some (f i j))
      (h : ∀ (i j : Nat) (row : List V) (u : V), rows[i]? = some row → row[j]? = some u → RV w R G u (f i j)) : RV w R G (.sl clip rows) (.slice (some ⟨b, off, none⟩) rows.length cap)
  | own (id gen : Nat) (l : Loc) (hG : G id = some l) (hg : gen ≤ l.gen) (x : Value) (hx : l.gen = gen → x = l.val ∧ l.box = false) : RV w R G (.own id gen) x
  | ptr (id gen i off : Nat) (l : Loc) (hG : G id = some l) (hg : gen ≤ l.gen) (x : Value) (hx : l.gen = gen → ∃ b, l.val.ownBlock = some b ∧ x = .pointer (some ⟨b, i * l.sz + off, none⟩)) : RV w R G (.ptr id gen i off) x
  | rptr (row : List V) (off b o : Nat) (f : Nat → Value) (hR : R b) (hcell : ∀ (j : Nat) (u : V), row[j]? = some u → w.cell? ⟨b, o + j, none⟩ = some (f j))
      (h : ∀ (j : Nat) (u : V), row[j]? = some u → RV w R G u (f j)) : RV w R G (.rptr row off) (.pointer (some ⟨b, o + off, none⟩))
  | clo (f : FuncId) (cs : List V) (xs : List Value) (hl : cs.length = xs.length) (h : ∀ (i : Nat) (u : V) (x : Value), cs[i]? = some u → xs[i]? = some x → RV w R G u x) : RV w R G (.clo f cs) (.func (.func f) #[] xs.toArray)
  | obj (id gen : Nat) (l : Loc) (hG : G id = some l) (hg : gen ≤ l.gen) (x : Value) (hx : l.gen = gen → x = pv l.val) : RV w R G (.obj id gen) x
  | osub (id gen lo hi : Nat) (l : Loc) (hG : G id = some l) (hg : gen ≤ l.gen) (x : Value) (hx : l.gen = gen → l.box = false ∧ SubV l.val l.sz lo hi x) : RV w R G (.osub id gen lo hi) x
  | rmap (ents : List (Value × V)) (b clock : Nat) (es : Array MapEntry) (hR : R b) (hb : w.heap[b]? = some (.map es clock)) (hl : es.size = ents.length)
      (hk : ∀ (i : Nat) (e : MapEntry) (p : Value × V), es[i]? = some e → ents[i]? = some p → e.key = p.1)
      (hv : ∀ (i : Nat) (e : MapEntry) (p : Value × V), es[i]? = some e → ents[i]? = some p → RV w R G p.2 e.val) : RV w R G (.rmap ents) (.map (some b))

/-- what is known of the objects grows, or goes stale -/
def Gle (G G' : Nat → Option Loc) : Prop := ∀ id l, G id = some l → ∃ l', G' id = some l' ∧ (SameL l l' ∨ l.gen < l'.gen)
theorem Gle.refl (G : Nat → Option Loc) : Gle G G := fun id l h => ⟨l, h, .inl (SameL.refl _)⟩
theorem Gle.trans {G G' G'' : Nat → Option Loc} (h : Gle G G') (k : Gle G' G'') : Gle G G'' := fun id l hl => by
  obtain ⟨l', h1, h2⟩ := h id l hl
  obtain ⟨l'', k1, k2⟩ := k id l' h1
  refine ⟨l'', k1, ?_⟩
  rcases h2 with h2 | h2
  · rcases k2 with k2 | k2
    · exact .inl (h2.trans k2)
    · exact .inr (by have := h2.gen; omega)
  · rcases k2 with k2 | k2
    · exact .inr (by have := k2.gen; omega)
    · exact .inr (by omega)

theorem RV.mono {w w' : World} {R R' : Nat → Prop} {G G' : Nat → Option Loc} {u : V} {x : Value} (h : RV w R G u x) (hR : ∀ b, R b → R' b ∧ w'.heap[b]? = w.heap[b]?) (hG : Gle G G') : RV w' R' G' u x := by
  have hc : ∀ (b o : Nat), R b → w'.cell? ⟨b, o, none⟩ = w.cell? ⟨b, o, none⟩ := fun b o hb => World.cell?_of_block (hR b hb).2
  induction h with
  | any x => exact .any x
  | v x => exact .v x
  | agg cs xs hl h ih => exact .agg cs xs hl ih
  | tup cs xs hl h ih => exact .tup cs xs hl ih
  | nil clip a cap hcl => exact .nil clip a cap hcl
  | sl clip rows b off cap sz f hRb hcap hclip hs hcell h ih =>
    exact .sl clip rows b off cap sz f (hR b hRb).1 hcap hclip hs (fun i j row u h1 h2 => (hc _ _ hRb).trans (hcell i j row u h1 h2)) ih
  | own id gen l hl hg x hx =>
    obtain ⟨l', h1, h2⟩ := hG id l hl
    rcases h2 with h2 | h2
    · exact .own id gen l' h1 (by have := h2.gen; omega) x (fun e => by rw [h2.val, h2.box]; exact hx (h2.gen ▸ e))
    · exact .own id gen l' h1 (by omega) x (fun e => by omega)
  | obj id gen l hl hg x hx =>
    obtain ⟨l', h1, h2⟩ := hG id l hl
    rcases h2 with h2 | h2
    · exact .obj id gen l' h1 (by have := h2.gen; omega) x (fun e => by rw [h2.val]; exact hx (h2.gen ▸ e))
    · exact .obj id gen l' h1 (by omega) x (fun e => by omega)
  | osub id gen lo hi l hl hg x hx =>
    obtain ⟨l', h1, h2⟩ := hG id l hl
    rcases h2 with h2 | h2
    · exact .osub id gen lo hi l' h1 (by have := h2.gen; omega) x (fun e => by rw [h2.val, h2.box, h2.sz]; exact hx (h2.gen ▸ e))
    · exact .osub id gen lo hi l' h1 (by omega) x (fun e => by omega)
  | rmap ents b clock es hRb hb hl hk hv ihv => exact .rmap ents b clock es (hR b hRb).1 ((hR b hRb).2.trans hb) hl hk ihv
  | ptr id gen i off l hl hg x hx =>
    obtain ⟨l', h1, h2⟩ := hG id l hl
    rcases h2 with h2 | h2
    · exact .ptr id gen i off l' h1 (by have := h2.gen; omega) x (fun e => by rw [h2.val, h2.sz]; exact hx (h2.gen ▸ e))
    · exact .ptr id gen i off l' h1 (by omega) x (fun e => by omega)
  | rptr row off b o f hRb hcell h ih =>
    exact .rptr row off b o f (hR b hRb).1 (fun j u h1 => (hc _ _ hRb).trans (hcell j u h1)) ih
  | clo f cs xs hl h ih => exact .clo f cs xs hl ih

/-- values that name no object of ours -/
def Cl (u : V) : Prop := ∀ (w : World) (R : Nat → Prop) (G G' : Nat → Option Loc) (x : Value), RV w R G u x → RV w R G' u x
/-- values that are read without memory -/
def Fl (u : V) : Prop := ∀ (w w' : World) (R R' : Nat → Prop) (G G' : Nat → Option Loc) (x : Value), RV w R G u x → RV w' R' G' u x
theorem Fl.cl {u : V} (h : Fl u) : Cl u := fun w R G G' x hx => h w w R R G G' x hx
theorem fl_any : Fl .any := fun _ _ _ _ _ _ x _ => .any x
theorem fl_v (x : Value) : Fl (.v x) := fun _ _ _ _ _ _ y h => by cases h; exact .v _
theorem fl_agg {cs : List V} (h : ∀ u ∈ cs, Fl u) : Fl (.agg cs) := fun w w' R R' G G' x hx => by
  cases hx with
  | agg cs xs hl hh => exact .agg cs xs hl fun i u x h1 h2 => h u (List.mem_of_getElem? h1) _ _ _ _ _ _ _ (hh i u x h1 h2)
theorem fl_tup {cs : List V} (h : ∀ u ∈ cs, Fl u) : Fl (.tup cs) := fun w w' R R' G G' x hx => by
  cases hx with
  | tup cs xs hl hh => exact .tup cs xs hl fun i u x h1 h2 => h u (List.mem_of_getElem? h1) _ _ _ _ _ _ _ (hh i u x h1 h2)
theorem fl_nil : Fl (.sl false []) := fun w w' R R' G G' x hx => by
  cases hx with
  | nil clip a cap hc => exact .nil _ a cap hc
  | sl clip rows b off cap sz f hR hcap hclip hs hcell h => exact .nil _ _ _ (by simp)
theorem cl_agg {cs : List V} (h : ∀ u ∈ cs, Cl u) : Cl (.agg cs) := fun w R G G' x hx => by
  cases hx with
  | agg cs xs hl hh => exact .agg cs xs hl fun i u x h1 h2 => h u (List.mem_of_getElem? h1) _ _ _ _ _ (hh i u x h1 h2)
theorem cl_tup {cs : List V} (h : ∀ u ∈ cs, Cl u) : Cl (.tup cs) := fun w R G G' x hx => by
  cases hx with
  | tup cs xs hl hh => exact .tup cs xs hl fun i u x h1 h2 => h u (List.mem_of_getElem? h1) _ _ _ _ _ (hh i u x h1 h2)
theorem cl_clo {f : FuncId} {cs : List V} (h : ∀ u ∈ cs, Cl u) : Cl (.clo f cs) := fun w R G G' x hx => by
  cases hx with
  | clo f cs xs hl hh => exact .clo f cs xs hl fun i u x h1 h2 => h u (List.mem_of_getElem? h1) _ _ _ _ _ (hh i u x h1 h2)
theorem cl_sl {c : Bool} {rows : List (List V)} (h : ∀ row ∈ rows, ∀ u ∈ row, Cl u) : Cl (.sl c rows) := fun w R G G' x hx => by
  cases hx with
  | nil clip a cap hc => exact .nil _ a cap hc
  | sl clip rows b off cap sz f hR hcap hclip hs hcell hh =>
    exact .sl _ _ b off cap sz f hR hcap hclip hs hcell fun i j row u h1 h2 => h row (List.mem_of_getElem? h1) u (List.mem_of_getElem? h2) _ _ _ _ _ (hh i j row u h1 h2)
theorem cl_rmap {ents : List (Value × V)} (h : ∀ p ∈ ents, Cl p.2) : Cl (.rmap ents) := fun w R G G' x hx => by
  cases hx with
  | rmap ents b clock es hR hb hl hk hv =>
    exact .rmap ents b clock es hR hb hl hk (fun i e p h1 h2 => h p (List.mem_of_getElem? h2) _ _ _ _ _ (hv i e p h1 h2))
theorem cl_rptr {row : List V} {off : Nat} (h : ∀ u ∈ row, Cl u) : Cl (.rptr row off) := fun w R G G' x hx => by
  cases hx with
  | rptr row off b o f hR hcell hh => exact .rptr _ _ b o f hR hcell fun j u h1 => h u (List.mem_of_getElem? h1) _ _ _ _ _ (hh j u h1)

/-! ### Objects -/
/-- a thing that is known by what holds of it alone -/
structure Opq where
  inv : World → (Nat → Prop) → Value → (Nat → Prop) → Prop
  mono : ∀ {w w' : World} {R R' : Nat → Prop} {x : Value} {F : Nat → Prop}, inv w R x F → (∀ b, R b → R' b ∧ w'.heap[b]? = w.heap[b]?) → (∀ b, F b → w'.heap[b]? = w.heap[b]?) → inv w' R' x F
  lt : ∀ {w : World} {R : Nat → Prop} {x : Value} {F : Nat → Prop} {b : Nat}, inv w R x F → F b → b < w.heap.size
/-- 't': a slice; 'b': a variable in memory, named by pointers; 'q': something else -/
inductive TO where
  | t (T : TypeId)
  | b (T : TypeId)
  | q (I : Opq)
instance toNat (n : Nat) : OfNat TO n := ⟨.t n⟩
structure Ent where
  gen : Nat
  T : TO
  sz : Nat
  rows : List (List V)

def RowsR (w : World) (R : Nat → Prop) (G : Nat → Option Loc) (xs : List Value) (sz : Nat) (rows : List (List V)) : Prop :=
  (∀ row ∈ rows, row.length = sz) ∧ ∀ (i j : Nat) (row : List V) (u : V), rows[i]? = some row → row[j]? = some u → ∃ x, xs[i * sz + j]? = some x ∧ x.oneCell' = true ∧ RV w R G u x
theorem RowsR.mono {w w' : World} {R R' : Nat → Prop} {G G' : Nat → Option Loc} {xs : List Value} {sz : Nat} {rows : List (List V)} (h : RowsR w R G xs sz rows) (hR : ∀ b, R b → R' b ∧ w'.heap[b]? = w.heap[b]?) (hG : Gle G G') : RowsR w' R' G' xs sz rows :=
  ⟨h.1, fun i j row u h1 h2 => by obtain ⟨x, hx, h1, hr⟩ := h.2 i j row u h1 h2; exact ⟨x, hx, h1, hr.mono hR hG⟩⟩

def ObjOk (w : World) (R : Nat → Prop) (G : Nat → Option Loc) (e : Ent) (l : Loc) : Prop := match e.T with
  | .t T => l.op = none ∧ ∃ xs, l.sz = e.sz ∧ 0 < e.sz ∧ w.ownsRow 0 T e.sz l.val e.rows.length xs ∧ RowsR w R G xs e.sz e.rows
  | .b T => (l.op = none ∧ ∃ xs, l.sz = e.sz ∧ 0 < e.sz ∧ w.ownsRow 0 T e.sz l.val e.rows.length xs ∧ RowsR w R G xs e.sz e.rows) ∧ l.box = true ∧ ∃ b, l.val = .slice (some ⟨b, 0, none⟩) 1 1
  | .q I => ∃ F, l.op = some F ∧ l.box = true ∧ e.rows = [] ∧ I.inv w R (pv l.val) F
theorem ownsRow_block {w : World} {T : TypeId} {sz n : Nat} {v : Value} {xs : List Value} {b : Nat} (h : w.ownsRow 0 T sz v n xs) (hb : v.ownBlock = some b) : b < w.heap.size := (h.lt b hb).2
theorem ObjOk.lt {w : World} {R : Nat → Prop} {G : Nat → Option Loc} {e : Ent} {l : Loc} (h : ObjOk w R G e l) {b : Nat} (hb : l.ft b) : b < w.heap.size := by
  obtain ⟨g, T, sz, rows⟩ := e
  cases T with
  | t T => obtain ⟨h1, xs, h2, h3, h4, h5⟩ := h; simp only [Loc.ft, h1] at hb; exact ownsRow_block h4 hb
  | b T => obtain ⟨⟨h1, xs, h2, h3, h4, h5⟩, _⟩ := h; simp only [Loc.ft, h1] at hb; exact ownsRow_block h4 hb
  | q I => obtain ⟨F, h1, h2, h3, h4⟩ := h; simp only [Loc.ft, h1] at hb; exact I.lt h4 hb
/-- the blocks of an object are as they were -/
theorem ObjOk.mono {w w' : World} {R R' : Nat → Prop} {G G' : Nat → Option Loc} {e : Ent} {l : Loc} (h : ObjOk w R G e l) (hR : ∀ b, R b → R' b ∧ w'.heap[b]? = w.heap[b]?) (hG : Gle G G') (hF : ∀ b, l.ft b → w'.heap[b]? = w.heap[b]?) : ObjOk w' R' G' e l := by
  obtain ⟨g, T, sz, rows⟩ := e
  cases T with
  | t T =>
    obtain ⟨h1, xs, h2, h3, h4, h5⟩ := h
    refine ⟨h1, xs, h2, h3, ⟨h4.1, ?_⟩, h5.mono hR hG⟩
    rcases h4.2 with q | ⟨g, cap, cur, hv, hg, hh, r⟩
    · exact .inl q
    · exact .inr ⟨g, cap, cur, hv, hg, (hF g (by simp only [Loc.ft, h1, hv]; rfl)).trans hh, r⟩
  | b T =>
    obtain ⟨⟨h1, xs, h2, h3, h4, h5⟩, h6⟩ := h
    refine ⟨⟨h1, xs, h2, h3, ⟨h4.1, ?_⟩, h5.mono hR hG⟩, h6⟩
    rcases h4.2 with q | ⟨g, cap, cur, hv, hg, hh, r⟩
    · exact .inl q
    · exact .inr ⟨g, cap, cur, hv, hg, (hF g (by simp only [Loc.ft, h1, hv]; rfl)).trans hh, r⟩
  | q I =>
    obtain ⟨F, h1, h2, h3, h4⟩ := h
    exact ⟨F, h1, h2, h3, I.mono h4 hR (fun b hb => hF b (by simp only [Loc.ft, h1]; exact hb))⟩

structure HR (w0 : World) (L : Nat → Prop) (w : World) (R : Nat → Prop) (G : Nat → Option Loc) (H : Nat → Option Ent) : Prop where
  le : ∀ id e l, H id = some e → G id = some l → l.gen ≤ e.gen
  obj : ∀ id e l, H id = some e → G id = some l → l.gen = e.gen → ObjOk w R G e l
  apart : ∀ id id' e e' l l' b, H id = some e → H id' = some e' → id ≠ id' → G id = some l → G id' = some l' → l.gen = e.gen → l'.gen = e'.gen → l.ft b → ¬ l'.ft b
  mine : ∀ id e l b, H id = some e → G id = some l → l.gen = e.gen → l.ft b → ¬ R b ∧ (L b ∨ w0.heap.size ≤ b)

def upd {α : Type} (f : Nat → α) (k : Nat) (x : α) : Nat → α := fun i => bif Nat.beq i k then x else f i
theorem upd_same {α : Type} (f : Nat → α) (k : Nat) (x : α) : upd f k x k = x := by simp [upd]
theorem upd_ne {α : Type} (f : Nat → α) {k i : Nat} (x : α) (h : i ≠ k) : upd f k x i = f i := by
  unfold upd
  have : Nat.beq i k = false := by
    cases hb : Nat.beq i k with
    | false => rfl
    | true => exact absurd (Nat.eq_of_beq_eq_true hb) h
  rw [this]; rfl

/-- nothing that was there has turned, but for what was lent -/
structure Fr (L : Nat → Prop) (w w' : World) : Prop where
  os : w'.os = w.os
  tape : w'.tape = w.tape
  output : w'.output = w.output
  size : w.heap.size ≤ w'.heap.size
  block : ∀ k, k < w.heap.size → ¬ L k → w'.heap[k]? = w.heap[k]?
  drawn : w.drawn ≤ w'.drawn
theorem Fr.refl (L : Nat → Prop) (w : World) : Fr L w w := ⟨rfl, rfl, rfl, Nat.le_refl _, fun _ _ _ => rfl, Nat.le_refl _⟩
theorem Fr.trans {L : Nat → Prop} {a b c : World} (h : Fr L a b) (k : Fr L b c) : Fr L a c :=
  ⟨k.os.trans h.os, k.tape.trans h.tape, k.output.trans h.output, Nat.le_trans h.size k.size, fun i hi hl => (k.block i (Nat.lt_of_lt_of_le hi h.size) hl).trans (h.block i hi hl), Nat.le_trans h.drawn k.drawn⟩
theorem Fr.grown {L : Nat → Prop} {a b c : World} {row : Option Nat} (h : Fr L a b) (hg : b.grownBy c row) (hr : ∀ k, row = some k → L k ∨ a.heap.size ≤ k) (hd : b.drawn ≤ c.drawn) : Fr L a c :=
  ⟨hg.os.trans h.os, hg.tape.trans h.tape, hg.output.trans h.output, Nat.le_trans h.size hg.size, fun i hi hl => (hg.block i (Nat.lt_of_lt_of_le hi h.size) (fun e => by
    rcases hr i e.symm with h1 | h1
    · exact hl h1
    · omega)).trans (h.block i hi hl), Nat.le_trans h.drawn hd⟩

section
variable {w0 : World} {L : Nat → Prop} {w w' : World} {R : Nat → Prop} {G G' : Nat → Option Loc} {H : Nat → Option Ent}
/-- an object set anew -/
theorem HR.set (h : HR w0 L w R G H) (hRlt : ∀ b, R b → b < w.heap.size) {row : Option Nat} (hg : w.grownBy w' row) {id : Nat} {l : Loc} {e : Ent}
    (hrow : ∀ b, row = some b → ∃ l0 e0, H id = some e0 ∧ G id = some l0 ∧ l0.gen = e0.gen ∧ l0.ft b)
    (hgen : ∀ l0, G id = some l0 → SameL l0 l ∨ l0.gen < l.gen) (hle : l.gen = e.gen) (hok : ObjOk w' R (upd G id (some l)) e l)
    (hblk : ∀ b, l.ft b → (row = some b ∨ (¬ R b ∧ (L b ∨ w0.heap.size ≤ b) ∧ ∀ k ek lk, k ≠ id → H k = some ek → G k = some lk → lk.gen = ek.gen → ¬ lk.ft b))) :
    HR w0 L w' R (upd G id (some l)) (upd H id (some e)) ∧ Gle G (upd G id (some l)) ∧ (∀ b, R b → R b ∧ w'.heap[b]? = w.heap[b]?) := by
  have hG : Gle G (upd G id (some l)) := fun k m hm => by
    by_cases hk : k = id
    · subst hk
      exact ⟨l, upd_same _ _ _, hgen m hm⟩
    · exact ⟨m, by rw [upd_ne _ _ hk]; exact hm, .inl (SameL.refl _)⟩
  have hst : ∀ b, R b → R b ∧ w'.heap[b]? = w.heap[b]? := fun b hb => ⟨hb, hg.block b (hRlt b hb) (fun e => by
    obtain ⟨l0, e0, h1, h2, h25, h3⟩ := hrow b e.symm
    exact (h.mine id e0 l0 b h1 h2 h25 h3).1 hb)⟩
  have other : ∀ k ek lk b, k ≠ id → H k = some ek → G k = some lk → lk.gen = ek.gen → lk.ft b → ¬ l.ft b := fun k ek lk b hk h1 h2 h25 h3 h4 => by
    rcases hblk b h4 with h5 | h5
    · obtain ⟨l0, e0, q1, q2, q25, q3⟩ := hrow b h5
      exact h.apart k id ek e0 lk l0 b h1 q1 hk h2 q2 h25 q25 h3 q3
    · exact h5.2.2 k ek lk hk h1 h2 h25 h3
  refine ⟨⟨?_, ?_, ?_, ?_⟩, hG, hst⟩
  · intro k ek lk h1 h2
    by_cases hk : k = id
    · subst hk
      rw [upd_same] at h1 h2
      injection h1 with h1; injection h2 with h2; subst h1 h2
      omega
    · rw [upd_ne _ _ hk] at h1 h2
      exact h.le k ek lk h1 h2
  · intro k ek lk hk hgk hlk
    by_cases hki : k = id
    · subst hki
      rw [upd_same] at hk hgk; injection hk with hk; injection hgk with hgk; subst hk hgk
      exact hok
    · rw [upd_ne _ _ hki] at hk hgk
      have h0 := h.obj k ek lk hk hgk hlk
      refine h0.mono hst hG fun b hb => hg.block b (h0.lt hb) fun e => ?_
      obtain ⟨l0, e0, q1, q2, q25, q3⟩ := hrow b e.symm
      exact h.apart k id ek e0 lk l0 b hk q1 hki hgk q2 hlk q25 hb q3
  · intro k k' ek ek' lk lk' b h1 h2 hne h3 h4 m1 m2 h5 h6
    by_cases hk : k = id
    · subst hk
      rw [upd_same] at h1 h3
      rw [upd_ne _ _ (Ne.symm hne)] at h2 h4
      injection h3 with h3; subst h3
      exact other k' ek' lk' b (Ne.symm hne) h2 h4 m2 h6 h5
    · rw [upd_ne _ _ hk] at h1 h3
      by_cases hk' : k' = id
      · subst hk'
        rw [upd_same] at h2 h4
        injection h4 with h4; subst h4
        exact other k ek lk b hk h1 h3 m1 h5 h6
      · rw [upd_ne _ _ hk'] at h2 h4
        exact h.apart k k' ek ek' lk lk' b h1 h2 hne h3 h4 m1 m2 h5 h6
  · intro k ek lk b h1 h2 m1 h3
    by_cases hk : k = id
    · subst hk
      rw [upd_same] at h2
      injection h2 with h2; subst h2
      rcases hblk b h3 with h5 | h5
      · obtain ⟨l0, e0, q1, q2, q25, q3⟩ := hrow b h5
        exact h.mine k e0 l0 b q1 q2 q25 q3
      · exact ⟨h5.1, h5.2.1⟩
    · rw [upd_ne _ _ hk] at h1 h2
      exact h.mine k ek lk b h1 h2 m1 h3
theorem HR.lt (h : HR w0 L w R G H) {k : Nat} {ek : Ent} {lk : Loc} {b : Nat} (h1 : H k = some ek) (h2 : G k = some lk) (h25 : lk.gen = ek.gen) (h3 : lk.ft b) : b < w.heap.size :=
  (h.obj k ek lk h1 h2 h25).lt h3
/-- some objects forgotten -/
theorem HR.sub {H' : Nat → Option Ent} (h : HR w0 L w R G H) (hs : ∀ k e, H' k = some e → H k = some e) : HR w0 L w R G H' :=
  ⟨fun k e l h1 => h.le k e l (hs _ _ h1), fun k e l h1 => h.obj k e l (hs _ _ h1), fun k k' e e' l l' b h1 h2 => h.apart k k' e e' l l' b (hs _ _ h1) (hs _ _ h2), fun k e l b h1 => h.mine k e l b (hs _ _ h1)⟩
/-- objects foretold -/
theorem HR.more {H' : Nat → Option Ent} (h : HR w0 L w R G H) (hs : ∀ k e, H' k = some e → H k = some e ∨ ∀ l, G k = some l → l.gen < e.gen) : HR w0 L w R G H' := by
  have key : ∀ k e l, H' k = some e → G k = some l → l.gen = e.gen → H k = some e := fun k e l h1 h2 h3 => by
    rcases hs k e h1 with q | q
    · exact q
    · have := q l h2; omega
  refine ⟨fun k e l h1 h2 => ?_, fun k e l h1 h2 h3 => h.obj k e l (key k e l h1 h2 h3) h2 h3, fun k k' e e' l l' b h1 h2 h3 h4 h5 h6 h7 => h.apart k k' e e' l l' b (key k e l h1 h4 h6) (key k' e' l' h2 h5 h7) h3 h4 h5 h6 h7,
    fun k e l b h1 h2 h3 => h.mine k e l b (key k e l h1 h2 h3) h2 h3⟩
  rcases hs k e h1 with q | q
  · exact h.le k e l q h2
  · exact Nat.le_of_lt (q l h2)
theorem HR.drop (h : HR w0 L w R G H) (id : Nat) : HR w0 L w R G (upd H id none) :=
  h.sub fun k ek hk => by
    by_cases hki : k = id
    · subst hki; rw [upd_same] at hk; cases hk
    · rwa [upd_ne _ _ hki] at hk
/-- other blocks turn, or come; more may be read -/
theorem HR.world {R' : Nat → Prop} (h : HR w0 L w R G H) (hsub : ∀ b, R b → R' b) (hno : ∀ b, R' b → ¬ R b → ∀ k ek lk, H k = some ek → G k = some lk → lk.gen = ek.gen → ¬ lk.ft b)
    (hst : ∀ b, R b → w'.heap[b]? = w.heap[b]?) (hown : ∀ k ek lk b, H k = some ek → G k = some lk → lk.gen = ek.gen → lk.ft b → w'.heap[b]? = w.heap[b]?) : HR w0 L w' R' G H := by
  refine ⟨h.le, ?_, h.apart, ?_⟩
  · intro k ek lk hk g1 g2
    exact (h.obj k ek lk hk g1 g2).mono (fun b hb => ⟨hsub b hb, hst b hb⟩) (Gle.refl _) fun b hb => hown k ek lk b hk g1 g2 hb
  · intro k ek lk b h1 h2 h25 h3
    refine ⟨fun hb => ?_, (h.mine k ek lk b h1 h2 h25 h3).2⟩
    by_cases hR : R b
    · exact (h.mine k ek lk b h1 h2 h25 h3).1 hR
    · exact hno b hb hR k ek lk h1 h2 h25 h3
/-- nothing but new blocks, and the draw's count -/
theorem HR.quiet (h : HR w0 L w R G H) (hRlt : ∀ b, R b → b < w.heap.size) (hg : w.grownBy w' none) : HR w0 L w' R G H ∧ (∀ b, R b → R b ∧ w'.heap[b]? = w.heap[b]?) := by
  have hst : ∀ b, R b → R b ∧ w'.heap[b]? = w.heap[b]? := fun b hb => ⟨hb, hg.block b (hRlt b hb) (by simp)⟩
  refine ⟨⟨h.le, ?_, h.apart, h.mine⟩, hst⟩
  intro k ek lk hk g1 g2
  have h0 := h.obj k ek lk hk g1 g2
  exact h0.mono hst (Gle.refl _) fun b hb => hg.block b (h0.lt hb) (by simp)
end

/-! ### A frame -/
structure St where
  env : Nat → V
  H : Nat → Option Ent
  D : Value → Prop
structure Ctx where
  w0 : World
  R0 : Nat → Prop
  L : Nat → Prop
  n : Nat
  D : Value → Prop
  G0 : Nat → Option Loc
structure RelAt (c : Ctx) (st : St) (a : Act) (w : World) (R : Nat → Prop) (G : Nat → Option Loc) : Prop where
  env : ∀ i, RV w R G (st.env i) (a.tmps.getD i undef)
  hr : HR c.w0 c.L w R G st.H
  lt : ∀ b, R b → b < w.heap.size
  src : ∀ b, R b → c.R0 b ∨ (c.L b ∨ c.w0.heap.size ≤ b)
  old : ∀ b, c.R0 b → R b
  fr : Fr c.L c.w0 w
  n : a.tmps.size = c.n
  defers : a.defers = []
  die : st.D = c.D
  gle : Gle c.G0 G
def Rel (c : Ctx) (st : St) (a : Act) (w : World) : Prop := ∃ R G, RelAt c st a w R G

def St.put (st : St) (dst : Option Nat) (u : V) : St := match dst with | some d => { st with env := upd st.env d u } | none => st
theorem getD_setIfInBounds {a : Array Value} {d i : Nat} {v u : Value} (h : d < a.size) : (a.setIfInBounds d v).getD i u = if i = d then v else a.getD i u := by
  simp only [Array.getD_eq_getD_getElem?, Array.getElem?_setIfInBounds]
  by_cases hi : d = i
  · subst hi; simp [h]
  · rw [if_neg hi, if_neg (fun e => hi e.symm)]
theorem RelAt.put {c : Ctx} {st : St} {a : Act} {w : World} {R : Nat → Prop} {G : Nat → Option Loc} (h : RelAt c st a w R G) {dst : Option Nat} (hd : ∀ d, dst = some d → d < c.n) {u : V} {x : Value} (hu : RV w R G u x) : RelAt c (st.put dst u) (a.put dst x) w R G := by
  cases dst with
  | none => exact h
  | some d =>
    have hdn : d < a.tmps.size := by rw [h.n]; exact hd d rfl
    refine ⟨?_, h.hr, h.lt, h.src, h.old, h.fr, by simp [Act.put, h.n], h.defers, h.die, h.gle⟩
    intro i
    simp only [St.put, Act.put]
    rw [getD_setIfInBounds hdn]
    by_cases hi : i = d
    · subst hi; rw [upd_same, if_pos rfl]; exact hu
    · rw [upd_ne _ _ hi, if_neg hi]; exact h.env i
theorem RelAt.quiet {c : Ctx} {st : St} {a : Act} {w w' : World} {R : Nat → Prop} {G : Nat → Option Loc} (h : RelAt c st a w R G) (hg : w.grownBy w' none) (hd : w.drawn ≤ w'.drawn := by first | exact Nat.le_refl _ | exact Nat.le_succ _ | simp) : RelAt c st a w' R G := by
  obtain ⟨h1, h2⟩ := h.hr.quiet h.lt hg
  exact ⟨fun i => (h.env i).mono h2 (Gle.refl _), h1, fun b hb => Nat.lt_of_lt_of_le (h.lt b hb) hg.size, h.src, h.old, h.fr.grown hg (by simp) hd, h.n, h.defers, h.die, h.gle⟩
/-- an object set anew, in the frame, whatever kind it is -/
theorem RelAt.setG {c : Ctx} {st : St} {a : Act} {w w' : World} {R : Nat → Prop} {G : Nat → Option Loc} (h : RelAt c st a w R G) {row : Option Nat} (hg : w.grownBy w' row) {id : Nat} {l : Loc} {e : Ent}
    (hrow : ∀ b, row = some b → ∃ l0 e0, st.H id = some e0 ∧ G id = some l0 ∧ l0.gen = e0.gen ∧ l0.ft b)
    (hgen : ∀ l0, G id = some l0 → SameL l0 l ∨ l0.gen < l.gen) (hle : l.gen = e.gen) (hok : ObjOk w' R (upd G id (some l)) e l)
    (hblk : ∀ b, l.ft b → (row = some b ∨ (¬ R b ∧ (c.L b ∨ c.w0.heap.size ≤ b) ∧ ∀ k ek lk, k ≠ id → st.H k = some ek → G k = some lk → lk.gen = ek.gen → ¬ lk.ft b))) (hd : w.drawn ≤ w'.drawn := by first | exact Nat.le_refl _ | exact Nat.le_succ _ | simp) :
    RelAt c { st with H := upd st.H id (some e) } a w' R (upd G id (some l)) := by
  obtain ⟨h1, h2, h3⟩ := h.hr.set h.lt hg hrow hgen hle hok hblk
  refine ⟨fun i => (h.env i).mono h3 h2, h1, fun b hb => Nat.lt_of_lt_of_le (h.lt b hb) hg.size, h.src, h.old, h.fr.grown hg ?_ hd, h.n, h.defers, h.die, h.gle.trans h2⟩
  intro b hb
  obtain ⟨l0, e0, q1, q2, q25, q3⟩ := hrow b hb
  exact (h.hr.mine id e0 l0 b q1 q2 q25 q3).2
def kindOk (To : TO) (T : TypeId) (v : Value) (box : Bool) : Prop := To = .t T ∨ (To = .b T ∧ box = true ∧ ∃ b, v = .slice (some ⟨b, 0, none⟩) 1 1)
theorem objOk_of {w : World} {R : Nat → Prop} {G : Nat → Option Loc} {e : Ent} {l : Loc} {T : TypeId} {xs : List Value} (hk : kindOk e.T T l.val l.box) (hop : l.op = none) (hsz : l.sz = e.sz) (h0 : 0 < e.sz) (hown : w.ownsRow 0 T e.sz l.val e.rows.length xs) (hrows : RowsR w R G xs e.sz e.rows) : ObjOk w R G e l := by
  obtain ⟨g, To, sz, rows⟩ := e
  rcases hk with hT | ⟨hT, h1, h2⟩
  · have hT : To = .t T := hT
    subst hT; exact ⟨hop, xs, hsz, h0, hown, hrows⟩
  · have hT : To = .b T := hT
    subst hT; exact ⟨⟨hop, xs, hsz, h0, hown, hrows⟩, h1, h2⟩
/-- an object set anew, in the frame -/
theorem RelAt.set {c : Ctx} {st : St} {a : Act} {w w' : World} {R : Nat → Prop} {G : Nat → Option Loc} (h : RelAt c st a w R G) {row : Option Nat} (hg : w.grownBy w' row) {id g sz : Nat} {To : TO} {T : TypeId} {rows : List (List V)} {v : Value} {box : Bool} (hT : kindOk To T v box)
    (hrow : ∀ b, row = some b → ∃ l0 e0, st.H id = some e0 ∧ G id = some l0 ∧ l0.gen = e0.gen ∧ l0.ft b)
    (hgen : ∀ l0, G id = some l0 → SameL l0 ⟨g, sz, v, box, none⟩ ∨ l0.gen < g) (hpos : 0 < sz) {xs : List Value}
    (hown : w'.ownsRow 0 T sz v rows.length xs) (hrows : RowsR w' R (upd G id (some ⟨g, sz, v, box, none⟩)) xs sz rows)
    (hblk : ∀ b, v.ownBlock = some b → (row = some b ∨ (¬ R b ∧ (c.L b ∨ c.w0.heap.size ≤ b) ∧ ∀ k ek lk, k ≠ id → st.H k = some ek → G k = some lk → lk.gen = ek.gen → ¬ lk.ft b))) (hd : w.drawn ≤ w'.drawn := by first | exact Nat.le_refl _ | exact Nat.le_succ _ | simp) :
    RelAt c { st with H := upd st.H id (some ⟨g, To, sz, rows⟩) } a w' R (upd G id (some ⟨g, sz, v, box, none⟩)) := by
  refine h.setG hg hrow hgen rfl ?_ hblk hd
  rcases hT with rfl | ⟨rfl, h1, h2⟩
  · exact ⟨rfl, xs, rfl, hpos, hown, hrows⟩
  · exact ⟨⟨rfl, xs, rfl, hpos, hown, hrows⟩, h1, h2⟩
theorem RelAt.newBlk {c : Ctx} {st : St} {a : Act} {w : World} {R : Nat → Prop} {G : Nat → Option Loc} (h : RelAt c st a w R G) {b : Nat} (hb : w.heap.size ≤ b) (id : Nat) : ¬ R b ∧ (c.L b ∨ c.w0.heap.size ≤ b) ∧ ∀ k ek lk, k ≠ id → st.H k = some ek → G k = some lk → lk.gen = ek.gen → ¬ lk.ft b :=
  ⟨fun hR => by have := h.lt b hR; omega, .inr (Nat.le_trans h.fr.size hb), fun k ek lk _ h1 h2 h25 h3 => by have := h.hr.lt h1 h2 h25 h3; omega⟩
theorem RelAt.sub {c : Ctx} {st : St} {a : Act} {w : World} {R : Nat → Prop} {G : Nat → Option Loc} {H' : Nat → Option Ent} (h : RelAt c st a w R G) (hs : ∀ k e, H' k = some e → st.H k = some e) : RelAt c { st with H := H' } a w R G :=
  ⟨h.env, h.hr.sub hs, h.lt, h.src, h.old, h.fr, h.n, h.defers, h.die, h.gle⟩
theorem RelAt.more {c : Ctx} {st : St} {a : Act} {w : World} {R : Nat → Prop} {G : Nat → Option Loc} {H' : Nat → Option Ent} (h : RelAt c st a w R G) (hs : ∀ k e, H' k = some e → st.H k = some e ∨ ∀ l, G k = some l → l.gen < e.gen) : RelAt c { st with H := H' } a w R G :=
  ⟨h.env, h.hr.more hs, h.lt, h.src, h.old, h.fr, h.n, h.defers, h.die, h.gle⟩
/-- an object that a value names -/
theorem RelAt.objO {c : Ctx} {st : St} {a : Act} {w : World} {R : Nat → Prop} {G : Nat → Option Loc} (h : RelAt c st a w R G) {id gen : Nat} {e : Ent} {x : Value} (hx : RV w R G (.own id gen) x) (he : st.H id = some e) (hg : e.gen = gen) :
    ∃ l xs T, G id = some l ∧ l.gen = gen ∧ l.sz = e.sz ∧ 0 < e.sz ∧ w.ownsRow 0 T e.sz l.val e.rows.length xs ∧ RowsR w R G xs e.sz e.rows ∧ x = l.val ∧ e.T = .t T ∧ l.op = none ∧ l.box = false := by
  cases hx with
  | own id gen l hG hg' x hx =>
    have := h.hr.le id e l he hG
    have h2 : l.gen = e.gen := by omega
    have h3 := h.hr.obj id e l he hG h2
    obtain ⟨hx1, hx2⟩ := hx (by omega)
    obtain ⟨g, T, sz, rows⟩ := e
    cases T with
    | t T => obtain ⟨k1, xs, k2, k3, k4, k5⟩ := h3; exact ⟨l, xs, T, hG, by omega, k2, k3, k4, k5, hx1, rfl, k1, hx2⟩
    | b T => obtain ⟨_, k2, _⟩ := h3; rw [hx2] at k2; cases k2
    | q I => obtain ⟨F, k1, k2, k3, k4⟩ := h3; rw [hx2] at k2; cases k2
/-- an object that a pointer names: whatever kind it is -/
theorem RelAt.objB {c : Ctx} {st : St} {a : Act} {w : World} {R : Nat → Prop} {G : Nat → Option Loc} (h : RelAt c st a w R G) {id gen i off : Nat} {e : Ent} {x : Value} (hx : RV w R G (.ptr id gen i off) x) (he : st.H id = some e) (hg : e.gen = gen) :
    ∃ l b, G id = some l ∧ l.gen = gen ∧ ObjOk w R G e l ∧ l.val.ownBlock = some b ∧ x = .pointer (some ⟨b, i * l.sz + off, none⟩) := by
  cases hx with
  | ptr id gen i off l hG hg' x hx =>
    have := h.hr.le id e l he hG
    have h2 : l.gen = e.gen := by omega
    have h3 := h.hr.obj id e l he hG h2
    obtain ⟨b, h7, h8⟩ := hx (by omega)
    exact ⟨l, b, hG, by omega, h3, h7, h8⟩
theorem RelAt.objP {c : Ctx} {st : St} {a : Act} {w : World} {R : Nat → Prop} {G : Nat → Option Loc} (h : RelAt c st a w R G) {id gen i off : Nat} {e : Ent} {x : Value} {row : List V} (hx : RV w R G (.ptr id gen i off) x) (he : st.H id = some e) (hg : e.gen = gen) {k : Nat} (hr : e.rows[k]? = some row) :
    ∃ l xs b T, G id = some l ∧ l.gen = gen ∧ l.sz = e.sz ∧ 0 < e.sz ∧ w.ownsRow 0 T e.sz l.val e.rows.length xs ∧ RowsR w R G xs e.sz e.rows ∧ l.val.ownBlock = some b ∧ x = .pointer (some ⟨b, i * l.sz + off, none⟩) ∧ kindOk e.T T l.val l.box ∧ l.op = none := by
  obtain ⟨l, b, h1, h2, h3, h4, h5⟩ := h.objB hx he hg
  obtain ⟨g, T, sz, rows⟩ := e
  cases T with
  | t T => obtain ⟨k1, xs, k2, k3, k4, k5⟩ := h3; exact ⟨l, xs, b, T, h1, h2, k2, k3, k4, k5, h4, h5, .inl rfl, k1⟩
  | b T =>
    obtain ⟨⟨k1, xs, k2, k3, k4, k5⟩, k6, b', k7⟩ := h3
    have hbb : b' = b := by rw [k7] at h4; injection h4
    subst hbb
    exact ⟨l, xs, b', T, h1, h2, k2, k3, k4, k5, h4, h5, .inr ⟨rfl, k6, _, k7⟩, k1⟩
  | q I =>
    obtain ⟨F, k1, k2, k3, k4⟩ := h3
    have k3 : rows = [] := k3
    subst k3; simp at hr
theorem RelAt.drop {c : Ctx} {st : St} {a : Act} {w : World} {R : Nat → Prop} {G : Nat → Option Loc} (h : RelAt c st a w R G) (id : Nat) : RelAt c { st with H := upd st.H id none } a w R G :=
  ⟨h.env, h.hr.drop id, h.lt, h.src, h.old, h.fr, h.n, h.defers, h.die, h.gle⟩
/-- a call comes back: blocks that are neither read nor owned have turned -/
theorem RelAt.world {c : Ctx} {st : St} {a : Act} {w w' : World} {R R' L' : Nat → Prop} {G : Nat → Option Loc} (h : RelAt c st a w R G) (hfr : Fr L' w w') (hsub : ∀ b, R b → R' b)
    (hL : ∀ b, L' b → ¬ R b ∧ (c.L b ∨ c.w0.heap.size ≤ b) ∧ ∀ k ek lk, st.H k = some ek → G k = some lk → lk.gen = ek.gen → ¬ lk.ft b)
    (hR : ∀ b, R' b → R b ∨ (b < w'.heap.size ∧ (c.L b ∨ c.w0.heap.size ≤ b) ∧ (L' b ∨ w.heap.size ≤ b))) : RelAt c st a w' R' G := by
  have hst : ∀ b, R b → w'.heap[b]? = w.heap[b]? := fun b hb => hfr.block b (h.lt b hb) (fun hl => (hL b hl).1 hb)
  refine ⟨fun i => (h.env i).mono (fun b hb => ⟨hsub b hb, hst b hb⟩) (Gle.refl _), ?_, ?_, ?_, fun b hb => hsub b (h.old b hb), ?_, h.n, h.defers, h.die, h.gle⟩
  · refine h.hr.world hsub ?_ hst ?_
    · intro b hb hnb k ek lk h1 h2 h25 h3
      rcases hR b hb with h4 | ⟨_, _, h4 | h4⟩
      · exact hnb h4
      · exact (hL b h4).2.2 k ek lk h1 h2 h25 h3
      · have := h.hr.lt h1 h2 h25 h3; omega
    · intro k ek lk b h1 h2 h25 h3
      exact hfr.block b (h.hr.lt h1 h2 h25 h3) (fun hl => (hL b hl).2.2 k ek lk h1 h2 h25 h3)
  · intro b hb
    rcases hR b hb with h4 | h4
    · exact Nat.lt_of_lt_of_le (h.lt b h4) hfr.size
    · exact h4.1
  · intro b hb
    rcases hR b hb with h4 | h4
    · exact h.src b h4
    · exact .inr h4.2.1
  · refine ⟨hfr.os.trans h.fr.os, hfr.tape.trans h.fr.tape, hfr.output.trans h.fr.output, Nat.le_trans h.fr.size hfr.size, fun k hk hl => ?_, Nat.le_trans h.fr.drawn hfr.drawn⟩
    refine (hfr.block k (Nat.lt_of_lt_of_le hk h.fr.size) (fun hl' => ?_)).trans (h.fr.block k hk hl)
    rcases (hL k hl').2.1 with h5 | h5
    · exact hl h5
    · omega
/-- a generation that is new -/
def freshGen (G : Nat → Option Loc) (id : Nat) : Nat := match G id with | some l => l.gen + 1 | none => 0
theorem freshGen_lt {G : Nat → Option Loc} {id : Nat} {l0 : Loc} (h : G id = some l0) : l0.gen < freshGen G id := by
  unfold freshGen; rw [h]; simp
end Go.Proofs.Ytjhdlcmecbngkaa
/- What the operations of a function do to what is known. No program in sight. -/
namespace Go.Proofs.Ytjhdlcmecbngkaa
open Go.RowKit
set_option linter.unusedVariables false

/-! ### Functions -/
/-- what is handed over, or handed back: a value, or a slice with all rights -/
inductive Par where
  | c (u : V)
  | o (T : TypeId) (sz : Nat) (rows : List (List V))
def noG : Nat → Option Loc := fun _ => none
def ParOk (w : World) (R : Nat → Prop) : Par → Value → Prop
  | .c u, x => RV w R noG u x
  | .o T sz rows, x => 0 < sz ∧ ∃ xs, w.ownsRow 0 T sz x rows.length xs ∧ RowsR w R noG xs sz rows
def ParBlk (ps : List Par) (xs : List Value) (b : Nat) : Prop := ∃ (i : Nat) (T : TypeId) (sz : Nat) (rows : List (List V)) (x : Value), ps[i]? = some (.o T sz rows) ∧ xs[i]? = some x ∧ x.ownBlock = some b
structure Pars (w : World) (R : Nat → Prop) (ps : List Par) (xs : List Value) : Prop where
  len : ps.length = xs.length
  ok : ∀ (i : Nat) (p : Par) (x : Value), ps[i]? = some p → xs[i]? = some x → ParOk w R p x
  apart : ∀ (i j : Nat) (T : TypeId) (sz : Nat) (rows : List (List V)) (T' : TypeId) (sz' : Nat) (rows' : List (List V)) (x y : Value) (b : Nat), i ≠ j → ps[i]? = some (.o T sz rows) → ps[j]? = some (.o T' sz' rows') → xs[i]? = some x → xs[j]? = some y → x.ownBlock = some b → y.ownBlock ≠ some b
  free : ∀ b, ParBlk ps xs b → ¬ R b
def packV : List Value → Value
  | [y] => y
  | ys => .tuple ys.toArray
def Callable (P : Program) (f : FuncId) : Prop := ∃ fn, P.funcs[f]? = some fn ∧ (fn.name == "runtime.NumGoroutine") = false ∧ fn.body.isNone = false
def Fun (P : Program) (f : FuncId) (ps rs : List Par) : Prop :=
  Callable P f ∧ ∀ (w : World) (R : Nat → Prop) (xs : List Value), (∀ b, R b → b < w.heap.size) → Pars w R ps xs →
    Calls P f xs.toArray w fun e w' => ∃ (ys : List Value) (R' : Nat → Prop), e = .returned (packV ys) ∧ Fr (ParBlk ps xs) w w' ∧ (∀ b, R b → R' b) ∧
      (∀ b, R' b → R b ∨ (b < w'.heap.size ∧ (ParBlk ps xs b ∨ w.heap.size ≤ b))) ∧ Pars w' R' rs ys ∧ (∀ b, ParBlk rs ys b → ParBlk ps xs b ∨ w.heap.size ≤ b)

/-- cells that hold what a callee may see -/
def DerefC (H : Nat → Option Ent) (u u' : V) : Prop :=
  (u' = u ∧ Cl u) ∨ (∃ id g e, u = .own id g ∧ H id = some e ∧ e.gen = g ∧ u' = .sl false e.rows ∧ ∀ row ∈ e.rows, ∀ u ∈ row, Cl u) ∨ (u = .v (.slice none 0 0) ∧ ∃ c, u' = .sl c [])
def Deref (H : Nat → Option Ent) (rows rows' : List (List V)) : Prop :=
  rows.length = rows'.length ∧ ∀ (i : Nat) (row row' : List V), rows[i]? = some row → rows'[i]? = some row' → row.length = row'.length ∧ ∀ (j : Nat) (u u' : V), row[j]? = some u → row'[j]? = some u' → DerefC H u u'
theorem deref_flat {H : Nat → Option Ent} {rows : List (List V)} (h : ∀ row ∈ rows, ∀ u ∈ row, Cl u) : Deref H rows rows :=
  ⟨rfl, fun i row row' h1 h2 => by
    rw [h1] at h2; injection h2 with h2; subst h2
    refine ⟨rfl, fun j u u' h3 h4 => ?_⟩
    rw [h3] at h4; injection h4 with h4; subst h4
    exact .inl ⟨rfl, h row (List.mem_of_getElem? h1) u (List.mem_of_getElem? h3)⟩⟩
def MapInv (ents : List (Value × V)) (w : World) (R : Nat → Prop) (x : Value) (F : Nat → Prop) : Prop :=
  ∃ (b clock : Nat) (es : Array MapEntry), x = .map (some b) ∧ w.heap[b]? = some (.map es clock) ∧ es.size = ents.length ∧ (∀ k, F k ↔ k = b) ∧
    ∀ (i : Nat) (e : MapEntry) (p : Value × V), es[i]? = some e → ents[i]? = some p → e.key = p.1 ∧ RV w R noG p.2 e.val
/-- a map of our own -/
def mapI (ents : List (Value × V)) : Opq where
  inv := MapInv ents
  mono := fun {w w' R R' x F} h hR hF => by
    obtain ⟨b, clock, es, h1, h2, h3, h4, h5⟩ := h
    exact ⟨b, clock, es, h1, (hF b ((h4 b).2 rfl)).trans h2, h3, h4, fun i e p q1 q2 => ⟨(h5 i e p q1 q2).1, (h5 i e p q1 q2).2.mono hR (Gle.refl _)⟩⟩
  lt := fun {w R x F b} h hb => by
    obtain ⟨b', clock, es, h1, h2, h3, h4, h5⟩ := h
    have := (h4 b).1 hb; subst this
    exact (Array.getElem?_eq_some_iff.1 h2).1
/-- what a closure holds, lent for reading -/
def CapOk (H : Nat → Option Ent) (all : List Nat) (u u' : V) : Prop :=
  (u' = u ∧ Cl u) ∨ (∃ id g i off e row, u = .ptr id g i off ∧ H id = some e ∧ e.gen = g ∧ e.rows[i]? = some row ∧ (∀ v ∈ row, Cl v) ∧ id ∉ all ∧ u' = .rptr row off) ∨
  (∃ id g e ents, u = .obj id g ∧ H id = some e ∧ e.gen = g ∧ e.T = .q (mapI ents) ∧ id ∉ all ∧ u' = .rmap ents)
def CapsOk (H : Nat → Option Ent) (all : List Nat) : List V → List V → Prop
  | [], [] => True
  | u :: us, u' :: us' => CapOk H all u u' ∧ CapsOk H all us us'
  | _, _ => False
/-- what is handed to a callee: lent for reading ('bor'), or given away ('gone', out of 'all') -/
inductive ArgsOk (H : Nat → Option Ent) (all : List Nat) : Bool → List Nat → List V → List Par → Prop where
  | nil (bor : Bool) : ArgsOk H all bor [] [] []
  | same {bor gone u us ps} (hu : Cl u) (h : ArgsOk H all bor gone us ps) : ArgsOk H all bor gone (u :: us) (.c u :: ps)
  | nilsl {bor gone us ps} (c : Bool) (h : ArgsOk H all bor gone us ps) : ArgsOk H all bor gone (.v (.slice none 0 0) :: us) (.c (.sl c []) :: ps)
  | nilown {bor gone us ps} (T : TypeId) (sz : Nat) (hz : 0 < sz) (h : ArgsOk H all bor gone us ps) : ArgsOk H all bor gone (.v (.slice none 0 0) :: us) (.o T sz [] :: ps)
  | bor {gone id g e rows' us ps} (he : H id = some e) (hg : e.gen = g) (hr : Deref (fun k => if k ∈ id :: all then none else H k) e.rows rows') (hn : id ∉ all) (h : ArgsOk H all true gone us ps) : ArgsOk H all true gone (.own id g :: us) (.c (.sl false rows') :: ps)
  | borp {gone id g e i row off us ps} (he : H id = some e) (hg : e.gen = g) (hi : e.rows[i]? = some row) (hr : ∀ u ∈ row, Cl u) (hn : id ∉ all) (h : ArgsOk H all true gone us ps) : ArgsOk H all true gone (.ptr id g i off :: us) (.c (.rptr row off) :: ps)
  | borc {gone f caps caps' us ps} (hc : CapsOk H all caps caps') (h : ArgsOk H all true gone us ps) : ArgsOk H all true gone (.clo f caps :: us) (.c (.clo f caps') :: ps)
  | givv {bor gone id g e T n us ps} (he : H id = some e) (hg : e.gen = g) (hT : e.T = .t T) (hl : n ≤ e.rows.length) (hr : ∀ row ∈ e.rows, ∀ u ∈ row, Cl u) (hn : id ∉ gone) (ha : id ∈ all) (h : ArgsOk H all bor gone us ps) : ArgsOk H all bor (id :: gone) (.osub id g 0 n :: us) (.o T e.sz (e.rows.take n) :: ps)
  | give {bor gone id g e T us ps} (he : H id = some e) (hg : e.gen = g) (hT : e.T = .t T) (hr : ∀ row ∈ e.rows, ∀ u ∈ row, Cl u) (hn : id ∉ gone) (ha : id ∈ all) (h : ArgsOk H all bor gone us ps) : ArgsOk H all bor (id :: gone) (.own id g :: us) (.o T e.sz e.rows :: ps)
def flatRes (rs : List Par) : Prop := ∀ r ∈ rs, match r with
  | .c u => Fl u
  | .o _ _ rows => ∀ row ∈ rows, ∀ u ∈ row, Fl u
def resV (g : Nat → Nat) : Nat → List Par → List V
  | _, [] => []
  | k, .c u :: rs => u :: resV g k rs
  | k, .o _ _ _ :: rs => .own k (g k) :: resV g (k + 1) rs
def resH (g : Nat → Nat) : Nat → List Par → List (Nat × Option Ent)
  | _, [] => []
  | k, .c _ :: rs => resH g k rs
  | k, .o T sz rows :: rs => (k, some ⟨g k, .t T, sz, rows⟩) :: resH g (k + 1) rs
def packU : List V → V
  | [u] => u
  | us => .tup us

/-! ### Operations -/
inductive ROp where
  | mv (x : Operand)
  | pick (c a b : Operand)
  | box (T : TypeId) (sz : Nat) (x : Operand)
  | zbox (T : TypeId) (z : List Value)
  | build (z : List Value) (parts : List (Nat × Nat × Operand))
  | mks (T : TypeId) (sz n : Nat) (z : List Value) (parts : List (Nat × Operand))
  | mkn (T : TypeId) (sz bytes : Nat) (z : List Value) (x y : Operand)
  | load (agg : Bool) (sz : Nat) (x : Operand)
  | bin (op : BinOp) (x y : Operand)
  | mm (mx : Bool) (x y : Operand)
  | eqb (neg : Bool) (x y : Operand)
  | eqS (neg : Bool) (ts : List Nat) (x y : Operand)
  | not (x : Operand)
  | neg (x : Operand)
  | conv (k : IntKind) (x : Operand)
  | convS (x : Operand)
  | fld (agg : Bool) (sz off : Nat) (x : Operand)
  | fldA (off : Nat) (x : Operand)
  | idxA (sz : Nat) (x i : Operand)
  | idxS (x i : Operand)
  | slcS (x : Operand) (lo hi : Option Operand)
  | slcL (sz : Nat) (x : Operand) (lo hi mx : Option Operand)
  | ext (x : Operand) (i : Nat)
  | len (str : Bool) (x : Operand)
  | call (x : Operand) (args : List Operand)
  | mkfn (f : FuncId) (caps : List Operand)
  | store (sz : Nat) (x y : Operand)
  | app (T : TypeId) (sz bytes : Nat) (z : Value) (x y : Operand)
  | mkm
  | mlook (kind : TypeDesc) (ok : Bool) (z : Value) (x i : Operand)
  | mlen (x : Operand)
  | mupd (kind : TypeDesc) (x i v : Operand)
  | die (x : Operand)
  | mki (t : TypeId) (x : Operand)
  | ofB (x : Operand)
  | toB (x : Operand)
  | clr (sz : Nat) (z : List Value) (x : Operand)
  | isnil (neg : Bool) (x : Operand)
structure ROper where
  dst : Option Nat
  guard : Option (Nat × Bool)
  op : ROp
def val (env : Nat → V) : Operand → V
  | .tmp t => env t
  | .const x => .v x
  | .global g => .v (.pointer (some ⟨g, 0, none⟩))
  | .func f => .v (.func (.func f) #[] #[])
/-- equal, cell by cell: 0 numbers, 1 texts, 2 yes or no -/
def eqV : List Nat → List V → List V → Option Bool
  | [], [], [] => some true
  | 0 :: ts, .v (.int k a) :: us, .v (.int k' b) :: vs => if k = k' then (match eqV ts us vs with
    | some r => some ((a == b) && r)
    | none => none) else none
  | 1 :: ts, .v (.string a) :: us, .v (.string b) :: vs => match eqV ts us vs with
    | some r => some ((a.toList == b.toList) && r)
    | none => none
  | 2 :: ts, .v (.bool a) :: us, .v (.bool b) :: vs => match eqV ts us vs with
    | some r => some ((a == b) && r)
    | none => none
  | _, _, _ => none
/-- one cell -/
def one (H : Nat → Option Ent) : V → Prop
  | .v x => x.oneCell' = true
  | .sl _ _ => True
  | .rptr _ _ => True
  | .clo _ _ => True
  | .rmap _ => True
  | .own id g => ∃ e, H id = some e ∧ e.gen = g
  | .ptr id g _ _ => ∃ e, H id = some e ∧ e.gen = g
  | _ => False
def ones (H : Nat → Option Ent) : List V → Prop
  | [] => True
  | u :: us => one H u ∧ ones H us
def cellsV : V → Option (List V)
  | .agg cs => some cs
  | .any => none
  | .tup _ => none
  | u => some [u]
def putV (cs : List V) (off : Nat) (us : List V) : List V := cs.take off ++ us ++ cs.drop (off + us.length)
def fillV (env : Nat → V) (H : Nat → Option Ent) : List V → List (Nat × Nat × Operand) → (List V → Prop) → Prop
  | cs, [], K => K cs
  | cs, (off, sz, x) :: ps, K => match cellsV (val env x) with
    | some us => us.length = sz ∧ off + sz ≤ cs.length ∧ ones H us ∧ fillV env H (putV cs off us) ps K
    | none => False
def fillR (env : Nat → V) (H : Nat → Option Ent) (sz : Nat) : List (List V) → List (Nat × Operand) → (List (List V) → Prop) → Prop
  | rows, [], K => K rows
  | rows, (i, x) :: ps, K => match cellsV (val env x) with
    | some us => us.length = sz ∧ i < rows.length ∧ ones H us ∧ fillR env H sz (rows.set i us) ps K
    | none => False
def mkV (agg : Bool) (cs : List V) : V := if agg then .agg cs else cs.headD .any
def intK (op : BinOp) (k : IntKind) (x : Int) (k' : IntKind) (y : Int) (K : Value → Prop) : Prop :=
  match op with
  | .add => k = k' ∧ ∃ c, k.wrap (x + y) = c ∧ K (.int k c)
  | .sub => k = k' ∧ ∃ c, k.wrap (x - y) = c ∧ K (.int k c)
  | .mul => k = k' ∧ ∃ c, k.wrap (x * y) = c ∧ K (.int k c)
  | .quo => k = k' ∧ y ≠ 0 ∧ ∃ c, k.wrap (x.tdiv y) = c ∧ K (.int k c)
  | .rem => k = k' ∧ y ≠ 0 ∧ ∃ c, x.tmod y = c ∧ K (.int k c)
  | .shl => 0 ≤ y ∧ ∃ c, k.wrap (x * 2 ^ (min y.toNat k.bits)) = c ∧ K (.int k c)
  | .shr => 0 ≤ y ∧ ∃ c, x.fdiv (2 ^ (min y.toNat k.bits)) = c ∧ K (.int k c)
  | .and => k = k' ∧ ∃ c, k.wrap ((BitVec.ofInt k.bits x &&& BitVec.ofInt k.bits y).toNat) = c ∧ K (.int k c)
  | .or => k = k' ∧ ∃ c, k.wrap ((BitVec.ofInt k.bits x ||| BitVec.ofInt k.bits y).toNat) = c ∧ K (.int k c)
  | .eql => k = k' ∧ K (.bool (x == y))
  | .neq => k = k' ∧ K (.bool (x != y))
  | .lss => k = k' ∧ K (.bool (decide (x < y)))
  | .leq => k = k' ∧ K (.bool (decide (x ≤ y)))
  | .gtr => k = k' ∧ K (.bool (decide (y < x)))
  | .geq => k = k' ∧ K (.bool (decide (y ≤ x)))
  | _ => False
def strK (op : BinOp) (x y : ByteArray) (K : Value → Prop) : Prop :=
  match op with
  | .add => ((x.size + y.size : Nat) : Int) ≤ 9223372036854775807 ∧ K (.string (x ++ y))
  | .eql => K (.bool (x.toList == y.toList))
  | .neq => K (.bool (!(x.toList == y.toList)))
  | .lss => K (.bool (Op.bytesLess x.toList y.toList))
  | .leq => K (.bool (Op.bytesLess x.toList y.toList || x.toList == y.toList))
  | .gtr => K (.bool (!(Op.bytesLess x.toList y.toList || x.toList == y.toList)))
  | .geq => K (.bool (!(Op.bytesLess x.toList y.toList)))
  | _ => False
def binK (op : BinOp) (a b : Value) (K : Value → Prop) : Prop :=
  match a, b with
  | .int k x, .int k' y => intK op k x k' y K
  | .string x, .string y => strK op x y K
  | _, _ => False
/-- an entry of a map, by its key -/
def findE (kind : TypeDesc) (k : Value) : List (Value × V) → Nat → Option (Option (Nat × V))
  | [], _ => some none
  | (a, v) :: es, i => match Instr.sameNow kind k a with
    | some true => some (some (i, v))
    | some false => findE kind k es (i + 1)
    | none => none
def entsOf (H : Nat → Option Ent) : V → List (Value × V) → Prop
  | .obj id g, ents => ∃ e, H id = some e ∧ e.gen = g ∧ e.T = .q (mapI ents)
  | .rmap ents', ents => ents' = ents
  | .v (.map none), ents => ents = []
  | _, _ => False
def lookRes (ok : Bool) (z : Value) : Option (Nat × V) → V
  | some (_, u) => bif ok then .tup [u, .v (.bool true)] else u
  | none => bif ok then .tup [.v z, .v (.bool false)] else .v z
def putE (ents : List (Value × V)) (k : Value) (v : V) : Option (Nat × V) → List (Value × V)
  | some (i, _) => ents.set i (k, v)
  | none => ents ++ [(k, v)]
def loV (env : Nat → V) : Option Operand → Nat → Prop
  | none, l => l = 0
  | some x, l => ∃ k, val env x = .v (.int k (l : Int))
def hiV (env : Nat → V) (len : Nat) : Option Operand → Nat → Prop
  | none, h => h = len
  | some x, h => ∃ k, val env x = .v (.int k (h : Int))
/-- the elements that an append reads -/
def srcRows (H : Nat → Option Ent) (sz : Nat) : V → List (List V) → Prop
  | .own id g, rows => ∃ e, H id = some e ∧ e.gen = g ∧ e.sz = sz ∧ e.rows = rows
  | .sl _ rows', rows => rows' = rows ∧ ∀ row ∈ rows, row.length = sz ∧ ones H row
  | .v (.slice none 0 0), rows => rows = []
  | _, _ => False
def strNs (ns : List Int) : ByteArray := ⟨(ns.map fun n => UInt8.ofNat n.toNat).toArray⟩
/-- an operation that turns nothing that was there -/
def stepQ (P : Program) (r : ROp) (env : Nat → V) (H : Nat → Option Ent) (g : Nat → Nat) (b : Nat) (K : V → List (Nat × Option Ent) → Prop) : Prop :=
  match r with
  | .mv x => K (val env x) []
  | .pick c x y => match val env c with
    | .v (.bool t) => (t = true → K (val env x) []) ∧ (t = false → K (val env y) [])
    | _ => False
  | .box T sz x => match cellsV (val env x) with
    | some cs => cs.length = sz ∧ ones H cs ∧ K (.ptr b (g b) 0 0) [(b, some ⟨g b, .b T, sz, [cs]⟩)]
    | none => False
  | .zbox T z => K (.ptr b (g b) 0 0) [(b, some ⟨g b, .b T, z.length, [z.map .v]⟩)]
  | .build z ps => fillV env H (z.map .v) ps fun cs => K (.agg cs) []
  | .mks T sz n z ps => fillR env H sz (List.replicate n (z.map .v)) ps fun rows => K (.own b (g b)) [(b, some ⟨g b, .t T, sz, rows⟩)]
  | .mkn T sz bytes z x y => match val env x, val env y with
    | .v (.int _ n), .v (.int _ m) => ∃ k : Nat, n = (k : Int) ∧ m = (k : Int) ∧ k ≤ maxLen ∧ k * bytes ≤ 140737488355328 ∧ K (.own b (g b)) [(b, some ⟨g b, .t T, sz, List.replicate k (z.map .v)⟩)]
    | _, _ => False
  | .load agg sz x => match val env x with
    | .rptr row off => off + sz ≤ row.length ∧ K (mkV agg ((row.drop off).take sz)) []
    | .ptr id gen i off => ∃ e row, H id = some e ∧ e.gen = gen ∧ e.rows[i]? = some row ∧ off + sz ≤ row.length ∧ K (mkV agg ((row.drop off).take sz)) []
    | _ => False
  | .bin op x y => match val env x, val env y with
    | .v a, .v c => binK op a c fun r => K (.v r) []
    | _, _ => False
  | .mm mx x y => match val env x, val env y with
    | .v (.int k a), .v (.int _ c) => K (.v (.int k (bif mx then max a c else min a c))) []
    | _, _ => False
  | .eqb neg x y => match val env x, val env y with
    | .v (.bool a), .v (.bool c) => K (.v (.bool (if neg then a != c else a == c))) []
    | _, _ => False
  | .eqS neg ts x y => match val env x, val env y with
    | .agg us, .agg vs => match eqV ts us vs with
      | some b => K (.v (.bool (bif neg then !b else b))) []
      | none => False
    | _, _ => False
  | .not x => match val env x with
    | .v (.bool a) => K (.v (.bool (!a))) []
    | _ => False
  | .neg x => match val env x with
    | .v (.int k a) => ∃ c, k.wrap (0 - a) = c ∧ K (.v (.int k c)) []
    | _ => False
  | .conv k x => match val env x with
    | .v (.int _ a) => ∃ c, k.wrap a = c ∧ K (.v (.int k c)) []
    | _ => False
  | .convS x => match val env x with
    | .v (.string s) => K (.v (.string s)) []
    | _ => False
  | .fld agg sz off x => match val env x with
    | .agg cs => off + sz ≤ cs.length ∧ K (mkV agg ((cs.drop off).take sz)) []
    | _ => False
  | .fldA off x => match val env x with
    | .rptr row o => K (.rptr row (o + off)) []
    | .ptr id gen i o => (∃ e, H id = some e ∧ e.gen = gen) ∧ K (.ptr id gen i (o + off)) []
    | _ => False
  | .idxA sz x i => match val env x, val env i with
    | .sl _ rows, .v (.int _ n) => ∃ (j : Nat) (row : List V), n = (j : Int) ∧ rows[j]? = some row ∧ row.length = sz ∧ K (.rptr row 0) []
    | .own id gen, .v (.int _ n) => ∃ (e : Ent) (j : Nat) (row : List V), H id = some e ∧ e.gen = gen ∧ e.sz = sz ∧ n = (j : Int) ∧ e.rows[j]? = some row ∧ K (.ptr id gen j 0) []
    | _, _ => False
  | .idxS x i => match val env x, val env i with
    | .v (.string s), .v (.int _ n) => ∃ (j : Nat) (c : UInt8), n = (j : Int) ∧ s[j]? = some c ∧ K (.v (.int .u8 c.toNat)) []
    | _, _ => False
  | .slcS x lo hi => match val env x with
    | .v (.string s) => ∃ l h : Nat, loV env lo l ∧ hiV env s.size hi h ∧ l ≤ h ∧ h ≤ s.size ∧ K (.v (.string (s.extract l h))) []
    | _ => False
  | .slcL sz x lo hi mx => match val env x with
    | .sl clip rows => ∃ l h : Nat, loV env lo l ∧ hiV env rows.length hi h ∧ l ≤ h ∧ h ≤ rows.length ∧ (rows = [] ∨ ∃ row, rows[0]? = some row ∧ row.length = sz) ∧
        match mx with
        | none => K (.sl false ((rows.drop l).take (h - l))) []
        | some y => hi.isSome = true ∧ (∃ k, val env y = .v (.int k (h : Int))) ∧ K (.sl true ((rows.drop l).take (h - l))) []
    | .own id gen => ∃ e : Ent, ∃ l h : Nat, H id = some e ∧ e.gen = gen ∧ e.sz = sz ∧ loV env lo l ∧ hiV env e.rows.length hi h ∧ l ≤ h ∧ h ≤ e.rows.length ∧ mx = none ∧ K (.osub id gen l h) []
    | .osub id gen lo0 hi0 => ∃ e : Ent, ∃ l h : Nat, H id = some e ∧ e.gen = gen ∧ e.sz = sz ∧ loV env lo l ∧ hiV env (hi0 - lo0) hi h ∧ l ≤ h ∧ lo0 + h ≤ e.rows.length ∧ mx = none ∧ lo0 ≤ hi0 ∧ K (.osub id gen (lo0 + l) (lo0 + h)) []
    | _ => False
  | .ext x i => match val env x with
    | .tup us => ∃ u, us[i]? = some u ∧ K u []
    | _ => False
  | .len true x => match val env x with
    | .v (.string s) => K (.v (.int .i64 s.size)) []
    | _ => False
  | .len false x => match val env x with
    | .v (.slice _ n _) => K (.v (.int .i64 n)) []
    | .sl _ rows => K (.v (.int .i64 rows.length)) []
    | .own id gen => ∃ e, H id = some e ∧ e.gen = gen ∧ K (.v (.int .i64 e.rows.length)) []
    | .osub id gen lo hi => (∃ e, H id = some e ∧ e.gen = gen) ∧ K (.v (.int .i64 ((hi - lo : Nat) : Int))) []
    | _ => False
  | .call x args => match val env x with
    | .v (.func (.func f) ⟨[]⟩ ⟨[]⟩) => ∃ ps rs bor, ArgsOk H [] bor [] (args.map (val env)) ps ∧ Fun P f ps rs ∧ (bor = true → flatRes rs) ∧ rs.length ≤ 16 ∧ K (packU (resV g b rs)) (resH g b rs)
    | .clo f caps => ∃ ps rs bor, ArgsOk H [] bor [] (args.map (val env) ++ caps) ps ∧ Fun P f ps rs ∧ (bor = true → flatRes rs) ∧ rs.length ≤ 16 ∧ K (packU (resV g b rs)) (resH g b rs)
    | _ => False
  | .mkfn f caps => K (.clo f (caps.map (val env))) []
  | .mkm => K (.obj b (g b)) [(b, some ⟨g b, .q (mapI []), 0, []⟩)]
  | .mlook kind ok z x i => ∃ ents kv r, entsOf H (val env x) ents ∧ val env i = .v kv ∧ findE kind kv ents 0 = some r ∧
      K (lookRes ok z r) []
  | .mlen x => ∃ ents, entsOf H (val env x) ents ∧ K (.v (.int .i64 ents.length)) []
  | .mupd _ _ _ _ => False
  | .die _ => False
  | .mki t x => match val env x with
    | .v v => K (.v (.iface t v)) []
    | .agg cs => ∃ vs : List Value, cs = vs.map .v ∧ K (.v (.iface t (.agg vs.toArray))) []
    | _ => False
  | .clr _ _ _ => False
  | .isnil _ _ => False
  | .ofB x => ∃ (rows : List (List V)) (ns : List Int), srcRows H 1 (val env x) rows ∧ rows = ns.map (fun n => [.v (.int .u8 n)]) ∧ K (.v (.string (strNs ns))) []
  | .toB x => match val env x with
    | .v (.string s) => K (.sl false (s.data.toList.map fun b => [.v (.int .u8 b.toNat)])) []
    | _ => False
  | .store _ _ _ => False
  | .app _ _ _ _ _ _ => False

theorem fillV_ex {env : Nat → V} {H : Nat → Option Ent} : ∀ (ps : List (Nat × Nat × Operand)) (cs : List V) (K : List V → Prop), fillV env H cs ps K → ∃ cs', fillV env H cs ps (fun x => x = cs') ∧ K cs'
  | [], cs, K, h => ⟨cs, rfl, h⟩
  | (off, sz, x) :: ps, cs, K, h => by
    simp only [fillV] at h ⊢
    split at h
    · rename_i us hu
      obtain ⟨cs', h1, h2⟩ := fillV_ex ps _ K h.2.2.2
      exact ⟨cs', ⟨h.1, h.2.1, h.2.2.1, h1⟩, h2⟩
    · exact h.elim
theorem fillR_ex {env : Nat → V} {H : Nat → Option Ent} {sz : Nat} : ∀ (ps : List (Nat × Operand)) (rows : List (List V)) (K : List (List V) → Prop), fillR env H sz rows ps K → ∃ rows', fillR env H sz rows ps (fun x => x = rows') ∧ K rows'
  | [], rows, K, h => ⟨rows, rfl, h⟩
  | (i, x) :: ps, rows, K, h => by
    simp only [fillR] at h ⊢
    split at h
    · obtain ⟨cs', h1, h2⟩ := fillR_ex ps _ K h.2.2.2
      exact ⟨cs', ⟨h.1, h.2.1, h.2.2.1, h1⟩, h2⟩
    · exact h.elim
theorem intK_ex {op : BinOp} {k k' : IntKind} {x y : Int} {K : Value → Prop} (h : intK op k x k' y K) : ∃ r, intK op k x k' y (fun x => x = r) ∧ K r := by
  cases op <;> first
    | exact h.elim
    | (obtain ⟨h1, c, h2, hK⟩ := h; exact ⟨_, ⟨h1, c, h2, rfl⟩, hK⟩)
    | (obtain ⟨h1, h0, c, h2, hK⟩ := h; exact ⟨_, ⟨h1, h0, c, h2, rfl⟩, hK⟩)
    | (obtain ⟨h1, hK⟩ := h; exact ⟨_, ⟨h1, rfl⟩, hK⟩)
theorem strK_ex {op : BinOp} {x y : ByteArray} {K : Value → Prop} (h : strK op x y K) : ∃ r, strK op x y (fun x => x = r) ∧ K r := by
  cases op <;> first
    | exact h.elim
    | (obtain ⟨h1, hK⟩ := h; exact ⟨_, ⟨h1, rfl⟩, hK⟩)
    | exact ⟨_, rfl, h⟩
theorem binK_ex {op : BinOp} {a b : Value} {K : Value → Prop} (h : binK op a b K) : ∃ r, binK op a b (fun x => x = r) ∧ K r := by
  unfold binK at h ⊢
  split at h
  · exact intK_ex h
  · exact strK_ex h
  · exact h.elim
end Go.Proofs.Ytjhdlcmecbngkaa
/- The operations, resolved; and that they do what is said of them. No program in sight. -/
namespace Go.Proofs.Ytjhdlcmecbngkaa
open Go.RowKit
set_option linter.unusedVariables false

def aggT (P : Program) (t : TypeId) : Option Bool := match P.underlying t with
  | some (.struct _) => some true
  | some (.array _ _) => some true
  | some _ => some false
  | none => none
def cellsOk (z : Value) : Bool := z.cells.toList.all fun x => x.oneCell'
/-- of a type that is compared cell by cell: its cells' kinds -/
def eqFs (P : Program) (rc : TypeId → Option (List Nat)) : List Field → Nat → Option (List Nat)
  | [], _ => some []
  | f :: fs, off => match rc f.type, P.info? f.type, aggT P f.type with
    | some ts, some i, some agg => if f.name != "_" && f.offset == off && ts.length == i.size && (agg || ts.length == 1) then (match eqFs P rc fs (off + ts.length) with
      | some r => some (ts ++ r)
      | none => none) else none
    | _, _, _ => none
def eqTags (P : Program) : Nat → TypeId → Option (List Nat)
  | 0, _ => none
  | d + 1, t => match P.underlying t with
    | some (.int _) => some [0]
    | some .string => some [1]
    | some .bool => some [2]
    | some (.struct fs) => if P.stoodInHeld t || P.eqGuardType P.depth t then none else eqFs P (eqTags P d) fs.toList 0
    | _ => none
def partsOf (P : Program) (fs : Array Field) : List (Nat × Operand) → Option (List (Nat × Nat × Operand))
  | [] => some []
  | (k, x) :: ps => do
    let f ← fs[k]?
    let i ← P.info? f.type
    let r ← partsOf P fs ps
    some ((f.offset, i.size, x) :: r)
def keyKind : TypeDesc → Bool
  | .int _ => true
  | .string => true
  | _ => false
def resOp (P : Program) (o : Oper) : Option ROp :=
  match o.op with
  | .move x => some (.mv x)
  | .assign x => some (.mv x)
  | .pick c a b => some (.pick c a b)
  | .box T x => match P.info? T with
    | some i => if 0 < i.size then some (.box T i.size x) else none
    | none => none
  | .alloc T => match P.info? T with
    | some i => match i.zero with
      | some z => if 0 < z.cells.size && cellsOk z then some (.zbox T z.cells.toList) else none
      | none => none
    | none => none
  | .load t x => match P.info? t, aggT P t with
    | some i, some true => some (.load true i.size x)
    | some i, some false => some (.load false 1 x)
    | _, _ => none
  | .binOp op t x y _ => match P.underlying t, op with
    | some (.slice _), .eql => match y with
      | .const (.slice none 0 0) => some (.isnil false x)
      | _ => none
    | some (.slice _), .neq => match y with
      | .const (.slice none 0 0) => some (.isnil true x)
      | _ => none
    | some .bool, .eql => some (.eqb false x y)
    | some .bool, .neq => some (.eqb true x y)
    | some (.int _), op => some (.bin op x y)
    | some .string, op => some (.bin op x y)
    | some (.struct _), .eql => (eqTags P 20 t).map fun ts => .eqS false ts x y
    | some (.struct _), .neq => (eqTags P 20 t).map fun ts => .eqS true ts x y
    | _, _ => none
  | .unOp .not _ x => some (.not x)
  | .unOp .neg _ x => some (.neg x)
  | .convert s d x => match P.underlying s, P.underlying d with
    | some (.int _), some (.int k) => some (.conv k x)
    | some .string, some .string => some (.convS x)
    | some (.slice e), some .string => match P.underlying e, P.info? e with
      | some (.int .u8), some i => if i.size = 1 then some (.ofB x) else none
      | _, _ => none
    | some .string, some (.slice e) => match P.underlying e with
      | some (.int .u8) => some (.toB x)
      | _ => none
    | _, _ => none
  | .field t x k => match P.underlying t with
    | some (.struct fs) => match fs[k]? with
      | some f => match P.info? f.type, aggT P f.type with
        | some i, some true => some (.fld true i.size f.offset x)
        | some i, some false => some (.fld false 1 f.offset x)
        | _, _ => none
      | none => none
    | _ => none
  | .fieldAddr t x k => match P.underlying t with
    | some (.struct fs) => match fs[k]? with
      | some f => match P.info? f.type with
        | some i => if 0 < i.size then some (.fldA f.offset x) else none
        | none => none
      | none => none
    | _ => none
  | .indexAddr t x i => match P.underlying t with
    | some (.slice e) => match P.info? e with
      | some j => if 0 < j.size then some (.idxA j.size x i) else none
      | none => none
    | _ => none
  | .index t x i => match P.underlying t with
    | some .string => some (.idxS x i)
    | _ => none
  | .slice t x lo hi mx => match P.underlying t with
    | some .string => if mx.isNone then some (.slcS x lo hi) else none
    | some (.slice e) => match P.info? e with
      | some j => if 0 < j.size then some (.slcL j.size x lo hi mx) else none
      | none => none
    | _ => none
  | .extract x i => some (.ext x i)
  | .build t ps => match P.info? t with
    | some i => match i.zero, P.underlying t with
      | some z, some (.struct fs) => if fs.toList.all (fun f => (P.info? f.type).isSome) && cellsOk z then (partsOf P fs ps.toList).map (.build z.cells.toList) else none
      | _, _ => none
    | none => none
  | .buildSlice t n ps => match P.underlying t with
    | some (.slice e) => match P.info? e with
      | some i => match i.zero with
        | some z => if 0 < i.size && z.cells.size == i.size && n * i.size ≤ 16777216 && cellsOk z then some (.mks e i.size n z.cells.toList ps.toList) else none
        | none => none
      | none => none
    | _ => none
  | .makeSlice t x y => match P.underlying t with
    | some (.slice e) => match P.info? e with
      | some i => match i.zero with
        | some z => if 0 < i.size && z.cells.size == i.size && cellsOk z then some (.mkn e i.size i.bytes z.cells.toList x y) else none
        | none => none
      | none => none
    | _ => none
  | .call { callee := .builtin .len, args, argTypes } => match args.toList, argTypes.toList with
    | [x], [t] => match P.underlying t with
      | some .string => some (.len true x)
      | some (.slice _) => some (.len false x)
      | some (.map _ _) => some (.mlen x)
      | _ => none
    | _, _ => none
  | .call { callee := .builtin .max, args, argTypes } => match args.toList with
    | [x, y] => some (.mm true x y)
    | _ => none
  | .call { callee := .builtin .min, args, argTypes } => match args.toList with
    | [x, y] => some (.mm false x y)
    | _ => none
  | .call { callee := .builtin .clear, args, argTypes } => match args.toList, argTypes.toList with
    | [x], [t] => match P.underlying t with
      | some (.slice e) => match P.info? e with
        | some i => match i.zero with
          | some z => if 0 < i.size && z.cells.size == i.size && cellsOk z then some (.clr i.size z.cells.toList x) else none
          | none => none
        | none => none
      | _ => none
    | _, _ => none
  | .call { callee := .builtin .append, args, argTypes } => match args.toList, argTypes.toList with
    | [x, y], [t, t'] => if t = t' then match P.underlying t with
      | some (.slice e) => match P.info? e with
        | some i => match i.zero with
          | some z => if 0 < i.size && z.cells.size == i.size then some (.app e i.size i.bytes z x y) else none
          | none => none
        | none => none
      | _ => none
      else none
    | _, _ => none
  | .call { callee := .value f, args, .. } => some (.call f args.toList)
  | .makeFunc (.func f) first caps => if first.isEmpty then some (.mkfn f caps.toList) else none
  | .store t x y => match P.info? t with
    | some i => some (.store i.size x y)
    | none => none
  | .makeMap t none => some .mkm
  | .panic x => some (.die x)
  | .makeInterface t x => match P.underlying t with
    | some (.interface _) => none
    | some _ => some (.mki t x)
    | none => none
  | .lookup t x i' ok => match P.underlying t with
    | some (.map k e) => match P.underlying k, P.info? e with
      | some kd, some i => match i.zero with
        | some z => if keyKind kd && z.oneCell' then some (.mlook kd ok z x i') else none
        | none => none
      | _, _ => none
    | _ => none
  | .mapUpdate t x i v => match P.underlying t with
    | some (.map k e) => match P.underlying k with
      | some kd => if keyKind kd then some (.mupd kd x i v) else none
      | none => none
    | _ => none
  | .insert t x i v => match P.underlying t with
    | some (.map k e) => match P.underlying k with
      | some kd => if keyKind kd then some (.mupd kd x i v) else none
      | none => none
    | _ => none
  | _ => none

def addH (H : Nat → Option Ent) : List (Nat × Option Ent) → (Nat → Option Ent)
  | [] => H
  | (k, e) :: r => addH (upd H k e) r
def Done (P : Program) (c : Ctx) (st : St) (a : Act) (w : World) (G : Nat → Option Loc) (o : Oper) (Q : Exit → Act → World → Prop) (d : Nat) (u : V) (dH : List (Nat × Option Ent)) : Prop :=
  ∀ next : Act → World → Prop, (∀ x w' R' G', RelAt c { st with H := addH st.H dH } a w' R' G' → RV w' R' G' u x → (∀ id, id / 16 ≠ d → G' id = G id) → next (a.put o.dst x) w') → o.wp P a w next Q

section
variable {P : Program} {c : Ctx} {st : St} {a : Act} {w w' : World} {R : Nat → Prop} {G : Nat → Option Loc} {o : Oper} {Q : Exit → Act → World → Prop} {d : Nat} {u : V} {dH : List (Nat × Option Ent)}
theorem wp_value {x : Value} {next : Act → World → Prop} (h : (execOp a.eval o).run P w = .ok (.value x) w') (hn : next (a.put o.dst x) w') : o.wp P a w next Q := by
  unfold Oper.wp; rw [h]; exact hn
theorem done_pure {x : Value} (h : RelAt c st a w R G) (hr : (execOp a.eval o).run P w = .ok (.value x) w) (hu : RV w R G u x) : Done P c st a w G o Q d u [] :=
  fun next hn => wp_value hr (hn x w R G h hu (fun _ _ => rfl))
theorem run_v (s : Sem Value) {x : Value} (h : s.run P w = .ok x w') : ((do pure (Next.value (← s))) : Sem Next).run P w = .ok (.value x) w' := by
  simp [h]
theorem RelAt.val (h : RelAt c st a w R G) (x : Operand) : RV w R G (val st.env x) (a.eval x) := by
  cases x with
  | tmp t => exact h.env t
  | const x => exact .v x
  | global g => exact .v _
  | func f => exact .v _
theorem rv_v {x y : Value} (h : RV w R G (.v x) y) : y = x := by cases h; rfl

theorem q_mv {x : Operand} (ho : o.op = .move x ∨ o.op = .assign x) (h : RelAt c st a w R G) : Done P c st a w G o Q d (val st.env x) [] :=
  done_pure (x := a.eval x) h (by rcases ho with ho | ho <;> (unfold execOp; rw [ho]; rfl)) (h.val x)
theorem q_pick {x y z : Operand} {t : Bool} (ho : o.op = .pick x y z) (h : RelAt c st a w R G) (ht : val st.env x = .v (.bool t)) : Done P c st a w G o Q d (if t then val st.env y else val st.env z) [] := by
  have e : a.eval x = .bool t := rv_v (ht ▸ h.val x)
  refine done_pure (x := if t then a.eval y else a.eval z) h ?_ ?_
  · unfold execOp; rw [ho]; simp [e, asBool]
  · cases t <;> exact h.val _
/-! cells of a value -/
theorem one_cell (h : RelAt c st a w R G) {u : V} {x : Value} (h1 : one st.H u) (hr : RV w R G u x) : x.oneCell' = true := by
  cases hr with
  | any x => exact h1.elim
  | v x => exact h1
  | agg => exact h1.elim
  | tup => exact h1.elim
  | nil => rfl
  | sl => rfl
  | own id gen l hl hg x hx =>
    obtain ⟨e, he, hge⟩ := h1
    obtain ⟨l', xs, _, g1, g2, g3, g4, g5, g6, rfl, _⟩ := h.objO (.own id gen l hl hg x hx) he hge
    rcases g5.2 with ⟨q, _⟩ | ⟨g, cap, cur, q, _⟩ <;> rw [q] <;> rfl
  | ptr id gen i off l hl hg x hx =>
    obtain ⟨e, he, hge⟩ := h1
    obtain ⟨l', b, g1, g2, g3, g4, rfl⟩ := h.objB (.ptr id gen i off l hl hg x hx) he hge
    rfl
  | rptr => rfl
  | clo => rfl
  | obj => exact h1.elim
  | osub => exact h1.elim
  | rmap => rfl
theorem ones_mem {H : Nat → Option Ent} : ∀ {cs : List V} {u : V}, ones H cs → u ∈ cs → one H u
  | v :: cs, u, h, hu => by
    rcases List.mem_cons.1 hu with rfl | hu
    · exact h.1
    · exact ones_mem h.2 hu
theorem cells_rel (h : RelAt c st a w R G) {u : V} {x : Value} {cs : List V} (hc : cellsV u = some cs) (hr : RV w R G u x) (h1 : ones st.H cs) :
    x.cells.toList.length = cs.length ∧ ∀ (i : Nat) (v : V), cs[i]? = some v → ∃ y, x.cells.toList[i]? = some y ∧ y.oneCell' = true ∧ RV w R G v y := by
  have single : ∀ (u : V) (x : Value), cellsV u = some [u] → RV w R G u x → ones st.H [u] → x.cells.toList.length = [u].length ∧ ∀ (i : Nat) (v : V), [u][i]? = some v → ∃ y, x.cells.toList[i]? = some y ∧ y.oneCell' = true ∧ RV w R G v y := fun u x _ hr h1 => by
    have hx := one_cell h h1.1 hr
    have hcx : x.cells = #[x] := by cases x <;> first | rfl | (simp [Value.oneCell'] at hx)
    rw [hcx]
    refine ⟨rfl, fun i v hv => ?_⟩
    cases i with
    | zero => simp at hv; subst hv; exact ⟨x, rfl, hx, hr⟩
    | succ i => simp at hv
  cases u with
  | any => cases hc
  | tup => cases hc
  | agg us =>
    injection hc with hc; subst hc
    cases hr with
    | agg cs xs hl hh =>
      refine ⟨by simp [Value.cells, hl], fun i v hv => ?_⟩
      have hi : i < xs.length := by rw [← hl]; exact (List.getElem?_eq_some_iff.1 hv).1
      have hy : xs[i]? = some xs[i] := List.getElem?_eq_getElem hi
      exact ⟨xs[i], hy, one_cell h (ones_mem h1 (List.mem_of_getElem? hv)) (hh i v _ hv hy), hh i v _ hv hy⟩
  | v y => injection hc with hc; subst hc; exact single _ _ rfl hr h1
  | sl c r => injection hc with hc; subst hc; exact single _ _ rfl hr h1
  | own i g => injection hc with hc; subst hc; exact single _ _ rfl hr h1
  | ptr i g j k => injection hc with hc; subst hc; exact single _ _ rfl hr h1
  | rptr r k => injection hc with hc; subst hc; exact single _ _ rfl hr h1
  | clo f r => injection hc with hc; subst hc; exact single _ _ rfl hr h1
  | obj i g => injection hc with hc; subst hc; exact single _ _ rfl hr h1
  | osub i g lo hi => injection hc with hc; subst hc; exact single _ _ rfl hr h1
  | rmap r => injection hc with hc; subst hc; exact single _ _ rfl hr h1

/-- a new object -/
theorem done_new {g : Nat → Nat} {id : Nat} {To : TO} {T : TypeId} {box : Bool} {sz : Nat} {rows : List (List V)} {cur : Array Value} {x : Value} (hT : kindOk To T (.slice (some ⟨w.heap.size, 0, none⟩) rows.length rows.length) box) (hid : id / 16 = d) (hgen : ∀ l0, G id = some l0 → l0.gen < g id)
    (h : RelAt c st a w R G) (hsz : 0 < sz) (hcur : cur.size = rows.length * sz)
    (hmax : rows.length ≤ maxLen) (hrows : RowsR w R G cur.toList sz rows)
    (hr : (execOp a.eval o).run P w = .ok (.value x) (w.alloc (.cells cur T)))
    (hu : ∀ G', G' id = some ⟨g id, sz, .slice (some ⟨w.heap.size, 0, none⟩) rows.length rows.length, box, none⟩ → RV (w.alloc (.cells cur T)) R G' u x) :
    Done P c st a w G o Q d u [(id, some ⟨g id, To, sz, rows⟩)] := by
  intro next hn
  have hgb := World.grownBy_alloc w (.cells cur T) none
  have hle : Gle G (upd G id (some ⟨g id, sz, .slice (some ⟨w.heap.size, 0, none⟩) rows.length rows.length, box, none⟩)) := fun k m hm => by
    by_cases hk : k = id
    · subst hk; exact ⟨_, upd_same _ _ _, .inr (hgen m hm)⟩
    · exact ⟨m, by rw [upd_ne _ _ hk]; exact hm, .inl (SameL.refl _)⟩
  have hR : RelAt c { st with H := upd st.H id (some ⟨g id, To, sz, rows⟩) } a (w.alloc (.cells cur T)) R (upd G id (some ⟨g id, sz, .slice (some ⟨w.heap.size, 0, none⟩) rows.length rows.length, box, none⟩)) := by
    refine h.set (row := none) hgb hT (by simp) (fun l0 h0 => .inr (hgen l0 h0)) hsz (xs := cur.toList) ?_ ?_ ?_
    · refine ⟨by simpa using hcur, .inr ⟨w.heap.size, rows.length, cur, rfl, Nat.zero_le _, heap_alloc_new w _, Nat.le_refl _, hmax, hcur, ?_⟩⟩
      rw [List.take_of_length_le (by simp [hcur])]
    · exact hrows.mono (fun b hb => ⟨hb, hgb.block b (h.lt b hb) (by simp)⟩) hle
    · intro b hb
      simp [Value.ownBlock] at hb
      subst hb
      exact .inr (h.newBlk (Nat.le_refl _) id)
  refine wp_value hr (hn x _ R _ hR (hu _ (upd_same _ _ _)) ?_)
  intro k hk
  rw [upd_ne _ _ (fun e => hk (by rw [e]; exact hid))]
/-- a new map -/
theorem q_mkm {g : Nat → Nat} {id : Nat} {t : TypeId} (hid : id / 16 = d) (hgen : ∀ l0, G id = some l0 → l0.gen < g id) (ho : o.op = .makeMap t none) (h : RelAt c st a w R G) : Done P c st a w G o Q d (.obj id (g id)) [(id, some ⟨g id, .q (mapI []), 0, []⟩)] := by
  intro next hn
  have hgb := World.grownBy_alloc w (.map #[] 0) none
  have hr : (execOp a.eval o).run P w = .ok (.value (.map (some w.heap.size))) (w.alloc (.map #[] 0)) := by
    unfold execOp; rw [ho]; simp [Instr.makeMap]
  refine wp_value hr (hn (.map (some w.heap.size)) _ R (upd G id (some ⟨g id, 0, .map (some w.heap.size), true, some fun k => k = w.heap.size⟩)) ?_ ?_ ?_)
  · refine h.setG (e := ⟨g id, .q (mapI []), 0, []⟩) (row := none) hgb (by simp) (fun l0 h0 => .inr (hgen l0 h0)) rfl ?_ ?_
    · exact ⟨_, rfl, rfl, rfl, w.heap.size, 0, #[], rfl, heap_alloc_new w _, rfl, fun _ => Iff.rfl, fun i e p h1 => by simp at h1⟩
    · intro b hb
      have hb : b = w.heap.size := hb
      subst hb
      exact .inr (h.newBlk (Nat.le_refl _) id)
  · exact .obj id (g id) _ (upd_same _ _ _) (Nat.le_refl _) _ (fun _ => rfl)
  · intro k hk
    rw [upd_ne _ _ (fun e => hk (by rw [e]; exact hid))]
theorem q_box {g : Nat → Nat} {id : Nat} {T : TypeId} {x : Operand} {cs : List V} (hid : id / 16 = d) (hgen : ∀ l0, G id = some l0 → l0.gen < g id)
    (ho : o.op = .box T x) (h : RelAt c st a w R G) (hc : cellsV (val st.env x) = some cs) (h0 : 0 < cs.length) (h1 : ones st.H cs) :
    Done P c st a w G o Q d (.ptr id (g id) 0 0) [(id, some ⟨g id, .b T, cs.length, [cs]⟩)] := by
  obtain ⟨hl, hcells⟩ := cells_rel h hc (h.val x) h1
  refine done_new (cur := (a.eval x).cells) (x := .pointer (some ⟨w.heap.size, 0, none⟩)) (.inr ⟨rfl, rfl, _, rfl⟩) hid hgen h h0 (by simp at hl ⊢; exact hl) (by simp [maxLen]) ⟨by simp, ?_⟩ ?_ ?_
  · intro i j row u h2 h3
    cases i with
    | zero => simp at h2; subst h2; simpa using hcells j u h3
    | succ i => simp at h2
  · unfold execOp; rw [ho]; simp [Instr.box, newVar, newRow]
  · intro G' hG'
    exact .ptr _ _ _ _ _ hG' (Nat.le_refl _) _ fun _ => ⟨w.heap.size, rfl, by simp⟩
theorem q_zbox {g : Nat → Nat} {id : Nat} {T : TypeId} {i : TypeInfo} {z : Value} (hid : id / 16 = d) (hgen : ∀ l0, G id = some l0 → l0.gen < g id)
    (ho : o.op = .alloc T) (hi : P.info? T = some i) (hz : i.zero = some z) (h : RelAt c st a w R G) (h0 : 0 < z.cells.size) (h1 : cellsOk z = true) :
    Done P c st a w G o Q d (.ptr id (g id) 0 0) [(id, some ⟨g id, .b T, z.cells.toList.length, [z.cells.toList.map .v]⟩)] := by
  refine done_new (cur := z.cells) (x := .pointer (some ⟨w.heap.size, 0, none⟩)) (.inr ⟨rfl, rfl, _, rfl⟩) hid hgen h (by simp; exact h0) (by simp) (by simp [maxLen]) ⟨by simp, ?_⟩ ?_ ?_
  · intro k j row u h2 h3
    cases k with
    | zero =>
      simp at h2; subst h2
      rw [List.getElem?_map] at h3
      cases hq : z.cells.toList[j]? with
      | none => rw [hq] at h3; cases h3
      | some y =>
        rw [hq] at h3; simp at h3; subst h3
        refine ⟨y, by simpa using hq, ?_, .v y⟩
        unfold cellsOk at h1
        exact List.all_eq_true.1 h1 y (List.mem_of_getElem? hq)
    | succ k => simp at h2
  · unfold execOp; rw [ho]; simp [Instr.alloc, zeroValue, typeInfo, hi, hz, newVar, newRow]
  · intro G' hG'
    exact .ptr _ _ _ _ _ hG' (Nat.le_refl _) _ fun _ => ⟨w.heap.size, rfl, by simp⟩
end
end Go.Proofs.Ytjhdlcmecbngkaa
/- The operations that only read, or compute, do what is said of them. No program in sight. -/
namespace Go.Proofs.Ytjhdlcmecbngkaa
open Go.RowKit
set_option linter.unusedVariables false
section
variable {P : Program} {c : Ctx} {st : St} {a : Act} {w w' : World} {R : Nat → Prop} {G : Nat → Option Loc} {o : Oper} {Q : Exit → Act → World → Prop} {d : Nat} {u : V} {dH : List (Nat × Option Ent)}
theorem add_row (b k j : Nat) : (⟨b, k, none⟩ : Addr).add j = ⟨b, k + j, none⟩ := by unfold Addr.add; split <;> simp_all
/-- reading some cells, one by one or together -/
theorem run_loadVar {t : TypeId} {i : TypeInfo} {agg : Bool} {sz : Nat} (hi : P.info? t = some i) (ha : aggT P t = some agg) (hsz : sz = if agg then i.size else 1) {b k : Nat} {xs : List Value} (hl : xs.length = sz)
    (hc : ∀ j x, xs[j]? = some x → w.cell? ⟨b, k + j, none⟩ = some x) : (loadVar t ⟨b, k, none⟩).run P w = .ok (if agg then .agg xs.toArray else xs.headD undef) w := by
  have hlc := run_loadCells_list (P := P) w ⟨b, k, none⟩ xs (fun j v hv => by rw [add_row]; exact hc j v hv)
  unfold aggT at ha
  unfold loadVar isAgg
  cases hu : P.underlying t with
  | none => rw [hu] at ha; cases ha
  | some dsc =>
    rw [hu] at ha
    cases agg with
    | true =>
      have hs : xs.length = i.size := by rw [hl, hsz]; rfl
      have hagg : (match dsc with | .struct _ | .array _ _ => true | _ => false) = true := by
        cases dsc <;> simp at ha <;> rfl
      cases dsc <;> simp at ha <;> simp [run_underlying hu, sizeOf, typeInfo, hi, ← hs, hlc]
    | false =>
      have hs : xs.length = 1 := by rw [hl, hsz]; rfl
      match xs, hs with
      | [x], _ =>
        have hx := hc 0 x rfl
        simp only [Nat.add_zero] at hx
        cases dsc <;> simp at ha <;> simp [run_underlying hu, hx]
theorem mk_rel {agg : Bool} {us : List V} {xs : List Value} (hl : us.length = xs.length) (h1 : agg = false → us.length = 1) (h : ∀ (i : Nat) (u : V) (x : Value), us[i]? = some u → xs[i]? = some x → RV w R G u x) :
    RV w R G (mkV agg us) (if agg then .agg xs.toArray else xs.headD undef) := by
  cases agg with
  | true => exact .agg us xs hl h
  | false =>
    have := h1 rfl
    match us, xs, hl, this with
    | [u], [x], _, _ => exact h 0 u x rfl rfl
theorem dropTake {α : Type} (row : List α) (off sz : Nat) (i : Nat) (hi : i < sz) : ((row.drop off).take sz)[i]? = row[off + i]? := by
  rw [List.getElem?_take_of_lt hi, List.getElem?_drop]
theorem q_load_r {t : TypeId} {x : Operand} {i : TypeInfo} {agg : Bool} {sz : Nat} {row : List V} {off : Nat} (ho : o.op = .load t x) (hi : P.info? t = some i) (ha : aggT P t = some agg) (hsz : sz = if agg then i.size else 1)
    (h : RelAt c st a w R G) (hv : val st.env x = .rptr row off) (hb : off + sz ≤ row.length) : Done P c st a w G o Q d (mkV agg ((row.drop off).take sz)) [] := by
  have hx := h.val x
  rw [hv] at hx
  generalize hax : a.eval x = ax at hx
  cases hx with
  | rptr row off b k f hR hcell hh =>
    have hxl : ((List.range sz).map fun j => f (off + j)).length = sz := by simp
    have hrun := run_loadVar (w := w) (xs := (List.range sz).map fun j => f (off + j)) (b := b) (k := k + off) hi ha hsz hxl (fun j x hj => by
      have hjs : j < sz := by have := (List.getElem?_eq_some_iff.1 hj).1; simpa using this
      have e : ((List.range sz).map fun j => f (off + j))[j]? = some (f (off + j)) := by simp [hjs]
      rw [e] at hj; injection hj with hj; subst hj
      have hr : row[off + j]? = some (row[off + j]'(by omega)) := List.getElem?_eq_getElem (by omega)
      have := hcell (off + j) _ hr
      rwa [← Nat.add_assoc] at this)
    refine done_pure h (x := if agg then .agg ((List.range sz).map fun j => f (off + j)).toArray else ((List.range sz).map fun j => f (off + j)).headD undef) ?_ ?_
    · unfold execOp; rw [ho]; exact run_v _ (by rw [hax]; simpa [Instr.loadAt, Instr.sureAddr] using hrun)
    · refine mk_rel (by simp; omega) (fun e => by subst e; simp at hsz; subst hsz; simp; omega) ?_
      intro j u x h1 h2
      have hjs : j < sz := by have := (List.getElem?_eq_some_iff.1 h2).1; simpa using this
      rw [dropTake _ _ _ _ hjs] at h1
      have e : ((List.range sz).map fun j => f (off + j))[j]? = some (f (off + j)) := by simp [hjs]
      rw [e] at h2; injection h2 with h2; subst h2
      exact hh (off + j) u h1
theorem own_val {e : Ent} {l : Loc} {xs : List Value} {T : TypeId} (h : w.ownsRow 0 T e.sz l.val e.rows.length xs) : (l.val = .slice none 0 0 ∧ e.rows = []) ∨ ∃ b cap, l.val = .slice (some ⟨b, 0, none⟩) e.rows.length cap ∧ l.val.ownBlock = some b := by
  rcases h.2 with ⟨h1, h2⟩ | ⟨b, cap, cur, h1, _⟩
  · exact .inl ⟨h1, List.eq_nil_of_length_eq_zero h2⟩
  · exact .inr ⟨b, cap, h1, by rw [h1]; rfl⟩
theorem own_cell {e : Ent} {l : Loc} {xs : List Value} {b : Nat} {T : TypeId} (h : w.ownsRow 0 T e.sz l.val e.rows.length xs) (hb : l.val.ownBlock = some b) {j : Nat} {x : Value} (hx : xs[j]? = some x) : w.cell? ⟨b, j, none⟩ = some x := by
  have := h.cells hb j x hx
  rwa [add_row, Nat.zero_add] at this
theorem q_load_p {t : TypeId} {x : Operand} {i : TypeInfo} {agg : Bool} {sz : Nat} {id gen k off : Nat} {e : Ent} {row : List V} (ho : o.op = .load t x) (hi : P.info? t = some i) (ha : aggT P t = some agg) (hsz : sz = if agg then i.size else 1)
    (h : RelAt c st a w R G) (hv : val st.env x = .ptr id gen k off) (he : st.H id = some e) (hg : e.gen = gen) (hrow : e.rows[k]? = some row) (hb : off + sz ≤ row.length) : Done P c st a w G o Q d (mkV agg ((row.drop off).take sz)) [] := by
  obtain ⟨l, xs, b, T0, g1, g2, g3, g4, g5, g6, hbk, hax, hT0, hop0⟩ := h.objP (hv ▸ h.val x) he hg hrow
  have hcells : ∀ j, j < sz → ∃ y, xs[k * e.sz + off + j]? = some y ∧ RV w R G (row[off + j]?.getD .any) y := fun j hj => by
    have hr : row[off + j]? = some (row[off + j]'(by omega)) := List.getElem?_eq_getElem (by omega)
    obtain ⟨y, h1, _, h2⟩ := g6.2 k (off + j) row _ hrow hr
    exact ⟨y, by rw [Nat.add_assoc]; exact h1, by rw [hr]; exact h2⟩
  have hxl : ((xs.drop (k * e.sz + off)).take sz).length = sz := by
    rcases Nat.eq_zero_or_pos sz with h0 | h0
    · simp [h0]
    · obtain ⟨y, h1, _⟩ := hcells (sz - 1) (by omega)
      have := (List.getElem?_eq_some_iff.1 h1).1
      simp; omega
  have hrun := run_loadVar (w := w) (xs := (xs.drop (k * e.sz + off)).take sz) (b := b) (k := k * l.sz + off) hi ha hsz hxl (fun j y hj => by
    have hjs : j < sz := by have := (List.getElem?_eq_some_iff.1 hj).1; omega
    rw [dropTake _ _ _ _ hjs] at hj
    rw [g3]
    exact own_cell g5 hbk hj)
  refine done_pure h (x := if agg then .agg ((xs.drop (k * e.sz + off)).take sz).toArray else ((xs.drop (k * e.sz + off)).take sz).headD undef) ?_ ?_
  · unfold execOp; rw [ho]; exact run_v _ (by rw [hax]; simpa [Instr.loadAt, Instr.sureAddr] using hrun)
  · refine mk_rel (by rw [hxl]; simp; omega) (fun e => by subst e; simp at hsz; subst hsz; simp; omega) ?_
    intro j u y h1 h2
    have hjs : j < sz := by have := (List.getElem?_eq_some_iff.1 h2).1; omega
    rw [dropTake _ _ _ _ hjs] at h1 h2
    obtain ⟨y', h3, h4⟩ := hcells j hjs
    rw [h3] at h2; injection h2 with h2; subst h2
    rw [h1] at h4; exact h4

theorem run_int {op : BinOp} {t : TypeId} {k k' : IntKind} {x y : Int} {r : Value} (hk : intK op k x k' y (fun x => x = r)) : (binOp op t (.int k x) (.int k' y)).run P w = .ok r w := by
  cases op <;> first
    | exact hk.elim
    | (obtain ⟨rfl, c, rfl, rfl⟩ := hk; simp [binOp, Op.intArith]; done)
    | (obtain ⟨rfl, c, rfl, rfl⟩ := hk; simp [binOp, Op.intBits]; done)
    | (obtain ⟨rfl, h0, c, rfl, rfl⟩ := hk; simp [binOp, Op.intDiv, h0]; done)
    | (obtain ⟨h0, c, rfl, rfl⟩ := hk; simp [binOp, Op.shift, Int.not_lt.2 h0]; done)
    | (obtain ⟨rfl, rfl⟩ := hk; simp [binOp, Op.intCmp]; done)
theorem run_str {op : BinOp} {t : TypeId} {x y : ByteArray} {r : Value} (hk : strK op x y (fun x => x = r)) : (binOp op t (.string x) (.string y)).run P w = .ok r w := by
  cases op <;> first
    | exact hk.elim
    | (obtain ⟨h0, rfl⟩ := hk
       have : ¬ ((x.size + y.size : Nat) : Int) > IntKind.i64.max := by
         have e : IntKind.i64.max = 9223372036854775807 := by rfl
         rw [e]; exact Int.not_lt.2 h0
       simp only [binOp, Op.stringOp]
       rw [if_neg this]; rfl)
    | (subst hk; simp [binOp, Op.stringOp]; done)
theorem run_bin {op : BinOp} {t : TypeId} {p q r : Value} (hk : binK op p q (fun x => x = r)) : (binOp op t p q).run P w = .ok r w := by
  unfold binK at hk
  split at hk
  · exact run_int hk
  · exact run_str hk
  · exact hk.elim
theorem run_guard {op : BinOp} {t : TypeId} {x y : Operand} {p q : Value} (h : (∃ k n, p = .int k n) ∨ (∃ s, p = .string s) ∨ ∃ b, p = .bool b) : (eqGuard op t x y p q).run P w = .ok () w := by
  unfold eqGuard
  rcases h with ⟨k, n, rfl⟩ | ⟨s, rfl⟩ | ⟨b, rfl⟩ <;> cases op <;> simp
theorem binK_left {op : BinOp} {p q : Value} {K : Value → Prop} (h : binK op p q K) : (∃ k n, p = .int k n) ∨ (∃ s, p = .string s) ∨ ∃ b, p = .bool b := by
  unfold binK at h
  split at h <;> first | exact .inl ⟨_, _, rfl⟩ | exact .inr (.inl ⟨_, rfl⟩) | exact h.elim
theorem q_bin {op : BinOp} {t t' : TypeId} {x y : Operand} {p q r : Value} (ho : o.op = .binOp op t x y t') (h : RelAt c st a w R G) (hx : val st.env x = .v p) (hy : val st.env y = .v q) (hk : binK op p q (fun x => x = r)) :
    Done P c st a w G o Q d (.v r) [] := by
  have e1 : a.eval x = p := rv_v (hx ▸ h.val x)
  have e2 : a.eval y = q := rv_v (hy ▸ h.val y)
  refine done_pure h ?_ (.v r)
  unfold execOp; rw [ho]
  refine run_v _ ?_
  simp only [e1, e2, Sem.run_bind, run_guard (binK_left hk), Result.andThen_ok, run_bin hk]
theorem q_eqb {op : BinOp} {t t' : TypeId} {x y : Operand} {p q : Bool} {neg : Bool} (ho : o.op = .binOp op t x y t') (ht : P.underlying t = some .bool) (hop : op = if neg then .neq else .eql) (h : RelAt c st a w R G) (hx : val st.env x = .v (.bool p)) (hy : val st.env y = .v (.bool q)) :
    Done P c st a w G o Q d (.v (.bool (if neg then p != q else p == q))) [] := by
  have e1 : a.eval x = .bool p := rv_v (hx ▸ h.val x)
  have e2 : a.eval y = .bool q := rv_v (hy ▸ h.val y)
  refine done_pure h ?_ (.v _)
  unfold execOp; rw [ho]
  refine run_v _ ?_
  simp only [e1, e2, Sem.run_bind, run_guard (.inr (.inr ⟨_, rfl⟩)), Result.andThen_ok]
  subst hop
  cases neg
  · exact run_eql_bool w t p q ht
  · have := run_neq_bool (P := P) w t p q ht
    exact this
theorem q_not {t : TypeId} {x : Operand} {p : Bool} (ho : o.op = .unOp .not t x) (h : RelAt c st a w R G) (hx : val st.env x = .v (.bool p)) : Done P c st a w G o Q d (.v (.bool (!p))) [] := by
  have e1 : a.eval x = .bool p := rv_v (hx ▸ h.val x)
  refine done_pure h ?_ (.v _)
  unfold execOp; rw [ho]; simp [e1, Op.unary]
theorem q_neg {t : TypeId} {x : Operand} {k : IntKind} {n : Int} (ho : o.op = .unOp .neg t x) (h : RelAt c st a w R G) (hx : val st.env x = .v (.int k n)) : Done P c st a w G o Q d (.v (.int k (k.wrap (0 - n)))) [] := by
  have e1 : a.eval x = .int k n := rv_v (hx ▸ h.val x)
  refine done_pure h ?_ (.v _)
  unfold execOp; rw [ho]; simp [e1, Op.unary, Op.intArith]
theorem q_conv {s t : TypeId} {x : Operand} {k k' : IntKind} {n : Int} (ho : o.op = .convert s t x) {dsc : TypeDesc} (hs : P.underlying s = some dsc) (ht : P.underlying t = some (.int k)) (h : RelAt c st a w R G) (hx : val st.env x = .v (.int k' n)) : Done P c st a w G o Q d (.v (.int k (k.wrap n))) [] := by
  have e1 : a.eval x = .int k' n := rv_v (hx ▸ h.val x)
  refine done_pure h ?_ (.v _)
  unfold execOp; rw [ho]
  refine run_v _ ?_
  simp [e1, convert, run_underlying hs, run_underlying ht, Conv.intToInt]
theorem q_convS {s t : TypeId} {x : Operand} {b : ByteArray} (ho : o.op = .convert s t x) {dsc : TypeDesc} (hs : P.underlying s = some .string) (ht : P.underlying t = some .string) (h : RelAt c st a w R G) (hx : val st.env x = .v (.string b)) : Done P c st a w G o Q d (.v (.string b)) [] := by
  have e1 : a.eval x = .string b := rv_v (hx ▸ h.val x)
  refine done_pure h ?_ (.v _)
  unfold execOp; rw [ho]
  refine run_v _ ?_
  simp [e1, convert, run_underlying hs, run_underlying ht]
theorem q_ext {x : Operand} {i : Nat} {us : List V} (ho : o.op = .extract x i) (h : RelAt c st a w R G) (hx : val st.env x = .tup us) (hu : us[i]? = some u) : Done P c st a w G o Q d u [] := by
  have hr := h.val x
  rw [hx] at hr
  generalize hax : a.eval x = ax at hr
  cases hr with
  | tup us xs hl hh =>
    have hi : i < xs.length := by rw [← hl]; exact (List.getElem?_eq_some_iff.1 hu).1
    have hy : xs[i]? = some xs[i] := List.getElem?_eq_getElem hi
    refine done_pure h (x := xs[i]) ?_ (hh i u _ hu hy)
    unfold execOp; rw [ho]
    refine run_v _ ?_
    simp [hax, Instr.extract, hy]
theorem q_mkfn {f : FuncId} {first caps : Array Operand} (ho : o.op = .makeFunc (.func f) first caps) (hf : first.isEmpty = true) (h : RelAt c st a w R G) : Done P c st a w G o Q d (.clo f (caps.toList.map (val st.env))) [] := by
  have hf' : first = #[] := by simpa using hf
  refine done_pure h (x := .func (.func f) #[] (caps.toList.map a.eval).toArray) ?_ (.clo f (caps.toList.map (val st.env)) (caps.toList.map a.eval) (by simp) ?_)
  · unfold execOp; rw [ho, hf']
    have e : (caps.toList.map a.eval).toArray = caps.map a.eval := by apply Array.ext'; simp
    rw [e]; simp [Instr.makeFunc]
  · intro i u x h1 h2
    rw [List.getElem?_map] at h1 h2
    cases hq : caps.toList[i]? with
    | none => rw [hq] at h1; cases h1
    | some y => rw [hq] at h1 h2; simp at h1 h2; subst h1 h2; exact h.val y
theorem q_fldA_r {t : TypeId} {x : Operand} {k : Nat} {fs : Array Field} {f : Field} {i : TypeInfo} {row : List V} {off : Nat} (ho : o.op = .fieldAddr t x k) (ht : P.underlying t = some (.struct fs)) (hf : fs[k]? = some f) (hi : P.info? f.type = some i) (hz : 0 < i.size)
    (h : RelAt c st a w R G) (hv : val st.env x = .rptr row off) : Done P c st a w G o Q d (.rptr row (off + f.offset)) [] := by
  have hx := h.val x
  rw [hv] at hx
  generalize hax : a.eval x = ax at hx
  cases hx with
  | rptr row off b k' g hR hcell hh =>
    refine done_pure h (x := .pointer (some ⟨b, k' + (off + f.offset), none⟩)) ?_ (.rptr _ _ _ _ g hR hcell hh)
    unfold execOp; rw [ho]
    refine run_v _ ?_
    have : i.size ≠ 0 := by omega
    simp [hax, Instr.fieldAt, run_underlying ht, hf, Instr.sureAddr, fieldPlace, sizeOf, typeInfo, hi, this, add_row, Nat.add_assoc]
theorem q_fldA_p {t : TypeId} {x : Operand} {k : Nat} {fs : Array Field} {f : Field} {i : TypeInfo} {id gen j off : Nat} {e : Ent} (ho : o.op = .fieldAddr t x k) (ht : P.underlying t = some (.struct fs)) (hf : fs[k]? = some f) (hi : P.info? f.type = some i) (hz : 0 < i.size)
    (h : RelAt c st a w R G) (hv : val st.env x = .ptr id gen j off) (he : st.H id = some e) (hg : e.gen = gen) : Done P c st a w G o Q d (.ptr id gen j (off + f.offset)) [] := by
  obtain ⟨l, b, g1, g2, g3, hbk, hax⟩ := h.objB (hv ▸ h.val x) he hg
  refine done_pure h (x := .pointer (some ⟨b, j * l.sz + (off + f.offset), none⟩)) ?_ (.ptr _ _ _ _ l g1 (by omega) _ fun _ => ⟨b, hbk, rfl⟩)
  unfold execOp; rw [ho]
  refine run_v _ ?_
  have : i.size ≠ 0 := by omega
  simp [hax, Instr.fieldAt, run_underlying ht, hf, Instr.sureAddr, fieldPlace, sizeOf, typeInfo, hi, this, add_row, Nat.add_assoc]
theorem q_len_s {arg : Operand} {t : TypeId} {cl : Call} {s : ByteArray} (ho : o.op = .call cl) (hc : cl.callee = .builtin .len) (ha : cl.args.toList = [arg]) (hat : cl.argTypes.toList = [t]) (ht : P.underlying t = some .string) (h : RelAt c st a w R G) (hx : val st.env arg = .v (.string s)) :
    Done P c st a w G o Q d (.v (.int .i64 s.size)) [] := by
  have e1 : a.eval arg = .string s := rv_v (hx ▸ h.val arg)
  have ha' : cl.args = #[arg] := by apply Array.ext'; simpa using ha
  have hat' : cl.argTypes = #[t] := by apply Array.ext'; simpa using hat
  refine done_pure h ?_ (.v _)
  unfold execOp; rw [ho]
  simp [resolve, hc, ha', hat', invoke, builtin, Builtin.len_, run_underlying ht, e1, goInt]
theorem q_len_l {arg : Operand} {t e : TypeId} {cl : Call} {n cap : Nat} {b : Option Addr} (ho : o.op = .call cl) (hc : cl.callee = .builtin .len) (ha : cl.args.toList = [arg]) (hat : cl.argTypes.toList = [t]) (ht : P.underlying t = some (.slice e)) (h : RelAt c st a w R G) (e1 : a.eval arg = .slice b n cap) :
    Done P c st a w G o Q d (.v (.int .i64 n)) [] := by
  have ha' : cl.args = #[arg] := by apply Array.ext'; simpa using ha
  have hat' : cl.argTypes = #[t] := by apply Array.ext'; simpa using hat
  refine done_pure h ?_ (.v _)
  unfold execOp; rw [ho]
  simp [resolve, hc, ha', hat', invoke, builtin, Builtin.len_, run_underlying ht, e1, goInt]
theorem q_max {x y : Operand} {cl : Call} {k k' : IntKind} {p q : Int} (ho : o.op = .call cl) (hc : cl.callee = .builtin .max) (ha : cl.args.toList = [x, y]) (h : RelAt c st a w R G) (hx : val st.env x = .v (.int k p)) (hy : val st.env y = .v (.int k' q)) :
    Done P c st a w G o Q d (.v (.int k (max p q))) [] := by
  have e1 : a.eval x = .int k p := rv_v (hx ▸ h.val x)
  have e2 : a.eval y = .int k' q := rv_v (hy ▸ h.val y)
  have ha' : cl.args = #[x, y] := by apply Array.ext'; simpa using ha
  have hm : max p q = if q > p then q else p := by split <;> omega
  rw [hm]
  refine done_pure h ?_ (.v _)
  unfold execOp; rw [ho]
  simp [resolve, hc, ha', invoke, builtin, Builtin.max_, Builtin.max2, e1, e2]
theorem q_min {x y : Operand} {cl : Call} {k k' : IntKind} {p q : Int} (ho : o.op = .call cl) (hc : cl.callee = .builtin .min) (ha : cl.args.toList = [x, y]) (h : RelAt c st a w R G) (hx : val st.env x = .v (.int k p)) (hy : val st.env y = .v (.int k' q)) :
    Done P c st a w G o Q d (.v (.int k (min p q))) [] := by
  have e1 : a.eval x = .int k p := rv_v (hx ▸ h.val x)
  have e2 : a.eval y = .int k' q := rv_v (hy ▸ h.val y)
  have ha' : cl.args = #[x, y] := by apply Array.ext'; simpa using ha
  have hm : min p q = if q < p then q else p := by split <;> omega
  rw [hm]
  refine done_pure h ?_ (.v _)
  unfold execOp; rw [ho]
  simp [resolve, hc, ha', invoke, builtin, Builtin.min_, Builtin.min2, e1, e2]
end
end Go.Proofs.Ytjhdlcmecbngkaa
/- More operations: indexes, slices, parts of structs, new slices. No program in sight. -/
namespace Go.Proofs.Ytjhdlcmecbngkaa
open Go.RowKit
set_option linter.unusedVariables false
section
variable {P : Program} {c : Ctx} {st : St} {a : Act} {w w' : World} {R : Nat → Prop} {G : Nat → Option Loc} {o : Oper} {Q : Exit → Act → World → Prop} {d : Nat} {u : V} {dH : List (Nat × Option Ent)}
theorem run_indexAt {t e : TypeId} {j : TypeInfo} {k : IntKind} {n : Nat} {b off len cap : Nat} (ht : P.underlying t = some (.slice e)) (hj : P.info? e = some j) (hn : n < len) :
    (Instr.indexAt t (.slice (some ⟨b, off, none⟩) len cap) (.int k (n : Int))).run P w = .ok (.pointer (some ⟨b, off + n * j.size, none⟩)) w := by
  simp [Instr.indexAt, asIntOf, run_underlying ht, hn, sizeOf, typeInfo, hj, add_row]
theorem q_idxA_s {t e : TypeId} {x y : Operand} {j : TypeInfo} {clip : Bool} {rows : List (List V)} {row : List V} {k : IntKind} {n : Nat} (ho : o.op = .indexAddr t x y) (ht : P.underlying t = some (.slice e)) (hj : P.info? e = some j)
    (h : RelAt c st a w R G) (hx : val st.env x = .sl clip rows) (hy : val st.env y = .v (.int k (n : Int))) (hrow : rows[n]? = some row) (hsz : row.length = j.size) : Done P c st a w G o Q d (.rptr row 0) [] := by
  have e2 : a.eval y = .int k (n : Int) := rv_v (hy ▸ h.val y)
  have hr := h.val x
  rw [hx] at hr
  have hn : n < rows.length := (List.getElem?_eq_some_iff.1 hrow).1
  generalize hax : a.eval x = ax at hr
  cases hr with
  | nil => simp at hn
  | sl clip rows b off cap sz f hR hcap hclip hs hcell hh =>
    have hsz' : sz = j.size := by rw [← hsz]; exact (hs row (List.mem_of_getElem? hrow)).symm
    refine done_pure h (x := .pointer (some ⟨b, (off + n * j.size) + 0, none⟩)) ?_ (.rptr row 0 b (off + n * j.size) (fun q => f n q) hR (fun q u hq => ?_) (fun q u hq => hh n q row u hrow hq))
    · unfold execOp; rw [ho]
      refine run_v _ ?_
      rw [hax, e2]
      exact run_indexAt ht hj hn
    · rw [← hsz']; exact hcell n q row u hrow hq
theorem q_idxA_o {t e : TypeId} {x y : Operand} {j : TypeInfo} {id gen : Nat} {en : Ent} {row : List V} {k : IntKind} {n : Nat} (ho : o.op = .indexAddr t x y) (ht : P.underlying t = some (.slice e)) (hj : P.info? e = some j)
    (h : RelAt c st a w R G) (hx : val st.env x = .own id gen) (hy : val st.env y = .v (.int k (n : Int))) (he : st.H id = some en) (hg : en.gen = gen) (hsz : en.sz = j.size) (hrow : en.rows[n]? = some row) : Done P c st a w G o Q d (.ptr id gen n 0) [] := by
  obtain ⟨l, xs, T0, g1, g2, g3, g4, g5, g6, hax, hT0, hop0, hbx0⟩ := h.objO (hx ▸ h.val x) he hg
  have e2 : a.eval y = .int k (n : Int) := rv_v (hy ▸ h.val y)
  have hn : n < en.rows.length := (List.getElem?_eq_some_iff.1 hrow).1
  rcases own_val g5 with ⟨_, h0⟩ | ⟨b, cap, hv, hb⟩
  · rw [h0] at hn; simp at hn
  · refine done_pure h (x := .pointer (some ⟨b, n * l.sz + 0, none⟩)) ?_ (.ptr _ _ _ _ l g1 (by omega) _ fun _ => ⟨b, hb, rfl⟩)
    unfold execOp; rw [ho]
    refine run_v _ ?_
    rw [hax, hv, e2, g3, hsz]
    simpa using run_indexAt (w := w) (off := 0) (b := b) (cap := cap) (k := k) ht hj hn
theorem q_idxS {t : TypeId} {x y : Operand} {s : ByteArray} {k : IntKind} {n : Nat} {ch : UInt8} (ho : o.op = .index t x y) (ht : P.underlying t = some .string) (h : RelAt c st a w R G) (hx : val st.env x = .v (.string s)) (hy : val st.env y = .v (.int k (n : Int))) (hc : s[n]? = some ch) :
    Done P c st a w G o Q d (.v (.int .u8 ch.toNat)) [] := by
  have e1 : a.eval x = .string s := rv_v (hx ▸ h.val x)
  have e2 : a.eval y = .int k (n : Int) := rv_v (hy ▸ h.val y)
  refine done_pure h ?_ (.v _)
  unfold execOp; rw [ho]
  refine run_v _ ?_
  rw [e1, e2]
  have h0 : (0 : Int) ≤ (n : Int) := by omega
  simp [Instr.index, asIntOf, run_underlying ht, hc]
theorem bound_eval (h : RelAt c st a w R G) {x : Operand} {k : IntKind} {n : Nat} (hx : val st.env x = .v (.int k (n : Int))) : a.eval x = .int k (n : Int) := rv_v (hx ▸ h.val x)
theorem run_sliceBounds {isS : Bool} {len cap : Nat} {lo hi mx : Option Operand} (h : RelAt c st a w R G) {l hh m : Nat} (hl : loV st.env lo l) (hhi : hiV st.env len hi hh) (hm : (mx = none ∧ m = cap) ∨ ∃ y k, mx = some y ∧ hi.isSome = true ∧ val st.env y = .v (.int k (m : Int))) (h1 : l ≤ hh) (h2 : hh ≤ m) (h3 : m ≤ cap) :
    (Instr.sliceBounds isS len cap (lo.map a.eval) (hi.map a.eval) (mx.map a.eval)).run P w = .ok (l, hh, m) w := by
  have b : ∀ (k : IntKind) (n y : Nat) (code : BoundsCode), n ≤ y → (Instr.sliceBound (.int k (n : Int)) y code).run P w = .ok n w := fun k n y code hny => by
    have := run_sliceBound (P := P) (w := w) k (n : Int) y code (by omega) (by omega)
    simpa using this
  unfold Instr.sliceBounds
  rcases hm with ⟨rfl, rfl⟩ | ⟨y, k, rfl, hs, hy⟩
  · cases hi with
    | none =>
      simp only [hiV] at hhi
      subst hhi
      cases lo with
      | none => simp only [loV] at hl; subst hl; simp
      | some x => obtain ⟨kl, hx⟩ := hl; have ex := bound_eval h hx; simp [ex, b _ _ _ _ h1]
    | some z =>
      obtain ⟨kh, hz⟩ := hhi
      have ez := bound_eval h hz
      cases lo with
      | none => simp only [loV] at hl; subst hl; simp [ez, b _ _ _ _ h2]
      | some x => obtain ⟨kl, hx⟩ := hl; have ex := bound_eval h hx; simp [ex, ez, b _ _ _ _ h1, b _ _ _ _ h2]
  · have ey := bound_eval h hy
    cases hi with
    | none => simp at hs
    | some z =>
      obtain ⟨kh, hz⟩ := hhi
      have ez := bound_eval h hz
      cases lo with
      | none => simp only [loV] at hl; subst hl; simp [ey, ez, b _ _ _ _ h2, b _ _ _ _ h3]
      | some x => obtain ⟨kl, hx⟩ := hl; have ex := bound_eval h hx; simp [ex, ey, ez, b _ _ _ _ h1, b _ _ _ _ h2, b _ _ _ _ h3]
theorem q_slcS {t : TypeId} {x : Operand} {lo hi : Option Operand} {s : ByteArray} {l hh : Nat} (ho : o.op = .slice t x lo hi none) (ht : P.underlying t = some .string) (h : RelAt c st a w R G) (hx : val st.env x = .v (.string s)) (hl : loV st.env lo l) (hhi : hiV st.env s.size hi hh) (h1 : l ≤ hh) (h2 : hh ≤ s.size) :
    Done P c st a w G o Q d (.v (.string (s.extract l hh))) [] := by
  have e1 : a.eval x = .string s := rv_v (hx ▸ h.val x)
  refine done_pure h ?_ (.v _)
  unfold execOp; rw [ho]
  refine run_v _ ?_
  have hb := run_sliceBounds (P := P) (isS := false) (cap := s.size) (mx := none) h hl hhi (.inl ⟨rfl, rfl⟩) h1 h2 (Nat.le_refl _)
  simp only [Option.map_none] at hb
  simp [Instr.sliceAt, run_underlying ht, Instr.slice, e1, hb]
theorem rv_sub {clip' : Bool} {rows : List (List V)} {b off sz : Nat} {f : Nat → Nat → Value} (hR : R b) (hs : ∀ row ∈ rows, row.length = sz)
    (hcell : ∀ (i j : Nat) (row : List V) (u : V), rows[i]? = some row → row[j]? = some u → w.cell? ⟨b, off + i * sz + j, none⟩ = some (f i j))
    (hh : ∀ (i j : Nat) (row : List V) (u : V), rows[i]? = some row → row[j]? = some u → RV w R G u (f i j)) {l k m : Nat} (h1 : l ≤ k) (h2 : k ≤ rows.length) (h3 : k ≤ m) (hc : clip' = true → m = k) :
    RV w R G (.sl clip' ((rows.drop l).take (k - l))) (.slice (if m = l then some ⟨b, off, none⟩ else some ⟨b, off + l * sz, none⟩) (k - l) (m - l)) := by
  by_cases h0 : k = l
  · have e : k - l = 0 := by omega
    rw [e, List.take_zero]
    exact .nil _ _ _ fun e2 => by have := hc e2; omega
  · rw [if_neg (by omega)]
    have hlen : ((rows.drop l).take (k - l)).length = k - l := by simp; omega
    have key := RV.sl (w := w) (R := R) (G := G) clip' ((rows.drop l).take (k - l)) b (off + l * sz) (m - l) sz (fun i j => f (l + i) j) hR (by omega) (fun e2 => by have := hc e2; omega)
      (fun row hrow => hs row (List.mem_of_mem_drop (List.mem_of_mem_take hrow))) ?_ ?_
    · rw [hlen] at key; exact key
    · intro i j row u hr hu
      have hi : i < k - l := by rw [← hlen]; exact (List.getElem?_eq_some_iff.1 hr).1
      rw [dropTake _ _ _ _ hi] at hr
      have := hcell (l + i) j row u hr hu
      rw [Nat.add_mul, ← Nat.add_assoc] at this
      exact this
    · intro i j row u hr hu
      have hi : i < k - l := by rw [← hlen]; exact (List.getElem?_eq_some_iff.1 hr).1
      rw [dropTake _ _ _ _ hi] at hr
      exact hh (l + i) j row u hr hu
theorem q_slcL {t e : TypeId} {x : Operand} {lo hi mx : Option Operand} {j : TypeInfo} {clip clip' : Bool} {rows : List (List V)} {l k : Nat} (ho : o.op = .slice t x lo hi mx) (ht : P.underlying t = some (.slice e)) (hj : P.info? e = some j)
    (h : RelAt c st a w R G) (hx : val st.env x = .sl clip rows) (hl : loV st.env lo l) (hhi : hiV st.env rows.length hi k) (h1 : l ≤ k) (h2 : k ≤ rows.length) (hsz : rows = [] ∨ ∃ row, rows[0]? = some row ∧ row.length = j.size)
    (hm : (mx = none ∧ clip' = false) ∨ ∃ y kd, mx = some y ∧ hi.isSome = true ∧ val st.env y = .v (.int kd (k : Int))) :
    Done P c st a w G o Q d (.sl clip' ((rows.drop l).take (k - l))) [] := by
  have hr := h.val x
  rw [hx] at hr
  generalize hax : a.eval x = ax at hr
  have fin : ∀ (ad : Option Addr) (cap m : Nat), ax = .slice ad rows.length cap → ((mx = none ∧ m = cap) ∨ ∃ y k, mx = some y ∧ hi.isSome = true ∧ val st.env y = .v (.int k (m : Int))) → k ≤ m → m ≤ cap →
      RV w R G (.sl clip' ((rows.drop l).take (k - l))) (.slice (if m = l then ad else ad.map (·.add (l * j.size))) (k - l) (m - l)) → Done P c st a w G o Q d (.sl clip' ((rows.drop l).take (k - l))) [] := fun ad cap m hv hm hkm hmc hrv => by
    refine done_pure h ?_ hrv
    unfold execOp; rw [ho]
    refine run_v _ ?_
    have hb := run_sliceBounds (P := P) (isS := true) h hl hhi hm h1 hkm hmc
    rw [hax, hv]
    simp [Instr.sliceAt, run_underlying ht, Instr.slice, hb, sizeOf, typeInfo, hj]
  have pick : ∀ cap, rows.length ≤ cap → ∃ m, ((mx = none ∧ m = cap) ∨ ∃ y k, mx = some y ∧ hi.isSome = true ∧ val st.env y = .v (.int k (m : Int))) ∧ k ≤ m ∧ m ≤ cap ∧ (clip' = true → m = k) := fun cap hcap => by
    rcases hm with ⟨h3, h4⟩ | ⟨y, kd, h3, h4, h5⟩
    · exact ⟨cap, .inl ⟨h3, rfl⟩, by omega, Nat.le_refl _, by rw [h4]; simp⟩
    · exact ⟨k, .inr ⟨y, kd, h3, h4, h5⟩, Nat.le_refl _, by omega, fun _ => rfl⟩
  cases hr with
  | nil clip ad cap hc =>
    obtain ⟨m, q1, q2, q3, q4⟩ := pick cap (Nat.zero_le _)
    refine fin ad cap m rfl q1 q2 q3 ?_
    have hk : k = 0 := by simpa using h2
    subst hk
    have hl0 : l = 0 := by omega
    subst hl0
    simp
    exact .nil _ _ _ q4
  | sl clip rows b off cap sz f hR hcap hclip hs hcell hh =>
    obtain ⟨m, q1, q2, q3, q4⟩ := pick cap hcap
    refine fin _ cap m rfl q1 q2 q3 ?_
    have key := rv_sub hR hs hcell hh h1 h2 q2 q4
    rcases hsz with h0 | ⟨row, hrow, hlen⟩
    · have hk : k = 0 := by rw [h0] at h2; simpa using h2
      subst hk
      have hl0 : l = 0 := by omega
      subst hl0
      simp
      exact .nil _ _ _ q4
    · have : sz = j.size := by rw [← hlen]; exact (hs row (List.mem_of_getElem? hrow)).symm
      subst this
      simpa [add_row] using key
theorem part_rel {t : TypeId} {i : TypeInfo} {agg : Bool} {sz off : Nat} {us : List V} {xs : List Value} (hi : P.info? t = some i) (ha : aggT P t = some agg) (hsz : sz = if agg then i.size else 1) (hl : us.length = xs.length)
    (hh : ∀ (i : Nat) (u : V) (x : Value), us[i]? = some u → xs[i]? = some x → RV w R G u x) (hb : off + sz ≤ us.length) :
    ∃ x, (part t xs.toArray off).run P w = .ok x w ∧ RV w R G (mkV agg ((us.drop off).take sz)) x := by
  refine ⟨if agg then .agg ((xs.drop off).take sz).toArray else ((xs.drop off).take sz).headD undef, ?_, mk_rel (by simp; omega) (fun e => by subst e; simp at hsz; subst hsz; simp; omega) ?_⟩
  · unfold aggT at ha
    unfold part isAgg
    cases hu : P.underlying t with
    | none => rw [hu] at ha; cases ha
    | some dsc =>
      rw [hu] at ha
      cases agg with
      | true =>
        have hs : sz = i.size := hsz
        have he : xs.toArray.extract off (off + i.size) = ((xs.drop off).take sz).toArray := by
          rw [hs]; simp [List.extract_eq_take_drop]
        cases dsc <;> simp at ha <;> simp [run_underlying hu, sizeOf, typeInfo, hi, List.extract_eq_take_drop, hs]
      | false =>
        have hs : sz = 1 := hsz
        subst hs
        have hx : xs[off]? = some (xs[off]'(by omega)) := List.getElem?_eq_getElem (by omega)
        have hd : (xs.drop off).take 1 = [xs[off]'(by omega)] := by
          rw [List.drop_eq_getElem_cons (by omega), List.take_succ_cons, List.take_zero]
        cases dsc <;> simp at ha <;> simp [run_underlying hu, hx, hd]
  · intro j u x h1 h2
    have hjs : j < sz := by have := (List.getElem?_eq_some_iff.1 h2).1; simp at this; omega
    rw [dropTake _ _ _ _ hjs] at h1 h2
    exact hh (off + j) u x h1 h2
theorem q_fld {t : TypeId} {x : Operand} {k : Nat} {fs : Array Field} {f : Field} {i : TypeInfo} {agg : Bool} {sz : Nat} {us : List V} (ho : o.op = .field t x k) (ht : P.underlying t = some (.struct fs)) (hf : fs[k]? = some f) (hi : P.info? f.type = some i) (ha : aggT P f.type = some agg) (hsz : sz = if agg then i.size else 1)
    (h : RelAt c st a w R G) (hv : val st.env x = .agg us) (hb : f.offset + sz ≤ us.length) : Done P c st a w G o Q d (mkV agg ((us.drop f.offset).take sz)) [] := by
  have hx := h.val x
  rw [hv] at hx
  generalize hax : a.eval x = ax at hx
  cases hx with
  | agg us xs hl hh =>
    obtain ⟨y, h1, h2⟩ := part_rel (P := P) hi ha hsz hl hh hb
    refine done_pure h (x := y) ?_ h2
    unfold execOp; rw [ho]
    refine run_v _ ?_
    simp [hax, Instr.field, run_underlying ht, hf, asAgg, h1]
end
end Go.Proofs.Ytjhdlcmecbngkaa
/- Structs put together, slices written out. No program in sight. -/
namespace Go.Proofs.Ytjhdlcmecbngkaa
open Go.RowKit
set_option linter.unusedVariables false
section
variable {P : Program} {c : Ctx} {st : St} {a : Act} {w w' : World} {R : Nat → Prop} {G : Nat → Option Loc} {o : Oper} {Q : Exit → Act → World → Prop} {d : Nat} {u : V} {dH : List (Nat × Option Ent)}
theorem fold_set (off : Nat) : ∀ (vs : List Value) (k : Nat) (cells : Array Value), off + k + vs.length ≤ cells.size →
    ((vs.zipIdx k).foldl (fun cs (p : Value × Nat) => cs.setIfInBounds (off + p.2) p.1) cells).toList = cells.toList.take (off + k) ++ vs ++ cells.toList.drop (off + k + vs.length)
  | [], k, cells, h => by simp
  | v :: vs, k, cells, h => by
    simp only [List.length_cons] at h
    rw [List.zipIdx_cons, List.foldl_cons, fold_set off vs (k + 1) _ (by simp; omega)]
    simp only [Array.toList_setIfInBounds, List.length_cons]
    have h1 : (cells.toList.set (off + k) v).take (off + (k + 1)) = cells.toList.take (off + k) ++ [v] := by
      rw [show off + (k + 1) = (off + k) + 1 by omega, List.take_succ_eq_append_getElem (by simp; omega)]
      simp [List.take_set_of_le]
    have h2 : (cells.toList.set (off + k) v).drop (off + (k + 1) + vs.length) = cells.toList.drop (off + k + (vs.length + 1)) := by
      rw [List.drop_set_of_lt (by omega)]
      congr 1; omega
    rw [h1, h2]
    simp
/-- some cells of values are what is known of them -/
def CellsR (w : World) (R : Nat → Prop) (G : Nat → Option Loc) (us : List V) (xs : List Value) : Prop := us.length = xs.length ∧ ∀ (i : Nat) (u : V), us[i]? = some u → ∃ x, xs[i]? = some x ∧ x.oneCell' = true ∧ RV w R G u x
theorem splice_get {α : Type} (xs vs : List α) (off i : Nat) (h : off + vs.length ≤ xs.length) : (xs.take off ++ vs ++ xs.drop (off + vs.length))[i]? = if off ≤ i ∧ i < off + vs.length then vs[i - off]? else xs[i]? := by
  have hlt : (xs.take off).length = off := by simp; omega
  by_cases h1 : i < off
  · rw [if_neg (by omega), List.append_assoc, List.getElem?_append_left (by omega), List.getElem?_take_of_lt h1]
  · by_cases h2 : i < off + vs.length
    · rw [if_pos ⟨by omega, h2⟩, List.append_assoc, List.getElem?_append_right (by omega), hlt, List.getElem?_append_left (by omega)]
    · rw [if_neg (by omega), List.getElem?_append_right (by simp; omega), List.getElem?_drop]
      congr 1; simp; omega
theorem splice_len {α : Type} (xs vs : List α) (off : Nat) (h : off + vs.length ≤ xs.length) : (xs.take off ++ vs ++ xs.drop (off + vs.length)).length = xs.length := by
  simp; omega
theorem CellsR.put {us vs : List V} {xs ys : List Value} {off : Nat} (h : CellsR w R G us xs) (k : CellsR w R G vs ys) (hb : off + vs.length ≤ us.length) : CellsR w R G (putV us off vs) (xs.take off ++ ys ++ xs.drop (off + ys.length)) := by
  unfold putV
  have e1 := h.1
  have e2 := k.1
  refine ⟨by rw [splice_len _ _ _ hb, splice_len _ _ _ (by omega), e1], fun i u hu => ?_⟩
  rw [splice_get _ _ _ _ hb] at hu
  rw [splice_get _ _ _ _ (by omega), ← e2]
  split at hu
  · rename_i hi; rw [if_pos hi]; exact k.2 _ u hu
  · rename_i hi; rw [if_neg hi]; exact h.2 _ u hu
theorem cells_of (h : RelAt c st a w R G) {u : V} {x : Value} {cs : List V} (hc : cellsV u = some cs) (hr : RV w R G u x) (h1 : ones st.H cs) : CellsR w R G cs x.cells.toList := by
  obtain ⟨e1, e2⟩ := cells_rel h hc hr h1
  exact ⟨e1.symm, e2⟩
theorem run_fill_struct (h : RelAt c st a w R G) {fs : Array Field} {places : Nat → Option (Nat × Nat)} (hpl : ∀ k f i, fs[k]? = some f → P.info? f.type = some i → places k = some (f.offset, i.size)) :
    ∀ (ps : List (Nat × Operand)) (rps : List (Nat × Nat × Operand)) (us : List V) (cells : Array Value) {us' : List V}, partsOf P fs ps = some rps → CellsR w R G us cells.toList → fillV st.env st.H us rps (fun x => x = us') →
      ∃ cells', Instr.fill places cells (ps.map fun (i, x) => (i, a.eval x)) = some cells' ∧ CellsR w R G us' cells'.toList
  | [], rps, us, cells, us', hp, hc, hf => by
    simp only [partsOf, Option.some.injEq] at hp; subst hp
    simp only [fillV] at hf; subst hf
    exact ⟨cells, rfl, hc⟩
  | (k, x) :: ps, rps, us, cells, us', hp, hc, hf => by
    simp only [partsOf, Option.bind_eq_bind, Option.bind_eq_some_iff] at hp
    obtain ⟨f, hfk, i, hi, r, hr, he⟩ := hp
    simp only [Option.some.injEq] at he
    subst he
    simp only [fillV] at hf
    split at hf
    · rename_i vs hvs
      obtain ⟨h1, h2, h3, h4⟩ := hf
      have hcv := cells_of h hvs (h.val x) h3
      have hsz : (a.eval x).cells.size = i.size := by have := hcv.1; simp at this; omega
      have hsz2 : f.offset + (a.eval x).cells.size ≤ cells.size := by have := hc.1; simp at this; omega
      simp only [List.map_cons, Instr.fill, hpl k f i hfk hi]
      rw [if_neg (by simp [hsz]; omega)]
      have hfold := fold_set f.offset (a.eval x).cells.toList 0 cells (by simpa using hsz2)
      have hput := CellsR.put (off := f.offset) hc hcv (by omega)
      refine run_fill_struct h hpl ps r (putV us f.offset vs) _ hr ?_ h4
      simp only [Nat.add_zero] at hfold
      have e : ((a.eval x).cells.zipIdx.foldl (fun cs (p : Value × Nat) => cs.setIfInBounds (f.offset + p.2) p.1) cells).toList = cells.toList.take f.offset ++ (a.eval x).cells.toList ++ cells.toList.drop (f.offset + (a.eval x).cells.toList.length) := by
        rw [← hfold, ← Array.foldl_toList]
        simp
      show CellsR w R G _ (((a.eval x).cells.zipIdx.foldl (fun cs (p : Value × Nat) => cs.setIfInBounds (f.offset + p.2) p.1) cells)).toList
      rw [e]; exact hput
    · exact hf.elim
theorem mapM_places {fs : Array Field} (hall : ∀ f ∈ fs.toList, (P.info? f.type).isSome = true) : ∃ pl : Array (Nat × Nat), (fs.mapM fun (f : Field) => (do pure (f.offset, ← sizeOf f.type) : Sem (Nat × Nat))).run P w = .ok pl w ∧ ∀ (k : Nat) (f : Field) (i : TypeInfo), fs[k]? = some f → P.info? f.type = some i → pl[k]? = some (f.offset, i.size) := by
  have key : ∀ (l : List Field), (∀ f ∈ l, (P.info? f.type).isSome = true) → ∃ pl : List (Nat × Nat), (l.mapM fun (f : Field) => (do pure (f.offset, ← sizeOf f.type) : Sem (Nat × Nat))).run P w = .ok pl w ∧ ∀ (k : Nat) (f : Field) i, l[k]? = some f → P.info? f.type = some i → pl[k]? = some (f.offset, i.size) := by
    intro l
    induction l with
    | nil => intro _; exact ⟨[], by simp, fun k f i h => by simp at h⟩
    | cons f l ih =>
      intro hl
      obtain ⟨pl, h1, h2⟩ := ih (fun g hg => hl g (List.mem_cons_of_mem _ hg))
      obtain ⟨i, hi⟩ := Option.isSome_iff_exists.1 (hl f (List.mem_cons_self ..))
      refine ⟨(f.offset, i.size) :: pl, ?_, ?_⟩
      · rw [List.mapM_cons]
        simp only [Sem.run_bind, sizeOf, typeInfo, run_program, Result.andThen_ok, hi, Sem.run_pure]
        simp only [sizeOf, typeInfo] at h1
        rw [h1]; rfl
      · intro k g j hk hj
        cases k with
        | zero => simp at hk; subst hk; rw [hi] at hj; injection hj with hj; subst hj; rfl
        | succ k => exact h2 k g j (by simpa using hk) hj
  obtain ⟨pl, h1, h2⟩ := key fs.toList hall
  refine ⟨pl.toArray, ?_, fun k f i hk hi => by simpa using h2 k f i (by simpa using hk) hi⟩
  rw [Array.mapM_eq_mapM_toList, Sem.run_map, h1]
  rfl
theorem q_build {t : TypeId} {ps : Array (Nat × Operand)} {fs : Array Field} {i : TypeInfo} {z : Value} {rps : List (Nat × Nat × Operand)} {us : List V} (ho : o.op = .build t ps) (hi : P.info? t = some i) (hz : i.zero = some z) (ht : P.underlying t = some (.struct fs))
    (hall : fs.toList.all (fun f => (P.info? f.type).isSome) = true) (hp : partsOf P fs ps.toList = some rps) (hzc : cellsOk z = true) (h : RelAt c st a w R G) (hf : fillV st.env st.H (z.cells.toList.map .v) rps (fun x => x = us)) :
    Done P c st a w G o Q d (.agg us) [] := by
  obtain ⟨pl, hpl, hpl2⟩ := mapM_places (P := P) (w := w) (fun f hf => List.all_eq_true.1 hall f hf)
  have h0 : CellsR w R G (z.cells.toList.map .v) z.cells.toList := by
    refine ⟨by simp, fun k u hu => ?_⟩
    rw [List.getElem?_map] at hu
    cases hq : z.cells.toList[k]? with
    | none => rw [hq] at hu; cases hu
    | some y =>
      rw [hq] at hu; simp at hu; subst hu
      exact ⟨y, rfl, List.all_eq_true.1 hzc y (List.mem_of_getElem? hq), .v y⟩
  obtain ⟨cells', h1, h2⟩ := run_fill_struct h (places := fun k => pl[k]?) hpl2 ps.toList rps _ z.cells hp h0 hf
  refine done_pure h (x := .agg cells') ?_ ?_
  · unfold execOp; rw [ho]
    refine run_v _ ?_
    have hmap : (ps.map fun (x : Nat × Operand) => (x.1, a.eval x.2)).toList = ps.toList.map fun (i, x) => (i, a.eval x) := by simp
    unfold Instr.build
    simp only [zeroValue, typeInfo, Sem.run_bind, run_program, Result.andThen_ok, hi, Sem.run_pure, hz, run_underlying ht, hpl]
    rw [hmap, h1]; rfl
  · have e : cells' = cells'.toList.toArray := by simp
    rw [e]
    exact .agg us cells'.toList h2.1 fun k u x hu hx => by
      obtain ⟨x', g1, _, g2⟩ := h2.2 k u hu
      rw [hx] at g1; injection g1 with g1; subst g1; exact g2
/-- rows of cells -/
theorem run_fill_rows (h : RelAt c st a w R G) {sz : Nat} (hsz : 0 < sz) :
    ∀ (ps : List (Nat × Operand)) (rows : List (List V)) (cells : Array Value) {rows' : List (List V)}, cells.size = rows.length * sz → RowsR w R G cells.toList sz rows → fillR st.env st.H sz rows ps (fun x => x = rows') →
      ∃ cells', Instr.fill (fun i => some (i * sz, sz)) cells (ps.map fun (i, x) => (i, a.eval x)) = some cells' ∧ cells'.size = rows'.length * sz ∧ RowsR w R G cells'.toList sz rows'
  | [], rows, cells, rows', hs, hr, hf => by
    simp only [fillR] at hf; subst hf
    exact ⟨cells, rfl, hs, hr⟩
  | (k, x) :: ps, rows, cells, rows', hs, hr, hf => by
    simp only [fillR] at hf
    split at hf
    · rename_i vs hvs
      obtain ⟨h1, h2, h3, h4⟩ := hf
      have hcv := cells_of h hvs (h.val x) h3
      have hcs : (a.eval x).cells.size = sz := by have := hcv.1; simp at this; omega
      have hkk : k * sz + sz ≤ rows.length * sz := by
        have : (k + 1) * sz ≤ rows.length * sz := Nat.mul_le_mul_right _ h2
        rw [Nat.add_mul] at this; omega
      simp only [List.map_cons, Instr.fill]
      rw [if_neg (by simp [hcs]; omega)]
      have hfold := fold_set (k * sz) (a.eval x).cells.toList 0 cells (by simp [hcs]; omega)
      simp only [Nat.add_zero] at hfold
      have e : ((a.eval x).cells.zipIdx.foldl (fun cs (p : Value × Nat) => cs.setIfInBounds (k * sz + p.2) p.1) cells).toList = cells.toList.take (k * sz) ++ (a.eval x).cells.toList ++ cells.toList.drop (k * sz + (a.eval x).cells.toList.length) := by
        rw [← hfold, ← Array.foldl_toList]
        simp
      refine run_fill_rows h hsz ps (rows.set k vs) _ ?_ ?_ h4
      · show (((a.eval x).cells.zipIdx.foldl (fun cs (p : Value × Nat) => cs.setIfInBounds (k * sz + p.2) p.1) cells)).size = _
        rw [← Array.length_toList, e, splice_len _ _ _ (by simp [hcs]; omega)]
        simpa using hs
      · show RowsR w R G (((a.eval x).cells.zipIdx.foldl (fun cs (p : Value × Nat) => cs.setIfInBounds (k * sz + p.2) p.1) cells)).toList sz _
        rw [e]
        refine ⟨fun row hrow => ?_, fun i j row u hi hj => ?_⟩
        · rcases List.mem_or_eq_of_mem_set hrow with q | q
          · exact hr.1 row q
          · rw [q]; exact h1
        · have hjs : j < sz := by
            have := (List.getElem?_eq_some_iff.1 hj).1
            have hl : row.length = sz := by
              rcases List.mem_or_eq_of_mem_set (List.mem_of_getElem? hi) with q | q
              · exact hr.1 row q
              · rw [q]; exact h1
            omega
          rw [splice_get _ _ _ _ (by simp [hcs]; omega)]
          simp only [Array.length_toList, hcs]
          by_cases hik : i = k
          · subst hik
            rw [if_pos ⟨by omega, by omega⟩]
            rw [List.getElem?_set_self h2] at hi
            injection hi with hi; subst hi
            rw [show i * sz + j - i * sz = j by omega]
            exact hcv.2 j u hj
          · rw [List.getElem?_set_ne (fun e => hik e.symm)] at hi
            rw [if_neg ?_]
            · exact hr.2 i j row u hi hj
            · rintro ⟨g1, g2⟩
              rcases Nat.lt_or_ge i k with g | g
              · have : (i + 1) * sz ≤ k * sz := Nat.mul_le_mul_right _ g
                rw [Nat.add_mul] at this; omega
              · have : (k + 1) * sz ≤ i * sz := Nat.mul_le_mul_right _ (by omega)
                rw [Nat.add_mul] at this; omega
    · exact hf.elim
theorem q_mks {g : Nat → Nat} {id : Nat} {t e : TypeId} {n : Nat} {ps : Array (Nat × Operand)} {i : TypeInfo} {z : Value} {rows : List (List V)} (hid : id / 16 = d) (hgen : ∀ l0, G id = some l0 → l0.gen < g id)
    (ho : o.op = .buildSlice t n ps) (ht : P.underlying t = some (.slice e)) (hi : P.info? e = some i) (hz : i.zero = some z) (h0 : 0 < i.size) (hzs : z.cells.size = i.size) (hmax : n * i.size ≤ 16777216) (hzc : cellsOk z = true)
    (h : RelAt c st a w R G) (hf : fillR st.env st.H i.size (List.replicate n (z.cells.toList.map .v)) ps.toList (fun x => x = rows)) :
    Done P c st a w G o Q d (.own id (g id)) [(id, some ⟨g id, .t e, i.size, rows⟩)] := by
  have hlen : ∀ (ps : List (Nat × Operand)) (r r' : List (List V)), fillR st.env st.H i.size r ps (fun x => x = r') → r'.length = r.length := by
    intro ps
    induction ps with
    | nil => intro r r' hf; simp only [fillR] at hf; subst hf; rfl
    | cons p ps ih =>
      intro r r' hf
      simp only [fillR] at hf
      split at hf
      · rw [ih _ _ hf.2.2.2]; simp
      · exact hf.elim
  have hrl : rows.length = n := by rw [hlen _ _ _ hf]; simp
  have h1 : ((Array.range (n * i.size)).map (fun k => z.cells[k % z.cells.size]!)).size = (List.replicate n (z.cells.toList.map V.v)).length * i.size := by simp
  have h2 : RowsR w R G ((Array.range (n * i.size)).map (fun k => z.cells[k % z.cells.size]!)).toList i.size (List.replicate n (z.cells.toList.map V.v)) := by
    refine ⟨fun row hrow => by rw [List.mem_replicate] at hrow; rw [hrow.2]; simpa using hzs, fun k j row u hk hj => ?_⟩
    have hkn : k < n := by have := (List.getElem?_eq_some_iff.1 hk).1; simpa using this
    rw [List.getElem?_replicate_of_lt hkn] at hk
    injection hk with hk; subst hk
    rw [List.getElem?_map] at hj
    cases hq : z.cells.toList[j]? with
    | none => rw [hq] at hj; cases hj
    | some y =>
      rw [hq] at hj; simp at hj; subst hj
      have hjz : j < z.cells.size := by have := (List.getElem?_eq_some_iff.1 hq).1; simpa using this
      have hbd : k * i.size + j < n * i.size := by
        have : (k + 1) * i.size ≤ n * i.size := Nat.mul_le_mul_right _ hkn
        rw [Nat.add_mul] at this; omega
      refine ⟨y, ?_, List.all_eq_true.1 hzc y (List.mem_of_getElem? hq), .v y⟩
      have e1 : (k * i.size + j) % z.cells.size = j := by rw [hzs, Nat.mul_comm, Nat.mul_add_mod]; exact Nat.mod_eq_of_lt (by omega)
      have e2 : z.cells[j]! = y := by
        have : z.cells[j]? = some y := by simpa using hq
        rw [getElem!_def, this]
      simp [hbd, e1, e2]
  obtain ⟨cells', g1, g2, g3⟩ := run_fill_rows h h0 ps.toList _ _ h1 h2 hf
  refine done_new (cur := cells') (x := .slice (some ⟨w.heap.size, 0, none⟩) n n) (box := false) (.inl rfl) hid hgen h h0 g2 (by rw [hrl]; have : n ≤ n * i.size := Nat.le_mul_of_pos_right n h0; simp only [maxLen]; omega) g3 ?_ ?_
  · unfold execOp; rw [ho]
    refine run_v _ ?_
    have hmap : (ps.map fun (x : Nat × Operand) => (x.1, a.eval x.2)).toList = ps.toList.map fun (i, x) => (i, a.eval x) := by simp
    unfold Instr.buildSlice
    simp only [Sem.run_bind, run_underlying ht, Result.andThen_ok, sizeOf, typeInfo, run_program, hi, Sem.run_pure]
    rw [if_neg (by simpa using hmax)]
    rw [hmap]
    by_cases hn : n * i.size = 0
    · have hn0 : n = 0 := by
        rcases Nat.mul_eq_zero.1 hn with q | q
        · exact q
        · omega
      subst hn0
      simp only [Nat.zero_mul, if_true, pure_bind]
      simp only [Nat.zero_mul] at g1
      have e0 : ((Array.range 0).map fun k => z.cells[k % z.cells.size]!) = ((Array.range 0).map fun k => (#[] : Array Value)[k % (#[] : Array Value).size]!) := by simp
      rw [e0] at g1
      rw [g1]; simp [newRow]
    · rw [if_neg hn]
      simp only [zeroValue, typeInfo, Sem.run_bind, run_program, Result.andThen_ok, hi, Sem.run_pure, hz]
      rw [g1]; simp [newRow]
  · intro G' hG'
    refine .own _ _ _ hG' (Nat.le_refl _) _ fun _ => ⟨?_, rfl⟩
    rw [hrl]
theorem q_mkn {g : Nat → Nat} {id : Nat} {t e : TypeId} {k : Nat} {kx ky : IntKind} {x y : Operand} {i : TypeInfo} {z : Value} (hid : id / 16 = d) (hgen : ∀ l0, G id = some l0 → l0.gen < g id)
    (ho : o.op = .makeSlice t x y) (ht : P.underlying t = some (.slice e)) (hi : P.info? e = some i) (hz : i.zero = some z) (h0 : 0 < i.size) (hzs : z.cells.size = i.size) (hzc : cellsOk z = true)
    (h : RelAt c st a w R G) (hx : val st.env x = .v (.int kx k)) (hy : val st.env y = .v (.int ky k)) (hk : k ≤ maxLen) (hb : k * i.bytes ≤ 140737488355328) :
    Done P c st a w G o Q d (.own id (g id)) [(id, some ⟨g id, .t e, i.size, List.replicate k (z.cells.toList.map .v)⟩)] := by
  have h2 : RowsR w R G ((Array.range (k * i.size)).map (fun j => z.cells[j % z.cells.size]!)).toList i.size (List.replicate k (z.cells.toList.map V.v)) := by
    refine ⟨fun row hrow => by rw [List.mem_replicate] at hrow; rw [hrow.2]; simpa using hzs, fun n j row u hk hj => ?_⟩
    have hkn : n < k := by have := (List.getElem?_eq_some_iff.1 hk).1; simpa using this
    rw [List.getElem?_replicate_of_lt hkn] at hk
    injection hk with hk; subst hk
    rw [List.getElem?_map] at hj
    cases hq : z.cells.toList[j]? with
    | none => rw [hq] at hj; cases hj
    | some y =>
      rw [hq] at hj; simp at hj; subst hj
      have hjz : j < z.cells.size := by have := (List.getElem?_eq_some_iff.1 hq).1; simpa using this
      have hbd : n * i.size + j < k * i.size := by
        have : (n + 1) * i.size ≤ k * i.size := Nat.mul_le_mul_right _ hkn
        rw [Nat.add_mul] at this; omega
      refine ⟨y, ?_, List.all_eq_true.1 hzc y (List.mem_of_getElem? hq), .v y⟩
      have e1 : (n * i.size + j) % z.cells.size = j := by rw [hzs, Nat.mul_comm, Nat.mul_add_mod]; exact Nat.mod_eq_of_lt (by omega)
      have e2 : z.cells[j]! = y := by
        have : z.cells[j]? = some y := by simpa using hq
        rw [getElem!_def, this]
      simp [hbd, e1, e2]
  have eax : a.eval x = .int kx k := rv_v (hx ▸ h.val x)
  have eay : a.eval y = .int ky k := rv_v (hy ▸ h.val y)
  have hw : IntKind.i64.wrap (k : Int) = k := IntWalk.i64_in k ⟨by omega, by simp only [maxLen] at hk; omega⟩
  have hbi : ¬ ((i.bytes : Int) * (k : Int) > 2 ^ 48) := by
    have : (i.bytes : Int) * (k : Int) = ((k * i.bytes : Nat) : Int) := by rw [Nat.mul_comm]; simp
    rw [this]; omega
  refine done_new (cur := (Array.range (k * i.size)).map (fun j => z.cells[j % z.cells.size]!)) (x := .slice (some ⟨w.heap.size, 0, none⟩) k k) (box := false) (.inl rfl) hid hgen h h0 (by simp) (by simpa using hk) h2 ?_ ?_
  · unfold execOp; rw [ho]
    refine run_v _ ?_
    rw [eax, eay]
    unfold Instr.makeSlice
    have hneg : ¬ (k : Int) < 0 := by omega
    simp only [Sem.run_bind, run_underlying ht, Result.andThen_ok, asInt, asIntOf, sizeOf, typeInfo, run_program, hi, Sem.run_pure, hw]
    by_cases hn : k * i.size = 0
    · have hn0 : k = 0 := by
        rcases Nat.mul_eq_zero.1 hn with q | q
        · exact q
        · omega
      subst hn0
      simp [newRow, typeInfo, hi]
      have e0 : ∀ f g : Nat → Value, (Array.range 0).map f = (Array.range 0).map g := fun f g => by simp
      exact congrArg (fun c => w.alloc (Obj.cells c e)) (e0 _ _)
    · simp [hneg, hn, zeroValue, typeInfo, hi, hz, newRow]
      intro hc
      exact absurd hc (by have := hbi; omega)
  · intro G' hG'
    refine .own _ _ _ hG' (Nat.le_refl _) _ fun _ => ⟨?_, rfl⟩
    rw [List.length_replicate]
end
end Go.Proofs.Ytjhdlcmecbngkaa
/- Calls. No program in sight. -/
namespace Go.Proofs.Ytjhdlcmecbngkaa
open Go.RowKit
set_option linter.unusedVariables false
section
variable {P : Program} {c : Ctx} {st : St} {a : Act} {w w' : World} {R : Nat → Prop} {G : Nat → Option Loc} {o : Oper} {Q : Exit → Act → World → Prop} {d : Nat} {u : V} {dH : List (Nat × Option Ent)}
theorem Pars.nil (w : World) (R : Nat → Prop) : Pars w R [] [] :=
  ⟨rfl, fun i p x h => by simp at h, fun i j T sz rows T' sz' rows' x y b _ h => by simp at h, fun b ⟨i, T, sz, rows, x, h, _⟩ => by simp at h⟩
theorem parBlk_cons {p : Par} {ps : List Par} {x : Value} {xs : List Value} {b : Nat} : ParBlk (p :: ps) (x :: xs) b ↔ (∃ T sz rows, p = .o T sz rows ∧ x.ownBlock = some b) ∨ ParBlk ps xs b := by
  constructor
  · rintro ⟨i, T, sz, rows, y, h1, h2, h3⟩
    cases i with
    | zero => simp at h1 h2; subst h2; exact .inl ⟨T, sz, rows, h1, h3⟩
    | succ i => exact .inr ⟨i, T, sz, rows, y, by simpa using h1, by simpa using h2, h3⟩
  · rintro (⟨T, sz, rows, h1, h2⟩ | ⟨i, T, sz, rows, y, h1, h2, h3⟩)
    · exact ⟨0, T, sz, rows, x, by simp [h1], rfl, h2⟩
    · exact ⟨i + 1, T, sz, rows, y, by simpa using h1, by simpa using h2, h3⟩
theorem Pars.cons {p : Par} {ps : List Par} {x : Value} {xs : List Value} (h : Pars w R ps xs) (hp : ParOk w R p x) (hb : ∀ T sz rows b, p = .o T sz rows → x.ownBlock = some b → ¬ ParBlk ps xs b ∧ ¬ R b) : Pars w R (p :: ps) (x :: xs) := by
  refine ⟨by simp [h.len], ?_, ?_, ?_⟩
  · intro i q y h1 h2
    cases i with
    | zero => simp at h1 h2; subst h1 h2; exact hp
    | succ i => exact h.ok i q y (by simpa using h1) (by simpa using h2)
  · intro i j T sz rows T' sz' rows' y z b hij h1 h2 h3 h4 h5 h6
    cases i with
    | zero =>
      cases j with
      | zero => exact hij rfl
      | succ j =>
        simp at h1 h3; subst h3
        exact (hb T sz rows b h1 h5).1 ⟨j, T', sz', rows', z, by simpa using h2, by simpa using h4, h6⟩
    | succ i =>
      cases j with
      | zero =>
        simp at h2 h4; subst h4
        exact (hb T' sz' rows' b h2 h6).1 ⟨i, T, sz, rows, y, by simpa using h1, by simpa using h3, h5⟩
      | succ j => exact h.apart i j T sz rows T' sz' rows' y z b (by omega) (by simpa using h1) (by simpa using h2) (by simpa using h3) (by simpa using h4) h5 h6
  · intro b hbk
    rcases parBlk_cons.1 hbk with ⟨T, sz, rows, h1, h2⟩ | hbk
    · exact (hb T sz rows b h1 h2).2
    · exact h.free b hbk
theorem Pars.tail {p : Par} {ps : List Par} {x : Value} {xs : List Value} (h : Pars w R (p :: ps) (x :: xs)) : Pars w R ps xs :=
  ⟨by have := h.len; simpa using this, fun i q y h1 h2 => h.ok (i + 1) q y (by simpa using h1) (by simpa using h2),
    fun i j T sz rows T' sz' rows' y z b hij h1 h2 h3 h4 => h.apart (i + 1) (j + 1) T sz rows T' sz' rows' y z b (by omega) (by simpa using h1) (by simpa using h2) (by simpa using h3) (by simpa using h4),
    fun b hb => h.free b (parBlk_cons.2 (.inr hb))⟩
/-- what a callee may read besides -/
def RB (R : Nat → Prop) (G : Nat → Option Loc) (H : Nat → Option Ent) (all : List Nat) (bor : Bool) (b : Nat) : Prop :=
  R b ∨ (bor = true ∧ ∃ id e l, id ∉ all ∧ H id = some e ∧ G id = some l ∧ l.gen = e.gen ∧ l.ft b)
theorem noG_le (G : Nat → Option Loc) : Gle noG G := fun id l h => by cases h
theorem rv_noG {u : V} {x : Value} (h : RV w R noG u x) : RV w R G u x := h.mono (fun b hb => ⟨hb, rfl⟩) (noG_le G)
/-- an object, read by somebody else -/
theorem rv_bor (h : RelAt c st a w R G) {R' : Nat → Prop} (hR' : ∀ b, R b → R' b) {id g : Nat} {e : Ent} {rows' : List (List V)} {x : Value} (hx : RV w R G (.own id g) x) (he : st.H id = some e) (hg : e.gen = g)
    (hb : ∀ l b, G id = some l → l.gen = e.gen → l.ft b → R' b) (hlen : e.rows.length = rows'.length)
    (hd : ∀ (i : Nat) (row row' : List V), e.rows[i]? = some row → rows'[i]? = some row' → row.length = row'.length ∧ ∀ (j : Nat) (u u' : V) (y : Value), row[j]? = some u → row'[j]? = some u' → RV w R G u y → RV w R' noG u' y) :
    RV w R' noG (.sl false rows') x := by
  obtain ⟨l, xs, T0, g1, g2, g3, g4, g5, g6, hxl, hT0, hop0, hbx0⟩ := h.objO hx he hg
  rw [hxl]
  rcases own_val g5 with ⟨hv, h0⟩ | ⟨b, cap, hv, hbk⟩
  · rw [hv]
    have : rows' = [] := List.eq_nil_of_length_eq_zero (by rw [← hlen, h0]; rfl)
    subst this
    exact .nil _ _ _ (by simp)
  · rw [hv, hlen]
    have hcapn : e.rows.length ≤ cap := by
      rcases g5.2 with ⟨q, _⟩ | ⟨g', cap', cur, q, _, _, hnc, _⟩
      · rw [hv] at q; cases q
      · rw [hv] at q; injection q with _ _ q; omega
    have hpair : ∀ (i j : Nat) (row' : List V) (u' : V), rows'[i]? = some row' → row'[j]? = some u' → ∃ y, xs[i * e.sz + j]? = some y ∧ RV w R' noG u' y := fun i j row' u' h1 h2 => by
      have hi : i < e.rows.length := by rw [hlen]; exact (List.getElem?_eq_some_iff.1 h1).1
      have hrow : e.rows[i]? = some e.rows[i] := List.getElem?_eq_getElem hi
      obtain ⟨hl, hj⟩ := hd i _ row' hrow h1
      have hjl : j < e.rows[i].length := by rw [hl]; exact (List.getElem?_eq_some_iff.1 h2).1
      have hu : e.rows[i][j]? = some e.rows[i][j] := List.getElem?_eq_getElem hjl
      obtain ⟨y, q1, _, q2⟩ := g6.2 i j _ _ hrow hu
      exact ⟨y, q1, hj j _ u' y hu h2 q2⟩
    refine .sl _ rows' b 0 cap e.sz (fun i j => (xs[i * e.sz + j]?).getD undef) (hb l b g1 (g2.trans hg.symm) ((Loc.ft_of hop0).2 hbk)) (by omega) (by simp) ?_ ?_ ?_
    · intro row' hrow'
      obtain ⟨i, hi, rfl⟩ := List.mem_iff_getElem.1 hrow'
      have hi' : i < e.rows.length := by omega
      obtain ⟨hl, _⟩ := hd i e.rows[i] rows'[i] (List.getElem?_eq_getElem hi') (List.getElem?_eq_getElem hi)
      rw [← hl]; exact g6.1 _ (List.getElem_mem hi')
    · intro i j row' u' h1 h2
      obtain ⟨y, q1, q2⟩ := hpair i j row' u' h1 h2
      show w.cell? ⟨b, 0 + i * e.sz + j, none⟩ = some ((xs[i * e.sz + j]?).getD undef)
      rw [q1, Nat.zero_add]
      exact own_cell g5 hbk q1
    · intro i j row' u' h1 h2
      obtain ⟨y, q1, q2⟩ := hpair i j row' u' h1 h2
      show RV w R' noG u' ((xs[i * e.sz + j]?).getD undef)
      rw [q1]; exact q2
theorem RelAt.objS (h : RelAt c st a w R G) {id gen lo hi : Nat} {e : Ent} {x : Value} (hx : RV w R G (.osub id gen lo hi) x) (he : st.H id = some e) (hg : e.gen = gen) :
    ∃ l xs T, G id = some l ∧ l.gen = gen ∧ l.sz = e.sz ∧ 0 < e.sz ∧ w.ownsRow 0 T e.sz l.val e.rows.length xs ∧ RowsR w R G xs e.sz e.rows ∧ SubV l.val l.sz lo hi x ∧ e.T = .t T ∧ l.op = none ∧ l.box = false := by
  cases hx with
  | osub id gen lo hi l hG hg' x hx =>
    have := h.hr.le id e l he hG
    have h2 : l.gen = e.gen := by omega
    obtain ⟨hx1, hx2⟩ := hx (by omega)
    obtain ⟨l', xs, T, k1, k2, k3, k4, k5, k6, k7, k8, k9, k10⟩ := h.objO (.own id gen l hG hg' l.val (fun _ => ⟨rfl, hx1⟩)) he hg
    rw [hG] at k1; injection k1 with k1; subst k1
    exact ⟨l, xs, T, hG, k2, k3, k4, k5, k6, hx2, k8, k9, k10⟩
/-- the first part is owned, too -/
theorem sub_own {w : World} {T : TypeId} {sz lsz n m : Nat} {v x : Value} {xs : List Value} (h : w.ownsRow 0 T sz v m xs) (hsz : lsz = sz) (hs : SubV v lsz 0 n x) (hn : n ≤ m) : w.ownsRow 0 T sz x n (xs.take (n * sz)) ∧ ∀ b, x.ownBlock = some b → v.ownBlock = some b := by
  rcases hs with ⟨rfl, _, rfl, rfl⟩ | ⟨b, k, cap, off, rfl, h1, h2, h25, rfl⟩
  · exact ⟨by simpa using World.ownsRow_nil w 0 T sz, fun b hb => by cases hb⟩
  · have hks : n * sz ≤ m * sz := Nat.mul_le_mul_right _ hn
    have hx : off = 0 := by rw [h25 (.inl rfl)]; simp
    subst hx
    refine ⟨⟨by rw [List.length_take, h.1]; omega, ?_⟩, fun q hq => hq⟩
    rcases h.2 with ⟨q, _⟩ | ⟨g, cap', cur, q, h0, hh, hnc, hcm, hcs, htk⟩
    · cases q
    · injection q with q1 q2 q3
      injection q1 with q1; injection q1 with q1
      subst q1 q3
      refine .inr ⟨b, cap, cur, by simp, h0, hh, by omega, hcm, hcs, ?_⟩
      rw [← htk, List.take_take, Nat.min_eq_left hks]
theorem args_pars (h : RelAt c st a w R G) {all : List Nat} {bor0 : Bool} : ∀ {bor : Bool} {gone : List Nat} {us : List V} {ps : List Par} {xs : List Value}, ArgsOk st.H all bor gone us ps → (bor = true → bor0 = true) → us.length = xs.length →
    (∀ (i : Nat) (u : V) (x : Value), us[i]? = some u → xs[i]? = some x → RV w R G u x) → (∀ id ∈ gone, id ∈ all) →
      Pars w (RB R G st.H all bor0) ps xs ∧ ∀ b, ParBlk ps xs b → ∃ id ∈ gone, ∃ e l, st.H id = some e ∧ G id = some l ∧ l.gen = e.gen ∧ l.ft b := by
  intro bor gone us ps xs hA
  have hsub : ∀ b, R b → RB R G st.H all bor0 b := fun b hb => .inl hb
  induction hA generalizing xs with
  | nil bor =>
    intro hbor hl _ _
    match xs, hl with
    | [], _ => exact ⟨Pars.nil _ _, fun b ⟨i, T, sz, rows, x, h1, _⟩ => by simp at h1⟩
  | same hu hA ih =>
    intro hbor hl hh hga
    match xs, hl with
    | x :: xs, hl =>
      obtain ⟨h1, h2⟩ := ih hbor (by simpa using hl) (fun i u x h1 h2 => hh (i + 1) u x (by simpa using h1) (by simpa using h2)) hga
      refine ⟨h1.cons ?_ (fun T sz rows b e => by cases e), fun b hb => ?_⟩
      · exact (hu _ _ _ noG _ (hh 0 _ x rfl rfl)).mono (fun b hb => ⟨hsub b hb, rfl⟩) (Gle.refl _)
      · rcases parBlk_cons.1 hb with ⟨T, sz, rows, e, _⟩ | hb
        · cases e
        · exact h2 b hb
  | nilsl cl hA ih =>
    intro hbor hl hh hga
    match xs, hl with
    | x :: xs, hl =>
      obtain ⟨h1, h2⟩ := ih hbor (by simpa using hl) (fun i u x h1 h2 => hh (i + 1) u x (by simpa using h1) (by simpa using h2)) hga
      have hx : x = .slice none 0 0 := rv_v (hh 0 _ x rfl rfl)
      subst hx
      refine ⟨h1.cons (.nil _ _ _ (fun _ => rfl)) (fun T sz rows b e => by cases e), fun b hb => ?_⟩
      rcases parBlk_cons.1 hb with ⟨T, sz, rows, e, _⟩ | hb
      · cases e
      · exact h2 b hb
  | nilown T sz hz hA ih =>
    intro hbor hl hh hga
    match xs, hl with
    | x :: xs, hl =>
      obtain ⟨h1, h2⟩ := ih hbor (by simpa using hl) (fun i u x h1 h2 => hh (i + 1) u x (by simpa using h1) (by simpa using h2)) hga
      have hx : x = .slice none 0 0 := rv_v (hh 0 _ x rfl rfl)
      subst hx
      refine ⟨h1.cons ⟨hz, [], World.ownsRow_nil _ _ _ _, by simp, fun i j row u hi => by simp at hi⟩ (fun T sz rows b e hb => by cases hb), fun b hb => ?_⟩
      rcases parBlk_cons.1 hb with ⟨T, sz, rows, e, hb⟩ | hb
      · cases hb
      · exact h2 b hb
  | @bor gone id g e rows' us ps he hg hr hn hA ih =>
    intro hbor hl hh hga
    match xs, hl with
    | x :: xs, hl =>
      obtain ⟨h1, h2⟩ := ih hbor (by simpa using hl) (fun i u x h1 h2 => hh (i + 1) u x (by simpa using h1) (by simpa using h2)) hga
      have hb0 : bor0 = true := hbor rfl
      refine ⟨h1.cons ?_ (fun T sz rows b e => by cases e), fun b hb => ?_⟩
      · refine rv_bor h hsub (hh 0 _ x rfl rfl) he hg (fun l b h3 h35 h4 => .inr ⟨hb0, id, e, l, hn, he, h3, h35, h4⟩) hr.1 ?_
        intro i row row' h3 h4
        obtain ⟨h5, h6⟩ := hr.2 i row row' h3 h4
        refine ⟨h5, fun j u u' y h7 h8 h9 => ?_⟩
        rcases h6 j u u' h7 h8 with ⟨rfl, hcl⟩ | ⟨id', g', e', rfl, he', hg', rfl, hcl⟩ | ⟨rfl, cc, rfl⟩
        · exact (hcl _ _ _ noG _ h9).mono (fun b hb => ⟨hsub b hb, rfl⟩) (Gle.refl _)
        · have he2 : (if id' ∈ id :: all then none else st.H id') = some e' := he'
          clear he'
          by_cases hk : id' ∈ id :: all
          · rw [if_pos hk] at he2; cases he2
          · rw [if_neg hk] at he2
            have he' := he2
            refine rv_bor h hsub h9 he' hg' (fun l b h3 h35 h4 => .inr ⟨hb0, id', e', l, fun hm => hk (List.mem_cons_of_mem _ hm), he', h3, h35, h4⟩) rfl ?_
            intro i2 r2 r2' q1 q2
            rw [q1] at q2; injection q2 with q2; subst q2
            refine ⟨rfl, fun j2 v v' y2 q3 q4 q5 => ?_⟩
            rw [q3] at q4; injection q4 with q4; subst q4
            exact (hcl r2 (List.mem_of_getElem? q1) v (List.mem_of_getElem? q3) _ _ _ noG _ q5).mono (fun b hb => ⟨hsub b hb, rfl⟩) (Gle.refl _)
        · rw [rv_v h9]; exact .nil _ _ _ (fun _ => rfl)
      · rcases parBlk_cons.1 hb with ⟨T, sz, rows, e, _⟩ | hb
        · cases e
        · exact h2 b hb
  | @borp gone id g e i row off us ps he hg hi hr hn hA ih =>
    intro hbor hl hh hga
    match xs, hl with
    | x :: xs, hl =>
      obtain ⟨h1, h2⟩ := ih hbor (by simpa using hl) (fun i u x h1 h2 => hh (i + 1) u x (by simpa using h1) (by simpa using h2)) hga
      have hb0 : bor0 = true := hbor rfl
      obtain ⟨l, ys, b, T0, g1, g2, g3, g4, g5, g6, hbk, hax, hT0, hop0⟩ := h.objP (hh 0 _ x rfl rfl) he hg hi
      refine ⟨h1.cons ?_ (fun T sz rows b e => by cases e), fun b hb => ?_⟩
      · have hc : ∀ (j : Nat) (u : V), row[j]? = some u → ∃ y, ys[i * e.sz + j]? = some y ∧ RV w (RB R G st.H all bor0) noG u y := fun j u hu => by
          obtain ⟨y, q1, _, q2⟩ := g6.2 i j row u hi hu
          exact ⟨y, q1, (hr u (List.mem_of_getElem? hu) _ _ _ noG _ q2).mono (fun b hb => ⟨hsub b hb, rfl⟩) (Gle.refl _)⟩
        rw [hax]
        refine .rptr row off b (i * l.sz) (fun j => (ys[i * e.sz + j]?).getD undef) (.inr ⟨hb0, id, e, l, hn, he, g1, g2.trans hg.symm, (Loc.ft_of hop0).2 hbk⟩) ?_ ?_
        · intro j u hu
          obtain ⟨y, q1, _⟩ := hc j u hu
          show _ = some ((ys[i * e.sz + j]?).getD undef)
          rw [g3, q1]
          exact own_cell g5 hbk q1
        · intro j u hu
          obtain ⟨y, q1, q2⟩ := hc j u hu
          show RV _ _ _ u ((ys[i * e.sz + j]?).getD undef)
          rw [q1]; exact q2
      · rcases parBlk_cons.1 hb with ⟨T, sz, rows, e, _⟩ | hb
        · cases e
        · exact h2 b hb
  | @borc gone f caps caps' us ps hc hA ih =>
    intro hbor hl hh hga
    match xs, hl with
    | x :: xs, hl =>
      obtain ⟨h1, h2⟩ := ih hbor (by simpa using hl) (fun i u x h1 h2 => hh (i + 1) u x (by simpa using h1) (by simpa using h2)) hga
      have hb0 : bor0 = true := hbor rfl
      refine ⟨h1.cons ?_ (fun T sz rows b e => by cases e), fun b hb => ?_⟩
      · have hv := hh 0 _ x rfl rfl
        cases hv with
        | clo f caps vs hlv hvv =>
          have key : ∀ (caps caps' : List V) (vs : List Value), CapsOk st.H all caps caps' → caps.length = vs.length → (∀ (i : Nat) (u : V) (y : Value), caps[i]? = some u → vs[i]? = some y → RV w R G u y) →
              caps'.length = vs.length ∧ ∀ (i : Nat) (u : V) (y : Value), caps'[i]? = some u → vs[i]? = some y → RV w (RB R G st.H all bor0) noG u y := by
            intro caps
            induction caps with
            | nil => intro caps' vs hc hl hv; match caps', hc with | [], _ => exact ⟨hl, fun i u y h => by simp at h⟩
            | cons u us ih =>
              intro caps' vs hc hl hv
              match caps', vs, hc, hl with
              | u' :: us', y :: ys, hc, hl =>
                obtain ⟨k1, k2⟩ := ih us' ys hc.2 (by simpa using hl) (fun i u x h1 h2 => hv (i + 1) u x (by simpa using h1) (by simpa using h2))
                refine ⟨by simp [k1], fun i v z q1 q2 => ?_⟩
                cases i with
                | succ i => exact k2 i v z (by simpa using q1) (by simpa using q2)
                | zero =>
                  simp at q1 q2; subst q1 q2
                  have h0 := hv 0 u y rfl rfl
                  rcases hc.1 with ⟨rfl, hcl⟩ | ⟨id, g, i, off, e, row, rfl, he, hg, hi, hr, hn, rfl⟩ | ⟨id, g, e, ents, rfl, he, hg, hT, hn, rfl⟩
                  · exact (hcl _ _ _ noG _ h0).mono (fun b hb => ⟨hsub b hb, rfl⟩) (Gle.refl _)
                  · obtain ⟨l, ys, b, T0, g1, g2, g3, g4, g5, g6, hbk, hax, hT0, hop0⟩ := h.objP h0 he hg hi
                    have hcc : ∀ (j : Nat) (u : V), row[j]? = some u → ∃ y, ys[i * e.sz + j]? = some y ∧ RV w (RB R G st.H all bor0) noG u y := fun j u hu => by
                      obtain ⟨y, q1, _, q2⟩ := g6.2 i j row u hi hu
                      exact ⟨y, q1, (hr u (List.mem_of_getElem? hu) _ _ _ noG _ q2).mono (fun b hb => ⟨hsub b hb, rfl⟩) (Gle.refl _)⟩
                    rw [hax]
                    refine .rptr row off b (i * l.sz) (fun j => (ys[i * e.sz + j]?).getD undef) (.inr ⟨hb0, id, e, l, hn, he, g1, g2.trans hg.symm, (Loc.ft_of hop0).2 hbk⟩) ?_ ?_
                    · intro j u hu
                      obtain ⟨y, q1, _⟩ := hcc j u hu
                      show _ = some ((ys[i * e.sz + j]?).getD undef)
                      rw [g3, q1]
                      exact own_cell g5 hbk q1
                    · intro j u hu
                      obtain ⟨y, q1, q2⟩ := hcc j u hu
                      show RV _ _ _ u ((ys[i * e.sz + j]?).getD undef)
                      rw [q1]; exact q2
                  · cases h0 with
                    | obj id g l hG hg' x hx =>
                      have := h.hr.le id e l he hG
                      have h2 : l.gen = e.gen := by omega
                      have h3 := h.hr.obj id e l he hG h2
                      have hx1 := hx (by omega)
                      unfold ObjOk at h3; rw [hT] at h3
                      obtain ⟨F, f1, f2, f3, b, clock, es, m1, m2, m3, m4, m5⟩ := h3
                      rw [hx1, m1]
                      exact .rmap ents b clock es (.inr ⟨hb0, id, e, l, hn, he, hG, h2, by simp only [Loc.ft, f1]; exact (m4 _).2 rfl⟩) m2 m3 (fun i e p q1 q2 => (m5 i e p q1 q2).1)
                        (fun i e p q1 q2 => (m5 i e p q1 q2).2.mono (fun b hb => ⟨hsub b hb, rfl⟩) (Gle.refl _))
          obtain ⟨k1, k2⟩ := key _ _ _ hc hlv hvv
          exact .clo f caps' vs k1 k2
      · rcases parBlk_cons.1 hb with ⟨T, sz, rows, e, _⟩ | hb
        · cases e
        · exact h2 b hb
  | @givv bor gone id g e T n us ps he hg hT hlen hr hn ha hA ih =>
    intro hbor hl hh hga
    match xs, hl with
    | x :: xs, hl =>
      obtain ⟨h1, h2⟩ := ih hbor (by simpa using hl) (fun i u x h1 h2 => hh (i + 1) u x (by simpa using h1) (by simpa using h2)) (fun k hk => hga k (List.mem_cons_of_mem _ hk))
      obtain ⟨l, ys, T0, g1, g2, g3, g4, g5, g6, hsb, hT0, hop0, hbx0⟩ := h.objS (hh 0 _ x rfl rfl) he hg
      obtain ⟨hown, hbx⟩ := sub_own g5 g3 hsb hlen
      have g2' : l.gen = e.gen := g2.trans hg.symm
      have hTT : T0 = T := by rw [hT] at hT0; injection hT0 with q; exact q.symm
      subst hTT
      refine ⟨h1.cons ⟨g4, ys.take (n * e.sz), (by rw [List.length_take, Nat.min_eq_left hlen]; exact hown), fun row hr => g6.1 row (List.mem_of_mem_take hr), fun i j row u h3 h4 => ?_⟩ ?_, fun b hb => ?_⟩
      · have hi : i < n := by have := (List.getElem?_eq_some_iff.1 h3).1; rw [List.length_take] at this; omega
        rw [List.getElem?_take_of_lt hi] at h3
        obtain ⟨y, q1, q2, q3⟩ := g6.2 i j row u h3 h4
        have hj : j < e.sz := by have := (List.getElem?_eq_some_iff.1 h4).1; rw [g6.1 row (List.mem_of_getElem? h3)] at this; exact this
        have hlt : i * e.sz + j < n * e.sz := by
          have : (i + 1) * e.sz ≤ n * e.sz := Nat.mul_le_mul_right _ hi
          rw [Nat.add_mul] at this; omega
        exact ⟨y, by rw [List.getElem?_take_of_lt hlt]; exact q1, q2, (hr row (List.mem_of_getElem? h3) u (List.mem_of_getElem? h4) _ _ _ noG _ q3).mono (fun b hb => ⟨hsub b hb, rfl⟩) (Gle.refl _)⟩
      · intro T sz rows b _ hb
        have hb := (Loc.ft_of hop0).2 (hbx b hb)
        refine ⟨fun hpb => ?_, fun hRB => ?_⟩
        · obtain ⟨id', hid', e', l', q1, q2, q25, q3⟩ := h2 b hpb
          exact h.hr.apart id id' e e' l l' b he q1 (fun e => hn (e ▸ hid')) g1 q2 g2' q25 hb q3
        · rcases hRB with hR | ⟨_, id', e', l', q0, q1, q2, q25, q3⟩
          · exact (h.hr.mine id e l b he g1 g2' hb).1 hR
          · exact h.hr.apart id id' e e' l l' b he q1 (fun e => q0 (e ▸ ha)) g1 q2 g2' q25 hb q3
      · rcases parBlk_cons.1 hb with ⟨T, sz, rows, _, hb⟩ | hb
        · exact ⟨id, List.mem_cons_self .., e, l, he, g1, g2', (Loc.ft_of hop0).2 (hbx b hb)⟩
        · obtain ⟨k, hk, q⟩ := h2 b hb
          exact ⟨k, List.mem_cons_of_mem _ hk, q⟩
  | @give bor gone id g e T us ps he hg hT hr hn ha hA ih =>
    intro hbor hl hh hga
    match xs, hl with
    | x :: xs, hl =>
      obtain ⟨h1, h2⟩ := ih hbor (by simpa using hl) (fun i u x h1 h2 => hh (i + 1) u x (by simpa using h1) (by simpa using h2)) (fun k hk => hga k (List.mem_cons_of_mem _ hk))
      obtain ⟨l, ys, T0, g1, g2, g3, g4, g5, g6, hx, hT0, hop0, hbx0⟩ := h.objO (hh 0 _ x rfl rfl) he hg
      have g2' : l.gen = e.gen := g2.trans hg.symm
      subst hx
      have hTT : T0 = T := by rw [hT] at hT0; injection hT0 with q; exact q.symm
      subst hTT
      refine ⟨h1.cons ⟨g4, ys, g5, g6.1, fun i j row u h3 h4 => ?_⟩ ?_, fun b hb => ?_⟩
      · obtain ⟨y, q1, q2, q3⟩ := g6.2 i j row u h3 h4
        exact ⟨y, q1, q2, (hr row (List.mem_of_getElem? h3) u (List.mem_of_getElem? h4) _ _ _ noG _ q3).mono (fun b hb => ⟨hsub b hb, rfl⟩) (Gle.refl _)⟩
      · intro T sz rows b _ hb
        have hb := (Loc.ft_of hop0).2 hb
        refine ⟨fun hpb => ?_, fun hRB => ?_⟩
        · obtain ⟨id', hid', e', l', q1, q2, q25, q3⟩ := h2 b hpb
          exact h.hr.apart id id' e e' l l' b he q1 (fun e => hn (e ▸ hid')) g1 q2 g2' q25 hb q3
        · rcases hRB with hR | ⟨_, id', e', l', q0, q1, q2, q25, q3⟩
          · exact (h.hr.mine id e l b he g1 g2' hb).1 hR
          · exact h.hr.apart id id' e e' l l' b he q1 (fun e => q0 (e ▸ ha)) g1 q2 g2' q25 hb q3
      · rcases parBlk_cons.1 hb with ⟨T, sz, rows, _, hb⟩ | hb
        · exact ⟨id, List.mem_cons_self .., e, l, he, g1, g2', (Loc.ft_of hop0).2 hb⟩
        · obtain ⟨k, hk, q⟩ := h2 b hb
          exact ⟨k, List.mem_cons_of_mem _ hk, q⟩
def nO : List Par → Nat
  | [] => 0
  | .c _ :: rs => nO rs
  | .o _ _ _ :: rs => nO rs + 1
theorem nO_le : ∀ rs : List Par, nO rs ≤ rs.length
  | [] => Nat.le_refl _
  | .c _ :: rs => by have := nO_le rs; simp [nO]; omega
  | .o _ _ _ :: rs => by have := nO_le rs; simp [nO]; omega
/-- results, put in their places -/
theorem res_set {R' : Nat → Prop} {g : Nat → Nat} : ∀ (rs : List Par) (ys : List Value) (k : Nat) {st : St} {G : Nat → Option Loc}, RelAt c st a w R' G → rs.length = ys.length →
    (∀ (i : Nat) (p : Par) (y : Value), rs[i]? = some p → ys[i]? = some y → ParOk w R' p y) →
    (∀ (i j : Nat) (T : TypeId) (sz : Nat) (rows : List (List V)) (T' : TypeId) (sz' : Nat) (rows' : List (List V)) (x y : Value) (b : Nat), i ≠ j → rs[i]? = some (.o T sz rows) → rs[j]? = some (.o T' sz' rows') → ys[i]? = some x → ys[j]? = some y → x.ownBlock = some b → y.ownBlock ≠ some b) →
    (∀ b, ParBlk rs ys b → ¬ R' b ∧ (c.L b ∨ c.w0.heap.size ≤ b) ∧ ∀ id e l, st.H id = some e → G id = some l → l.gen = e.gen → ¬ l.ft b) →
    (∀ id, k ≤ id → id < k + rs.length → ∀ l0, G id = some l0 → l0.gen < g id) →
    ∃ G', RelAt c { st with H := addH st.H (resH g k rs) } a w R' G' ∧ Gle G G' ∧ (∀ id, (id < k ∨ k + nO rs ≤ id) → G' id = G id) ∧ (resV g k rs).length = ys.length ∧
      ∀ (i : Nat) (u : V) (y : Value), (resV g k rs)[i]? = some u → ys[i]? = some y → RV w R' G' u y
  | [], [], k, st, G, h, _, _, _, _, _ => ⟨G, h, Gle.refl _, fun _ _ => rfl, rfl, fun i u y hu => by simp [resV] at hu⟩
  | .c v :: rs, y :: ys, k, st, G, h, hl, hok, hap, hfree, hgen => by
    obtain ⟨G', h1, h2, h3, h4, h5⟩ := res_set rs ys k h (by simpa using hl) (fun i p y q1 q2 => hok (i + 1) p y (by simpa using q1) (by simpa using q2))
      (fun i j T sz rows T' sz' rows' x y b hij q1 q2 q3 q4 => hap (i + 1) (j + 1) T sz rows T' sz' rows' x y b (by omega) (by simpa using q1) (by simpa using q2) (by simpa using q3) (by simpa using q4))
      (fun b hb => hfree b (parBlk_cons.2 (.inr hb))) (fun id q1 q2 => hgen id q1 (by simp; omega))
    refine ⟨G', h1, h2, fun id hid => h3 id hid, by simp [resV, h4], fun i u z q1 q2 => ?_⟩
    cases i with
    | zero =>
      simp [resV] at q1 q2; subst q1 q2
      exact (rv_noG (hok 0 (.c v) y rfl rfl)).mono (fun b hb => ⟨hb, rfl⟩) (Gle.refl _)
    | succ i => exact h5 i u z (by simpa [resV] using q1) (by simpa using q2)
  | .o T sz rows :: rs, y :: ys, k, st, G, h, hl, hok, hap, hfree, hgen => by
    obtain ⟨hz, xs, hown, hrows⟩ := hok 0 (.o T sz rows) y rfl rfl
    have hgk : ∀ l0, G k = some l0 → l0.gen < g k := hgen k (Nat.le_refl _) (by simp)
    have hle1 : Gle G (upd G k (some ⟨g k, sz, y, false, none⟩)) := fun id m hm => by
      by_cases hk : id = k
      · subst hk; exact ⟨_, upd_same _ _ _, .inr (hgk m hm)⟩
      · exact ⟨m, by rw [upd_ne _ _ hk]; exact hm, .inl (SameL.refl _)⟩
    have h1 := h.set (row := none) (id := k) (box := false) (To := .t T) (w' := w) ⟨rfl, rfl, rfl, Nat.le_refl _, fun _ _ _ => rfl⟩ (.inl rfl) (by simp) (fun l0 h0 => .inr (hgk l0 h0)) hz hown
      (hrows.mono (fun b hb => ⟨hb, rfl⟩) (noG_le _)) (fun b hb => .inr (by
        obtain ⟨q1, q2, q3⟩ := hfree b (parBlk_cons.2 (.inl ⟨T, sz, rows, rfl, hb⟩))
        exact ⟨q1, q2, fun id e l _ => q3 id e l⟩))
    obtain ⟨G', g1, g2, g3, g4, g5⟩ := res_set rs ys (k + 1) h1 (by simpa using hl) (fun i p y q1 q2 => hok (i + 1) p y (by simpa using q1) (by simpa using q2))
      (fun i j T sz rows T' sz' rows' x y b hij q1 q2 q3 q4 => hap (i + 1) (j + 1) T sz rows T' sz' rows' x y b (by omega) (by simpa using q1) (by simpa using q2) (by simpa using q3) (by simpa using q4))
      (fun b hb => by
        obtain ⟨q1, q2, q3⟩ := hfree b (parBlk_cons.2 (.inr hb))
        refine ⟨q1, q2, fun id e l p1 p2 p25 p3 => ?_⟩
        by_cases hk : id = k
        · subst hk
          simp only [upd_same, Option.some.injEq] at p2
          subst p2
          obtain ⟨j, T', sz', rows', z, r1, r2, r3⟩ := hb
          exact hap 0 (j + 1) T sz rows T' sz' rows' y z b (by omega) rfl (by simpa using r1) rfl (by simpa using r2) p3 r3
        · simp only [upd_ne _ _ hk] at p1 p2
          exact q3 id e l p1 p2 p25 p3)
      (fun id q1 q2 l0 hl0 => by
        rw [upd_ne _ _ (by omega)] at hl0
        exact hgen id (by omega) (by simp; omega) l0 hl0)
    refine ⟨G', g1, hle1.trans g2, fun id hid => ?_, by simp [resV, g4], fun i u z q1 q2 => ?_⟩
    · rw [g3 id (by simp [nO] at hid; omega), upd_ne _ _ (by simp [nO] at hid; omega)]
    · cases i with
      | zero =>
        simp [resV] at q1 q2; subst q1 q2
        exact .own k (g k) ⟨g k, sz, y, false, none⟩ (by rw [g3 k (by omega), upd_same]) (Nat.le_refl _) _ (fun _ => ⟨rfl, rfl⟩)
      | succ i => exact g5 i u z (by simpa [resV] using q1) (by simpa using q2)
theorem RelAt.drops : ∀ (gone : List Nat) {st : St}, RelAt c st a w R G → RelAt c { st with H := addH st.H (gone.map fun i => (i, none)) } a w R G
  | [], st, h => h
  | i :: gone, st, h => RelAt.drops gone (h.drop i)
theorem addH_gone : ∀ (gone : List Nat) (H : Nat → Option Ent) {id : Nat} {e : Ent}, addH H (gone.map fun i => (i, none)) id = some e → id ∉ gone ∧ H id = some e
  | [], H, id, e, h => ⟨by simp, h⟩
  | i :: gone, H, id, e, h => by
    obtain ⟨h1, h2⟩ := addH_gone gone (upd H i none) h
    by_cases hi : id = i
    · subst hi; rw [upd_same] at h2; cases h2
    · rw [upd_ne _ _ hi] at h2
      exact ⟨by simp [hi, h1], h2⟩
theorem addH_append (H : Nat → Option Ent) : ∀ (a b : List (Nat × Option Ent)), addH H (a ++ b) = addH (addH H a) b
  | [], b => rfl
  | (k, e) :: a, b => addH_append (upd H k e) a b
theorem pack_rel {us : List V} {ys : List Value} (hl : us.length = ys.length) (hh : ∀ (i : Nat) (u : V) (y : Value), us[i]? = some u → ys[i]? = some y → RV w R G u y) : RV w R G (packU us) (packV ys) := by
  match us, ys, hl with
  | [], [], _ => exact .tup [] [] rfl (fun i u x h => by simp at h)
  | [u], [y], _ => exact hh 0 u y rfl rfl
  | u :: u' :: us, y :: y' :: ys, hl => exact .tup _ _ hl hh
/-- a call, whatever is handed over -/
theorem q_call {g : Nat → Nat} {b0 : Nat} {f : FuncId} {xs : List Value} {us : List V} {ps rs : List Par} {bor : Bool} {gone : List Nat} (hb0 : ∀ k, k < 16 → (b0 + k) / 16 = d) (hgen : ∀ id, id / 16 = d → ∀ l0, G id = some l0 → l0.gen < g id)
    (h : RelAt c st a w R G) (hr : (execOp a.eval o).run P w = .ok (.enter f xs.toArray) w) (hl : us.length = xs.length) (hh : ∀ (i : Nat) (u : V) (x : Value), us[i]? = some u → xs[i]? = some x → RV w R G u x)
    (hA : ArgsOk st.H gone bor gone us ps) (hF : Fun P f ps rs) (hfl : bor = true → flatRes rs) (hrs : rs.length ≤ 16) : Done P c st a w G o Q d (packU (resV g b0 rs)) (gone.map (fun i => (i, none)) ++ resH g b0 rs) := by
  intro next hn
  obtain ⟨hP, hblk⟩ := args_pars h (bor0 := bor) hA (fun e => e) hl hh (fun id hid => hid)
  unfold Oper.wp
  rw [hr]
  simp only [Oper.upon]
  refine (hF.2 w (RB R G st.H gone bor) xs ?_ hP).mono ?_
  · rintro b (hb | ⟨_, id, e, l, _, q1, q2, q25, q3⟩)
    · exact h.lt b hb
    · exact h.hr.lt q1 q2 q25 q3
  · rintro e w' ⟨ys, R', rfl, hfr, hsub, hR', hpars, hres⟩
    simp only
    have hL : ∀ b, ParBlk ps xs b → ¬ R b ∧ (c.L b ∨ c.w0.heap.size ≤ b) ∧ ∀ k ek lk, addH st.H (gone.map fun i => (i, none)) k = some ek → G k = some lk → lk.gen = ek.gen → ¬ lk.ft b := fun b hb => by
      obtain ⟨id, hid, e, l, q1, q2, q25, q3⟩ := hblk b hb
      obtain ⟨m1, m2⟩ := h.hr.mine id e l b q1 q2 q25 q3
      refine ⟨m1, m2, fun k ek lk p1 p2 p25 p3 => ?_⟩
      obtain ⟨p4, p5⟩ := addH_gone gone st.H p1
      exact h.hr.apart k id ek e lk l b p5 q1 (fun e => p4 (e ▸ hid)) p2 q2 p25 q25 p3 q3
    have h1 := RelAt.drops gone h
    have hR2 : ∀ b, (R b ∨ (R' b ∧ (ParBlk ps xs b ∨ w.heap.size ≤ b))) → R b ∨ (b < w'.heap.size ∧ (c.L b ∨ c.w0.heap.size ≤ b) ∧ (ParBlk ps xs b ∨ w.heap.size ≤ b)) := by
      rintro b (hb | ⟨hb, h2⟩)
      · exact .inl hb
      · right
        have hlt : b < w'.heap.size := by
          rcases hR' b hb with (hb | ⟨_, id, e, l, _, q1, q2, q25, q3⟩) | ⟨q, _⟩
          · exact Nat.lt_of_lt_of_le (h.lt b hb) hfr.size
          · exact Nat.lt_of_lt_of_le (h.hr.lt q1 q2 q25 q3) hfr.size
          · exact q
        refine ⟨hlt, ?_, h2⟩
        rcases h2 with h2 | h2
        · exact (hL b h2).2.1
        · exact .inr (Nat.le_trans h.fr.size h2)
    have h2 := h1.world (R' := fun b => R b ∨ (R' b ∧ (ParBlk ps xs b ∨ w.heap.size ≤ b))) hfr (fun b hb => .inl hb) hL hR2
    have hRV : ∀ (u : V) (y : Value), (bor = true → Fl u) → RV w' R' noG u y → RV w' (fun b => R b ∨ (R' b ∧ (ParBlk ps xs b ∨ w.heap.size ≤ b))) noG u y := fun u y hf hy => by
      cases bor with
      | true => exact hf rfl _ _ _ _ _ _ _ hy
      | false =>
        refine hy.mono (fun b hb => ⟨?_, rfl⟩) (Gle.refl _)
        rcases hR' b hb with (hb' | ⟨e, _⟩) | ⟨_, q⟩
        · exact .inl hb'
        · cases e
        · exact .inr ⟨hb, q⟩
    have hok : ∀ (i : Nat) (p : Par) (y : Value), rs[i]? = some p → ys[i]? = some y → ParOk w' (fun b => R b ∨ (R' b ∧ (ParBlk ps xs b ∨ w.heap.size ≤ b))) p y := fun i p y q1 q2 => by
      have hp := hpars.ok i p y q1 q2
      cases p with
      | c u => exact hRV u y (fun e => hfl e _ (List.mem_of_getElem? q1)) hp
      | o T sz rows =>
        obtain ⟨p1, zs, p2, p3, p4⟩ := hp
        refine ⟨p1, zs, p2, p3, fun i' j' row u r1 r2 => ?_⟩
        obtain ⟨x, r3, r4, r5⟩ := p4 i' j' row u r1 r2
        exact ⟨x, r3, r4, hRV u x (fun e => hfl e _ (List.mem_of_getElem? q1) row (List.mem_of_getElem? r1) u (List.mem_of_getElem? r2)) r5⟩
    obtain ⟨G', g1, g2, g3, g4, g5⟩ := res_set rs ys b0 (g := g) h2 hpars.len hok hpars.apart (fun b hb => by
        have q1 := hpars.free b hb
        have q0 : ¬ (R b ∨ (R' b ∧ (ParBlk ps xs b ∨ w.heap.size ≤ b))) := by
          rintro (q | q)
          · exact q1 (hsub b (.inl q))
          · exact q1 q.1
        rcases hres b hb with q2 | q2
        · exact ⟨q0, (hL b q2).2.1, (hL b q2).2.2⟩
        · exact ⟨q0, .inr (Nat.le_trans h.fr.size q2), fun id e l p1 p2 p25 p3 => by have := h1.hr.lt p1 p2 p25 p3; omega⟩)
      (fun id q1 q2 l0 hl0 => hgen id (by have := hb0 (id - b0) (by omega); rwa [show b0 + (id - b0) = id by omega] at this) l0 hl0)
    refine hn (packV ys) w' _ G' ?_ (pack_rel g4 g5) ?_
    · rw [addH_append]; exact g1
    · intro id hid
      refine g3 id ?_
      have hnO := nO_le rs
      by_cases q : id < b0 ∨ b0 + nO rs ≤ id
      · exact q
      · exact absurd (by have := hb0 (id - b0) (by omega); rwa [show b0 + (id - b0) = id by omega] at this) hid
theorem run_call {cl : Call} {f : FuncId} {x : Operand} {caps : List Value} (ho : o.op = .call cl) (hc : cl.callee = .value x) (hx : a.eval x = .func (.func f) #[] caps.toArray) (hf : Callable P f) :
    (execOp a.eval o).run P w = .ok (.enter f (cl.args.toList.map a.eval ++ caps).toArray) w := by
  obtain ⟨fn, h1, h2, h3⟩ := hf
  have e : cl.args.map a.eval ++ caps.toArray = (cl.args.toList.map a.eval ++ caps).toArray := by apply Array.ext'; simp
  rw [← e]
  have h3' : ¬ fn.body = none := by intro q; rw [q] at h3; simp at h3
  have h2' : ¬ fn.name = "runtime.NumGoroutine" := by simpa using h2
  unfold execOp; rw [ho]
  simp [resolve, hc, hx, Deferred.ofValue, invoke, callFunc, h1, h2', h3']
end
end Go.Proofs.Ytjhdlcmecbngkaa
/- Structs compared cell by cell. No program in sight. -/
namespace Go.Proofs.Ytjhdlcmecbngkaa
open Go.RowKit
set_option linter.unusedVariables false
def cellsEq : List Nat → List Value → List Value → Option Bool
  | [], [], [] => some true
  | 0 :: ts, .int k a :: us, .int k' b :: vs => if k = k' then (match cellsEq ts us vs with
    | some r => some ((a == b) && r)
    | none => none) else none
  | 1 :: ts, .string a :: us, .string b :: vs => match cellsEq ts us vs with
    | some r => some ((a.toList == b.toList) && r)
    | none => none
  | 2 :: ts, .bool a :: us, .bool b :: vs => match cellsEq ts us vs with
    | some r => some ((a == b) && r)
    | none => none
  | _, _, _ => none
theorem cellsEq_cons {t : Nat} {ts : List Nat} {xs ys : List Value} {b : Bool} (h : cellsEq (t :: ts) xs ys = some b) :
    ∃ (x : Value) (xs' : List Value) (y : Value) (ys' : List Value) (e r : Bool), xs = x :: xs' ∧ ys = y :: ys' ∧ cellsEq ts xs' ys' = some r ∧ b = (e && r) ∧
      ∀ ts2 xs2 ys2 r2, cellsEq ts2 xs2 ys2 = some r2 → cellsEq (t :: ts2) (x :: xs2) (y :: ys2) = some (e && r2) := by
  unfold cellsEq at h
  split at h
  · rename_i hq; cases hq
  · rename_i k a us k' b' vs e1
    injection e1 with e1 e1'
    subst e1 e1'
    split at h
    · rename_i hk
      subst hk
      split at h
      · rename_i r hr
        injection h with h
        exact ⟨_, us, _, vs, a == b', r, rfl, rfl, hr, h.symm, fun ts2 xs2 ys2 r2 h2 => by simp only [cellsEq, if_true, h2]⟩
      · cases h
    · cases h
  · rename_i a us b' vs e1
    injection e1 with e1 e1'
    subst e1 e1'
    split at h
    · rename_i r hr
      injection h with h
      exact ⟨_, us, _, vs, a.toList == b'.toList, r, rfl, rfl, hr, h.symm, fun ts2 xs2 ys2 r2 h2 => by simp only [cellsEq, h2]⟩
    · cases h
  · rename_i a us b' vs e1
    injection e1 with e1 e1'
    subst e1 e1'
    split at h
    · rename_i r hr
      injection h with h
      exact ⟨_, us, _, vs, a == b', r, rfl, rfl, hr, h.symm, fun ts2 xs2 ys2 r2 h2 => by simp only [cellsEq, h2]⟩
    · cases h
  · cases h
theorem cellsEq_nil {xs ys : List Value} {b : Bool} (h : cellsEq [] xs ys = some b) : xs = [] ∧ ys = [] ∧ b = true := by
  cases xs <;> cases ys <;> simp [cellsEq] at h ⊢
  first | exact h | exact h.symm
theorem cellsEq_len : ∀ (ts : List Nat) (xs ys : List Value) {b : Bool}, cellsEq ts xs ys = some b → xs.length = ts.length ∧ ys.length = ts.length := by
  intro ts
  induction ts with
  | nil => intro xs ys b h; obtain ⟨rfl, rfl, _⟩ := cellsEq_nil h; exact ⟨rfl, rfl⟩
  | cons t ts ih =>
    intro xs ys b h
    obtain ⟨x, xs', y, ys', e, r, rfl, rfl, h1, _, _⟩ := cellsEq_cons h
    obtain ⟨g1, g2⟩ := ih _ _ h1
    simp [g1, g2]
theorem cellsEq_app : ∀ (ts ts' : List Nat) (xs ys xs' ys' : List Value) {b : Bool}, xs.length = ts.length → ys.length = ts.length → cellsEq (ts ++ ts') (xs ++ xs') (ys ++ ys') = some b →
    ∃ b1 b2, cellsEq ts xs ys = some b1 ∧ cellsEq ts' xs' ys' = some b2 ∧ b = (b1 && b2) := by
  intro ts
  induction ts with
  | nil =>
    intro ts' xs ys xs' ys' b h1 h2 h
    obtain rfl := List.eq_nil_of_length_eq_zero h1
    obtain rfl := List.eq_nil_of_length_eq_zero h2
    exact ⟨true, b, rfl, h, by simp⟩
  | cons t ts ih =>
    intro ts' xs ys xs' ys' b h1 h2 h
    match xs, ys, h1, h2 with
    | x :: xs, y :: ys, h1, h2 =>
      have h1' : xs.length = ts.length := by simpa using h1
      have h2' : ys.length = ts.length := by simpa using h2
      simp only [List.cons_append] at h
      obtain ⟨x', _, y', _, e, r, q1, q2, q3, q4, q5⟩ := cellsEq_cons h
      injection q1 with q1 q1'; injection q2 with q2 q2'
      subst q1 q1' q2 q2'
      obtain ⟨b1, b2, g1, g2, g3⟩ := ih _ _ _ _ _ h1' h2' q3
      exact ⟨e && b1, b2, q5 _ _ _ _ g1, g2, by rw [q4, g3, Bool.and_assoc]⟩
section
variable {P : Program} {w : World}
def wrapV (agg : Bool) (xs : List Value) : Value := if agg then .agg xs.toArray else xs.headD undef
theorem run_part {t : TypeId} {i : TypeInfo} {agg : Bool} {n off : Nat} {xs : List Value} (hi : P.info? t = some i) (ha : aggT P t = some agg) (hn : n = i.size) (h1 : agg = false → n = 1) (hb : off + n ≤ xs.length) :
    (part t xs.toArray off).run P w = .ok (wrapV agg ((xs.drop off).take n)) w := by
  unfold wrapV
  unfold aggT at ha
  unfold part isAgg
  cases hu : P.underlying t with
  | none => rw [hu] at ha; cases ha
  | some dsc =>
    rw [hu] at ha
    cases agg with
    | true => cases dsc <;> simp at ha <;> simp [run_underlying hu, sizeOf, typeInfo, hi, List.extract_eq_take_drop, hn]
    | false =>
      have hs : n = 1 := h1 rfl
      subst hs
      have hx : xs[off]? = some (xs[off]'(by omega)) := List.getElem?_eq_getElem (by omega)
      have hd : (xs.drop off).take 1 = [xs[off]'(by omega)] := by
        rw [List.drop_eq_getElem_cons (by omega), List.take_succ_cons, List.take_zero]
      cases dsc <;> simp at ha <;> simp [run_underlying hu, hx, hd]
theorem tags_one {d : Nat} {t : TypeId} {ts : List Nat} (h : eqTags P d t = some ts) (ha : aggT P t = some false) : ts.length = 1 := by
  cases d with
  | zero => cases h
  | succ d =>
    simp only [eqTags] at h
    unfold aggT at ha
    split at h
    · injection h with h; subst h; rfl
    · injection h with h; subst h; rfl
    · injection h with h; subst h; rfl
    · rename_i hu; rw [hu] at ha; cases ha
    · cases h
theorem run_eqFields {d D : Nat} (rec_ : ∀ (t : TypeId) (ts : List Nat) (agg : Bool) (xs ys : List Value) (b : Bool) (w : World), eqTags P d t = some ts → aggT P t = some agg → cellsEq ts xs ys = some b → (Op.equalIn D t (wrapV agg xs) (wrapV agg ys)).run P w = .ok b w) :
    ∀ (fs : List Field) (off : Nat) (ts : List Nat) (xs ys : List Value) (b : Bool) (w : World), eqFs P (eqTags P d) fs off = some ts → cellsEq ts (xs.drop off) (ys.drop off) = some b →
      (Op.eqFields D xs.toArray ys.toArray fs).run P w = .ok b w := by
  intro fs
  induction fs with
  | nil =>
    intro off ts xs ys b w h1 h2
    simp only [eqFs, Option.some.injEq] at h1; subst h1
    obtain ⟨g1, g2⟩ := cellsEq_len _ _ _ h2
    have e1 := List.eq_nil_of_length_eq_zero g1
    have e2 := List.eq_nil_of_length_eq_zero g2
    rw [e1, e2] at h2
    simp only [cellsEq, Option.some.injEq] at h2
    subst h2; rfl
  | cons f fs ih =>
    intro off ts xs ys b w h1 h2
    simp only [eqFs] at h1
    split at h1
    · rename_i ts1 i agg hts hi ha
      split at h1
      · rename_i hc
        simp only [Bool.and_eq_true, bne_iff_ne, ne_eq, beq_iff_eq, Bool.or_eq_true] at hc
        obtain ⟨⟨⟨c1, c2⟩, c3⟩, c4⟩ := hc
        split at h1
        · rename_i r hr
          injection h1 with h1
          subst h1
          obtain ⟨g1, g2⟩ := cellsEq_len _ _ _ h2
          rw [List.length_append] at g1 g2
          have s1 : xs.drop off = (xs.drop off).take ts1.length ++ xs.drop (off + ts1.length) := by rw [← List.drop_drop, List.take_append_drop]
          have s2 : ys.drop off = (ys.drop off).take ts1.length ++ ys.drop (off + ts1.length) := by rw [← List.drop_drop, List.take_append_drop]
          rw [s1, s2] at h2
          obtain ⟨b1, b2, k1, k2, k3⟩ := cellsEq_app _ _ _ _ _ _ (by rw [List.length_take]; omega) (by rw [List.length_take]; omega) h2
          rw [List.length_drop] at g1 g2
          have q1 : agg = false → ts1.length = 1 := fun e => tags_one hts (e ▸ ha)
          rcases Nat.eq_zero_or_pos ts1.length with hz | hz
          · have hagg : agg = true := by cases agg with
              | true => rfl
              | false => have := q1 rfl; omega
            subst hagg
            have q1' : (part f.type xs.toArray f.offset).run P w = .ok (wrapV true ((xs.drop off).take ts1.length)) w := by
              rw [c2, c3]
              unfold wrapV part isAgg
              unfold aggT at ha
              cases hu : P.underlying f.type with
              | none => rw [hu] at ha; cases ha
              | some dsc => rw [hu] at ha; cases dsc <;> simp at ha <;> simp [run_underlying hu, sizeOf, typeInfo, hi, List.extract_eq_take_drop]
            have q2' : (part f.type ys.toArray f.offset).run P w = .ok (wrapV true ((ys.drop off).take ts1.length)) w := by
              rw [c2, c3]
              unfold wrapV part isAgg
              unfold aggT at ha
              cases hu : P.underlying f.type with
              | none => rw [hu] at ha; cases ha
              | some dsc => rw [hu] at ha; cases dsc <;> simp at ha <;> simp [run_underlying hu, sizeOf, typeInfo, hi, List.extract_eq_take_drop]
            have q3 := rec_ f.type ts1 true _ _ b1 w hts ha k1
            simp only [Op.eqFields, ne_eq, c1, not_false_eq_true, if_true, Sem.run_bind, q1', q2', q3, Result.andThen_ok, Sem.run_ite]
            cases b1 with
            | false => simp [k3]
            | true => simp only [Bool.not_true, Bool.false_eq_true, if_false]; rw [ih _ _ _ _ _ _ hr k2, k3]; simp
          · have p1 := run_part (w := w) (off := f.offset) (n := ts1.length) (xs := xs) hi ha c3 q1 (by rw [c2]; omega)
            have p2 := run_part (w := w) (off := f.offset) (n := ts1.length) (xs := ys) hi ha c3 q1 (by rw [c2]; omega)
            rw [c2] at p1 p2
            have q3 := rec_ f.type ts1 agg _ _ b1 w hts ha k1
            simp only [Op.eqFields, ne_eq, c1, not_false_eq_true, if_true, Sem.run_bind, c2, p1, p2, q3, Result.andThen_ok, Sem.run_ite]
            cases b1 with
            | false => simp [k3]
            | true => simp only [Bool.not_true, Bool.false_eq_true, if_false]; rw [ih _ _ _ _ _ _ hr k2, k3]; simp
        · cases h1
      · cases h1
    · cases h1
theorem run_eqIn : ∀ (d D : Nat) (t : TypeId) (ts : List Nat) (agg : Bool) (xs ys : List Value) (b : Bool) (w : World), d ≤ D → eqTags P d t = some ts → aggT P t = some agg → cellsEq ts xs ys = some b → (Op.equalIn D t (wrapV agg xs) (wrapV agg ys)).run P w = .ok b w := by
  intro d
  induction d with
  | zero => intro D t ts agg xs ys b w _ h; cases h
  | succ d ih =>
    intro D t ts agg xs ys b w hD h ha hc
    obtain ⟨D, rfl⟩ : ∃ D', D = D' + 1 := ⟨D - 1, by omega⟩
    simp only [eqTags] at h
    split at h
    · rename_i k hu
      injection h with h; subst h
      have : agg = false := by unfold aggT at ha; rw [hu] at ha; simpa using ha.symm
      subst this
      obtain ⟨g1, g2⟩ := cellsEq_len _ _ _ hc
      match xs, ys, g1, g2 with
      | [x], [y], _, _ =>
        cases x <;> cases y <;> simp [cellsEq] at hc
        obtain ⟨rfl, rfl⟩ := hc
        exact run_equalIn_int w D t _ k _ _ hu
    · rename_i hu
      injection h with h; subst h
      have : agg = false := by unfold aggT at ha; rw [hu] at ha; simpa using ha.symm
      subst this
      obtain ⟨g1, g2⟩ := cellsEq_len _ _ _ hc
      match xs, ys, g1, g2 with
      | [x], [y], _, _ =>
        cases x <;> cases y <;> simp [cellsEq] at hc
        subst hc
        exact run_equalIn_string w D t _ _ hu
    · rename_i hu
      injection h with h; subst h
      have : agg = false := by unfold aggT at ha; rw [hu] at ha; simpa using ha.symm
      subst this
      obtain ⟨g1, g2⟩ := cellsEq_len _ _ _ hc
      match xs, ys, g1, g2 with
      | [x], [y], _, _ =>
        cases x <;> cases y <;> simp [cellsEq] at hc
        subst hc
        exact run_equalIn_bool' w D t _ _ hu
    · rename_i fs hu
      split at h
      · cases h
      · rename_i hk
        simp only [Bool.or_eq_true, not_or, Bool.not_eq_true] at hk
        have : agg = true := by unfold aggT at ha; rw [hu] at ha; simpa using ha.symm
        subst this
        have hf : P.fieldsOf t = fs := by unfold Program.fieldsOf; rw [hu]
        have := run_equalIn_struct (P := P) w D t xs.toArray ys.toArray (by rw [hf]; exact hu) hk.1
        show (Op.equalIn (D + 1) t (.agg xs.toArray) (.agg ys.toArray)).run P w = _
        rw [this, hf]
        exact run_eqFields (fun t ts agg xs ys b w h1 h2 h3 => ih D t ts agg xs ys b w (by omega) h1 h2 h3) fs.toList 0 ts xs ys b w h (by simpa using hc)
    · cases h
theorem eqV_cells {R : Nat → Prop} {G : Nat → Option Loc} : ∀ (ts : List Nat) (us vs : List V) (xs ys : List Value) {b : Bool}, eqV ts us vs = some b → us.length = xs.length → vs.length = ys.length →
    (∀ (i : Nat) (u : V) (x : Value), us[i]? = some u → xs[i]? = some x → RV w R G u x) → (∀ (i : Nat) (u : V) (x : Value), vs[i]? = some u → ys[i]? = some x → RV w R G u x) → cellsEq ts xs ys = some b := by
  intro ts
  induction ts with
  | nil =>
    intro us vs xs ys b h h1 h2 _ _
    cases us with
    | nil => cases vs with
      | nil =>
        obtain rfl := List.eq_nil_of_length_eq_zero h1.symm
        obtain rfl := List.eq_nil_of_length_eq_zero h2.symm
        exact h
      | cons => simp [eqV] at h
    | cons => cases vs <;> simp [eqV] at h
  | cons t ts ih =>
    intro us vs xs ys b h h1 h2 r1 r2
    match us, vs with
    | [], _ => simp [eqV] at h
    | _ :: _, [] => simp [eqV] at h
    | u :: us, v :: vs =>
      match xs, ys, h1, h2 with
      | x :: xs, y :: ys, h1, h2 =>
        have a1 := r1 0 u x rfl rfl
        have a2 := r2 0 v y rfl rfl
        have b1 : ∀ (i : Nat) (u : V) (x : Value), us[i]? = some u → xs[i]? = some x → RV w R G u x := fun i u x g1 g2 => r1 (i + 1) u x (by simpa using g1) (by simpa using g2)
        have b2 : ∀ (i : Nat) (u : V) (x : Value), vs[i]? = some u → ys[i]? = some x → RV w R G u x := fun i u x g1 g2 => r2 (i + 1) u x (by simpa using g1) (by simpa using g2)
        have h1' : us.length = xs.length := by simpa using h1
        have h2' : vs.length = ys.length := by simpa using h2
        unfold eqV at h
        split at h
        · rename_i e1 _ _; cases e1
        · rename_i e1 e2 e3
          injection e1 with e1 e1'; injection e2 with e2 e2'; injection e3 with e3 e3'
          subst e1 e2 e3 e1' e2' e3'
          cases a1; cases a2
          split at h
          · rename_i hk
            subst hk
            split at h
            · rename_i r hr
              simp only [cellsEq, if_true, ih _ _ _ _ hr h1' h2' b1 b2]
              exact h
            · cases h
          · cases h
        · rename_i e1 e2 e3
          injection e1 with e1 e1'; injection e2 with e2 e2'; injection e3 with e3 e3'
          subst e1 e2 e3 e1' e2' e3'
          cases a1; cases a2
          split at h
          · rename_i r hr
            simp only [cellsEq, ih _ _ _ _ hr h1' h2' b1 b2]
            exact h
          · cases h
        · rename_i e1 e2 e3
          injection e1 with e1 e1'; injection e2 with e2 e2'; injection e3 with e3 e3'
          subst e1 e2 e3 e1' e2' e3'
          cases a1; cases a2
          split at h
          · rename_i r hr
            simp only [cellsEq, ih _ _ _ _ hr h1' h2' b1 b2]
            exact h
          · cases h
        · cases h
theorem tags_guard {t : TypeId} {ts : List Nat} {fs : Array Field} {d : Nat} (h : eqTags P d t = some ts) (hu : P.underlying t = some (.struct fs)) : P.eqGuardType P.depth t = false := by
  cases d with
  | zero => cases h
  | succ d =>
    simp only [eqTags, hu] at h
    split at h
    · cases h
    · rename_i hk
      simp only [Bool.or_eq_true, not_or, Bool.not_eq_true] at hk
      exact hk.2
variable {c : Ctx} {st : St} {a : Act} {R : Nat → Prop} {G : Nat → Option Loc} {o : Oper} {Q : Exit → Act → World → Prop} {d : Nat}
theorem q_eqS {op : BinOp} {t t' : TypeId} {x y : Operand} {us vs : List V} {neg b : Bool} {fs : Array Field} {ts : List Nat} (ho : o.op = .binOp op t x y t') (ht : P.underlying t = some (.struct fs)) (hts : eqTags P 20 t = some ts) (hop : op = if neg then .neq else .eql)
    (h : RelAt c st a w R G) (hx : val st.env x = .agg us) (hy : val st.env y = .agg vs) (hb : eqV ts us vs = some b) : Done P c st a w G o Q d (.v (.bool (bif neg then !b else b))) [] := by
  have rx := h.val x
  have ry := h.val y
  rw [hx] at rx
  rw [hy] at ry
  generalize hax : a.eval x = ax at rx
  generalize hay : a.eval y = ay at ry
  cases rx with
  | agg us xs hl hh =>
    cases ry with
    | agg vs ys hl' hh' =>
      have hce := eqV_cells _ _ _ _ _ hb hl hl' hh hh'
      have ha : aggT P t = some true := by unfold aggT; rw [ht]
      have hrun := run_eqIn (P := P) 20 10000 t ts true xs ys b w (by omega) hts ha hce
      have hrun' : (Op.equalIn 10000 t (.agg xs.toArray) (.agg ys.toArray)).run P w = .ok b w := hrun
      have hg := run_eqGuard_agg (P := P) w op t x y xs.toArray ys.toArray (tags_guard hts ht)
      refine done_pure h ?_ (.v _)
      unfold execOp; rw [ho]
      refine run_v _ ?_
      simp only [hax, hay, Sem.run_bind, hg, Result.andThen_ok]
      subst hop
      cases neg
      · have := run_eql_struct (P := P) w t xs.toArray ys.toArray
        rw [hrun'] at this
        exact this
      · have := run_neq_struct (P := P) w t xs.toArray ys.toArray
        rw [hrun'] at this
        exact this
end
end Go.Proofs.Ytjhdlcmecbngkaa
/- Maps of our own, and maps that are read. No program in sight. -/
namespace Go.Proofs.Ytjhdlcmecbngkaa
open Go.RowKit
set_option linter.unusedVariables false
section
variable {P : Program} {c : Ctx} {st : St} {a : Act} {w w' : World} {R : Nat → Prop} {G : Nat → Option Loc} {o : Oper} {Q : Exit → Act → World → Prop} {d : Nat} {u : V} {dH : List (Nat × Option Ent)}
/-- what a map's value is -/
def MapAt (w : World) (R : Nat → Prop) (G : Nat → Option Loc) (ents : List (Value × V)) (x : Value) (es : Array MapEntry) : Prop :=
  ((x = .map none ∧ es = #[]) ∨ ∃ b clock, x = .map (some b) ∧ w.heap[b]? = some (.map es clock)) ∧ es.size = ents.length ∧
    ∀ (i : Nat) (e : MapEntry) (p : Value × V), es[i]? = some e → ents[i]? = some p → e.key = p.1 ∧ RV w R G p.2 e.val
theorem RelAt.objQ (h : RelAt c st a w R G) {id gen : Nat} {e : Ent} {x : Value} {I : Opq} (hx : RV w R G (.obj id gen) x) (he : st.H id = some e) (hg : e.gen = gen) (hT : e.T = .q I) :
    ∃ l F, G id = some l ∧ l.gen = gen ∧ l.op = some F ∧ l.box = true ∧ e.rows = [] ∧ I.inv w R x F ∧ x = pv l.val := by
  cases hx with
  | obj id gen l hG hg' x hx =>
    have := h.hr.le id e l he hG
    have h2 : l.gen = e.gen := by omega
    have h3 := h.hr.obj id e l he hG h2
    have hx1 := hx (by omega)
    obtain ⟨g, T, sz, rows⟩ := e
    subst hT
    obtain ⟨F, k1, k2, k3, k4⟩ := h3
    exact ⟨l, F, hG, by omega, k1, k2, k3, hx1 ▸ k4, hx1⟩
theorem map_of (h : RelAt c st a w R G) {v : V} {x : Value} {ents : List (Value × V)} (hv : RV w R G v x) (he : entsOf st.H v ents) : ∃ es, MapAt w R G ents x es := by
  unfold entsOf at he
  split at he
  · obtain ⟨e, h1, h2, h3⟩ := he
    obtain ⟨l, F, k1, k2, k3, k4, k5, k6, k7⟩ := h.objQ hv h1 h2 h3
    obtain ⟨b, clock, es, m1, m2, m3, m4, m5⟩ := k6
    exact ⟨es, .inr ⟨b, clock, m1, m2⟩, m3, fun i e p q1 q2 => ⟨(m5 i e p q1 q2).1, rv_noG (m5 i e p q1 q2).2⟩⟩
  · subst he
    cases hv with
    | rmap ents b clock es hR hb hl hk hv => exact ⟨es, .inr ⟨b, clock, rfl, hb⟩, hl, fun i e p q1 q2 => ⟨hk i e p q1 q2, hv i e p q1 q2⟩⟩
  · subst he
    rw [rv_v hv]
    exact ⟨#[], .inl ⟨rfl, rfl⟩, rfl, fun i e p q1 => by simp at q1⟩
  · exact he.elim
theorem findNow_of {kind : TypeDesc} {k : Value} : ∀ (es : List MapEntry) (ents : List (Value × V)) (i : Nat), es.length = ents.length → (∀ (j : Nat) (e : MapEntry) (p : Value × V), es[j]? = some e → ents[j]? = some p → e.key = p.1) → ∀ r, findE kind k ents i = some r →
    ∃ s, Instr.findNow kind k es i = some s ∧ (r = none → s = none) ∧ ∀ j u, r = some (j, u) → ∃ x, s = some (j, x) ∧ i ≤ j ∧ ∃ e p, es[j - i]? = some e ∧ ents[j - i]? = some p ∧ x = e.val ∧ u = p.2
  | [], [], i, _, _, r, h => by
    simp only [findE, Option.some.injEq] at h; subst h
    exact ⟨none, rfl, fun _ => rfl, fun j u h => by cases h⟩
  | e :: es, (a, v) :: ents, i, hl, hk, r, h => by
    have hka : e.key = a := hk 0 e (a, v) rfl rfl
    simp only [findE] at h
    simp only [Instr.findNow, hka]
    split at h
    · rename_i hs
      simp only [Option.some.injEq] at h; subst h
      rw [hs]
      exact ⟨_, rfl, fun h => (by cases h), fun j u h => by
        simp only [Option.some.injEq, Prod.mk.injEq] at h
        obtain ⟨rfl, rfl⟩ := h
        exact ⟨_, rfl, Nat.le_refl _, e, (a, v), by simp, by simp, rfl, rfl⟩⟩
    · rename_i hs
      rw [hs]
      obtain ⟨s, h1, h2, h3⟩ := findNow_of es ents (i + 1) (by simpa using hl) (fun j e p q1 q2 => hk (j + 1) e p (by simpa using q1) (by simpa using q2)) r h
      refine ⟨s, h1, h2, fun j u hr => ?_⟩
      obtain ⟨x, k1, k2, e', p', k3, k4, k5, k6⟩ := h3 j u hr
      have e1 : j - i = (j - (i + 1)) + 1 := by omega
      exact ⟨x, k1, by omega, e', p', by rw [e1]; simpa using k3, by rw [e1]; simpa using k4, k5, k6⟩
    · cases h
theorem run_findKey {t : TypeId} {kind : TypeDesc} {k : Value} {es : List MapEntry} {s : Option (Nat × Value)} (ht : P.underlying t = some kind) (h : Instr.findNow kind k es 0 = some s) : (Instr.findKey t k es).run P w = .ok s w := by
  simp [Instr.findKey, run_underlying ht, h]
theorem run_checkKey {em : Bool} {n : Nat} {t : TypeId} {kind : TypeDesc} {v : Value} (ht : P.underlying t = some kind) (hk : keyKind kind = true) : (Instr.checkKey em (n + 1) t v).run P w = .ok () w := by
  simp only [Instr.checkKey, Sem.run_bind, run_underlying ht, Result.andThen_ok]
  unfold keyKind at hk
  split at hk <;> first | (cases hk; done) | (cases v <;> simp)
theorem q_mlook {t kt et : TypeId} {x y : Operand} {ok : Bool} {kind : TypeDesc} {i : TypeInfo} {z : Value} {ents : List (Value × V)} {kv : Value} {r : Option (Nat × V)} (ho : o.op = .lookup t x y ok) (ht : P.underlying t = some (.map kt et)) (hkt : P.underlying kt = some kind) (hkk : keyKind kind = true) (hi : P.info? et = some i) (hz : i.zero = some z)
    (h : RelAt c st a w R G) (he : entsOf st.H (val st.env x) ents) (hy : val st.env y = .v kv) (hf : findE kind kv ents 0 = some r) :
    Done P c st a w G o Q d (lookRes ok z r) [] := by
  obtain ⟨es, h1, h2, h3⟩ := map_of h (h.val x) he
  have e2 : a.eval y = kv := rv_v (hy ▸ h.val y)
  obtain ⟨s, g1, g2, g3⟩ := findNow_of es.toList ents 0 (by simpa using h2) (fun j e p q1 q2 => (h3 j e p (by simpa using q1) q2).1) r hf
  have hrun : ∀ (val : Value) (b : Bool), (s = none → val = z ∧ b = false) → (∀ j x, s = some (j, x) → val = x ∧ b = true) → (execOp a.eval o).run P w = .ok (.value (if ok then .tuple #[val, .bool b] else val)) w := fun val b q1 q2 => by
    unfold execOp; rw [ho]
    refine run_v _ ?_
    have hck := fun em => run_checkKey (P := P) (w := w) (em := em) (n := 9999) (v := kv) hkt hkk
    have hget : (Instr.lookup t (a.eval x) (a.eval y) ok).run P w = (do
        let (v, b') ← match s with
          | some (_, v) => pure (v, true)
          | none => pure (← zeroValue et, false)
        pure (if ok then .tuple #[v, .bool b'] else v) : Sem Value).run P w := by
      rw [e2]
      rcases h1 with ⟨hx, rfl⟩ | ⟨b, clock, hx, hb⟩
      · simp only [Instr.lookup, hx, Sem.run_bind, run_underlying ht, Result.andThen_ok, Sem.run_pure, hck, run_findKey hkt g1]; rfl
      · simp only [Instr.lookup, hx, Sem.run_bind, run_underlying ht, Result.andThen_ok, Sem.run_pure, Go.MapKept.run_getObj_map hb, hck, run_findKey hkt g1]; rfl
    rw [hget]
    cases s with
    | none =>
      obtain ⟨rfl, rfl⟩ := q1 rfl
      simp [zeroValue, typeInfo, hi, hz]
    | some p =>
      obtain ⟨j, x⟩ := p
      obtain ⟨rfl, rfl⟩ := q2 j x rfl
      simp
  cases r with
  | none =>
    have hs := g2 rfl
    have := hrun z false (fun _ => ⟨rfl, rfl⟩) (fun j x e => by rw [hs] at e; cases e)
    cases ok with
    | true => exact done_pure h this (.tup _ [z, .bool false] rfl (fun i u x q1 q2 => by
        match i with
        | 0 => simp at q1 q2; subst q1 q2; exact .v _
        | 1 => simp at q1 q2; subst q1 q2; exact .v _
        | i + 2 => simp at q1))
    | false => exact done_pure h this (.v _)
  | some p =>
    obtain ⟨j, u⟩ := p
    obtain ⟨x', hs, _, e, p, k3, k4, rfl, rfl⟩ := g3 j u rfl
    have := hrun e.val true (fun q => by rw [hs] at q; cases q) (fun j' x e' => by rw [hs] at e'; simp at e'; exact ⟨e'.2, rfl⟩)
    have hrv := (h3 (j - 0) e p (by simpa using k3) k4).2
    cases ok with
    | true => exact done_pure h this (.tup _ [e.val, .bool true] rfl (fun i u x q1 q2 => by
        match i with
        | 0 => simp at q1 q2; subst q1 q2; exact hrv
        | 1 => simp at q1 q2; subst q1 q2; exact .v _
        | i + 2 => simp at q1))
    | false => exact done_pure h this hrv
theorem q_mlen {arg : Operand} {t k e : TypeId} {cl : Call} {ents : List (Value × V)} (ho : o.op = .call cl) (hc : cl.callee = .builtin .len) (ha : cl.args.toList = [arg]) (hat : cl.argTypes.toList = [t]) (ht : P.underlying t = some (.map k e)) (h : RelAt c st a w R G) (he : entsOf st.H (val st.env arg) ents) :
    Done P c st a w G o Q d (.v (.int .i64 ents.length)) [] := by
  obtain ⟨es, h1, h2, h3⟩ := map_of h (h.val arg) he
  have ha' : cl.args = #[arg] := by apply Array.ext'; simpa using ha
  have hat' : cl.argTypes = #[t] := by apply Array.ext'; simpa using hat
  refine done_pure h ?_ (.v _)
  unfold execOp; rw [ho]
  rcases h1 with ⟨hx, rfl⟩ | ⟨b, clock, hx, hb⟩
  · have : ents.length = 0 := by simpa using h2.symm
    simp [resolve, hc, ha', hat', invoke, builtin, Builtin.len_, run_underlying ht, hx, goInt, this]
  · simp [resolve, hc, ha', hat', invoke, builtin, Builtin.len_, run_underlying ht, hx, goInt, Go.MapKept.run_getObj_map hb, h2]
theorem sameNow_same {kind : TypeDesc} {a b : Value} (hk : keyKind kind = true) (h : Instr.sameNow kind a b = some true) : Instr.sameBits 10000 b a = true := by
  unfold Instr.sameNow at h
  split at h
  · split at h
    · rename_i hkk; subst hkk
      simp only [Option.some.injEq, beq_iff_eq] at h; subst h
      simp [Instr.sameBits]
    · cases h
  · simp only [Option.some.injEq] at h
    have h := (Go.MapKept.bytes_beq _ _).1 h
    subst h
    simp [Instr.sameBits, Go.MapKept.bytes_beq]
  · cases hk
  · cases h
theorem findE_same {kind : TypeDesc} {k : Value} : ∀ (ents : List (Value × V)) (i j : Nat) (u : V), findE kind k ents i = some (some (j, u)) → i ≤ j ∧ ∃ p, ents[j - i]? = some p ∧ Instr.sameNow kind k p.1 = some true
  | [], i, j, u, h => by simp [findE] at h
  | (a, v) :: ents, i, j, u, h => by
    simp only [findE] at h
    split at h
    · rename_i hs
      simp only [Option.some.injEq, Prod.mk.injEq] at h
      obtain ⟨rfl, rfl⟩ := h
      exact ⟨Nat.le_refl _, (a, v), by simp, hs⟩
    · obtain ⟨h1, p, h2, h3⟩ := findE_same ents (i + 1) j u h
      exact ⟨by omega, p, by rw [show j - i = (j - (i + 1)) + 1 by omega]; simpa using h2, h3⟩
    · cases h
/-- a store into a map of our own -/
theorem e_mupd {t kt et : TypeId} {x y z : Operand} {kind : TypeDesc} {id gen : Nat} {e : Ent} {ents : List (Value × V)} {kv : Value} {vv : V} {r : Option (Nat × V)} {next : Act → World → Prop} (ho : o.op = .mapUpdate t x y z ∨ o.op = .insert t x y z) (ht : P.underlying t = some (.map kt et)) (hkt : P.underlying kt = some kind) (hkk : keyKind kind = true)
    (h : RelAt c st a w R G) (hx : val st.env x = .obj id gen) (he : st.H id = some e) (hg : e.gen = gen) (hT : e.T = .q (mapI ents)) (hy : val st.env y = .v kv) (hv : val st.env z = vv) (hcl : Cl vv) (hf : findE kind kv ents 0 = some r)
    (hn : ∀ x w' R' G', RelAt c { st with H := upd st.H id (some ⟨gen, .q (mapI (putE ents kv vv r)), 0, []⟩) } a w' R' G' → RV w' R' G' (.v undef) x → next (a.put o.dst x) w') : o.wp P a w next Q := by
  obtain ⟨l, F, k1, k2, k3, k4, k5, k6, k7⟩ := h.objQ (hx ▸ h.val x) he hg hT
  obtain ⟨b, clock, es, m1, m2, m3, m4, m5⟩ := k6
  have e2 : a.eval y = kv := rv_v (hy ▸ h.val y)
  have hvr : RV w R noG vv (a.eval z) := hcl _ _ _ _ _ (hv ▸ h.val z)
  obtain ⟨s, g1, g2, g3⟩ := findNow_of es.toList ents 0 (by simpa using m3) (fun j e p q1 q2 => (m5 j e p (by simpa using q1) q2).1) r hf
  have key : ∃ es' clock', (Instr.mapUpdate t (a.eval x) (a.eval y) (a.eval z)).run P w = .ok () { w with heap := w.heap.setIfInBounds b (.map es' clock') } ∧ es'.size = (putE ents kv vv r).length ∧
      ∀ (i : Nat) (e : MapEntry) (p : Value × V), es'[i]? = some e → (putE ents kv vv r)[i]? = some p → e.key = p.1 ∧ RV w R noG p.2 e.val := by
    cases r with
    | none =>
      have hs := g2 rfl
      subst hs
      refine ⟨es.push ⟨kv, a.eval z, clock⟩, clock + 1, ?_, by simp [putE, m3], ?_⟩
      · simp [Instr.mapUpdate, m1, e2, run_underlying ht, Go.MapKept.run_getObj_map m2, run_checkKey hkt hkk, run_findKey hkt g1, Go.MapKept.run_setObj_map _ m2, Result.andThen]
      · intro i e p q1 q2
        simp only [putE] at q2
        by_cases hi : i < es.size
        · rw [Array.getElem?_push_lt hi] at q1
          rw [List.getElem?_append_left (by omega)] at q2
          exact m5 i e p (by rw [Array.getElem?_eq_getElem hi]; exact q1) q2
        · have hi' : i = es.size := by
            have := (Array.getElem?_eq_some_iff.1 q1).1
            simp at this; omega
          subst hi'
          rw [List.getElem?_append_right (by omega)] at q2
          have q1' : (es.push ⟨kv, a.eval z, clock⟩)[es.size]? = some ⟨kv, a.eval z, clock⟩ := by simp
          rw [q1'] at q1; injection q1 with q1; subst q1
          simp [m3] at q2; subst q2
          exact ⟨rfl, hvr⟩
    | some p =>
      obtain ⟨j, u⟩ := p
      obtain ⟨x', hs, _, en, pn, n1, n2, rfl, rfl⟩ := g3 j u rfl
      subst hs
      simp only [Nat.sub_zero] at n1 n2
      have n1' : es[j]? = some en := by simpa using n1
      obtain ⟨_, p', q1, q2⟩ := findE_same ents 0 j _ hf
      simp only [Nat.sub_zero] at q1
      rw [n2] at q1; injection q1 with q1; subst q1
      have hkey := (m5 j en pn n1' n2).1
      have hst : (Instr.keyThatStays en.key kv).run P w = .ok kv w := by
        rw [hkey]; simp [Instr.keyThatStays, sameNow_same hkk q2]
      refine ⟨es.modify j fun e => { e with key := kv, val := a.eval z }, clock, ?_, by simp [putE, m3], ?_⟩
      · simp [Instr.mapUpdate, m1, e2, run_underlying ht, Go.MapKept.run_getObj_map m2, run_checkKey hkt hkk, run_findKey hkt g1, n1', hst, Go.MapKept.run_setObj_map _ m2, Result.andThen]
      · intro i e p r1 r2
        simp only [putE] at r2
        rw [Array.getElem?_modify] at r1
        by_cases hij : j = i
        · subst hij
          rw [if_pos rfl, n1'] at r1
          have hlt : j < ents.length := (List.getElem?_eq_some_iff.1 n2).1
          rw [List.getElem?_set_self hlt] at r2
          simp at r1 r2
          subst r1 r2
          exact ⟨rfl, hvr⟩
        · rw [if_neg hij] at r1
          rw [List.getElem?_set_ne hij] at r2
          exact m5 i e p r1 r2
  obtain ⟨es', clock', hrun, hsz, hents⟩ := key
  have hh := Go.MapKept.heap_set (o' := Obj.map es' clock') m2
  have hgb : w.grownBy { w with heap := w.heap.setIfInBounds b (.map es' clock') } (some b) := ⟨rfl, rfl, rfl, by simp, fun k hk hne => hh.2 k (fun e => hne (by rw [e]))⟩
  have hsame : SameL l ⟨l.gen, l.sz, l.val, l.box, some fun k => k = b⟩ := ⟨rfl, rfl, rfl, rfl⟩
  have hRR : ∀ k, R k → R k ∧ ({ w with heap := w.heap.setIfInBounds b (.map es' clock') } : World).heap[k]? = w.heap[k]? := fun k hk => ⟨hk, hh.2 k (fun e => (h.hr.mine id _ l k he k1 (by omega) (by subst e; simp only [Loc.ft, k3]; exact (m4 _).2 rfl)).1 hk)⟩
  have hrel := h.setG (id := id) (l := ⟨l.gen, l.sz, l.val, l.box, some fun k => k = b⟩) (e := ⟨gen, .q (mapI (putE ents kv vv r)), 0, []⟩) (row := some b) hgb
    (fun k hk => ⟨l, e, he, k1, by omega, by injection hk with hk; subst hk; simp only [Loc.ft, k3]; exact (m4 _).2 rfl⟩)
    (fun l0 h0 => .inl (by rw [k1] at h0; injection h0 with h0; subst h0; exact hsame)) (by show l.gen = gen; omega)
    ⟨_, rfl, k4, rfl, b, clock', es', by rw [← k7]; exact m1, hh.1, hsz, fun k => Iff.rfl, fun i e p q1 q2 => ⟨(hents i e p q1 q2).1, (hents i e p q1 q2).2.mono hRR (Gle.refl _)⟩⟩
    (fun k hk => .inl (by have : k = b := hk; rw [this]))
  have hex : (execOp a.eval o).run P w = .ok .skip { w with heap := w.heap.setIfInBounds b (.map es' clock') } := by
    unfold execOp
    rcases ho with ho | ho <;> (rw [ho]; simp [hrun])
  unfold Oper.wp; rw [hex]
  exact hn undef _ R _ hrel (.v _)
theorem src_cells (h : RelAt c st a w R G) {sz : Nat} {rows : List (List V)} {v : V} {x : Value} (hv : RV w R G v x) (hs : srcRows st.H sz v rows) :
    (rows = [] ∧ ∃ b c', x = .slice b 0 c' ∧ 0 ≤ c') ∨ ∃ b off c' xs, x = .slice (some ⟨b, off, none⟩) rows.length c' ∧ rows ≠ [] ∧ xs.length = rows.length * sz ∧ (∀ j y, xs[j]? = some y → w.cell? ⟨b, off + j, none⟩ = some y) ∧ (∀ y ∈ xs, y.oneCell' = true) ∧ RowsR w R G xs sz rows := by
  have hflat : ∀ (rows : List (List V)) (f : Nat → Nat → Value) (b off : Nat), (∀ row ∈ rows, row.length = sz) → rows ≠ [] →
      (∀ (i j : Nat) (row : List V) (u : V), rows[i]? = some row → row[j]? = some u → w.cell? ⟨b, off + (i * sz + j), none⟩ = some (f i j) ∧ (f i j).oneCell' = true ∧ RV w R G u (f i j)) →
      ∃ xs : List Value, xs.length = rows.length * sz ∧ (∀ j y, xs[j]? = some y → w.cell? ⟨b, off + j, none⟩ = some y) ∧ (∀ y ∈ xs, y.oneCell' = true) ∧ RowsR w R G xs sz rows := fun rows f b off hlen hne hc => by
    rcases Nat.eq_zero_or_pos sz with h0 | h0
    · subst h0
      refine ⟨[], by simp, by simp, by simp, hlen, fun i j row u h1 h2 => ?_⟩
      have := hlen row (List.mem_of_getElem? h1)
      have := (List.getElem?_eq_some_iff.1 h2).1
      omega
    · have hd : ∀ k, k < rows.length * sz → k / sz < rows.length ∧ k % sz < sz ∧ k / sz * sz + k % sz = k := fun k hk =>
        ⟨Nat.div_lt_of_lt_mul (by rw [Nat.mul_comm]; exact hk), Nat.mod_lt _ h0, by rw [Nat.mul_comm]; exact Nat.div_add_mod k sz⟩
      have hget : ∀ k (hk : k < rows.length * sz), ∃ row u, rows[k / sz]? = some row ∧ row[k % sz]? = some u := fun k hk => by
        obtain ⟨q1, q2, q3⟩ := hd k hk
        refine ⟨rows[k / sz], (rows[k / sz])[k % sz]'(by rw [hlen _ (List.getElem_mem q1)]; exact q2), List.getElem?_eq_getElem q1, List.getElem?_eq_getElem _⟩
      have hxs : ∀ j y, ((List.range (rows.length * sz)).map fun k => f (k / sz) (k % sz))[j]? = some y → j < rows.length * sz ∧ y = f (j / sz) (j % sz) := fun j y hj => by
        have hjl : j < rows.length * sz := by have := (List.getElem?_eq_some_iff.1 hj).1; simpa using this
        simp [hjl] at hj
        exact ⟨hjl, hj.symm⟩
      refine ⟨(List.range (rows.length * sz)).map fun k => f (k / sz) (k % sz), by simp, fun j y hj => ?_, fun y hy => ?_, hlen, fun i j row u h1 h2 => ?_⟩
      · obtain ⟨hjl, rfl⟩ := hxs j y hj
        obtain ⟨row, u, q1, q2⟩ := hget j hjl
        have := (hc _ _ row u q1 q2).1
        rwa [(hd j hjl).2.2] at this
      · obtain ⟨j, hj, rfl⟩ := List.mem_iff_getElem.1 hy
        obtain ⟨hjl, e⟩ := hxs j _ (List.getElem?_eq_getElem hj)
        rw [e]
        obtain ⟨row, u, q1, q2⟩ := hget j hjl
        exact (hc _ _ row u q1 q2).2.1
      · have hi : i < rows.length := (List.getElem?_eq_some_iff.1 h1).1
        have hj : j < sz := by have := (List.getElem?_eq_some_iff.1 h2).1; rw [hlen row (List.mem_of_getElem? h1)] at this; exact this
        have hk : i * sz + j < rows.length * sz := by
          have : (i + 1) * sz ≤ rows.length * sz := Nat.mul_le_mul_right _ hi
          rw [Nat.add_mul] at this; omega
        have e1 : (i * sz + j) / sz = i := by rw [Nat.mul_comm, Nat.mul_add_div h0, Nat.div_eq_of_lt hj, Nat.add_zero]
        have e2 : (i * sz + j) % sz = j := by rw [Nat.mul_comm, Nat.mul_add_mod]; exact Nat.mod_eq_of_lt hj
        refine ⟨f i j, by simp [hk, e1, e2], (hc i j row u h1 h2).2⟩
  unfold srcRows at hs
  split at hs
  · rename_i id g _
    obtain ⟨e, he, hg, hsz, rfl⟩ := hs
    obtain ⟨l, xs, T0, g1, g2, g3, g4, g5, g6, hx, hT0, hop0, hbx0⟩ := h.objO hv he hg
    rcases own_val g5 with ⟨q1, q2⟩ | ⟨b, cap, q1, hb⟩
    · left; exact ⟨q2, none, 0, by rw [hx, q1], Nat.le_refl _⟩
    · by_cases h0 : e.rows = []
      · left; exact ⟨h0, _, cap, by rw [hx, q1, h0]; rfl, Nat.zero_le _⟩
      · right
        obtain ⟨ys, y1, y2, y3, y4⟩ := hflat e.rows (fun i j => (xs[i * sz + j]?).getD undef) b 0 (by rw [← hsz]; exact g6.1) h0 (fun i j row u h1 h2 => by
          obtain ⟨y, p1, p2, p3⟩ := g6.2 i j row u h1 h2
          rw [hsz] at p1
          simp only [p1, Option.getD_some, Nat.zero_add]
          exact ⟨own_cell g5 hb p1, p2, p3⟩)
        exact ⟨b, 0, cap, ys, by rw [hx, q1], h0, y1, y2, y3, y4⟩
  · obtain ⟨he, hr⟩ := hs
    rw [he] at hv
    cases hv with
    | nil clip ad cap hc => left; exact ⟨rfl, ad, cap, rfl, Nat.zero_le _⟩
    | sl clip rows b off cap sz' f hR hcap hclip hs' hcell hh =>
      by_cases h0 : rows = []
      · left; exact ⟨h0, _, cap, by rw [h0]; rfl, Nat.zero_le _⟩
      · right
        have hsz : sz' = sz := by
          obtain ⟨r, hr'⟩ := List.exists_mem_of_ne_nil rows h0
          rw [← hs' r hr']; exact (hr r hr').1
        subst hsz
        obtain ⟨ys, y1, y2, y3, y4⟩ := hflat rows f b off hs' h0 (fun i j row u h1 h2 =>
          ⟨by rw [← Nat.add_assoc]; exact hcell i j row u h1 h2, one_cell h (ones_mem (hr row (List.mem_of_getElem? h1)).2 (List.mem_of_getElem? h2)) (hh i j row u h1 h2), hh i j row u h1 h2⟩)
        exact ⟨b, off, cap, ys, rfl, h0, y1, y2, y3, y4⟩
  · subst hs
    left; exact ⟨rfl, none, 0, rv_v hv, Nat.le_refl _⟩
  · exact hs.elim
theorem q_mki {t : TypeId} {x : Operand} {v : Value} {ds : TypeDesc} (ho : o.op = .makeInterface t x) (ht : P.underlying t = some ds) (hni : ∀ m, ds ≠ .interface m) (h : RelAt c st a w R G) (hx : ∀ y, RV w R G (val st.env x) y → y = v) : Done P c st a w G o Q d (.v (.iface t v)) [] := by
  have e1 : a.eval x = v := hx _ (h.val x)
  refine done_pure h ?_ (.v _)
  unfold execOp; rw [ho]
  refine run_v _ ?_
  rw [e1]
  simp only [Instr.makeInterface, Sem.run_bind, run_underlying ht, Result.andThen_ok]
  cases ds <;> first | (exact absurd rfl (hni _)) | rfl
theorem agg_v {vs : List Value} {y : Value} (h : RV w R G (.agg (vs.map .v)) y) : y = .agg vs.toArray := by
  generalize hcs : vs.map V.v = cs at h
  cases h with
  | agg cs xs hl hh =>
    subst hcs
    congr 2
    apply List.ext_getElem?
    intro i
    by_cases hi : i < vs.length
    · have hx : i < xs.length := by rw [← hl]; simpa using hi
      have := hh i (.v vs[i]) xs[i] (by simp [hi]) (by simp [hx])
      have e := rv_v this
      simp [hi, hx, e]
    · have hl' : vs.length = xs.length := by simpa using hl
      rw [List.getElem?_eq_none (by omega), List.getElem?_eq_none (by omega)]
theorem strNs_eq (ns : List Int) : strNs ns = strOfNums ns := rfl
theorem q_ofB {t t' e : TypeId} {x : Operand} {ns : List Int} (ho : o.op = .convert t t' x) (ht : P.underlying t = some (.slice e)) (he : P.underlying e = some (.int .u8)) (ht' : P.underlying t' = some .string) (h : RelAt c st a w R G) (hs : srcRows st.H 1 (val st.env x) (ns.map fun n => [.v (.int .u8 n)])) :
    Done P c st a w G o Q d (.v (.string (strNs ns))) [] := by
  refine done_pure h ?_ (.v _)
  unfold execOp; rw [ho]
  refine run_v _ ?_
  rcases src_cells h (h.val x) hs with ⟨q1, b, c', q2, _⟩ | ⟨b, off, c', xs, q1, q2, q3, q4, q5, q6⟩
  · have hn : ns = [] := by simpa using q1
    subst hn
    rw [q2]
    cases b with
    | none => exact run_convert_bytes_nil w t e ht he _ _ t' ht'
    | some ad =>
      obtain ⟨b, off, p⟩ := ad
      rw [run_convert_bytes_string w t t' e _ 0 c' ht he ht', run_bytesToString w _ 0 c' [] (by simp [loadCells, loadCellsFrom])]
      rfl
  · rw [q1]
    rw [List.length_map]
    refine run_convert_bytes_arg w t e ht he b off ns.length c' ns rfl (fun i hi => ?_) t' ht'
    obtain ⟨y, r1, r2, r3⟩ := q6.2 i 0 _ _ (by rw [List.getElem?_map, List.getElem?_eq_getElem hi]; rfl) rfl
    have := q4 _ y r1
    rw [Nat.mul_one, Nat.add_zero] at this
    rw [this, rv_v r3]
    simp [List.getD, hi]
theorem q_toB {t t' e : TypeId} {x : Operand} {s : ByteArray} {ds : TypeDesc} (ho : o.op = .convert t t' x) (ht : P.underlying t = some ds) (he : P.underlying e = some (.int .u8)) (ht' : P.underlying t' = some (.slice e)) (h : RelAt c st a w R G) (hx : val st.env x = .v (.string s)) :
    Done P c st a w G o Q d (.sl false (s.data.toList.map fun b => [.v (.int .u8 b.toNat)])) [] := by
  intro next hn
  have e1 : a.eval x = .string s := rv_v (hx ▸ h.val x)
  have hr : (execOp a.eval o).run P w = .ok (.value (.slice (some ⟨w.heap.size, 0, none⟩) s.size (grownCap w s.size 0 e))) (Go.Lib.bytesWorld w e s) := by
    unfold execOp; rw [ho]
    refine run_v _ ?_
    rw [e1]
    exact Go.Lib.run_convert_string_bytes w t t' e s ht ht' he
  have hsz := Go.Lib.bytesWorld_size w e s
  have hfr : Fr (fun _ => False) w (Go.Lib.bytesWorld w e s) := ⟨rfl, rfl, rfl, by omega, fun k hk _ => Go.Lib.bytesWorld_at_old w e s k hk, Nat.le_succ _⟩
  have hrel := h.world (R' := fun b => R b ∨ b = w.heap.size) hfr (fun b hb => .inl hb) (fun b hb => hb.elim) (fun b hb => by
    rcases hb with hb | hb
    · exact .inl hb
    · exact .inr ⟨by omega, .inr (by have := h.fr.size; omega), .inr (by omega)⟩)
  refine wp_value hr (hn _ _ _ G hrel ?_ (fun _ _ => rfl))
  have hlen : s.data.toList.length = s.size := by rw [Array.length_toList]; rfl
  by_cases h0 : s.size = 0
  · have e0 : s.data.toList = [] := List.eq_nil_of_length_eq_zero (by rw [hlen]; exact h0)
    rw [e0, h0]
    exact .nil _ _ _ (by simp)
  · have key := RV.sl (w := Go.Lib.bytesWorld w e s) (R := fun b => R b ∨ b = w.heap.size) (G := G) false (s.data.toList.map fun b => [V.v (.int .u8 b.toNat)]) w.heap.size 0 (grownCap w s.size 0 e) 1 (fun i _ => .int .u8 (s.data.toList.getD i 0).toNat) (.inr rfl)
      (by rw [List.length_map, hlen]; exact grownCap_ge w s.size 0 e) (by simp) (by simp) ?_ ?_
    · rw [List.length_map, hlen] at key; exact key
    · intro i j row u h1 h2
      rw [List.getElem?_map] at h1
      cases hq : s.data.toList[i]? with
      | none => rw [hq] at h1; cases h1
      | some y =>
        rw [hq] at h1; simp at h1; subst h1
        have hi : i < s.size := by rw [← hlen]; exact (List.getElem?_eq_some_iff.1 hq).1
        have hj : j = 0 := by have := (List.getElem?_eq_some_iff.1 h2).1; simpa using this
        subst hj
        have := Go.Lib.bytesWorld_cell w e s i hi
        simpa using this
    · intro i j row u h1 h2
      rw [List.getElem?_map] at h1
      cases hq : s.data.toList[i]? with
      | none => rw [hq] at h1; cases h1
      | some y =>
        rw [hq] at h1; simp at h1; subst h1
        have hj : j = 0 := by have := (List.getElem?_eq_some_iff.1 h2).1; simpa using this
        subst hj
        simp at h2; subst h2
        have : s.data.toList.getD i 0 = y := by simp [List.getD, hq]
        rw [this]; exact .v _
end
end Go.Proofs.Ytjhdlcmecbngkaa
/- Parts of slices of our own; the part cleared; what lies behind, moved up. No program in sight. -/
namespace Go.Proofs.Ytjhdlcmecbngkaa
open Go.RowKit
set_option linter.unusedVariables false
section
variable {P : Program} {c : Ctx} {st : St} {a : Act} {w w' : World} {R : Nat → Prop} {G : Nat → Option Loc} {o : Oper} {r : ROp} {Q : Exit → Act → World → Prop} {d : Nat} {u : V} {dH : List (Nat × Option Ent)}
theorem rows_take {xs : List Value} {sz n : Nat} {rows : List (List V)} (h : RowsR w R G xs sz rows) : RowsR w R G (xs.take (n * sz)) sz (rows.take n) := by
  refine ⟨fun row hr => h.1 row (List.mem_of_mem_take hr), fun i j row u h3 h4 => ?_⟩
  have hi : i < n := by have := (List.getElem?_eq_some_iff.1 h3).1; rw [List.length_take] at this; omega
  rw [List.getElem?_take_of_lt hi] at h3
  obtain ⟨y, q1, q2, q3⟩ := h.2 i j row u h3 h4
  have hj : j < sz := by have := (List.getElem?_eq_some_iff.1 h4).1; rw [h.1 row (List.mem_of_getElem? h3)] at this; exact this
  have hlt : i * sz + j < n * sz := by
    have : (i + 1) * sz ≤ n * sz := Nat.mul_le_mul_right _ hi
    rw [Nat.add_mul] at this; omega
  exact ⟨y, by rw [List.getElem?_take_of_lt hlt]; exact q1, q2, q3⟩
theorem rows_drop {xs : List Value} {sz n : Nat} {rows : List (List V)} (h : RowsR w R G xs sz rows) : RowsR w R G (xs.drop (n * sz)) sz (rows.drop n) := by
  refine ⟨fun row hr => h.1 row (List.mem_of_mem_drop hr), fun i j row u h3 h4 => ?_⟩
  rw [List.getElem?_drop] at h3
  obtain ⟨y, q1, q2, q3⟩ := h.2 (n + i) j row u h3 h4
  exact ⟨y, by rw [List.getElem?_drop, ← Nat.add_assoc, ← Nat.add_mul]; exact q1, q2, q3⟩
theorem run_app {cl : Call} {x y : Operand} {t : TypeId} {v : Value} (ho : o.op = .call cl) (hc : cl.callee = .builtin .append) (hax : cl.args.toList = [x, y]) (hat : cl.argTypes.toList = [t, t]) (hr : (Builtin.append_ #[t, t] o.type #[a.eval x, a.eval y]).run P w = .ok v w') :
    (execOp a.eval o).run P w = .ok (.value v) w' := by
  have ha' : cl.args = #[x, y] := by apply Array.ext'; simpa using hax
  have hat' : cl.argTypes = #[t, t] := by apply Array.ext'; simpa using hat
  unfold execOp; rw [ho]
  simp [resolve, hc, ha', hat', invoke, builtin, hr]
theorem rows_append {xs ys : List Value} {sz : Nat} {rows rows' : List (List V)} (hl : xs.length = rows.length * sz) (h1 : RowsR w R G xs sz rows) (h2 : RowsR w R G ys sz rows') : RowsR w R G (xs ++ ys) sz (rows ++ rows') := by
  refine ⟨fun row hr => ?_, fun i j row u hi hj => ?_⟩
  · rcases List.mem_append.1 hr with q | q
    · exact h1.1 row q
    · exact h2.1 row q
  · have hjs : j < sz := by
      have := (List.getElem?_eq_some_iff.1 hj).1
      rcases List.mem_append.1 (List.mem_of_getElem? hi) with q | q
      · rw [h1.1 row q] at this; exact this
      · rw [h2.1 row q] at this; exact this
    by_cases hlt : i < rows.length
    · rw [List.getElem?_append_left hlt] at hi
      have : (i + 1) * sz ≤ rows.length * sz := Nat.mul_le_mul_right _ hlt
      rw [Nat.add_mul] at this
      rw [List.getElem?_append_left (by omega)]
      exact h1.2 i j row u hi hj
    · rw [List.getElem?_append_right (by omega)] at hi
      have : rows.length * sz ≤ i * sz := Nat.mul_le_mul_right _ (by omega)
      rw [List.getElem?_append_right (by omega), hl, show i * sz + j - rows.length * sz = (i - rows.length) * sz + j by rw [Nat.sub_mul]; omega]
      exact h2.2 _ j row u hi hj
/-- some rows of our own, written anew -/
theorem set_rows (h : RelAt c st a w R G) {id gen : Nat} {e : Ent} (he : st.H id = some e) (hg : e.gen = gen) {l : Loc} {xs : List Value} {b : Nat} {T0 : TypeId} (g1 : G id = some l) (g2 : l.gen = gen) (g3 : l.sz = e.sz) (g4 : 0 < e.sz) (g5 : w.ownsRow 0 T0 e.sz l.val e.rows.length xs) (g6 : RowsR w R G xs e.sz e.rows)
    (hbk : l.val.ownBlock = some b) (hT0 : kindOk e.T T0 l.val l.box) (hop0 : l.op = none) {vs : List Value} {lo m : Nat} {news : List (List V)} (hvl : vs.length = m * e.sz) (hnl : news.length = m) (hk : lo + m ≤ e.rows.length) (hone : ∀ v ∈ vs, v.oneCell' = true) (hR : RowsR w R G vs e.sz news) :
    ∃ w', (storeCells ⟨b, lo * e.sz, none⟩ vs).run P w = .ok () w' ∧ RelAt c { st with H := upd st.H id (some { e with rows := e.rows.take lo ++ news ++ e.rows.drop (lo + m) }) } a w' R (upd G id (some l)) ∧ Gle G (upd G id (some l)) := by
  have g2' : l.gen = e.gen := g2.trans hg.symm
  have hkk : lo * e.sz + m * e.sz ≤ e.rows.length * e.sz := by
    have : (lo + m) * e.sz ≤ e.rows.length * e.sz := Nat.mul_le_mul_right _ hk
    rw [Nat.add_mul] at this; exact this
  obtain ⟨hxl, hx2⟩ := g5
  rcases hx2 with ⟨q, _⟩ | ⟨g, cap, cur, q, q0, hh, hnc, hcm, hcs, htk⟩
  · rw [q] at hbk; cases hbk
  · have hgb : g = b := by rw [q] at hbk; simpa [Value.ownBlock] using hbk
    subst hgb
    have hcap : e.rows.length * e.sz ≤ cur.size := by rw [hcs]; exact Nat.mul_le_mul_right _ hnc
    have hrun := run_storeCells_at P g (lo * e.sz) T0 vs 0 cur w hh (by omega) hone
    simp only [Nat.add_zero] at hrun
    have hgb : w.grownBy (w.setRow g (cur.toList.take (lo * e.sz) ++ vs ++ cur.toList.drop (lo * e.sz + vs.length)).toArray) (some g) :=
      ⟨rfl, rfl, rfl, by simp, fun k' _ hk' => setRow_other w g k' _ (fun e => hk' (by rw [e]))⟩
    have hGle : Gle G (upd G id (some l)) := fun id' m hm => by
      by_cases hk : id' = id
      · subst hk; rw [g1] at hm; injection hm with hm; subst hm; exact ⟨l, upd_same _ _ _, .inl (SameL.refl _)⟩
      · exact ⟨m, by rw [upd_ne _ _ hk]; exact hm, .inl (SameL.refl _)⟩
    have hst2 : ∀ b, R b → R b ∧ (w.setRow g (cur.toList.take (lo * e.sz) ++ vs ++ cur.toList.drop (lo * e.sz + vs.length)).toArray).heap[b]? = w.heap[b]? := fun b hb =>
      ⟨hb, hgb.block b (h.lt b hb) (fun e' => by
        injection e' with e'; subst e'
        exact (h.hr.mine id e l b he g1 g2' ((Loc.ft_of hop0).2 hbk)).1 hb)⟩
    have hlen : (e.rows.take lo ++ news ++ e.rows.drop (lo + m)).length = e.rows.length := by simp; omega
    have hall : RowsR w R G (xs.take (lo * e.sz) ++ vs ++ xs.drop (lo * e.sz + vs.length)) e.sz (e.rows.take lo ++ news ++ e.rows.drop (lo + m)) := by
      have hl1 : (xs.take (lo * e.sz)).length = (e.rows.take lo).length * e.sz := by
        have : lo * e.sz ≤ e.rows.length * e.sz := Nat.mul_le_mul_right _ (by omega)
        rw [List.length_take, List.length_take, hxl, Nat.min_eq_left this, Nat.min_eq_left (by omega)]
      have e1 : lo * e.sz + vs.length = (lo + m) * e.sz := by rw [hvl, Nat.add_mul]
      rw [e1]
      exact rows_append (by rw [List.length_append, List.length_append, Nat.add_mul, hl1, hvl, hnl]) (rows_append hl1 (rows_take g6) hR) (rows_drop g6)
    refine ⟨_, hrun, ?_, hGle⟩
    refine h.setG (e := { e with rows := e.rows.take lo ++ news ++ e.rows.drop (lo + m) }) hgb (fun b' hb' => ?_) (fun l0 hl0 => .inl ?_) g2' (objOk_of (T := T0) (xs := xs.take (lo * e.sz) ++ vs ++ xs.drop (lo * e.sz + vs.length)) hT0 hop0 g3 g4 ?_ (hall.mono hst2 hGle)) ?_
    · injection hb' with hb'; subst hb'; exact ⟨l, e, he, g1, g2', (Loc.ft_of hop0).2 hbk⟩
    · rw [g1] at hl0; injection hl0 with hl0; rw [hl0]; exact SameL.refl _
    · refine ⟨by rw [splice_len _ _ _ (by rw [hvl, hxl]; omega), hxl, hlen], .inr ⟨g, cap, _, by rw [q, hlen], q0, setRow_heap w g cur _ T0 _ hh, by rw [hlen]; exact hnc, hcm, ?_, ?_⟩⟩
      · rw [List.size_toArray, splice_len _ _ _ (by rw [hvl]; simp; omega)]
        simpa using hcs
      · rw [hlen, ← htk]
        apply List.ext_getElem?
        intro j
        by_cases hj : j < e.rows.length * e.sz
        · rw [List.getElem?_take_of_lt hj, splice_get _ _ _ _ (by rw [hvl]; simp; omega), splice_get _ _ _ _ (by rw [hvl]; simp; omega), List.getElem?_take_of_lt hj]
        · rw [List.getElem?_eq_none (by simp; omega), List.getElem?_eq_none]
          rw [splice_len _ _ _ (by rw [hvl]; simp; omega)]; simp; omega
    · intro b' hb'
      have hb' := (Loc.ft_of hop0).1 hb'
      exact .inl (by rw [hbk] at hb'; injection hb' with hb'; rw [hb'])
/-- a part of a part -/
theorem q_sub {t T : TypeId} {x : Operand} {lo hi : Option Operand} {j : TypeInfo} {id gen lo0 hi0 l k : Nat} {e : Ent} (ho : o.op = .slice t x lo hi none) (ht : P.underlying t = some (.slice T)) (hj : P.info? T = some j)
    (h : RelAt c st a w R G) (hv : RV w R G (.osub id gen lo0 hi0) (a.eval x)) (he : st.H id = some e) (hg : e.gen = gen) (hsz : e.sz = j.size) (hl : loV st.env lo l) (hhi : hiV st.env (hi0 - lo0) hi k) (h1 : l ≤ k) (h2 : lo0 + k ≤ e.rows.length) (h0 : lo0 ≤ hi0) :
    Done P c st a w G o Q d (.osub id gen (lo0 + l) (lo0 + k)) [] := by
  obtain ⟨lc, xs, T0, g1, g2, g3, g4, g5, g6, hsb, hT0, hop0, hbx0⟩ := h.objS hv he hg
  generalize hax : a.eval x = ax at hsb
  rcases hsb with ⟨q1, rfl, rfl, rfl⟩ | ⟨b, n, cap, off, q1, q2, q3, q4, rfl⟩
  · have hr0 : e.rows = [] := by
      rcases own_val g5 with ⟨_, q⟩ | ⟨b, cap, q, _⟩
      · exact q
      · rw [q1] at q; cases q
    have hk0 : k = 0 := by rw [hr0] at h2; simpa using h2
    subst hk0
    have hl0 : l = 0 := by omega
    subst hl0
    refine done_pure h (x := .slice none 0 0) ?_ (.osub _ _ _ _ lc g1 (by omega) _ fun _ => ⟨hbx0, .inl ⟨q1, rfl, rfl, rfl⟩⟩)
    unfold execOp; rw [ho]
    refine run_v _ ?_
    have hb := run_sliceBounds (P := P) (isS := true) (cap := 0) h hl hhi (.inl ⟨rfl, rfl⟩) (Nat.le_refl _) (Nat.le_refl _) (Nat.le_refl _)
    rw [hax]
    simp only [Option.map_none, Nat.sub_self] at hb
    simp [Instr.sliceAt, run_underlying ht, Instr.slice, hb, sizeOf, typeInfo, hj]
  · have hcap : e.rows.length ≤ cap := by
      rw [q1] at g5
      rcases g5.2 with ⟨q, _⟩ | ⟨g', cap', cur, q, _, _, hnc, _⟩
      · cases q
      · injection q with _ _ q; omega
    refine done_pure h (x := .slice (some ⟨b, if cap - lo0 = l then off else off + l * j.size, none⟩) (k - l) (cap - lo0 - l)) ?_ ?_
    · unfold execOp; rw [ho]
      refine run_v _ ?_
      have hbd := run_sliceBounds (P := P) (isS := true) (cap := cap - lo0) (len := hi0 - lo0) h hl hhi (.inl ⟨rfl, rfl⟩) h1 (by omega) (Nat.le_refl _)
      rw [hax]
      simp only [Option.map_none] at hbd
      simp [Instr.sliceAt, run_underlying ht, Instr.slice, hbd, sizeOf, typeInfo, hj, add_row]
      split <;> rfl
    · refine .osub _ _ _ _ lc g1 (by omega) _ fun _ => ⟨hbx0, .inr ⟨b, n, cap, _, q1, by omega, by omega, fun hc => ?_, by rw [show lo0 + k - (lo0 + l) = k - l by omega, Nat.sub_sub]⟩⟩
      rcases hc with hc | hc
      · have e1 : lo0 = 0 := by omega
        have e2 : l = 0 := by omega
        subst e1 e2
        have := q4 (.inl rfl)
        split <;> simp [this]
      · rw [if_neg (by omega), q4 (.inr (by omega)), ← hsz, ← g3, Nat.add_mul]
/-- a part of what is owned -/
theorem q_part {t T : TypeId} {x : Operand} {lo hi : Option Operand} {j : TypeInfo} {id gen l k : Nat} {e : Ent} (ho : o.op = .slice t x lo hi none) (ht : P.underlying t = some (.slice T)) (hj : P.info? T = some j)
    (h : RelAt c st a w R G) (hv : val st.env x = .own id gen) (he : st.H id = some e) (hg : e.gen = gen) (hsz : e.sz = j.size) (hl : loV st.env lo l) (hhi : hiV st.env e.rows.length hi k) (h1 : l ≤ k) (h2 : k ≤ e.rows.length) :
    Done P c st a w G o Q d (.osub id gen l k) [] := by
  obtain ⟨lc, xs, T0, g1, g2, g3, g4, g5, g6, hax, hT0, hop0, hbx0⟩ := h.objO (hv ▸ h.val x) he hg
  have hrv : RV w R G (.osub id gen 0 e.rows.length) (a.eval x) := by
    refine .osub _ _ _ _ lc g1 (by omega) _ fun _ => ⟨hbx0, ?_⟩
    rw [hax]
    rcases own_val g5 with ⟨q1, q2⟩ | ⟨b, cap, q1, _⟩
    · rw [q1, q2]; exact .inl ⟨rfl, rfl, rfl, rfl⟩
    · have hcap : e.rows.length ≤ cap := by
        rw [q1] at g5
        rcases g5.2 with ⟨q, _⟩ | ⟨g', cap', cur, q, _, _, hnc, _⟩
        · cases q
        · injection q with _ _ q; omega
      exact .inr ⟨b, _, cap, 0, q1, Nat.zero_le _, hcap, fun _ => by simp, by rw [q1]; simp⟩
  have := q_sub (Q := Q) (d := d) ho ht hj h hrv he hg hsz hl (by rw [Nat.sub_zero]; exact hhi) h1 (by omega) (Nat.zero_le _)
  simpa using this
theorem q_slc3 {t T : TypeId} {x y : Operand} {lo hi : Option Operand} {j : TypeInfo} {id gen l k m : Nat} {kd : IntKind} {e : Ent} (ho : o.op = .slice t x lo hi (some y)) (ht : P.underlying t = some (.slice T)) (hj : P.info? T = some j)
    (h : RelAt c st a w R G) (hv : val st.env x = .own id gen) (he : st.H id = some e) (hg : e.gen = gen) (hl : loV st.env lo l) (hhi : hiV st.env e.rows.length hi k) (hs : hi.isSome = true) (hy : val st.env y = .v (.int kd (m : Int))) (h1 : l ≤ k) (h2 : k ≤ m) (h3 : m ≤ e.rows.length) :
    Done P c st a w G o Q d .any [] := by
  obtain ⟨lc, xs, T0, g1, g2, g3, g4, g5, g6, hax, hT0, hop0, hbx0⟩ := h.objO (hv ▸ h.val x) he hg
  have hform : ∃ ad cap, lc.val = .slice ad e.rows.length cap ∧ e.rows.length ≤ cap := by
    rcases g5.2 with ⟨q, q2⟩ | ⟨g', cap', cur, q, _, _, hnc, _⟩
    · exact ⟨none, 0, by rw [q, q2], by omega⟩
    · exact ⟨_, cap', q, hnc⟩
  obtain ⟨ad, cap, q1, q2⟩ := hform
  refine done_pure h (x := .slice (if m = l then ad else ad.map (·.add (l * j.size))) (k - l) (m - l)) ?_ (.any _)
  unfold execOp; rw [ho]
  refine run_v _ ?_
  have hb := run_sliceBounds (P := P) (isS := true) (cap := cap) h hl hhi (.inr ⟨y, kd, rfl, hs, hy⟩) h1 h2 (by omega)
  simp only [Option.map_some] at hb
  rw [hax, q1]
  simp [Instr.sliceAt, run_underlying ht, Instr.slice, hb, sizeOf, typeInfo, hj]
theorem q_len_sub {arg : Operand} {t e0 : TypeId} {cl : Call} {id gen lo hi : Nat} {e : Ent} (ho : o.op = .call cl) (hc : cl.callee = .builtin .len) (ha : cl.args.toList = [arg]) (hat : cl.argTypes.toList = [t]) (ht : P.underlying t = some (.slice e0)) (h : RelAt c st a w R G)
    (hx : val st.env arg = .osub id gen lo hi) (he : st.H id = some e) (hg : e.gen = gen) : Done P c st a w G o Q d (.v (.int .i64 ((hi - lo : Nat) : Int))) [] := by
  obtain ⟨lc, xs, T0, g1, g2, g3, g4, g5, g6, hsb, hT0, hop0, hbx0⟩ := h.objS (hx ▸ h.val arg) he hg
  generalize hax : a.eval arg = ax at hsb
  rcases hsb with ⟨q1, rfl, rfl, rfl⟩ | ⟨b, n, cap, off, q1, q2, q3, q4, rfl⟩
  · exact q_len_l ho hc ha hat ht h hax
  · exact q_len_l ho hc ha hat ht h hax
/-- the part cleared -/
theorem e_clr {cl : Call} {x : Operand} {t T : TypeId} {i : TypeInfo} {z : Value} {id gen lo hi : Nat} {e : Ent} {next : Act → World → Prop} (ho : o.op = .call cl) (hc : cl.callee = .builtin .clear) (hax : cl.args.toList = [x]) (hat : cl.argTypes.toList = [t])
    (ht : P.underlying t = some (.slice T)) (hti : P.info? T = some i) (hz : i.zero = some z) (h0 : 0 < i.size) (hzs : z.cells.size = i.size) (hzc : cellsOk z = true) (h : RelAt c st a w R G) (hv : val st.env x = .osub id gen lo hi) (he : st.H id = some e) (hg : e.gen = gen) (hsz : e.sz = i.size) (hlo : lo ≤ hi) (hhi : hi ≤ e.rows.length)
    (hn : ∀ x w' R' G', RelAt c { st with H := upd st.H id (some { e with rows := e.rows.take lo ++ List.replicate (hi - lo) (z.cells.toList.map .v) ++ e.rows.drop hi }) } a w' R' G' → RV w' R' G' .any x → next (a.put o.dst x) w') : o.wp P a w next Q := by
  obtain ⟨lc, xs, T0, g1, g2, g3, g4, g5, g6, hsb, hT0, hop0, hbx0⟩ := h.objS (hv ▸ h.val x) he hg
  have ha' : cl.args = #[x] := by apply Array.ext'; simpa using hax
  have hat' : cl.argTypes = #[t] := by apply Array.ext'; simpa using hat
  generalize hae : a.eval x = ax at hsb
  have hex : ∀ w', (Builtin.clear_ #[t] o.type #[ax]).run P w = .ok (.tuple #[]) w' → (execOp a.eval o).run P w = .ok (.value (.tuple #[])) w' := fun w' hr => by
    unfold execOp; rw [ho]
    simp [resolve, hc, ha', hat', invoke, builtin, hae, hr]
  have same : lo = hi → e.rows.take lo ++ List.replicate (hi - lo) (z.cells.toList.map V.v) ++ e.rows.drop hi = e.rows := fun hq => by subst hq; simp
  have hH : ∀ e', e' = e → st.H id = some e' := fun e' hq => by rw [hq]; exact he
  have updself : upd st.H id (some e) = st.H := by
    funext k
    by_cases hk : k = id
    · rw [hk, upd_same, he]
    · rw [upd_ne _ _ hk]
  by_cases hlh : lo = hi
  · have hr0 : (Builtin.clear_ #[t] o.type #[ax]).run P w = .ok (.tuple #[]) w := by
      rcases hsb with ⟨q1, rfl, rfl, rfl⟩ | ⟨b, n, cap, off, q1, q2, q3, q4, rfl⟩
      · simp [Builtin.clear_, run_underlying ht]
      · rw [show hi - lo = 0 by omega]
        simp [Builtin.clear_, run_underlying ht]
    refine wp_value (hex w hr0) (hn _ w R G ?_ (.any _))
    rw [same hlh]
    have e1 : ({ e with rows := e.rows } : Ent) = e := rfl
    rw [e1, updself]; exact h
  · rcases hsb with ⟨q1, rfl, rfl, rfl⟩ | ⟨b, n, cap, off, q1, q2, q3, q4, rfl⟩
    · omega
    · have hoff : off = lo * e.sz := by rw [q4 (.inr (by omega)), g3]
      subst hoff
      have hbk : lc.val.ownBlock = some b := by rw [q1]; rfl
      have hcells : (Builtin.zeroCells z.cells (hi - lo)).toList.length = (hi - lo) * e.sz := by simp [Builtin.zeroCells, hzs, hsz]
      have hone : ∀ v ∈ (Builtin.zeroCells z.cells (hi - lo)).toList, v.oneCell' = true := fun v hv => by
        simp only [Builtin.zeroCells, Array.toList_map, List.mem_map] at hv
        obtain ⟨j, hj, rfl⟩ := hv
        have hlt : j % z.cells.size < z.cells.size := Nat.mod_lt _ (by omega)
        have : z.cells[j % z.cells.size]! = z.cells[j % z.cells.size] := by simp [getElem!_def, hlt]
        rw [this]
        exact List.all_eq_true.1 hzc _ (by simp)
      have hR : RowsR w R G (Builtin.zeroCells z.cells (hi - lo)).toList e.sz (List.replicate (hi - lo) (z.cells.toList.map V.v)) := by
        rw [hsz]
        refine ⟨fun row hrow => by rw [List.mem_replicate] at hrow; rw [hrow.2]; simpa using hzs, fun n j row u hk hj => ?_⟩
        have hkn : n < hi - lo := by have := (List.getElem?_eq_some_iff.1 hk).1; simpa using this
        rw [List.getElem?_replicate_of_lt hkn] at hk
        injection hk with hk; subst hk
        rw [List.getElem?_map] at hj
        cases hq : z.cells.toList[j]? with
        | none => rw [hq] at hj; cases hj
        | some y =>
          rw [hq] at hj; simp at hj; subst hj
          have hjz : j < z.cells.size := by have := (List.getElem?_eq_some_iff.1 hq).1; simpa using this
          have hbd : n * i.size + j < (hi - lo) * i.size := by
            have : (n + 1) * i.size ≤ (hi - lo) * i.size := Nat.mul_le_mul_right _ hkn
            rw [Nat.add_mul] at this; omega
          refine ⟨y, ?_, List.all_eq_true.1 hzc y (List.mem_of_getElem? hq), .v y⟩
          have e1 : (n * i.size + j) % z.cells.size = j := by rw [hzs, Nat.mul_comm, Nat.mul_add_mod]; exact Nat.mod_eq_of_lt (by omega)
          have e2 : z.cells[j]! = y := by
            have : z.cells[j]? = some y := by simpa using hq
            rw [getElem!_def, this]
          simp [Builtin.zeroCells, hzs, hbd, e1]
          first | (rw [← hzs, e1, e2]; done) | (rw [Nat.mod_eq_of_lt (by omega), e2]; done)
      obtain ⟨w', r1, r2, r3⟩ := set_rows (P := P) (lo := lo) (m := hi - lo) h he hg g1 g2 g3 g4 g5 g6 hbk (.inl hT0) hop0 hcells (by simp) (by omega) hone hR
      refine wp_value (hex w' ?_) (hn _ w' R (upd G id (some lc)) ?_ (.any _))
      · cases hn0 : hi - lo with
        | zero => omega
        | succ m0 =>
          rw [hn0] at r1
          simp [Builtin.clear_, run_underlying ht, zeroValue, typeInfo, hti, hz, r1]
      · rw [show lo + (hi - lo) = hi by omega] at r2; exact r2
/-- what lies behind, moved up over what goes -/
theorem e_app_sub {cl : Call} {x y : Operand} {t T : TypeId} {i : TypeInfo} {id gen k lo hi : Nat} {e : Ent} {next : Act → World → Prop} (ho : o.op = .call cl) (hc : cl.callee = .builtin .append) (hax : cl.args.toList = [x, y]) (hat : cl.argTypes.toList = [t, t])
    (ht : P.underlying t = some (.slice T)) (hti : P.info? T = some i) (h : RelAt c st a w R G) (hv : val st.env x = .osub id gen 0 k) (hv2 : val st.env y = .osub id gen lo hi) (he : st.H id = some e) (hg : e.gen = gen) (hsz : e.sz = i.size) (hlo : k ≤ lo) (hlh : lo ≤ hi) (hhi : hi ≤ e.rows.length)
    (hn : ∀ x w' R' G', RelAt c { st with H := upd st.H id (some { e with rows := e.rows.take k ++ (e.rows.drop lo).take (hi - lo) ++ e.rows.drop (k + (hi - lo)) }) } a w' R' G' → RV w' R' G' (.osub id gen 0 (k + (hi - lo))) x → next (a.put o.dst x) w') : o.wp P a w next Q := by
  obtain ⟨lc, xs, T0, g1, g2, g3, g4, g5, g6, hsb, hT0, hop0, hbx0⟩ := h.objS (hv ▸ h.val x) he hg
  obtain ⟨lc', xs', T0', g1', g2', g3', g4', g5', g6', hsb', hT0', hop0', hbx0'⟩ := h.objS (hv2 ▸ h.val y) he hg
  rw [g1] at g1'; injection g1' with g1'; subst g1'
  clear g2' g3' g4' g5' g6' hT0' hop0' hbx0'
  generalize hae : a.eval x = ax at hsb
  generalize hay : a.eval y = ay at hsb'
  have hul : ∀ w, (Go.sizeOf T).run P w = .ok i.size w := fun w => by simp [sizeOf, typeInfo, hti]
  rcases hsb with ⟨q1, _, rfl, rfl⟩ | ⟨b, n, cap, off, q1, q2, q3, q4, rfl⟩
  · -- nothing there
    have hr0 : e.rows = [] := by
      rcases own_val g5 with ⟨_, q⟩ | ⟨b, cap, q, _⟩
      · exact q
      · rw [q1] at q; cases q
    have hhi0 : hi = 0 := by rw [hr0] at hhi; simpa using hhi
    subst hhi0
    have hlo0 : lo = 0 := by omega
    subst hlo0
    rcases hsb' with ⟨p1, _, _, rfl⟩ | ⟨b, n, cap, off, p1, p2, p3, p4, rfl⟩
    · have hsrc : Src P i.size t (.slice none 0 0) 0 [] w := Src.ofNil w ht 0
      have hrun := run_append_nothing (P := P) w t t o.type T i ht hti none 0 0 (Nat.le_refl _) (.slice none 0 0) hsrc
      refine wp_value (run_app ho hc hax hat (by rw [hae, hay]; exact hrun)) (hn _ w R G ?_ (.osub _ _ _ _ lc g1 (by omega) _ fun _ => ⟨hbx0, .inl ⟨q1, rfl, rfl, rfl⟩⟩))
      have updself : upd st.H id (some e) = st.H := by
        funext k
        by_cases hk : k = id
        · rw [hk, upd_same, he]
        · rw [upd_ne _ _ hk]
      have e1 : ({ e with rows := e.rows.take 0 ++ (e.rows.drop 0).take (0 - 0) ++ e.rows.drop (0 + (0 - 0)) } : Ent) = e := by simp
      rw [e1, updself]; exact h
    · rw [q1] at p1; cases p1
  · rcases hsb' with ⟨p1, _, _, _⟩ | ⟨b', n', cap', off', p1, p2, p3, p4, rfl⟩
    · rw [q1] at p1; cases p1
    · rw [q1] at p1
      injection p1 with p1 p1' p1''
      injection p1 with p1; injection p1 with p1
      subst p1 p1' p1''
      have hoff : off = 0 := by rw [q4 (.inl rfl)]; simp
      subst hoff
      have hbk : lc.val.ownBlock = some b := by rw [q1]; rfl
      have hcap : e.rows.length ≤ cap := by
        rw [q1] at g5
        rcases g5.2 with ⟨q, _⟩ | ⟨g', cap', cur, q, _, _, hnc, _⟩
        · cases q
        · injection q with _ _ q; omega
      have hxl : xs.length = e.rows.length * e.sz := g5.1
      have hvl : ((xs.drop (lo * e.sz)).take ((hi - lo) * e.sz)).length = (hi - lo) * e.sz := by
        have h1 : lo * e.sz + (hi - lo) * e.sz ≤ e.rows.length * e.sz := by rw [← Nat.add_mul]; exact Nat.mul_le_mul_right _ (by omega)
        rw [List.length_take, List.length_drop, hxl]; omega
      have hR : RowsR w R G ((xs.drop (lo * e.sz)).take ((hi - lo) * e.sz)) e.sz ((e.rows.drop lo).take (hi - lo)) := rows_take (rows_drop g6)
      have hone : ∀ v ∈ (xs.drop (lo * e.sz)).take ((hi - lo) * e.sz), v.oneCell' = true := fun v hv => by
        obtain ⟨j, hj, rfl⟩ := List.mem_iff_getElem.1 hv
        have hjl : j < (hi - lo) * e.sz := by rw [← hvl]; exact hj
        have hq : j / e.sz < hi - lo := Nat.div_lt_of_lt_mul (by rw [Nat.mul_comm]; exact hjl)
        have hrow : ((e.rows.drop lo).take (hi - lo))[j / e.sz]? = some (((e.rows.drop lo).take (hi - lo))[j / e.sz]'(by rw [List.length_take, List.length_drop]; omega)) := List.getElem?_eq_getElem _
        have hrl := hR.1 _ (List.mem_of_getElem? hrow)
        obtain ⟨y, y1, y2, _⟩ := hR.2 (j / e.sz) (j % e.sz) _ _ hrow (List.getElem?_eq_getElem (by rw [hrl]; exact Nat.mod_lt _ g4))
        rw [Nat.div_add_mod', List.getElem?_eq_getElem hj] at y1
        injection y1 with y1; rw [y1]; exact y2
      obtain ⟨w', r1, r2, r3⟩ := set_rows (P := P) (lo := k) (m := hi - lo) h he hg g1 g2 g3 g4 g5 g6 hbk (.inl hT0) hop0 hvl (by rw [List.length_take, List.length_drop]; omega) (by omega) hone hR
      have hload : (Builtin.firstCells i.size (hi - lo) (.slice (some ⟨b, off', none⟩) (hi - lo) (cap - lo))).run P w = .ok ((xs.drop (lo * e.sz)).take ((hi - lo) * e.sz)).toArray w := by
        simp only [Builtin.firstCells]
        have := run_loadCells_list (P := P) w ⟨b, off', none⟩ ((xs.drop (lo * e.sz)).take ((hi - lo) * e.sz)) (fun j v hj => by
          have hjl : j < (hi - lo) * e.sz := by rw [← hvl]; exact (List.getElem?_eq_some_iff.1 hj).1
          have hpos : 0 < hi - lo := by
            rcases Nat.eq_zero_or_pos (hi - lo) with q | q
            · rw [q] at hjl; simp at hjl
            · exact q
          have ho' : off' = lo * e.sz := by rw [p4 (.inr (by omega)), g3]
          rw [add_row, ho']
          rw [List.getElem?_take_of_lt hjl, List.getElem?_drop] at hj
          exact own_cell (l := lc) g5 hbk hj)
        rw [hvl] at this
        rw [← hsz]; exact this
      refine wp_value (run_app ho hc hax hat (v := .slice (some ⟨b, 0, none⟩) (k - 0 + (hi - lo)) (cap - 0)) (w' := w') ?_) (hn _ w' R _ r2 ?_)
      · rw [hae, hay]
        have hfit : k - 0 + (hi - lo) ≤ cap - 0 := by omega
        simp only [Builtin.append_, Sem.run_bind, run_underlying ht, Result.andThen_ok, hul, Sem.run_pure]
        simp [run_underlying ht, Builtin.lenOf, hfit, hload, add_row, ← hsz]
        have : k + (hi - lo) ≤ cap := by omega
        simp [this]
        have r1' : (storeCells ⟨b, k * e.sz, none⟩ ((xs.drop (lo * e.sz)).take ((hi - lo) * e.sz))).run P w = .ok () w' := r1
        have hul2 : (Go.sizeOf T).run P w = .ok e.sz w := by rw [hsz]; exact hul w
        rw [← hsz] at hload
        rw [hul2]
        simp only [Result.andThen_ok]
        rw [hload]
        simp [r1']
      · exact .osub _ _ _ _ lc (upd_same _ _ _) (by omega) _ fun _ => ⟨hbx0, .inr ⟨b, n, cap, 0, q1, Nat.zero_le _, by omega, fun _ => by simp, by simp⟩⟩
theorem e_isnil {op : BinOp} {t t' e0 : TypeId} {x : Operand} {neg : Bool} {next : Act → World → Prop} (ho : o.op = .binOp op t x (.const (.slice none 0 0)) t') (hop : op = if neg then .neq else .eql) (ht : P.underlying t = some (.slice e0)) (h : RelAt c st a w R G)
    (hn : ∀ b : Bool, (∀ ad n cap, a.eval x = .slice ad n cap → b = ad.isNone) → next (a.put o.dst (.bool (if neg then !b else b))) w) (hs : ∃ ad n cap, a.eval x = .slice ad n cap) : o.wp P a w next Q := by
  obtain ⟨ad, n, cap, hx⟩ := hs
  have hr : (execOp a.eval o).run P w = .ok (.value (.bool (if neg then !ad.isNone else ad.isNone))) w := by
    unfold execOp; rw [ho]
    refine run_v _ ?_
    show ((do eqGuard op t x (.const (.slice none 0 0)) (a.eval x) (.slice none 0 0); binOp op t (a.eval x) (.slice none 0 0) : Sem Value)).run P w = _
    rw [hx]
    subst hop
    cases neg
    · simp [eqGuard, Lib.run_eql_slice_nil w t e0 ad n cap 0 0 ht]
    · have := Lib.run_eql_slice_nil (P := P) w t e0 ad n cap 0 0 ht
      simp only [binOp] at this
      simp [eqGuard, binOp]
      rw [show (Op.equal t (.slice ad n cap) (.slice none 0 0)).run P w = .ok ad.isNone w from by simp [Op.equal, Op.maxDepth, Lib.run_equalIn_slice_nil w 9999 t e0 ad n cap 0 0 ht]]
      cases ad <;> rfl
  exact wp_value hr (hn _ fun ad' n' cap' e => by rw [hx] at e; injection e with e; rw [e])
end
end Go.Proofs.Ytjhdlcmecbngkaa
/- Every quiet operation; stores; appends. No program in sight. -/
namespace Go.Proofs.Ytjhdlcmecbngkaa
open Go.RowKit
set_option linter.unusedVariables false
section
variable {P : Program} {c : Ctx} {st : St} {a : Act} {w w' : World} {R : Nat → Prop} {G : Nat → Option Loc} {o : Oper} {r : ROp} {Q : Exit → Act → World → Prop} {d : Nat} {u : V} {dH : List (Nat × Option Ent)}
theorem args_rel (h : RelAt c st a w R G) (l : List Operand) : (l.map (val st.env)).length = (l.map a.eval).length ∧ ∀ (i : Nat) (u : V) (x : Value), (l.map (val st.env))[i]? = some u → (l.map a.eval)[i]? = some x → RV w R G u x := by
  refine ⟨by simp, fun i u x h1 h2 => ?_⟩
  rw [List.getElem?_map] at h1 h2
  cases hq : l[i]? with
  | none => rw [hq] at h1; cases h1
  | some y => rw [hq] at h1 h2; simp at h1 h2; subst h1 h2; exact h.val y
set_option maxHeartbeats 1000000 in
theorem quiet_sound (hres : resOp P o = some r) {g : Nat → Nat} (hgen : ∀ id, id / 16 = d → ∀ l0, G id = some l0 → l0.gen < g id) (h : RelAt c st a w R G)
    (hs : stepQ P r st.env st.H g (16 * d) (fun v dh => v = u ∧ dh = dH)) : Done P c st a w G o Q d u dH := by
  have hid : (16 * d) / 16 = d := by omega
  have hids : ∀ k, k < 16 → (16 * d + k) / 16 = d := fun k hk => by omega
  cases hop : o.op with
  | move x =>
    simp only [resOp, hop, Option.some.injEq] at hres; subst hres
    simp only [stepQ] at hs
    obtain ⟨rfl, rfl⟩ := hs
    exact q_mv (.inl hop) h
  | assign x =>
    simp only [resOp, hop, Option.some.injEq] at hres; subst hres
    simp only [stepQ] at hs
    obtain ⟨rfl, rfl⟩ := hs
    exact q_mv (.inr hop) h
  | pick x y z =>
    simp only [resOp, hop, Option.some.injEq] at hres; subst hres
    simp only [stepQ] at hs
    split at hs
    · rename_i t ht
      have := q_pick (P := P) (Q := Q) (d := d) hop h ht
      cases t with
      | true => obtain ⟨rfl, rfl⟩ := hs.1 rfl; exact this
      | false => obtain ⟨rfl, rfl⟩ := hs.2 rfl; exact this
    · exact hs.elim
  | box T x =>
    simp only [resOp, hop] at hres
    split at hres
    · rename_i i hi
      split at hres
      · rename_i h0
        simp only [Option.some.injEq] at hres; subst hres
        simp only [stepQ] at hs
        split at hs
        · rename_i cs hcs
          obtain ⟨h1, h2, rfl, rfl⟩ := hs
          have := q_box (Q := Q) (P := P) hid (hgen _ hid) hop h hcs (by omega) h2
          rw [h1] at this; exact this
        · exact hs.elim
      · cases hres
    · cases hres
  | alloc T =>
    simp only [resOp, hop] at hres
    split at hres
    · rename_i i hi
      split at hres
      · rename_i z hz
        split at hres
        · rename_i h0
          simp only [Bool.and_eq_true, decide_eq_true_eq] at h0
          simp only [Option.some.injEq] at hres; subst hres
          simp only [stepQ] at hs
          obtain ⟨rfl, rfl⟩ := hs
          exact q_zbox hid (hgen _ hid) hop hi hz h h0.1 h0.2
        · cases hres
      · cases hres
    · cases hres
  | makeSlice t x y =>
    simp only [resOp, hop] at hres
    split at hres
    · rename_i e ht
      split at hres
      · rename_i i hi
        split at hres
        · rename_i z hz
          split at hres
          · rename_i h0
            simp only [Bool.and_eq_true, decide_eq_true_eq, beq_iff_eq] at h0
            simp only [Option.some.injEq] at hres; subst hres
            simp only [stepQ] at hs
            split at hs
            · rename_i k1 n k2 m hx hy
              obtain ⟨k, rfl, rfl, h3, h4, rfl, rfl⟩ := hs
              exact q_mkn hid (hgen _ hid) hop ht hi hz h0.1.1 h0.1.2 h0.2 h hx hy h3 h4
            · exact hs.elim
          · cases hres
        · cases hres
      · cases hres
    · cases hres
  | load t x =>
    simp only [resOp, hop] at hres
    have key : ∀ (agg : Bool) (i : TypeInfo) (sz : Nat), P.info? t = some i → aggT P t = some agg → (sz = if agg then i.size else 1) → r = .load agg sz x → Done P c st a w G o Q d u dH := fun agg i sz hi ha hsz hr => by
      subst hr
      simp only [stepQ] at hs
      split at hs
      · rename_i row off hv
        obtain ⟨h1, rfl, rfl⟩ := hs
        exact q_load_r hop hi ha hsz h hv h1
      · rename_i id gen k off hv
        obtain ⟨e, row, h1, h2, h3, h4, rfl, rfl⟩ := hs
        exact q_load_p hop hi ha hsz h hv h1 h2 h3 h4
      · exact hs.elim
    split at hres
    · rename_i i hi ha
      simp only [Option.some.injEq] at hres
      exact key true i i.size hi ha rfl hres.symm
    · rename_i i hi ha
      simp only [Option.some.injEq] at hres
      exact key false i 1 hi ha rfl hres.symm
    · cases hres
  | binOp op t x y t' =>
    simp only [resOp, hop] at hres
    have kb : r = .bin op x y → Done P c st a w G o Q d u dH := fun hr => by
      subst hr
      simp only [stepQ] at hs
      split at hs
      · rename_i p q hx hy
        obtain ⟨r, h1, rfl, rfl⟩ := binK_ex hs
        exact q_bin hop h hx hy h1
      · exact hs.elim
    have ke : ∀ neg : Bool, (op = if neg then .neq else .eql) → P.underlying t = some .bool → r = .eqb neg x y → Done P c st a w G o Q d u dH := fun neg hn ht hr => by
      subst hr
      simp only [stepQ] at hs
      split at hs
      · rename_i p q hx hy
        obtain ⟨rfl, rfl⟩ := hs
        exact q_eqb hop ht hn h hx hy
      · exact hs.elim
    have ks : ∀ neg : Bool, (op = if neg then .neq else .eql) → ∀ fs, P.underlying t = some (.struct fs) → ∀ ts, eqTags P 20 t = some ts → r = .eqS neg ts x y → Done P c st a w G o Q d u dH := fun neg hn fs ht ts hts hr => by
      subst hr
      simp only [stepQ] at hs
      split at hs
      · rename_i us vs hx hy
        split at hs
        · rename_i b hb
          obtain ⟨rfl, rfl⟩ := hs
          exact q_eqS hop ht hts hn h hx hy hb
        · exact hs.elim
      · exact hs.elim
    split at hres
    · split at hres
      · simp only [Option.some.injEq] at hres; subst hres; exact hs.elim
      · cases hres
    · split at hres
      · simp only [Option.some.injEq] at hres; subst hres; exact hs.elim
      · cases hres
    · rename_i ht
      simp only [Option.some.injEq] at hres
      exact ke false rfl ht hres.symm
    · rename_i ht
      simp only [Option.some.injEq] at hres
      exact ke true rfl ht hres.symm
    · simp only [Option.some.injEq] at hres; exact kb hres.symm
    · simp only [Option.some.injEq] at hres; exact kb hres.symm
    · rename_i fs ht
      simp only [Option.map_eq_some_iff] at hres
      obtain ⟨ts, hts, hr⟩ := hres
      exact ks false rfl fs ht ts hts hr.symm
    · rename_i fs ht
      simp only [Option.map_eq_some_iff] at hres
      obtain ⟨ts, hts, hr⟩ := hres
      exact ks true rfl fs ht ts hts hr.symm
    · cases hres
  | unOp op t x =>
    cases op with
    | not =>
      simp only [resOp, hop, Option.some.injEq] at hres; subst hres
      simp only [stepQ] at hs
      split at hs
      · rename_i p hx
        obtain ⟨rfl, rfl⟩ := hs
        exact q_not hop h hx
      · exact hs.elim
    | neg =>
      simp only [resOp, hop, Option.some.injEq] at hres; subst hres
      simp only [stepQ] at hs
      split at hs
      · rename_i k n hx
        obtain ⟨_, rfl, rfl, rfl⟩ := hs
        exact q_neg hop h hx
      · exact hs.elim
    | _ => simp [resOp, hop] at hres
  | convert s t x =>
    simp only [resOp, hop] at hres
    split at hres
    · rename_i k0 k hs0 ht
      simp only [Option.some.injEq] at hres; subst hres
      simp only [stepQ] at hs
      split at hs
      · rename_i k' n hx
        obtain ⟨_, rfl, rfl, rfl⟩ := hs
        exact q_conv hop hs0 ht h hx
      · exact hs.elim
    · rename_i hs0 ht
      simp only [Option.some.injEq] at hres; subst hres
      simp only [stepQ] at hs
      split at hs
      · rename_i b hx
        obtain ⟨rfl, rfl⟩ := hs
        exact q_convS (dsc := .string) hop hs0 ht h hx
      · exact hs.elim
    · rename_i e hs0 ht
      split at hres
      · rename_i i he hi
        split at hres
        · simp only [Option.some.injEq] at hres; subst hres
          simp only [stepQ] at hs
          obtain ⟨rows, ns, h1, rfl, rfl, rfl⟩ := hs
          exact q_ofB hop hs0 he ht h h1
        · cases hres
      · cases hres
    · rename_i e hs0 ht
      split at hres
      · rename_i he
        simp only [Option.some.injEq] at hres; subst hres
        simp only [stepQ] at hs
        split at hs
        · rename_i b hx
          obtain ⟨rfl, rfl⟩ := hs
          exact q_toB hop hs0 he ht h hx
        · exact hs.elim
      · cases hres
    · cases hres
  | field t x k =>
    simp only [resOp, hop] at hres
    split at hres
    · rename_i fs ht
      split at hres
      · rename_i f hf
        have key : ∀ (agg : Bool) (i : TypeInfo) (sz : Nat), P.info? f.type = some i → aggT P f.type = some agg → (sz = if agg then i.size else 1) → r = .fld agg sz f.offset x → Done P c st a w G o Q d u dH := fun agg i sz hi ha hsz hr => by
          subst hr
          simp only [stepQ] at hs
          split at hs
          · rename_i us hv
            obtain ⟨h1, rfl, rfl⟩ := hs
            exact q_fld hop ht hf hi ha hsz h hv h1
          · exact hs.elim
        split at hres
        · rename_i i hi ha
          simp only [Option.some.injEq] at hres
          exact key true i i.size hi ha rfl hres.symm
        · rename_i i hi ha
          simp only [Option.some.injEq] at hres
          exact key false i 1 hi ha rfl hres.symm
        · cases hres
      · cases hres
    · cases hres
  | fieldAddr t x k =>
    simp only [resOp, hop] at hres
    split at hres
    · rename_i fs ht
      split at hres
      · rename_i f hf
        split at hres
        · rename_i i hi
          split at hres
          · rename_i h0
            simp only [Option.some.injEq] at hres; subst hres
            simp only [stepQ] at hs
            split at hs
            · rename_i row off hv
              obtain ⟨rfl, rfl⟩ := hs
              exact q_fldA_r hop ht hf hi h0 h hv
            · rename_i id gen j off hv
              obtain ⟨⟨e, h1, h2⟩, rfl, rfl⟩ := hs
              exact q_fldA_p hop ht hf hi h0 h hv h1 h2
            · exact hs.elim
          · cases hres
        · cases hres
      · cases hres
    · cases hres
  | indexAddr t x y =>
    simp only [resOp, hop] at hres
    split at hres
    · rename_i e ht
      split at hres
      · rename_i j hj
        split at hres
        · rename_i h0
          simp only [Option.some.injEq] at hres; subst hres
          simp only [stepQ] at hs
          split at hs
          · rename_i clip rows k n hx hy
            obtain ⟨m, row, rfl, h1, h2, rfl, rfl⟩ := hs
            exact q_idxA_s hop ht hj h hx hy h1 h2
          · rename_i id gen k n hx hy
            obtain ⟨en, m, row, h1, h2, h3, rfl, h4, rfl, rfl⟩ := hs
            exact q_idxA_o hop ht hj h hx hy h1 h2 h3 h4
          · exact hs.elim
        · cases hres
      · cases hres
    · cases hres
  | index t x y =>
    simp only [resOp, hop] at hres
    split at hres
    · rename_i ht
      simp only [Option.some.injEq] at hres; subst hres
      simp only [stepQ] at hs
      split at hs
      · rename_i s k n hx hy
        obtain ⟨m, ch, rfl, h1, rfl, rfl⟩ := hs
        exact q_idxS hop ht h hx hy h1
      · exact hs.elim
    · cases hres
  | slice t x lo hi mx =>
    simp only [resOp, hop] at hres
    split at hres
    · rename_i ht
      split at hres
      · rename_i hm
        simp only [Option.some.injEq] at hres; subst hres
        have hm' : mx = none := by simpa using hm
        subst hm'
        simp only [stepQ] at hs
        split at hs
        · rename_i s hx
          obtain ⟨l, k, h1, h2, h3, h4, rfl, rfl⟩ := hs
          exact q_slcS hop ht h hx h1 h2 h3 h4
        · exact hs.elim
      · cases hres
    · rename_i e ht
      split at hres
      · rename_i j hj
        split at hres
        · rename_i h0
          simp only [Option.some.injEq] at hres; subst hres
          simp only [stepQ] at hs
          split at hs
          · rename_i clip rows hx
            obtain ⟨l, k, h1, h2, h3, h4, h5, h6⟩ := hs
            cases mx with
            | none =>
              obtain ⟨rfl, rfl⟩ := h6
              exact q_slcL hop ht hj h hx h1 h2 h3 h4 h5 (.inl ⟨rfl, rfl⟩)
            | some y =>
              obtain ⟨h7, ⟨kd, hk⟩, rfl, rfl⟩ := h6
              exact q_slcL hop ht hj h hx h1 h2 h3 h4 h5 (.inr ⟨y, kd, rfl, h7, hk⟩)
          · rename_i id gen hx
            obtain ⟨e, l, k, h1, h2, h3, h4, h5, h6, h7, rfl, rfl, rfl⟩ := hs
            exact q_part hop ht hj h hx h1 h2 h3 h4 h5 h6 h7
          · rename_i id gen lo0 hi0 hx
            obtain ⟨e, l, k, h1, h2, h3, h4, h5, h6, h7, rfl, h8, rfl, rfl⟩ := hs
            exact q_sub hop ht hj h (hx ▸ h.val x) h1 h2 h3 h4 h5 h6 h7 h8
          · exact hs.elim
        · cases hres
      · cases hres
    · cases hres
  | extract x i =>
    simp only [resOp, hop, Option.some.injEq] at hres; subst hres
    simp only [stepQ] at hs
    split at hs
    · rename_i us hx
      obtain ⟨v, h1, rfl, rfl⟩ := hs
      exact q_ext hop h hx h1
    · exact hs.elim
  | build t ps =>
    simp only [resOp, hop] at hres
    split at hres
    · rename_i i hi
      split at hres
      · rename_i z fs hz ht
        split at hres
        · rename_i hall
          simp only [Bool.and_eq_true] at hall
          simp only [Option.map_eq_some_iff] at hres
          obtain ⟨rps, hp, rfl⟩ := hres
          simp only [stepQ] at hs
          obtain ⟨us, h1, rfl, rfl⟩ := fillV_ex _ _ _ hs
          exact q_build hop hi hz ht hall.1 hp hall.2 h h1
        · cases hres
      · cases hres
    · cases hres
  | buildSlice t n ps =>
    simp only [resOp, hop] at hres
    split at hres
    · rename_i e ht
      split at hres
      · rename_i i hi
        split at hres
        · rename_i z hz
          split at hres
          · rename_i h0
            simp only [Bool.and_eq_true, decide_eq_true_eq, beq_iff_eq] at h0
            simp only [Option.some.injEq] at hres; subst hres
            simp only [stepQ] at hs
            obtain ⟨rows, h1, rfl, rfl⟩ := fillR_ex _ _ _ hs
            exact q_mks hid (hgen _ hid) hop ht hi hz h0.1.1.1 h0.1.1.2 h0.1.2 h0.2 h h1
          · cases hres
        · cases hres
      · cases hres
    · cases hres
  | makeFunc fn first caps =>
    cases fn with
    | func f =>
      simp only [resOp, hop] at hres
      split at hres
      · rename_i h0
        simp only [Option.some.injEq] at hres; subst hres
        simp only [stepQ] at hs
        obtain ⟨rfl, rfl⟩ := hs
        exact q_mkfn hop h0 h
      · cases hres
    | _ => simp [resOp, hop] at hres
  | call cl =>
    obtain ⟨callee, args, argTypes⟩ := cl
    cases callee with
    | value f =>
      simp only [resOp, hop, Option.some.injEq] at hres; subst hres
      simp only [stepQ] at hs
      obtain ⟨e1, e2⟩ := args_rel h args.toList
      split at hs
      · rename_i f' hf
        obtain ⟨ps, rs, bor, h1, h2, h3, h4, rfl, rfl⟩ := hs
        have hx : a.eval f = .func (.func f') #[] ([] : List Value).toArray := rv_v (hf ▸ h.val f)
        have hr := run_call (P := P) (w := w) hop rfl hx h2.1
        rw [List.append_nil] at hr
        have := q_call (Q := Q) (gone := []) hids hgen h hr e1 e2 h1 h2 h3 h4
        simpa using this
      · rename_i f' caps hf
        obtain ⟨ps, rs, bor, h1, h2, h3, h4, rfl, rfl⟩ := hs
        have hv := h.val f
        rw [hf] at hv
        generalize hax : a.eval f = ax at hv
        cases hv with
        | clo f' caps xs hl hh =>
          have hr := run_call (P := P) (w := w) hop rfl hax h2.1
          have := q_call (Q := Q) (gone := []) (us := args.toList.map (val st.env) ++ caps) hids hgen h hr (by simp [hl]) ?_ h1 h2 h3 h4
          · simpa using this
          · intro i u x g1 g2
            by_cases hi : i < (args.toList.map (val st.env)).length
            · rw [List.getElem?_append_left hi] at g1
              rw [List.getElem?_append_left (by simpa using hi)] at g2
              exact e2 i u x g1 g2
            · rw [List.getElem?_append_right (by omega)] at g1
              rw [List.getElem?_append_right (by simpa using hi)] at g2
              exact hh _ u x (by simpa using g1) (by simpa using g2)
      · exact hs.elim
    | invoke f m => simp [resOp, hop] at hres
    | builtin b =>
      cases b with
      | len =>
        simp only [resOp, hop] at hres
        split at hres
        · rename_i x t hax hat
          split at hres
          · rename_i ht
            simp only [Option.some.injEq] at hres; subst hres
            simp only [stepQ] at hs
            split at hs
            · rename_i s hx
              obtain ⟨rfl, rfl⟩ := hs
              exact q_len_s hop rfl hax hat ht h hx
            · exact hs.elim
          · rename_i e ht
            simp only [Option.some.injEq] at hres; subst hres
            simp only [stepQ] at hs
            split at hs
            · rename_i b n cap hx
              obtain ⟨rfl, rfl⟩ := hs
              exact q_len_l hop rfl hax hat ht h (rv_v (hx ▸ h.val x))
            · rename_i clip rows hx
              obtain ⟨rfl, rfl⟩ := hs
              have hv := h.val x
              rw [hx] at hv
              generalize hae : a.eval x = ax at hv
              cases hv with
              | nil => exact q_len_l hop rfl hax hat ht h hae
              | sl => exact q_len_l hop rfl hax hat ht h hae
            · rename_i id gen hx
              obtain ⟨e, h1, h2, rfl, rfl⟩ := hs
              obtain ⟨l, xs, T0, g1, g2, g3, g4, g5, g6, hae, hT0, hop0, hbx0⟩ := h.objO (hx ▸ h.val x) h1 h2
              rcases own_val g5 with ⟨q1, q2⟩ | ⟨b, cap, q1, _⟩
              · rw [q1] at hae
                have := q_len_l (Q := Q) (P := P) (d := d) hop rfl hax hat ht h hae
                rw [q2]; exact this
              · rw [q1] at hae
                exact q_len_l hop rfl hax hat ht h hae
            · rename_i id gen lo hi hx
              obtain ⟨⟨e, h1, h2⟩, rfl, rfl⟩ := hs
              exact q_len_sub hop rfl hax hat ht h hx h1 h2
            · exact hs.elim
          · rename_i kt et ht
            simp only [Option.some.injEq] at hres; subst hres
            simp only [stepQ] at hs
            obtain ⟨ents, h1, rfl, rfl⟩ := hs
            exact q_mlen hop rfl hax hat ht h h1
          · cases hres
        · cases hres
      | max =>
        simp only [resOp, hop] at hres
        split at hres
        · rename_i x y hax
          simp only [Option.some.injEq] at hres; subst hres
          simp only [stepQ] at hs
          split at hs
          · rename_i k p k' q hx hy
            obtain ⟨rfl, rfl⟩ := hs
            exact q_max hop rfl hax h hx hy
          · exact hs.elim
        · cases hres
      | min =>
        simp only [resOp, hop] at hres
        split at hres
        · rename_i x y hax
          simp only [Option.some.injEq] at hres; subst hres
          simp only [stepQ] at hs
          split at hs
          · rename_i k p k' q hx hy
            obtain ⟨rfl, rfl⟩ := hs
            exact q_min hop rfl hax h hx hy
          · exact hs.elim
        · cases hres
      | append =>
        simp only [resOp, hop] at hres
        split at hres
        · split at hres
          · split at hres
            · split at hres
              · split at hres
                · split at hres
                  · simp only [Option.some.injEq] at hres; subst hres
                    exact hs.elim
                  · cases hres
                · cases hres
              · cases hres
            · cases hres
          · cases hres
        · cases hres
      | clear =>
        simp only [resOp, hop] at hres
        repeat' (split at hres)
        all_goals first | (cases hres; done) | (simp only [Option.some.injEq] at hres; subst hres; exact hs.elim)
      | _ => simp [resOp, hop] at hres
  | store t x y =>
    simp only [resOp, hop] at hres
    split at hres
    · simp only [Option.some.injEq] at hres; subst hres
      exact hs.elim
    · cases hres
  | makeMap t rs =>
    cases rs with
    | some _ => simp [resOp, hop] at hres
    | none =>
      simp only [resOp, hop, Option.some.injEq] at hres; subst hres
      simp only [stepQ] at hs
      obtain ⟨rfl, rfl⟩ := hs
      exact q_mkm hid (hgen _ hid) hop h
  | lookup t x y ok =>
    simp only [resOp, hop] at hres
    split at hres
    · rename_i kt et ht
      split at hres
      · rename_i kd i hkt hi
        split at hres
        · rename_i z hz
          split at hres
          · rename_i h0
            simp only [Bool.and_eq_true] at h0
            simp only [Option.some.injEq] at hres; subst hres
            simp only [stepQ] at hs
            obtain ⟨ents, kv, r, h1, h2, h3, rfl, rfl⟩ := hs
            exact q_mlook hop ht hkt h0.1 hi hz h h1 h2 h3
          · cases hres
        · cases hres
      · cases hres
    · cases hres
  | panic x =>
    simp only [resOp, hop, Option.some.injEq] at hres; subst hres; exact hs.elim
  | makeInterface t x =>
    simp only [resOp, hop] at hres
    split at hres
    · cases hres
    · rename_i ds hni ht
      simp only [Option.some.injEq] at hres; subst hres
      simp only [stepQ] at hs
      split at hs
      · rename_i v hx
        obtain ⟨rfl, rfl⟩ := hs
        exact q_mki hop ht (fun m e => hni m e) h (fun y hy => rv_v (hx ▸ hy))
      · rename_i cs hx
        obtain ⟨vs, rfl, rfl, rfl⟩ := hs
        exact q_mki hop ht (fun m e => hni m e) h (fun y hy => agg_v (hx ▸ hy))
      · exact hs.elim
    · cases hres
  | mapUpdate t x y z =>
    simp only [resOp, hop] at hres
    repeat' (split at hres)
    all_goals first | (cases hres; done) | (simp only [Option.some.injEq] at hres; subst hres; exact hs.elim)
  | insert t x y z =>
    simp only [resOp, hop] at hres
    repeat' (split at hres)
    all_goals first | (cases hres; done) | (simp only [Option.some.injEq] at hres; subst hres; exact hs.elim)
  | _ => simp [resOp, hop] at hres
end
end Go.Proofs.Ytjhdlcmecbngkaa
