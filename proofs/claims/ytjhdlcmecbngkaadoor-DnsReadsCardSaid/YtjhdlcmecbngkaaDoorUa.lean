/- Texts of this claim, joined. -/
import Derived.WalkKit
import Derived.Below
import Derived.WalkSmall
import Derived.Test.YtjhdlcmecbngkaaDoorRows
import Derived.Lib.Strings
import Derived.Lib.Slices
import Derived.Lib.Walk
import Derived.Lib.Bytealg
import Derived.ProofKit
import Derived.OpenShut
import Derived.ChangeSame
import Derived.Test.YtjhdlcmecbngkaaDoorXAbsG
import Derived.Deep.Slices
import Derived.Deep.Fields
import Derived.Lib.SmallJoins
import Derived.Test.YtjhdlcmecbngkaaDoorXAbsQ
import Derived.Test.YtjhdlcmecbngkaaDoorProg
import Derived.KernelRfl
import Derived.BigGuardPart
import Derived.Deep.Light
import Derived.Laws.IdiomStrings
import Derived.Shelf.Strings.BuilderK
import Derived.Maps.AppendAt
import Derived.Lib.AppendStr
set_option linter.unusedSimpArgs false
namespace Go.Proofs.YtjhdlcmecbngkaaDoor
open Go.RowKit
set_option linter.unusedVariables false
theorem hid {p : Prop} (h : p) : Hid p := h
theorem ret_bool {a b : Bool} (h : a = b) : Ending.returned (.bool a) = .returned (.bool b) := by rw [h]
theorem keep_all {W w1 : World} {g : Nat} {f : Nat → Option Value} (hb : Below W.heap.size W w1) (hlt : g < W.heap.size) (h : ∀ i, W.cell? ⟨g, i, none⟩ = f i) : ∀ i, w1.cell? ⟨g, i, none⟩ = f i :=
 fun i => (hb.cell (p := ⟨g, i, none⟩) hlt).trans (h i)
def Blk (w : World) (g : Nat) (t : TypeId) (cs : Array Value) : Prop := w.heap[g]? = some (.cells cs t (0, 0))
section
variable {w w' : World} {g : Nat} {t : TypeId} {cs : Array Value}
theorem Blk.lt (h : Blk w g t cs) : g < w.heap.size := by
 rcases Nat.lt_or_ge g w.heap.size with hlt | hge
 ·exact hlt
 ·unfold Blk at h; rw [Array.getElem?_eq_none hge] at h; cases h
theorem Blk.cell (h : Blk w g t cs) (i : Nat) : w.cell? ⟨g, i, none⟩ = cs[i]? := by
 unfold Blk at h
 simp [World.cell?, h]
theorem Blk.frozen (h : Blk w g t cs) (i : Nat) : w.frozen? ⟨g, i, none⟩ = false := by
 unfold Blk at h
 simp [World.frozen?, h]
theorem Blk.new (w : World) (t : TypeId) (cs : Array Value) : Blk (w.alloc (.cells cs t)) w.heap.size t cs := heap_alloc_new w _
theorem Blk.new_ (w : World) (t : TypeId) (cs : Array Value) {g : Nat} (h : g = w.heap.size) : Blk (w.alloc (.cells cs t)) g t cs := h ▸ heap_alloc_new w _
theorem Blk.drew (h : Blk w g t cs) : Blk w.drew g t cs := h
theorem Blk.alloc (h : Blk w g t cs) (o : Obj) : Blk (w.alloc o) g t cs := (Below.heap_alloc w o g h.lt).trans h
theorem Blk.set_ (h : Blk w g t cs) (i : Nat) (u : Value) : Blk (w.setCell ⟨g, i, none⟩ u) g t (cs.setIfInBounds i u) := by
 unfold Blk at h ⊢
 simp [World.setCell, Array.getElem?_modify, h]
theorem Blk.far (h : Blk w g t cs) {p : Addr} (hp : g ≠ p.block) (u : Value) : Blk (w.setCell p u) g t cs := (Below.heap_setCell w p u g hp).trans h
theorem Blk.grown {row : Option Nat} (h : Blk w g t cs) (hb : w.grownBy w' row) (hg : some g ≠ row) : Blk w' g t cs := (hb.block g h.lt hg).trans h
end
end Go.Proofs.YtjhdlcmecbngkaaDoor
namespace Go.Proofs.YtjhdlcmecbngkaaDoor
open Go Go.RowKit
set_option linter.unusedVariables false
set_option maxHeartbeats 1000000 in
set_option maxRecDepth 100000 in
theorem count_one (s : ByteArray) (c : UInt8) (w : World) :
  Calls Tryd.prog 77 #[.string s, .string ⟨#[c]⟩] w fun e w' => e = .returned (.int .i64 (Lib.countByte s.data.toList c)) ∧ w' = w := by
 go_enter Tryd.func77, Tryd.ntmps77
 go_wp2
 rw [run_callFunc_extern Tryd.func90 (by kernel_rfl) (by kernel_rfl) (by kernel_rfl) (e := Extern.BytealgCount.count) (by kernel_rfl), Lib.run_countString]
 simp only [Result.andThen]
 rw [Oper.upon_value]
 go_wp2
 go_ret
 exact ⟨rfl, rfl⟩
set_option maxHeartbeats 1000000 in
set_option maxRecDepth 100000 in
theorem indexByte_any (s : ByteArray) (c : Int) (w : World) :
  Calls Tryd.prog 96 #[.string s, .int .u8 c] w fun e w' => e = .returned (.int .i64 (Lib.indexByte s.data.toList c.toNat.toUInt8)) ∧ w' = w := by
 go_enter Tryd.func96, Tryd.ntmps96
 go_wp2
 rw [run_callFunc_extern Tryd.func100 (by kernel_rfl) (by kernel_rfl) (by kernel_rfl) (e := Extern.BytealgIndexByte.indexByte) (by kernel_rfl), Lib.run_indexByteString]
 simp only [Result.andThen]
 rw [Oper.upon_value]
 go_wp2
 go_ret
 exact ⟨rfl, rfl⟩
set_option maxHeartbeats 2000000 in
set_option maxRecDepth 100000 in
theorem liteIndex_one (s : ByteArray) (c : UInt8) (w : World) :
  Calls Tryd.prog 91 #[.string s, .string ⟨#[c]⟩] w fun e w' => e = .returned (.int .i64 (Lib.indexByte s.data.toList c)) ∧ w' = w := by
 go_enter Tryd.func91, Tryd.ntmps91
 go_wp2_with (go_at_call 96; refine (indexByte_any _ _ _).mono ?_; rintro e w' ⟨rfl, rfl⟩)
 ·have h : ([c] == s.toList) = true := by assumption
  go_ret
  refine ⟨?_, rfl⟩
  have e : s.data.toList = [c] := by rw [← Lib.toList_data]; exact (beq_iff_eq.1 h).symm
  rw [e]
  simp [Lib.indexByte]
 ·go_ret
  exact ⟨rfl, rfl⟩
set_option maxHeartbeats 1000000 in
theorem index_one (s : ByteArray) (c : UInt8) (w : World) :
  Calls Tryd.prog 78 #[.string s, .string ⟨#[c]⟩] w fun e w' => e = .returned (.int .i64 (Lib.indexByte s.data.toList c)) ∧ w' = w := by
 go_enter Tryd.func78, Tryd.ntmps78
 go_wp2_with (go_at_call 91; refine (liteIndex_one _ _ _).mono ?_; rintro e w' ⟨rfl, rfl⟩)
 go_ret
 exact ⟨rfl, rfl⟩
end Go.Proofs.YtjhdlcmecbngkaaDoor
namespace Go.Proofs.YtjhdlcmecbngkaaDoor.Pl
set_option linter.unusedVariables false
theorem toList_inj {a b : ByteArray} (h : a.toList = b.toList) : a = b := by
 rw [ByteArray.toList_eq, ByteArray.toList_eq] at h
 cases a; cases b
 congr
 exact Array.toList_inj.1 h
end Go.Proofs.YtjhdlcmecbngkaaDoor.Pl
namespace Go.Proofs.YtjhdlcmecbngkaaDoor.Pl
open Go
set_option linter.unusedVariables false
def ixb (r : ByteArray) (c : UInt8) : Int := Lib.indexByte r.data.toList c
def cnb (r : ByteArray) (c : UInt8) : Nat := Lib.countByte r.data.toList c
theorem ix_neg {l : List UInt8} {c : UInt8} : Lib.indexByte l c = -1 ↔ l.count c = 0 := by
 induction l with
 | nil => simp [Lib.indexByte]
 | cons b l ih =>
  unfold Lib.indexByte
  have hg := Lib.indexByte_ge l c
  by_cases hb : (b == c) = true
  ·rw [if_pos hb]
   have : b = c := by simpa using hb
   subst this
   simp
  ·rw [if_neg hb]
   have hne : b ≠ c := fun e => hb (by simpa using e)
   rw [List.count_cons_of_ne hne]
   split
   ·rename_i h
    have h' : Lib.indexByte l c = -1 := by simpa using h
    simp [ih.1 h']
   ·rename_i h
    have h' : ¬ Lib.indexByte l c = -1 := by simpa using h
    constructor
    ·intro e; omega
    ·intro e; exact absurd (ih.2 e) h'
theorem ix_pos {l : List UInt8} {c : UInt8} (h : 0 < l.count c) : ∃ m : Nat, Lib.indexByte l c = (m : Int) ∧ m < l.length ∧ (l.drop (m + 1)).count c + 1 = l.count c := by
 induction l with
 | nil => simp at h
 | cons b l ih =>
  unfold Lib.indexByte
  by_cases hb : (b == c) = true
  ·rw [if_pos hb]
   have : b = c := by simpa using hb
   subst this
   exact ⟨0, rfl, by simp, by simp⟩
  ·rw [if_neg hb]
   have hne : b ≠ c := fun e => hb (by simpa using e)
   rw [List.count_cons_of_ne hne] at h ⊢
   obtain ⟨m, h1, h2, h3⟩ := ih h
   have hn : ¬ ((Lib.indexByte l c == -1) = true) := by rw [h1]; simp
   rw [if_neg hn, h1]
   exact ⟨m + 1, by simp, by simp; omega, by simpa using h3⟩
def rest (c : UInt8) (s : ByteArray) : Nat → ByteArray
 | 0 => s
 | k + 1 => (rest c s k).extract ((ixb (rest c s k) c).toNat + 1) (rest c s k).size
def piece (c : UInt8) (s : ByteArray) (k : Nat) : ByteArray := (rest c s k).extract 0 (ixb (rest c s k) c).toNat
def pieces (c : UInt8) (s : ByteArray) : List ByteArray := (List.range (cnb s c)).map (piece c s) ++ [rest c s (cnb s c)]
theorem pieces_len (c : UInt8) (s : ByteArray) : (pieces c s).length = cnb s c + 1 := by simp [pieces]
theorem cnb_le (s : ByteArray) (c : UInt8) : cnb s c ≤ s.size := by
 have := List.count_le_length (a := c) (l := s.data.toList)
 simpa [cnb, Lib.countByte] using this
theorem extract_list (s : ByteArray) (a b : Nat) : (s.extract a b).data.toList = (s.data.toList.take b).drop a := by
 simp [ByteArray.data_extract, List.drop_take]
theorem rest_count (c : UInt8) (s : ByteArray) : ∀ k, k ≤ cnb s c → cnb (rest c s k) c + k = cnb s c
 | 0, _ => rfl
 | k + 1, h => by
  have ih := rest_count c s k (by omega)
  have hp : 0 < (rest c s k).data.toList.count c := by have : cnb (rest c s k) c = (rest c s k).data.toList.count c := rfl; omega
  obtain ⟨m, h1, h2, h3⟩ := ix_pos hp
  have hx : ixb (rest c s k) c = (m : Int) := h1
  have e : (rest c s (k + 1)).data.toList = (rest c s k).data.toList.drop (m + 1) := by
   show ((rest c s k).extract ((ixb (rest c s k) c).toNat + 1) (rest c s k).size).data.toList = _
   rw [extract_list, hx]
   congr 1
   exact List.take_of_length_le (by simp)
  have : cnb (rest c s (k + 1)) c + 1 = cnb (rest c s k) c := by
   unfold cnb Lib.countByte
   rw [e]; exact h3
  omega
theorem rest_at (c : UInt8) (s : ByteArray) {k : Nat} (h : k < cnb s c) : ∃ m : Nat, ixb (rest c s k) c = (m : Int) ∧ m + 1 ≤ (rest c s k).size ∧ piece c s k = (rest c s k).extract 0 m ∧ rest c s (k + 1) = (rest c s k).extract (m + 1) (rest c s k).size := by
  have ih := rest_count c s k (by omega)
  have hp : 0 < (rest c s k).data.toList.count c := by have : cnb (rest c s k) c = (rest c s k).data.toList.count c := rfl; omega
  obtain ⟨m, h1, h2, _⟩ := ix_pos hp
  have hx : ixb (rest c s k) c = (m : Int) := h1
  refine ⟨m, hx, by have h4 : m < (rest c s k).size := by simpa using h2
                    omega, ?_, ?_⟩
  · show (rest c s k).extract 0 (ixb (rest c s k) c).toNat = _
    rw [hx]; rfl
  · show (rest c s k).extract ((ixb (rest c s k) c).toNat + 1) (rest c s k).size = _
    rw [hx]; rfl
theorem rest_size (c : UInt8) (s : ByteArray) : ∀ k, (rest c s k).size ≤ s.size
 | 0 => Nat.le_refl _
 | k + 1 => by
  have := rest_size c s k
  show ((rest c s k).extract _ _).size ≤ _
  rw [ByteArray.size_extract]; omega
end Go.Proofs.YtjhdlcmecbngkaaDoor.Pl
namespace Go.Proofs.YtjhdlcmecbngkaaDoor
open Go.ChangeShapes Go.WideShapes Go.ChangeAt Go.RowKit
set_option linter.unusedVariables false
section
variable {H : Type} {enc : TypeId × Value → H} {P : Program}
theorem trodAll_stays (hl : laidOutB P = true) {W W' : World} {B : Nat} (hb : Below B W W') (sp : Nat → Bool) :
  ∀ {ts : List TypeId} {vs : List Value} {ds : List (DataW H)} {p : List MemPlace}, (∀ t ∈ ts, P.readableRec t = true ∧ t < P.types.size) →
   DataW.TrodAll enc P W 0 (fun _ => true) true ts vs ds p → (∀ x ∈ p, sp x.block = true) → (∀ x ∈ p, x.block < B) → B = W.heap.size → DataW.TrodAll enc P W' 0 sp true ts vs ds p
 | [], _, _, _, _, h, _, _, _ => by
  obtain ⟨rfl, rfl, rfl⟩ := trodAll_nil h
  exact trodAll_mk0
 | t :: ts, _, _, _, ht, h, hs, hlt, hB => by
  obtain ⟨v, vs1, d, ds1, a, b, rfl, rfl, rfl, h1, h2⟩ := trodAll_cons h
  obtain ⟨hr, hrow⟩ := ht t (by simp)
  subst hB
  refine ⟨a, b, WideElems.Trod_stays hl hr hrow h1 (fun x hx => hb.same (hlt x (by simp [hx]))) (fun x hx => hs x (by simp [hx])), ?_, rfl⟩
  exact trodAll_stays hl hb sp (fun t h => ht t (by simp [h])) h2 (fun x hx => hs x (by simp [hx])) (fun x hx => hlt x (by simp [hx])) rfl
theorem law_post {f : Func} {s : ChangeSpec} {apart fresh handsOn again : Bool} {W W' : World} {args : Array Value} {ds gs : List (DataW H)} {before : List MemPlace} {tb : TypeId}
  (hW : DataW.Whole enc P f.params.toList s.vars apart W args.toList ds gs before) (hl : laidOutB P = true) (hr : ∀ t ∈ f.params.toList, P.readableRec t = true ∧ t < P.types.size)
  (hv : s.vars = []) (hf : s.fn H (ds ++ gs) = { results := [.lit (.bool true)], args := ds }) (hres : f.resultTypes = #[tb]) (hbool : P.underlying tb = some .bool)
  (hb : Below W.heap.size W W') : s.post enc P f apart fresh handsOn again W args (.bool true) W' := by
 have hW0 := hW
 have hlt : ∀ p ∈ before, p.block < W.heap.size := fun p hp => hW.lt p hp
 obtain ⟨p, q, hA, hV, rfl, hz, hn⟩ := hW
 rw [hv] at hV
 obtain ⟨rfl, rfl⟩ := trodVars_none hV
 simp only [List.append_nil] at *
 have hst : ∀ sp : Nat → Bool, (∀ x ∈ p, sp x.block = true) → DataW.TrodAll enc P W' 0 sp true f.params.toList args.toList ds p := fun sp hs => trodAll_stays hl hb sp hr hA hs hlt rfl
 have hold : ∀ x ∈ p, (fun b => decide (b < W.heap.size)) x.block = true := fun x hx => by simpa using hlt x hx
 have hR : ∀ (b : Nat) (sp : Nat → Bool) (hd : Bool), DataW.TrodAll enc P W' b sp hd f.resultTypes.toList ((Value.bool true).resultList f.resultTypes.size) [.lit (.bool true)] [] := fun b sp hd => by
  rw [hres]
  exact trodAll_cons_mk (shut_bool hbool _) trodAll_mk0
 refine ⟨ds, [], p, [], p, [], hW0, ?_, ?_, ?_, ?_, fun _ => ?_⟩
 ·rw [List.append_nil, hf]; exact hR _ _ _
 ·rw [List.append_nil, hf]; exact hst _ hold
 ·rw [List.append_nil, hv, hf]; rfl
 ·exact World.keptBut_mono (fun x hx => ⟨hx, by simp [hx]⟩) (hb.frame (· ∈ p))
 ·obtain ⟨_, _, _, _, _, hz', hn'⟩ := hW0
  refine ⟨ok_one hres rfl (okWide_bool_mk hbool _), _, [], ([] ++ p) ++ [], ⟨[] ++ p, [], trodAll_append (hst _ (fun _ _ => rfl)) (hR _ _ _), ?_, rfl, ?_, ?_⟩, ?_⟩
  ·rw [hv]; rfl
  ·intro b off hp
   rw [hb.frozen (hlt _ (by simpa using hp))]
   exact hz b off (by simpa using hp)
  ·intro ha
   simpa using hn ha
  ·intro x hx _
   simpa using hx
end
end Go.Proofs.YtjhdlcmecbngkaaDoor
namespace Go.Proofs.YtjhdlcmecbngkaaDoor
open Go.Joins Go.ChangeShapes Go.WideShapes Go.RowKit Go.Deep
set_option linter.unusedVariables false
inductive Ty where
 | i
 | s
 | b
 | l (row : List Ty)
inductive FitV : Ty → V → Prop where
 | i (n : Int) (h1 : -9223372036854775808 ≤ n) (h2 : n ≤ 9223372036854775807) : FitV .i (.v (.int .i64 n))
 | s (x : ByteArray) (h : x.size ≤ 9223372036854775807) : FitV .s (.v (.string x))
 | b (x : Bool) : FitV .b (.v (.bool x))
 | l (tys : List Ty) (rows : List (List V)) (hl : rows.length ≤ 9223372036854775807) (hr : ∀ row ∈ rows, tys.length = row.length) (h : ∀ row ∈ rows, ∀ (j : Nat) (t : Ty) (u : V), tys[j]? = some t → row[j]? = some u → FitV t u) : FitV (.l tys) (.sl false rows)
def Fits (tys : List Ty) (us : List V) : Prop := tys.length = us.length ∧ ∀ (j : Nat) (t : Ty) (u : V), tys[j]? = some t → us[j]? = some u → FitV t u
section
variable {H : Type} {enc : TypeId × Value → H} {P : Program} {w : World} {base : Nat} {spare : Nat → Bool} {held : Bool}
def Reads (w : World) (tys : List Ty) (cs : List Value) (us : List V) : Prop :=
 Fits tys us ∧ cs.length = us.length ∧ ∀ (j : Nat) (u : V) (x : Value), us[j]? = some u → cs[j]? = some x → RV w (fun b => b < w.heap.size) noG u x
theorem Reads.app {t1 t2 : List Ty} {c1 c2 : List Value} {u1 u2 : List V} (h1 : Reads w t1 c1 u1) (h2 : Reads w t2 c2 u2) : Reads w (t1 ++ t2) (c1 ++ c2) (u1 ++ u2) := by
 obtain ⟨⟨a1, a2⟩, a3, a4⟩ := h1
 obtain ⟨⟨b1, b2⟩, b3, b4⟩ := h2
 refine ⟨⟨by simp [a1, b1], fun j t u g1 g2 => ?_⟩, by simp [a3, b3], fun j u x g1 g2 => ?_⟩
 ·by_cases hj : j < t1.length
  ·rw [List.getElem?_append_left hj] at g1
   rw [List.getElem?_append_left (by omega)] at g2
   exact a2 j t u g1 g2
  ·rw [List.getElem?_append_right (by omega)] at g1 g2
   rw [← a1] at g2
   exact b2 _ t u g1 g2
 ·by_cases hj : j < u1.length
  ·rw [List.getElem?_append_left hj] at g1
   rw [List.getElem?_append_left (by omega)] at g2
   exact a4 j u x g1 g2
  ·rw [List.getElem?_append_right (by omega)] at g1 g2
   rw [a3] at g2
   exact b4 _ u x g1 g2
end
theorem pars_v {w : World} {R : Nat → Prop} : ∀ {xs ys : List Value}, Pars w R (xs.map fun x => .c (.v x)) ys → ys = xs
 | xs, ys, h => by
  apply List.ext_getElem?
  intro i
  have hl := h.len
  rw [List.length_map] at hl
  by_cases hi : i < xs.length
  ·have h1 : xs[i]? = some xs[i] := List.getElem?_eq_getElem hi
   have h2 : ys[i]? = some (ys[i]'(by omega)) := List.getElem?_eq_getElem (by omega)
   have h3 : ParOk w R (.c (.v xs[i])) (ys[i]'(by omega)) := h.ok i _ _ (by rw [List.getElem?_map, h1]; rfl) h2
   have h4 : RV w R noG (.v xs[i]) (ys[i]'(by omega)) := h3
   rw [h1, h2, rv_v h4]
  ·rw [List.getElem?_eq_none (by omega), List.getElem?_eq_none (by omega)]
theorem no_blk {ps : List Par} {xs : List Value} {b : Nat} (h : ∀ p ∈ ps, ∃ u, p = .c u) : ¬ ParBlk ps xs b := by
 rintro ⟨i, T, sz, rows, x, h1, _⟩
 obtain ⟨u, hu⟩ := h _ (List.mem_of_getElem? h1)
 cases hu
theorem fr_of_below {L : Nat → Prop} {w w' : World} (h : Below w.heap.size w w') : Fr L w w' := ⟨h.os, h.tape, h.output, h.size, fun k hk _ => h.block k hk⟩
theorem fun_flat {P : Program} {f : FuncId} {xs : List Value} {v : Value} (hc : Callable P f) (h : ∀ w, Calls P f xs.toArray w fun e w' => e = .returned v ∧ Below w.heap.size w w') : Fun P f (xs.map fun x => .c (.v x)) [.c (.v v)] := by
 refine ⟨hc, fun w R ys hlt hp => ?_⟩
 obtain rfl := pars_v hp
 refine (h w).mono fun e w' ⟨he, hb⟩ => ⟨[v], R, by rw [he]; rfl, fr_of_below hb, fun _ h => h, fun b h => .inl h, ⟨rfl, ?_, ?_, ?_⟩, ?_⟩
 ·intro i p x h1 h2
  cases i with
  | zero => simp at h1 h2; subst h1 h2; exact .v _
  | succ i => simp at h1
 ·intro i j T sz rows T' sz' rows' x y b _ h1
  cases i with
  | zero => simp at h1
  | succ i => simp at h1
 ·intro b hb'
  exact absurd hb' (no_blk (by simp))
 ·intro b hb'
  exact absurd hb' (no_blk (by simp))
theorem callable {P : Program} {f : FuncId} {fn : Func} (h1 : P.funcs[f]? = some fn) (h2 : (fn.name == "runtime.NumGoroutine") = false) (h3 : fn.body.isNone = false) : Callable P f := ⟨fn, h1, h2, h3⟩
theorem tieF {P : Program} {f : FuncId} {ps : List Par} {xs : List Value} {v : Value} {w : World} (hF : Fun P f ps [.c (.v v)]) (hc : ∀ p ∈ ps, ∃ u, p = .c u) (hl : ps.length = xs.length)
  (hp : ∀ (i : Nat) (u : V) (x : Value), ps[i]? = some (.c u) → xs[i]? = some x → RV w (fun b => b < w.heap.size) noG u x) : Calls P f xs.toArray w fun e w' => e = .returned v ∧ Below w.heap.size w w' := by
 refine (hF.2 w (fun b => b < w.heap.size) xs (fun _ h => h) ⟨hl, ?_, ?_, ?_⟩).mono ?_
 ·intro i p x h1 h2
  obtain ⟨u, rfl⟩ := hc p (List.mem_of_getElem? h1)
  exact hp i u x h1 h2
 ·intro i j T sz rows T' sz' rows' x y b _ h1
  obtain ⟨u, hu⟩ := hc _ (List.mem_of_getElem? h1)
  cases hu
 ·intro b hb; exact absurd hb (no_blk hc)
 ·rintro e w' ⟨ys, R', rfl, hfr, _, _, hpr, _⟩
  have hy : ys.length = 1 := hpr.len.symm
  match ys, hy with
  | [y], _ =>
   have : RV w' R' noG (.v v) y := hpr.ok 0 _ y rfl rfl
   obtain rfl := rv_v this
   exact ⟨rfl, hfr.os, hfr.tape, hfr.output, hfr.size, fun k hk => hfr.block k hk (no_blk hc)⟩
def RVL (w : World) : List V → List Value → Prop
 | [], [] => True
 | u :: us, x :: xs => RV w (fun b => b < w.heap.size) noG u x ∧ RVL w us xs
 | _, _ => False
theorem rvl_len {w : World} : ∀ {us : List V} {xs : List Value}, RVL w us xs → us.length = xs.length
 | [], [], _ => rfl
 | u :: us, x :: xs, h => by simp [rvl_len h.2]
 | [], _ :: _, h => h.elim
 | _ :: _, [], h => h.elim
theorem rvl_at {w : World} : ∀ {us : List V} {xs : List Value}, RVL w us xs → ∀ (i : Nat) (u : V) (x : Value), us[i]? = some u → xs[i]? = some x → RV w (fun b => b < w.heap.size) noG u x
 | [], [], _, i, u, x, h1, _ => by simp at h1
 | u' :: us, x' :: xs, h, 0, u, x, h1, h2 => by simp at h1 h2; subst h1 h2; exact h.1
 | u' :: us, x' :: xs, h, i + 1, u, x, h1, h2 => rvl_at h.2 i u x (by simpa using h1) (by simpa using h2)
 | [], _ :: _, h, _, _, _, _, _ => h.elim
 | _ :: _, [], h, _, _, _, _, _ => h.elim
theorem tieL {P : Program} {f : FuncId} {us : List V} {xs : List Value} {v : Value} {w : World} (hF : Fun P f (us.map .c) [.c (.v v)]) (h : RVL w us xs) : Calls P f xs.toArray w fun e w' => e = .returned v ∧ Below w.heap.size w w' :=
 tieF hF (by simp) (by rw [List.length_map]; exact rvl_len h) (fun i u x h1 h2 => by
  rw [List.getElem?_map] at h1
  cases hq : us[i]? with
  | none => rw [hq] at h1; cases h1
  | some u' => rw [hq] at h1; simp at h1; subst h1; exact rvl_at h i u' x hq h2)
end Go.Proofs.YtjhdlcmecbngkaaDoor
namespace Go.Proofs.YtjhdlcmecbngkaaDoor.Pl
set_option linter.unusedVariables false
end Go.Proofs.YtjhdlcmecbngkaaDoor.Pl
namespace Go.Proofs.YtjhdlcmecbngkaaDoor.Pl
set_option linter.unusedVariables false
section
variable {α : Type} {cf : α → Int} {l : List α}
end
end Go.Proofs.YtjhdlcmecbngkaaDoor.Pl
namespace Go.Proofs.YtjhdlcmecbngkaaDoor.Pl
set_option linter.unusedVariables false
section
variable {α : Type}
variable {mx : Nat} {e : α → Int} {lt : α → α → Bool} {l : List α}
end
end Go.Proofs.YtjhdlcmecbngkaaDoor.Pl
namespace Go.Proofs.YtjhdlcmecbngkaaDoor.Pl
set_option linter.unusedVariables false
section
variable {α : Type}
def at_ (p : α → Bool) (l : List α) : Int := match l.findIdx? p with
 | some i => (i : Int)
 | none => -1
theorem at_yes {p : α → Bool} {l : List α} {k : Nat} (hk : k < l.length) (h0 : ∀ i, (h : i < l.length) → i < k → p l[i] = false) (h1 : p l[k] = true) : at_ p l = k := by
 have : l.findIdx? p = some k := by
  rw [List.findIdx?_eq_some_iff_getElem]
  exact ⟨hk, h1, fun j hj => by simp [h0 j (by omega) hj]⟩
 simp [at_, this]
theorem at_no {p : α → Bool} {l : List α} (h0 : ∀ i, (h : i < l.length) → p l[i] = false) : at_ p l = -1 := by
 have : l.findIdx? p = none := by
  rw [List.findIdx?_eq_none_iff]
  intro x hx
  obtain ⟨i, hi, rfl⟩ := List.getElem_of_mem hx
  exact h0 i hi
 simp [at_, this]
theorem at_inv {p : α → Bool} {l : List α} : (at_ p l = -1 ∧ ∀ i, (h : i < l.length) → p l[i] = false) ∨ ∃ k, ∃ hk : k < l.length, at_ p l = (k : Int) ∧ p l[k] = true ∧ ∀ i, (h : i < l.length) → i < k → p l[i] = false := by
 cases h : l.findIdx? p with
 | none =>
  left
  refine ⟨by simp [at_, h], fun i hi => ?_⟩
  rw [List.findIdx?_eq_none_iff] at h
  exact h _ (List.getElem_mem hi)
 | some k =>
  right
  rw [List.findIdx?_eq_some_iff_getElem] at h
  obtain ⟨hk, h1, h2⟩ := h
  refine ⟨k, hk, ?_, h1, fun i hi hik => by simpa using h2 i hik⟩
  have : l.findIdx? p = some k := by
   rw [List.findIdx?_eq_some_iff_getElem]
   exact ⟨hk, h1, h2⟩
  simp [at_, this]
end
end Go.Proofs.YtjhdlcmecbngkaaDoor.Pl
namespace Go.Proofs.YtjhdlcmecbngkaaDoor
open Go.RowKit Pl
set_option linter.unusedVariables false
theorem wrap_u64 {n : Int} (h1 : 0 ≤ n) (h2 : n ≤ 18446744073709551615) : IntKind.u64.wrap n = n := IntWalk.u64_in n ⟨h1, h2⟩
theorem fdiv_half {n : Int} (h : 0 ≤ n) : n.fdiv (2 ^ (min (1 : Int).toNat IntKind.u64.bits)) = n / 2 := by
 have e : (2 : Int) ^ (min (1 : Int).toNat IntKind.u64.bits) = 2 := by decide
 rw [e, Int.fdiv_eq_ediv_of_nonneg _ (by decide)]
class FlatRow {α : Type} (enc : α → List V) : Prop where
 flat : ∀ x, ∀ u ∈ enc x, ∃ v, u = .v v
theorem row_map {α : Type} {f : α → List V} {l : List α} {k : Nat} (h : k < l.length) : (l.map f)[k]? = some (f l[k]) := by simp [h]
theorem fl_row {α : Type} {enc : α → List V} [hf : FlatRow enc] {x : α} : ∀ u ∈ enc x, Fl u := fun u hu => by
 obtain ⟨v, rfl⟩ := hf.flat x u hu
 exact fl_v v
theorem fl_rows {α : Type} {enc : α → List V} [FlatRow enc] {l : List α} : ∀ row ∈ l.map enc, ∀ u ∈ row, Fl u := fun row hr u hu => by
 obtain ⟨x, _, rfl⟩ := List.mem_map.1 hr
 exact fl_row u hu
theorem cl_rows {α : Type} {enc : α → List V} [FlatRow enc] {l : List α} : ∀ row ∈ l.map enc, ∀ u ∈ row, Cl u := fun row hr u hu => (fl_rows row hr u hu).cl
theorem cl_list {α : Type} {enc : α → List V} [FlatRow enc] {c : Bool} {l : List α} : Cl (.sl c (l.map enc)) := cl_sl cl_rows
theorem cl_nil {c : Bool} : Cl (.sl c []) := cl_sl (by simp)
theorem cl_one {α : Type} {enc : α → List V} [FlatRow enc] {x : α} : Cl (.agg (enc x)) := cl_agg fun u hu => (fl_row u hu).cl
def vB : V → Bool
 | .v _ => true
 | _ => false
def vsB : List V → Bool
 | [] => true
 | u :: us => bif vB u then vsB us else false
def clB : V → Bool
 | .v _ => true
 | .agg cs => vsB cs
 | .tup cs => vsB cs
 | .clo _ cs => vsB cs
 | .sl false [] => true
 | _ => false
def clRs : List (List V) → Bool
 | [] => true
 | r :: rs => bif vsB r then clRs rs else false
theorem vB_fl {u : V} (h : vB u = true) : Fl u := by
 cases u <;> first | exact fl_v _ | cases h
theorem vsB_fl : ∀ {us : List V}, vsB us = true → ∀ u ∈ us, Fl u
 | [], _, u, hu => by cases hu
 | v :: us, h, u, hu => by
  unfold vsB at h
  cases hv : vB v with
  | false => rw [hv] at h; cases h
  | true =>
   rw [hv] at h
   rcases List.mem_cons.1 hu with rfl | hu
   ·exact vB_fl hv
   ·exact vsB_fl h u hu
theorem clRs_fl : ∀ {rs : List (List V)}, clRs rs = true → ∀ r ∈ rs, ∀ u ∈ r, Fl u
 | [], _, r, hr => by cases hr
 | r' :: rs, h, r, hr => by
  unfold clRs at h
  cases hv : vsB r' with
  | false => rw [hv] at h; cases h
  | true =>
   rw [hv] at h
   rcases List.mem_cons.1 hr with rfl | hr
   ·exact vsB_fl hv
   ·exact clRs_fl h r hr
theorem fl_clo {f : FuncId} {cs : List V} (h : ∀ u ∈ cs, Fl u) : Fl (.clo f cs) := fun w w' R R' G G' x hx => by
 cases hx with
 | clo f cs xs hl hh => exact .clo f cs xs hl fun i u x h1 h2 => h u (List.mem_of_getElem? h1) _ _ _ _ _ _ _ (hh i u x h1 h2)
theorem fl_b {u : V} (h : clB u = true) : Fl u := by
 cases u with
 | v x => exact fl_v x
 | agg cs => exact fl_agg (vsB_fl h)
 | tup cs => exact fl_tup (vsB_fl h)
 | clo f cs => exact fl_clo (vsB_fl h)
 | sl c rows => cases c <;> cases rows <;> first | exact fl_nil | cases h
 | _ => cases h
theorem cl_b {u : V} (h : clB u = true) : Cl u := (fl_b h).cl
theorem cl_rs {rs : List (List V)} (h : clRs rs = true) : ∀ r ∈ rs, ∀ u ∈ r, Cl u := fun r hr u hu => (clRs_fl h r hr u hu).cl
theorem cl_rl1 {α : Type} {enc : α → List V} [FlatRow enc] {c : Bool} {l : List α} : ∀ row ∈ [[V.sl c (l.map enc)]], ∀ u ∈ row, Cl u := by
 intro row hr u hu
 simp only [List.mem_cons, List.not_mem_nil, or_false] at hr; subst hr
 simp only [List.mem_cons, List.not_mem_nil, or_false] at hu; subst hu
 exact cl_list
theorem cl_rl2 {α : Type} {enc : α → List V} [FlatRow enc] {c d : Bool} {l m : List α} : ∀ row ∈ [[V.sl c (l.map enc)], [V.sl d (m.map enc)]], ∀ u ∈ row, Cl u := by
 intro row hr u hu
 simp only [List.mem_cons, List.not_mem_nil, or_false] at hr
 rcases hr with rfl | rfl <;> (simp only [List.mem_cons, List.not_mem_nil, or_false] at hu; subst hu; exact cl_list)
theorem cl_ll1 {α : Type} {enc : α → List V} [FlatRow enc] {c e : Bool} {l : List α} : Cl (.sl e [[V.sl c (l.map enc)]]) := cl_sl cl_rl1
theorem cl_ll2 {α : Type} {enc : α → List V} [FlatRow enc] {c d e : Bool} {l m : List α} : Cl (.sl e [[V.sl c (l.map enc)], [V.sl d (m.map enc)]]) := cl_sl cl_rl2
def flB : List Par → Bool
 | [] => true
 | .c u :: ps => bif clB u then flB ps else false
 | _ => false
theorem flat_b : ∀ {rs : List Par}, flB rs = true → flatRes rs
 | [], _ => fun r hr => by cases hr
 | .c u :: ps, h => by
  unfold flB at h
  cases hv : clB u with
  | false => rw [hv] at h; cases h
  | true =>
   rw [hv] at h
   intro r hr
   rcases List.mem_cons.1 hr with rfl | hr
   ·exact fl_b hv
   ·exact flat_b h r hr
 | .o _ _ _ :: _, h => by cases h
theorem flat_own {α : Type} {enc : α → List V} [FlatRow enc] {T : TypeId} {sz : Nat} {l : List α} : flatRes [.o T sz (l.map enc)] := by
 intro r hr
 simp only [List.mem_cons, List.not_mem_nil, or_false] at hr; subst hr
 exact fl_rows
theorem flat_own1 {α : Type} {enc : α → List V} [FlatRow enc] {T : TypeId} {sz : Nat} {l : List α} {ps : List Par} (h : flB ps = true) : flatRes (.o T sz (l.map enc) :: ps) := by
 intro r hr
 rcases List.mem_cons.1 hr with rfl | hr
 ·exact fl_rows
 ·exact flat_b h r hr
theorem cl_setB {α : Type} {enc : α → List V} [FlatRow enc] {l : List α} {i : Nat} {row : List V} (h : vsB row = true) : ∀ r ∈ (l.map enc).set i row, ∀ u ∈ r, Cl u := fun r hr u hu => by
 rcases List.mem_or_eq_of_mem_set hr with h1 | rfl
 ·exact cl_rows r h1 u hu
 ·exact (vsB_fl h u hu).cl
theorem cl_setG {rows : List (List V)} {i : Nat} {row : List V} (h0 : ∀ r ∈ rows, ∀ u ∈ r, Cl u) (h : vsB row = true) : ∀ r ∈ rows.set i row, ∀ u ∈ r, Cl u := fun r hr u hu => by
 rcases List.mem_or_eq_of_mem_set hr with h1 | rfl
 ·exact h0 r h1 u hu
 ·exact (vsB_fl h u hu).cl
theorem cl_appB {rs rs' : List (List V)} (h : ∀ r ∈ rs, ∀ u ∈ r, Cl u) (h' : ∀ r ∈ rs', ∀ u ∈ r, Cl u) : ∀ r ∈ rs ++ rs', ∀ u ∈ r, Cl u := fun r hr u hu => by
 rcases List.mem_append.1 hr with h1 | h1
 ·exact h r h1 u hu
 ·exact h' r h1 u hu
theorem give' {H : Nat → Option Ent} {all : List Nat} {bor : Bool} {gone : List Nat} {id g : Nat} {T : TypeId} {sz : Nat} {rows : List (List V)} {us : List V} {ps : List Par} (he : H id = some ⟨g, .t T, sz, rows⟩) (hr : ∀ row ∈ rows, ∀ u ∈ row, Cl u) (hn : id ∉ gone) (ha : id ∈ all) (h : ArgsOk H all bor gone us ps) : ArgsOk H all bor (id :: gone) (.own id g :: us) (.o T sz rows :: ps) :=
 ArgsOk.give (e := ⟨g, .t T, sz, rows⟩) he rfl rfl hr hn ha h
theorem not_t {b : Bool} (h : (!b) = true) : b = false := by cases b; rfl; cases h
theorem not_f {b : Bool} (h : (!b) = false) : b = true := by cases b; cases h; rfl
theorem nobor {p : Prop} : false = true → p := by simp
theorem up1 {n k : Nat} {p : (j : Nat) → (j < n) → Prop} (h0 : ∀ j (h : j < n), j < k → p j h) (hk : ∀ h : k < n, p k h) : ∀ j (h : j < n), j < k + 1 → p j h := fun j h hj => by
 rcases (by omega : j < k ∨ j = k) with g | rfl
 ·exact h0 j h g
 ·exact hk h
theorem cl_row {row : List V} (h : clRs [row] = true) : ∀ u ∈ row, Cl u := fun u hu => cl_rs h row (by simp) u hu
theorem GetR.cell1 {env : Nat → V} {H : Nat → Option Ent} {a id gen k off sz : Nat} {agg : Bool} {e : Ent} {row : List V} {r : List RT} {u : V} {us : List V} (h1 : env a = .ptr id gen k off) (h2 : H id = some e) (h3 : e.gen = gen) (h4 : e.rows[k]? = some row) (h5 : Nat.ble (off + sz) row.length = true) (hu : u = mkV agg ((row.drop off).take sz)) (h : GetR env H r us) :
  GetR env H ((a, some (agg, sz)) :: r) (u :: us) := by rw [hu]; exact .cell h1 h2 h3 h4 (Nat.le_of_ble_eq_true h5) h
theorem GetR.tmp1 {env : Nat → V} {H : Nat → Option Ent} {t : Nat} {r : List RT} {u : V} {us : List V} (hu : u = env t) (h : GetR env H r us) : GetR env H ((t, none) :: r) (u :: us) := by rw [hu]; exact .tmp h
class OneRow {α : Type} (enc : α → List V) (sz : outParam Nat) : Prop where
 len : ∀ x, (enc x).length = sz
 one : ∀ x, ∀ u ∈ enc x, ∃ v, u = .v v ∧ v.oneCell' = true
theorem outs_b {rs : List ParM} (h : rs.all outM = true) : ∀ p ∈ rs, outM p = true := List.all_eq_true.1 h
theorem cl_r1 {c : Bool} {rows : List (List V)} (h : clRs rows = true) : ∀ u ∈ [V.sl c rows], Cl u := fun u hu => by
 simp only [List.mem_cons, List.not_mem_nil, or_false] at hu; subst hu
 exact cl_sl (cl_rs h)
theorem cl_r1b {α : Type} {enc : α → List V} [FlatRow enc] {c : Bool} {l : List α} : ∀ u ∈ [V.sl c (l.map enc)], Cl u := fun u hu => by
 simp only [List.mem_cons, List.not_mem_nil, or_false] at hu; subst hu
 exact cl_list
theorem flat_own2 {α β : Type} {enc : α → List V} {enc' : β → List V} [FlatRow enc] [FlatRow enc'] {T T' : TypeId} {sz sz' : Nat} {l : List α} {l' : List β} {ps : List Par} (h : flB ps = true) : flatRes (.o T sz (l.map enc) :: .o T' sz' (l'.map enc') :: ps) := by
 intro r hr
 rcases List.mem_cons.1 hr with rfl | hr
 ·exact fl_rows
 ·exact flat_own1 h r hr
theorem nI {a b : Nat} (h : Nat.ble a b = true := by exact rfl) : a ≤ b := Nat.le_of_ble_eq_true h
theorem oI {rs : List ParM} (h : rs.all outM = true := by exact rfl) : ∀ p ∈ rs, outM p = true := outs_b h
theorem dI {l : List Nat} (h : ndB l = true := by exact rfl) : l.Nodup := nd_b h
theorem tI {p : Prop} (h : p := by (repeat' (first | exact trivial | refine ⟨rfl, ?_⟩))) : p := h
theorem lI {p : Prop} (h : p := by (simp only [List.length_map, List.length_append, List.length_cons, List.length_nil, List.length_set, List.length_replicate, maxLen]; omega)) : p := h
theorem fI {rs : List Par} (h : flatRes rs := by (first | exact flat_b rfl | exact flat_own | exact flat_own1 rfl | exact flat_own2 rfl)) : flatRes rs := h
theorem cBI {H : Nat → Option Ent} {all : List Nat} {cs cs' : List V} (h : CellsB H all cs cs' := by (repeat' (first | exact CellsB.nil | refine CellsB.same (by first | exact cl_b rfl | exact cl_list | exact cl_nil | assumption) ?_ | refine CellsB.nilsl _ ?_ | refine cB_own rfl rfl (by first | exact cl_rs rfl | exact cl_rows | exact cl_setB rfl | exact cl_setG (cl_setB rfl) rfl | exact cl_appB cl_rows (cl_rs rfl) | exact cl_rl1 | exact cl_rl2) (by decide) ?_))) : CellsB H all cs cs' := h
theorem aI {H : Nat → Option Ent} {all gone : List Nat} {bor : Bool} {us : List V} {ps : List Par} (h : ArgsOk H all bor gone us ps := by (repeat' (first | exact ArgsOk.nil _ | exact argsOk_cells (by assumption) | refine ArgsOk.same (by first | exact cl_b rfl | exact cl_list | exact cl_nil | exact cl_one | exact cl_ll1 | exact cl_ll2 | exact cl_clo (by assumption) | exact cl_agg' (by repeat' (first | exact clcs_nil | refine clcs_cons (by first | exact cl_b rfl | exact cl_list | exact cl_nil | assumption) ?_))) ?_ | refine ArgsOk.nilsl _ ?_ | refine ArgsOk.nilown _ _ (by decide) ?_ | refine ArgsOk.borp rfl rfl rfl (cl_row rfl) (by decide) ?_ | refine ArgsOk.borc (by (repeat' (first | exact cap_n | refine cap_p rfl rfl rfl (by first | exact cl_row rfl | exact cl_r1 rfl | exact cl_r1b) ?_ ?_ | refine cap_m rfl (by decide) ?_ | refine cap_c (by first | exact cl_b rfl | exact cl_list | exact cl_nil | exact cl_one | exact cl_ll1 | exact cl_ll2 | exact cl_clo (by assumption) | exact cl_agg' (by repeat' (first | exact clcs_nil | refine clcs_cons (by first | exact cl_b rfl | exact cl_list | exact cl_nil | assumption) ?_))) ?_ | decide))) ?_ | refine ArgsOk.bora cBI ?_ | refine ArgsOk.bor rfl rfl (deref_flat (by first | exact cl_rs rfl | exact cl_rows | exact cl_setB rfl | exact cl_setG (cl_setB rfl) rfl | exact cl_appB cl_rows (cl_rs rfl) | exact cl_rl1 | exact cl_rl2)) (by decide) ?_ | refine give' rfl (by first | exact cl_rs rfl | exact cl_rows | exact cl_setB rfl | exact cl_setG (cl_setB rfl) rfl | exact cl_appB cl_rows (cl_rs rfl) | exact cl_rl1 | exact cl_rl2) (by decide) (by decide) ?_))) : ArgsOk H all bor gone us ps := h
theorem aM {H : Nat → Option Ent} {all gone : List Nat} {bor : Bool} {us : List V} {ps : List ParM} (h : ArgsM H all bor gone us ps := by (repeat' (first | exact ArgsM.nil _ | refine aM_same (by first | exact cl_b rfl | exact cl_list | exact cl_nil | exact cl_one | exact cl_ll1 | exact cl_ll2 | exact cl_clo (by assumption) | exact cl_agg' (by repeat' (first | exact clcs_nil | refine clcs_cons (by first | exact cl_b rfl | exact cl_list | exact cl_nil | assumption) ?_))) ?_ | refine aM_nilsl _ ?_ | refine aM_nilown _ _ (by decide) ?_ | refine aM_mf rfl (cl_row rfl) (by decide) (by decide) rfl ?_ | refine aM_pf rfl (cl_row rfl) (by decide) (by decide) ?_ | refine aM_mo rfl (by decide) (by decide) ?_ | refine aM_po rfl (by decide) (by decide) ?_ | refine aM_borp rfl rfl rfl (cl_row rfl) (by decide) ?_ | refine aM_borc (by (repeat' (first | exact cap_n | refine cap_p rfl rfl rfl (by first | exact cl_row rfl | exact cl_r1 rfl | exact cl_r1b) ?_ ?_ | refine cap_m rfl (by decide) ?_ | refine cap_c (by first | exact cl_b rfl | exact cl_list | exact cl_nil | exact cl_one | exact cl_ll1 | exact cl_ll2 | exact cl_clo (by assumption) | exact cl_agg' (by repeat' (first | exact clcs_nil | refine clcs_cons (by first | exact cl_b rfl | exact cl_list | exact cl_nil | assumption) ?_))) ?_ | decide))) ?_ | refine aM_bora cBI ?_ | refine aM_bor rfl rfl (deref_flat (by first | exact cl_rs rfl | exact cl_rows | exact cl_setB rfl | exact cl_setG (cl_setB rfl) rfl | exact cl_appB cl_rows (cl_rs rfl) | exact cl_rl1 | exact cl_rl2)) (by decide) ?_ | refine aM_give rfl (by first | exact cl_rs rfl | exact cl_rows | exact cl_setB rfl | exact cl_setG (cl_setB rfl) rfl | exact cl_appB cl_rows (cl_rs rfl) | exact cl_rl1 | exact cl_rl2) (by decide) (by decide) ?_ | refine aM_ms rfl (by first | exact cl_rs rfl | exact cl_rows | exact cl_setB rfl | exact cl_setG (cl_setB rfl) rfl | exact cl_appB cl_rows (cl_rs rfl) | exact cl_rl1 | exact cl_rl2) (by decide) (by decide) (by simp) ?_))) : ArgsM H all bor gone us ps := h
theorem hxI {α : Type} {a b : α} {p : Prop} (hn : a = b) (h : a = b → p := by (intro hq; (repeat' (first | exact trivial | refine ⟨rfl, ?_⟩ | refine ⟨(by show some (Ent.mk _ _ _ _) = some (Ent.mk _ _ _ _); (first | (rw [hq]; done) | (rw [hq]; rfl) | (rw [hq, List.map_append]; done) | (rw [hq, List.map_append]; rfl) | (rw [hq, List.map_append, List.map_append]; done) | (rw [hq, List.map_append, List.map_append]; rfl))), ?_⟩ | refine ⟨(by show V.v _ = V.v _; (first | (rw [hq]; done) | (rw [hq]; rfl) | (rw [hq, List.map_append]; done) | (rw [hq, List.map_append]; rfl) | (rw [hq, List.map_append, List.map_append]; done) | (rw [hq, List.map_append, List.map_append]; rfl))), ?_⟩ | refine ⟨(by show V.sl _ _ = V.sl _ _; (first | (rw [hq]; done) | (rw [hq]; rfl) | (rw [hq, List.map_append]; done) | (rw [hq, List.map_append]; rfl) | (rw [hq, List.map_append, List.map_append]; done) | (rw [hq, List.map_append, List.map_append]; rfl))), ?_⟩)))) : p := h hn
structure Hold (q : Prop) : Prop where
 out : q
theorem goI {p q : Prop} (h : q) (e : Hold q → p := by (intro hq; (conv => whnf); (repeat' ((first | refine ⟨rfl, ?_⟩ | refine ⟨_, row_map (by assumption), ?_⟩ | refine ⟨_, (by exact some_rfl), ?_⟩ | refine ⟨_, wrap_ok (by omega) (by omega), ?_⟩ | refine ⟨_, wrap_u64 (by omega) (by omega), ?_⟩ | refine ⟨by decide, _, fdiv_half (by omega), ?_⟩); (conv => whnf))); exact hq.out)) : p := e ⟨h⟩
theorem G0 {p q : Prop} (h : q) (e : Hold q → p := by (intro hq; (conv => whnf); (repeat' ((first | refine ⟨rfl, ?_⟩ | refine ⟨_, row_map (by assumption), ?_⟩ | refine ⟨_, (by exact some_rfl), ?_⟩ | refine ⟨_, wrap_ok (by omega) (by omega), ?_⟩ | refine ⟨_, wrap_u64 (by omega) (by omega), ?_⟩ | refine ⟨by decide, _, fdiv_half (by omega), ?_⟩); (conv => whnf))); exact hq.out)) : p := e ⟨h⟩
theorem G1 {α0 : Type} {p : Prop} {q : α0 → Prop} (h : ∀ a0, q a0) (e : (∀ a0, Hold (q a0)) → p := by (intro hq; (conv => whnf); (repeat' ((first | refine ⟨rfl, ?_⟩ | refine ⟨_, row_map (by assumption), ?_⟩ | refine ⟨_, (by exact some_rfl), ?_⟩ | refine ⟨_, wrap_ok (by omega) (by omega), ?_⟩ | refine ⟨_, wrap_u64 (by omega) (by omega), ?_⟩ | refine ⟨by decide, _, fdiv_half (by omega), ?_⟩); (conv => whnf))); intro g0; (conv => whnf); (repeat' ((first | refine ⟨rfl, ?_⟩ | refine ⟨_, row_map (by assumption), ?_⟩ | refine ⟨_, (by exact some_rfl), ?_⟩ | refine ⟨_, wrap_ok (by omega) (by omega), ?_⟩ | refine ⟨_, wrap_u64 (by omega) (by omega), ?_⟩ | refine ⟨by decide, _, fdiv_half (by omega), ?_⟩); (conv => whnf))); exact (hq g0).out)) : p := e fun a0 => ⟨h a0⟩
theorem G2 {α0 α1 : Type} {p : Prop} {q : α0 → α1 → Prop} (h : ∀ a0 a1, q a0 a1) (e : (∀ a0 a1, Hold (q a0 a1)) → p := by (intro hq; (conv => whnf); (repeat' ((first | refine ⟨rfl, ?_⟩ | refine ⟨_, row_map (by assumption), ?_⟩ | refine ⟨_, (by exact some_rfl), ?_⟩ | refine ⟨_, wrap_ok (by omega) (by omega), ?_⟩ | refine ⟨_, wrap_u64 (by omega) (by omega), ?_⟩ | refine ⟨by decide, _, fdiv_half (by omega), ?_⟩); (conv => whnf))); intro g0; (conv => whnf); (repeat' ((first | refine ⟨rfl, ?_⟩ | refine ⟨_, row_map (by assumption), ?_⟩ | refine ⟨_, (by exact some_rfl), ?_⟩ | refine ⟨_, wrap_ok (by omega) (by omega), ?_⟩ | refine ⟨_, wrap_u64 (by omega) (by omega), ?_⟩ | refine ⟨by decide, _, fdiv_half (by omega), ?_⟩); (conv => whnf))); intro g1; (conv => whnf); (repeat' ((first | refine ⟨rfl, ?_⟩ | refine ⟨_, row_map (by assumption), ?_⟩ | refine ⟨_, (by exact some_rfl), ?_⟩ | refine ⟨_, wrap_ok (by omega) (by omega), ?_⟩ | refine ⟨_, wrap_u64 (by omega) (by omega), ?_⟩ | refine ⟨by decide, _, fdiv_half (by omega), ?_⟩); (conv => whnf))); exact (hq g0 g1).out)) : p := e fun a0 a1 => ⟨h a0 a1⟩
end Go.Proofs.YtjhdlcmecbngkaaDoor
namespace Go.Proofs.YtjhdlcmecbngkaaDoor
set_option linter.unusedVariables false
abbrev zq0 : List Value := [(.int .i64 0), (.bool false), (.bool false), (.int .i64 0), (.string ⟨#[]⟩), (.int .i64 0), (.slice none 0 0)]
abbrev zq1 : List Value := [(.string ⟨#[]⟩), (.int .i64 0), (.int .i64 0), (.int .i64 0), (.string ⟨#[]⟩), (.int .i64 0), (.string ⟨#[]⟩)]
def rc_hearsaylaw_DnsReads : RCode :=
 .seq (.reg [Rq 2 (.mv (.const (.bool false)))])
 (.seq (.reg [Rq 8 (.mv 0),Rq 9 (.call (.func 26) [8]),Rq 7 (.mv 9),Rq 10 (.ext 7 0),Rq 11 (.ext 7 1),Rq 3 (.zbox 40 zq0),Sq 7 3 10,Rq 4 (.mv 11)])
 (.seq (.reg [Rq 13 (.mv 0),Rq 14 (.call (.func 27) [13]),Rq 12 (.mv 14),Rq 15 (.ext 12 0),Rq 16 (.ext 12 1),Rq 5 (.zbox 40 zq0),Sq 7 5 15,Rq 6 (.mv 16)])
 (.seq (.reg [Rq 17 (.call (.func 20) []),Rq 18 (.mv 17),Gq 19 18 true (.mv 4),Gq 20 18 true (.mv 6),Gq 21 18 true (.bin .eql 19 20),Rq 22 (.pick 18 21 (.const (.bool false))),Rq 23 (.mv 22),Gq 24 23 true (.load true 7 3),Gq 25 23 true (.load true 7 5),Gq 26 23 true (.call (.func 28) [24, 25]),Rq 27 (.pick 23 26 (.const (.bool false))),Rq 2 (.mv 27)])
 (.ret))))
theorem ck_hearsaylaw_DnsReads : chkFun Tryd.prog 8 1 = some (rc_hearsaylaw_DnsReads, [2]) := by kernel_rfl
def rc_hearsaylaw_dnsBegun : RCode :=
 .seq (.reg [Rq 0 (.mv (.const (.bool false)))])
 (.seq (.reg [Rq 6 (.build [(.string ⟨#[]⟩), (.int .i64 0)] [(0, 1, (.const (.string ⟨#[97, 46, 98]⟩))), (1, 1, (Kq 1))]),Rq 7 (.build zq0 [(0, 1, (Kq 258)), (4, 2, 6)]),Rq 8 (.call (.func 23) [7]),Rq 5 (.mv 8),Rq 9 (.ext 5 0),Rq 10 (.ext 5 1),Rq 1 (.mv 9),Rq 2 (.mv 10)])
 (.seq (.reg [Rq 12 (.mv 1),Rq 13 (.call (.func 26) [12]),Rq 11 (.mv 13),Rq 14 (.ext 11 0),Rq 15 (.ext 11 1),Rq 3 (.zbox 40 zq0),Sq 7 3 14,Rq 4 (.mv 15)])
 (.seq (.reg [Rq 16 (.mv 2),Rq 17 (.bin .eql 16 (Kq 0)),Rq 18 (.mv 17),Gq 19 18 true (.mv 4),Gq 20 18 true (.bin .eql 19 (Kq 0)),Rq 21 (.pick 18 20 (.const (.bool false))),Rq 22 (.mv 21),Gq 23 22 true (.mv 1),Gq 24 22 true (.len true 23),Gq 25 22 true (.bin .eql 24 (Kq 21)),Rq 26 (.pick 22 25 (.const (.bool false))),Rq 27 (.mv 26),Gq 28 27 true (.fldA 0 3),Gq 29 27 true (.load false 1 28),Gq 30 27 true (.bin .eql 29 (Kq 258)),Rq 31 (.pick 27 30 (.const (.bool false))),Rq 32 (.mv 31),Gq 33 32 true (.fldA 4 3),Gq 34 32 true (.fldA 0 33),Gq 35 32 true (.load false 1 34),Gq 36 32 true (.bin .eql 35 (.const (.string ⟨#[97, 46, 98]⟩))),Rq 37 (.pick 32 36 (.const (.bool false))),Rq 0 (.mv 37)])
 (.ret))))
theorem ck_hearsaylaw_dnsBegun : chkFun Tryd.prog 20 0 = some (rc_hearsaylaw_dnsBegun, [0]) := by kernel_rfl
def rc_dns_Check : RCode :=
 .seq (.reg [Rq 2 (.mv (Kq 0))])
 (.seq (.reg [Rq 4 (.mv 0),Rq 5 (.call (.func 41) [4]),Rq 3 (.mv 5)])
 (.seq (.block 0
 (.seq (.reg [Rq 7 (.mv 3),Rq 8 (.call (.func 33) [7, (.func 42)]),Rq 6 (.mv 8)])
 (.cond 6
 (.seq (.reg [Rq 2 (.mv (Kq 1))])
 (.ret))
 (.seq (.reg [Rq 10 (.mv 3),Rq 11 (.len false 10),Rq 12 (.bin .gtr 11 (Kq 8)),Rq 13 (.mv 12),Gq 14 13 false (.mv 0),Gq 15 13 false (.len true 14),Gq 16 13 false (.bin .gtr 15 (Kq 120)),Rq 17 (.pick 13 (.const (.bool true)) 16),Rq 9 (.mv 17)])
 (.cond 9
 (.seq (.reg [Rq 2 (.mv (Kq 2))])
 (.ret))
 (.skip))))))
 (.seq (.reg [Rq 2 (.mv (Kq 0))])
 (.ret))))
theorem ck_dns_Check : chkFun Tryd.prog 21 1 = some (rc_dns_Check, [2]) := by kernel_rfl
def rc_hearsayref_CheckName : RCode :=
 .seq (.reg [Rq 2 (.mv (Kq 0))])
 (.seq (.reg [Rq 5 (.mv 0),Rq 6 (.call (.func 40) [5]),Rq 3 (.mv 6)])
 (.seq (.seq (.reg [Rq 4 (.mv (Kq 0))])
 (.block 0
 (.loop
 (.seq (.seq (.reg [Rq 7 (.mv 4),Rq 8 (.mv 3),Rq 9 (.len false 8),Rq 10 (.bin .lss 7 9)])
 (.cond 10
 (.skip)
 (.exit 0)))
 (.seq (.block 1
 (.seq (.reg [Rq 13 (.mv 3),Rq 14 (.mv 4),Rq 15 (.idxA 1 13 14),Rq 16 (.load false 1 15),Rq 17 (.call (.func 38) [16]),Rq 18 (.not 17)])
 (.cond 18
 (.seq (.reg [Rq 2 (.mv (Kq 1))])
 (.ret))
 (.skip))))
 (.reg [Rq 11 (.mv 4),Rq 12 (.bin .add 11 (Kq 1)),Rq 4 (.mv 12)]))))))
 (.seq (.seq (.reg [Rq 19 (.mv 3),Rq 20 (.len false 19),Rq 21 (.bin .gtr 20 (Kq 8)),Rq 22 (.mv 21),Gq 23 22 false (.mv 0),Gq 24 22 false (.len true 23),Gq 25 22 false (.bin .gtr 24 (Kq 120)),Rq 26 (.pick 22 (.const (.bool true)) 25)])
 (.cond 26
 (.seq (.reg [Rq 2 (.mv (Kq 2))])
 (.ret))
 (.skip)))
 (.seq (.reg [Rq 2 (.mv (Kq 0))])
 (.ret)))))
theorem ck_hearsayref_CheckName : chkFun Tryd.prog 22 1 = some (rc_hearsayref_CheckName, [2]) := by kernel_rfl
def rc_dns_Write : RCode :=
 .seq (.reg [Rq 1 (.box 40 7 0),Rq 2 (.mv (.const (.string ⟨#[]⟩))),Rq 3 (.mv (Kq 0))])
 (.seq (.seq (.reg [Rq 6 (.load true 7 1),Rq 7 (.call (.func 43) [6]),Rq 4 (.mv 7)])
 (.seq (.reg [Rq 8 (.mv 4),Rq 9 (.bin .neq 8 (Kq 0))])
 (.cond 9
 (.seq (.reg [Rq 10 (.mv 4),Rq 2 (.mv (.const (.string ⟨#[]⟩))),Rq 3 (.mv 10)])
 (.ret))
 (.skip))))
 (.seq (.reg [Rq 11 (.load true 7 1),Rq 12 (.call (.func 44) [11]),Rq 5 (.mv 12)])
 (.seq (.seq (.reg [Rq 13 (.mv 5),Rq 14 (.len true 13),Rq 15 (.bin .gtr 14 (Kq 512))])
 (.cond 15
 (.seq (.reg [Rq 2 (.mv (.const (.string ⟨#[]⟩))),Rq 3 (.mv (Kq 2))])
 (.ret))
 (.skip)))
 (.seq (.reg [Rq 16 (.mv 5),Rq 2 (.mv 16),Rq 3 (.mv (Kq 0))])
 (.ret)))))
theorem ck_dns_Write : chkFun Tryd.prog 23 1 = some (rc_dns_Write, [2, 3]) := by kernel_rfl
def rc_hearsayref_CheckMessage : RCode :=
 .seq (.reg [Rq 1 (.box 40 7 0),Rq 2 (.mv (Kq 0))])
 (.seq (.seq (.reg [Rq 5 (.fldA 0 1),Rq 6 (.load false 1 5),Rq 7 (.call (.func 45) [6, (Kq 0), (Kq 65535)]),Rq 8 (.not 7),Rq 9 (.mv 8),Gq 10 9 false (.fldA 3 1),Gq 11 9 false (.load false 1 10),Gq 12 9 false (.call (.func 45) [11, (Kq 0), (Kq 15)]),Gq 13 9 false (.not 12),Rq 14 (.pick 9 (.const (.bool true)) 13)])
 (.cond 14
 (.seq (.reg [Rq 2 (.mv (Kq 3))])
 (.ret))
 (.skip)))
 (.seq (.seq (.reg [Rq 15 (.fldA 6 1),Rq 16 (.load false 1 15),Rq 17 (.len false 16),Rq 18 (.bin .gtr 17 (Kq 20))])
 (.cond 18
 (.seq (.reg [Rq 2 (.mv (Kq 2))])
 (.ret))
 (.skip)))
 (.seq (.reg [Rq 19 (.fldA 4 1),Rq 20 (.fldA 0 19),Rq 21 (.load false 1 20),Rq 22 (.call (.func 22) [21]),Rq 3 (.mv 22)])
 (.seq (.seq (.reg [Rq 23 (.mv 3),Rq 24 (.bin .neq 23 (Kq 0))])
 (.cond 24
 (.seq (.reg [Rq 25 (.mv 3),Rq 2 (.mv 25)])
 (.ret))
 (.skip)))
 (.seq (.seq (.reg [Rq 26 (.fldA 4 1),Rq 27 (.fldA 1 26),Rq 28 (.load false 1 27),Rq 29 (.call (.func 46) [28]),Rq 30 (.not 29)])
 (.cond 30
 (.seq (.reg [Rq 2 (.mv (Kq 7))])
 (.ret))
 (.skip)))
 (.seq (.seq (.reg [Rq 4 (.mv (Kq 0))])
 (.block 0
 (.loop
 (.seq (.seq (.reg [Rq 31 (.mv 4),Rq 32 (.fldA 6 1),Rq 33 (.load false 1 32),Rq 34 (.len false 33),Rq 35 (.bin .lss 31 34)])
 (.cond 35
 (.skip)
 (.exit 0)))
 (.seq (.block 1
 (.seq (.reg [Rq 38 (.fldA 6 1),Rq 39 (.load false 1 38),Rq 40 (.mv 4),Rq 41 (.idxA 7 39 40),Rq 42 (.load true 7 41),Rq 43 (.call (.func 47) [42]),Rq 3 (.mv 43)])
 (.seq (.reg [Rq 44 (.mv 3),Rq 45 (.bin .neq 44 (Kq 0))])
 (.cond 45
 (.seq (.reg [Rq 46 (.mv 3),Rq 2 (.mv 46)])
 (.ret))
 (.skip)))))
 (.reg [Rq 36 (.mv 4),Rq 37 (.bin .add 36 (Kq 1)),Rq 4 (.mv 37)]))))))
 (.seq (.reg [Rq 2 (.mv (Kq 0))])
 (.ret))))))))
theorem ck_hearsayref_CheckMessage : chkFun Tryd.prog 24 1 = some (rc_hearsayref_CheckMessage, [2]) := by kernel_rfl
def rc_hearsayref_MessageOf : RCode :=
 .seq (.reg [Rq 2 (.zbox 40 zq0),Rq 3 (.mv (Kq 0))])
 (.seq (.seq (.reg [Rq 15 (.mv 0),Rq 16 (.len true 15),Rq 17 (.bin .gtr 16 (Kq 512))])
 (.cond 17
 (.seq (.reg [Rq 18 (.build zq0 []),Sq 7 2 18,Rq 3 (.mv (Kq 2))])
 (.ret))
 (.skip)))
 (.seq (.reg [Rq 19 (.mv 0),Rq 20 (.build [(.string ⟨#[]⟩), (.int .i64 0), (.bool false)] [(0, 1, 19)]),Rq 21 (.box 76 3 20),Rq 4 (.mv 21)])
 (.seq (.reg [Rq 22 (.mv 4),Rq 23 (.call (.func 52) [22, (Kq 2)]),Rq 24 (.build zq0 [(0, 1, 23)]),Rq 5 (.zbox 40 zq0),Sq 7 5 24])
 (.seq (.reg [Rq 25 (.mv 4),Rq 26 (.call (.func 52) [25, (Kq 1)]),Rq 6 (.mv 26)])
 (.seq (.reg [Rq 27 (.mv 6),Rq 28 (.bin .geq 27 (Kq 128)),Rq 29 (.fldA 1 5),Sq 1 29 28])
 (.seq (.reg [Rq 30 (.mv 6),Rq 31 (.bin .rem 30 (Kq 4)),Rq 32 (.bin .geq 31 (Kq 2)),Rq 33 (.fldA 2 5),Sq 1 33 32])
 (.seq (.reg [Rq 34 (.mv 4),Rq 35 (.call (.func 52) [34, (Kq 1)]),Rq 36 (.fldA 3 5),Sq 1 36 35])
 (.seq (.reg [Rq 37 (.mv 4),Rq 38 (.call (.func 52) [37, (Kq 2)]),Rq 7 (.mv 38)])
 (.seq (.reg [Rq 39 (.mv 4),Rq 40 (.call (.func 52) [39, (Kq 2)]),Rq 8 (.mv 40)])
 (.seq (.reg [Rq 41 (.mv 4),Rq 42 (.call (.func 52) [41, (Kq 4)]),Rq 9 (.mv 42)])
 (.seq (.seq (.reg [Rq 43 (.mv 4),Rq 44 (.fldA 0 43),Rq 45 (.fldA 2 44),Rq 46 (.load false 1 45),Rq 47 (.mv 46),Gq 48 47 false (.mv 6),Gq 49 47 false (.bin .neq 48 (Kq 0)),Gq 50 47 false (.mv 49),Gq 51 50 true (.mv 6),Gq 52 50 true (.bin .neq 51 (Kq 2)),Gq 53 47 false (.pick 50 52 (.const (.bool false))),Gq 54 47 false (.mv 53),Gq 55 54 true (.mv 6),Gq 56 54 true (.bin .neq 55 (Kq 128)),Gq 57 47 false (.pick 54 56 (.const (.bool false))),Gq 58 47 false (.mv 57),Gq 59 58 true (.mv 6),Gq 60 58 true (.bin .neq 59 (Kq 130)),Gq 61 47 false (.pick 58 60 (.const (.bool false))),Rq 62 (.pick 47 (.const (.bool true)) 61),Rq 63 (.mv 62),Gq 64 63 false (.fldA 3 5),Gq 65 63 false (.load false 1 64),Gq 66 63 false (.bin .gtr 65 (Kq 15)),Rq 67 (.pick 63 (.const (.bool true)) 66),Rq 68 (.mv 67),Gq 69 68 false (.mv 7),Gq 70 68 false (.bin .neq 69 (Kq 1)),Rq 71 (.pick 68 (.const (.bool true)) 70),Rq 72 (.mv 71),Gq 73 72 false (.mv 8),Gq 74 72 false (.bin .gtr 73 (Kq 20)),Rq 75 (.pick 72 (.const (.bool true)) 74),Rq 76 (.mv 75),Gq 77 76 false (.mv 9),Gq 78 76 false (.bin .neq 77 (Kq 0)),Rq 79 (.pick 76 (.const (.bool true)) 78)])
 (.cond 79
 (.seq (.reg [Rq 80 (.build zq0 []),Sq 7 2 80,Rq 3 (.mv (Kq 1))])
 (.ret))
 (.skip)))
 (.seq (.reg [Rq 81 (.mv 4),Rq 82 (.call (.func 53) [81]),Rq 83 (.fldA 4 5),Rq 84 (.fldA 0 83),Sq 1 84 82])
 (.seq (.reg [Rq 85 (.mv 4),Rq 86 (.call (.func 52) [85, (Kq 2)]),Rq 87 (.fldA 4 5),Rq 88 (.fldA 1 87),Sq 1 88 86])
 (.seq (.reg [Rq 89 (.mv 4),Rq 90 (.mv 4),Rq 91 (.fldA 0 90),Rq 92 (.fldA 2 91),Rq 93 (.load false 1 92),Rq 94 (.mv 93),Gq 95 94 false (.mv 4),Gq 96 94 false (.call (.func 52) [95, (Kq 2)]),Gq 97 94 false (.bin .neq 96 (Kq 1)),Rq 98 (.pick 94 (.const (.bool true)) 97),Rq 99 (.fldA 0 89),Rq 100 (.fldA 2 99),Sq 1 100 98])
 (.seq (.seq (.reg [Rq 10 (.mv (Kq 0))])
 (.block 0
 (.loop
 (.seq (.seq (.reg [Rq 101 (.mv 10),Rq 102 (.mv 8),Rq 103 (.bin .lss 101 102),Rq 104 (.mv 103),Gq 105 104 true (.mv 4),Gq 106 104 true (.fldA 0 105),Gq 107 104 true (.fldA 2 106),Gq 108 104 true (.load false 1 107),Gq 109 104 true (.not 108),Rq 110 (.pick 104 109 (.const (.bool false)))])
 (.cond 110
 (.skip)
 (.exit 0)))
 (.seq (.block 1
 (.seq (.reg [Rq 11 (.zbox 64 zq1)])
 (.seq (.reg [Rq 113 (.mv 4),Rq 114 (.call (.func 53) [113]),Rq 115 (.fldA 0 11),Sq 1 115 114])
 (.seq (.reg [Rq 116 (.mv 4),Rq 117 (.call (.func 52) [116, (Kq 2)]),Rq 118 (.fldA 1 11),Sq 1 118 117])
 (.seq (.reg [Rq 119 (.mv 4),Rq 120 (.mv 4),Rq 121 (.fldA 0 120),Rq 122 (.fldA 2 121),Rq 123 (.load false 1 122),Rq 124 (.mv 123),Gq 125 124 false (.mv 4),Gq 126 124 false (.call (.func 52) [125, (Kq 2)]),Gq 127 124 false (.bin .neq 126 (Kq 1)),Rq 128 (.pick 124 (.const (.bool true)) 127),Rq 129 (.fldA 0 119),Rq 130 (.fldA 2 129),Sq 1 130 128])
 (.seq (.reg [Rq 131 (.mv 4),Rq 132 (.call (.func 52) [131, (Kq 4)]),Rq 133 (.fldA 2 11),Sq 1 133 132])
 (.seq (.reg [Rq 134 (.mv 4),Rq 135 (.call (.func 52) [134, (Kq 2)]),Rq 12 (.mv 135)])
 (.seq (.reg [Rq 136 (.mv 4),Rq 137 (.fldA 0 136),Rq 138 (.fldA 1 137),Rq 139 (.load false 1 138),Rq 140 (.mv 12),Rq 141 (.bin .add 139 140),Rq 13 (.mv 141)])
 (.seq (.seq (.reg [Rq 142 (.mv 4),Rq 143 (.fldA 0 142),Rq 144 (.fldA 2 143),Rq 145 (.load false 1 144),Rq 146 (.mv 145),Gq 147 146 false (.mv 13),Gq 148 146 false (.mv 0),Gq 149 146 false (.len true 148),Gq 150 146 false (.bin .gtr 147 149),Rq 151 (.pick 146 (.const (.bool true)) 150)])
 (.cond 151
 (.seq (.reg [Rq 152 (.build zq0 []),Sq 7 2 152,Rq 3 (.mv (Kq 1))])
 (.ret))
 (.skip)))
 (.seq (.seq (.reg [Rq 153 (.fldA 1 11),Rq 154 (.load false 1 153)])
 (.block 2
 (.seq (.reg [Rq 156 (.bin .eql 154 (Kq 1)),Rq 155 (.mv 156)])
 (.cond 155
 (.reg [Rq 157 (.mv 4),Rq 158 (.call (.func 52) [157, (Kq 4)]),Rq 159 (.fldA 3 11),Sq 1 159 158])
 (.seq (.reg [Rq 161 (.bin .eql 154 (Kq 16)),Rq 160 (.mv 161)])
 (.cond 160
 (.seq (.reg [Rq 162 (.mv 4),Rq 163 (.call (.func 52) [162, (Kq 1)]),Rq 14 (.mv 163)])
 (.seq (.seq (.reg [Rq 164 (.mv 4),Rq 165 (.fldA 0 164),Rq 166 (.fldA 2 165),Rq 167 (.load false 1 166),Rq 168 (.mv 167),Gq 169 168 false (.mv 4),Gq 170 168 false (.fldA 0 169),Gq 171 168 false (.fldA 1 170),Gq 172 168 false (.load false 1 171),Gq 173 168 false (.mv 14),Gq 174 168 false (.bin .add 172 173),Gq 175 168 false (.mv 0),Gq 176 168 false (.len true 175),Gq 177 168 false (.bin .gtr 174 176),Rq 178 (.pick 168 (.const (.bool true)) 177)])
 (.cond 178
 (.seq (.reg [Rq 179 (.build zq0 []),Sq 7 2 179,Rq 3 (.mv (Kq 1))])
 (.ret))
 (.skip)))
 (.seq (.dreg [[Rq 180 (.mv 0),Rq 181 (.mv 4),Rq 182 (.fldA 0 181),Rq 183 (.fldA 1 182),Rq 184 (.load false 1 183),Rq 185 (.mv 4),Rq 186 (.fldA 0 185),Rq 187 (.fldA 1 186),Rq 188 (.load false 1 187),Rq 189 (.mv 14),Rq 190 (.bin .add 188 189)],[Rq 191 (.slcS 180 (some 184) (some 190))],[Rq 192 (.fldA 4 11)],[Sq 1 192 191]])
 (.reg [Rq 193 (.mv 4),Rq 194 (.fldA 0 193),Rq 195 (.fldA 1 194),Rq 196 (.load false 1 195),Rq 197 (.mv 14),Rq 198 (.bin .add 196 197),Rq 199 (.fldA 0 193),Rq 200 (.fldA 1 199),Sq 1 200 198]))))
 (.seq (.reg [Rq 202 (.bin .eql 154 (Kq 33)),Rq 201 (.mv 202)])
 (.cond 201
 (.seq (.reg [Rq 203 (.mv 4),Rq 204 (.mv 4),Rq 205 (.fldA 0 204),Rq 206 (.fldA 2 205),Rq 207 (.load false 1 206),Rq 208 (.mv 207),Gq 209 208 false (.mv 4),Gq 210 208 false (.call (.func 52) [209, (Kq 4)]),Gq 211 208 false (.bin .neq 210 (Kq 0)),Rq 212 (.pick 208 (.const (.bool true)) 211),Rq 213 (.fldA 0 203),Rq 214 (.fldA 2 213),Sq 1 214 212])
 (.seq (.reg [Rq 215 (.mv 4),Rq 216 (.call (.func 52) [215, (Kq 2)]),Rq 217 (.fldA 5 11),Sq 1 217 216])
 (.reg [Rq 218 (.mv 4),Rq 219 (.call (.func 53) [218]),Rq 220 (.fldA 6 11),Sq 1 220 219])))
 (.skip)))))))))
 (.seq (.reg [Rq 221 (.mv 4),Rq 222 (.mv 4),Rq 223 (.fldA 0 222),Rq 224 (.fldA 2 223),Rq 225 (.load false 1 224),Rq 226 (.mv 225),Gq 227 226 false (.mv 4),Gq 228 226 false (.fldA 0 227),Gq 229 226 false (.fldA 1 228),Gq 230 226 false (.load false 1 229),Gq 231 226 false (.mv 13),Gq 232 226 false (.bin .neq 230 231),Rq 233 (.pick 226 (.const (.bool true)) 232),Rq 234 (.fldA 0 221),Rq 235 (.fldA 2 234),Sq 1 235 233])
 (.reg [Rq 236 (.fldA 6 5),Rq 237 (.load false 1 236),Rq 238 (.load true 7 11),Rq 239 (.mks 64 7 1 zq1 [(0, 238)]),Rq 240 (.app 64 7 80 (.agg #[(.string ⟨#[]⟩), (.int .i64 0), (.int .i64 0), (.int .i64 0), (.string ⟨#[]⟩), (.int .i64 0), (.string ⟨#[]⟩)]) 237 239),Rq 241 (.fldA 6 5),Sq 1 241 240]))))))))))))
 (.reg [Rq 111 (.mv 10),Rq 112 (.bin .add 111 (Kq 1)),Rq 10 (.mv 112)]))))))
 (.seq (.seq (.reg [Rq 242 (.mv 4),Rq 243 (.fldA 0 242),Rq 244 (.fldA 2 243),Rq 245 (.load false 1 244),Rq 246 (.mv 245),Gq 247 246 false (.mv 4),Gq 248 246 false (.fldA 0 247),Gq 249 246 false (.fldA 1 248),Gq 250 246 false (.load false 1 249),Gq 251 246 false (.mv 0),Gq 252 246 false (.len true 251),Gq 253 246 false (.bin .neq 250 252),Rq 254 (.pick 246 (.const (.bool true)) 253),Rq 255 (.mv 254),Gq 256 255 false (.load true 7 5),Gq 257 255 false (.call (.func 24) [256]),Gq 258 255 false (.bin .neq 257 (Kq 0)),Rq 259 (.pick 255 (.const (.bool true)) 258)])
 (.cond 259
 (.seq (.reg [Rq 260 (.build zq0 []),Sq 7 2 260,Rq 3 (.mv (Kq 1))])
 (.ret))
 (.skip)))
 (.seq (.reg [Rq 261 (.load true 7 5),Sq 7 2 261,Rq 3 (.mv (Kq 0))])
 (.ret))))))))))))))))))
theorem ck_hearsayref_MessageOf : chkFunC Tryd.prog 27 1 = some (rc_hearsayref_MessageOf, [(2, some (true, 7)), (3, none)]) := by kernel_rfl
def rc_hearsayref_SameMessage : RCode :=
 .seq (.reg [Rq 2 (.box 40 7 0),Rq 3 (.box 40 7 1),Rq 4 (.mv (.const (.bool false)))])
 (.seq (.reg [Rq 5 (.fldA 0 2),Rq 6 (.load false 1 5),Rq 7 (.fldA 0 3),Rq 8 (.load false 1 7),Rq 9 (.bin .eql 6 8),Rq 10 (.mv 9),Gq 11 10 true (.fldA 1 2),Gq 12 10 true (.load false 1 11),Gq 13 10 true (.fldA 1 3),Gq 14 10 true (.load false 1 13),Gq 15 10 true (.eqb false 12 14),Rq 16 (.pick 10 15 (.const (.bool false))),Rq 17 (.mv 16),Gq 18 17 true (.fldA 2 2),Gq 19 17 true (.load false 1 18),Gq 20 17 true (.fldA 2 3),Gq 21 17 true (.load false 1 20),Gq 22 17 true (.eqb false 19 21),Rq 23 (.pick 17 22 (.const (.bool false))),Rq 24 (.mv 23),Gq 25 24 true (.fldA 3 2),Gq 26 24 true (.load false 1 25),Gq 27 24 true (.fldA 3 3),Gq 28 24 true (.load false 1 27),Gq 29 24 true (.bin .eql 26 28),Rq 30 (.pick 24 29 (.const (.bool false))),Rq 31 (.mv 30),Gq 32 31 true (.fldA 4 2),Gq 33 31 true (.load true 2 32),Gq 34 31 true (.fldA 4 3),Gq 35 31 true (.load true 2 34),Gq 36 31 true (.eqS false [1, 0] 33 35),Rq 37 (.pick 31 36 (.const (.bool false))),Rq 38 (.mv 37),Gq 39 38 true (.fldA 6 2),Gq 40 38 true (.load false 1 39),Gq 41 38 true (.fldA 6 3),Gq 42 38 true (.load false 1 41),Gq 43 38 true (.call (.func 31) [40, 42]),Rq 44 (.pick 38 43 (.const (.bool false))),Rq 4 (.mv 44)])
 (.ret))
theorem ck_hearsayref_SameMessage : chkFun Tryd.prog 28 2 = some (rc_hearsayref_SameMessage, [4]) := by kernel_rfl
def rc_hearsayref_SameRecords : RCode :=
 .seq (.reg [Rq 4 (.mv (.const (.bool false)))])
 (.seq (.seq (.reg [Rq 6 (.mv 0),Rq 7 (.len false 6),Rq 8 (.mv 1),Rq 9 (.len false 8),Rq 10 (.bin .neq 7 9)])
 (.cond 10
 (.seq (.reg [Rq 4 (.mv (.const (.bool false)))])
 (.ret))
 (.skip)))
 (.seq (.seq (.reg [Rq 5 (.mv (Kq 0))])
 (.block 0
 (.loop
 (.seq (.seq (.reg [Rq 11 (.mv 5),Rq 12 (.mv 0),Rq 13 (.len false 12),Rq 14 (.bin .lss 11 13)])
 (.cond 14
 (.skip)
 (.exit 0)))
 (.seq (.block 1
 (.seq (.dreg [[Rq 17 (.mv 0),Rq 18 (.mv 5),Rq 19 (.idxA 7 17 18),Rq 20 (.load true 7 19),Rq 21 (.mv 1),Rq 22 (.mv 5),Rq 23 (.idxA 7 21 22),Rq 24 (.load true 7 23)],[Rq 25 (.eqS true [1, 0, 0, 0, 1, 0, 1] 20 24)]])
 (.cond 25
 (.seq (.reg [Rq 4 (.mv (.const (.bool false)))])
 (.ret))
 (.skip))))
 (.reg [Rq 15 (.mv 5),Rq 16 (.bin .add 15 (Kq 1)),Rq 5 (.mv 16)]))))))
 (.seq (.reg [Rq 4 (.mv (.const (.bool true)))])
 (.ret))))
theorem ck_hearsayref_SameRecords : chkFun Tryd.prog 31 2 = some (rc_hearsayref_SameRecords, [4]) := by kernel_rfl
def rc_slices_ContainsFunc_string_string : RCode :=
 .seq (.reg [Rq 4 (.mv (.const (.bool false)))])
 (.seq (.reg [Rq 5 (.mv 0),Rq 6 (.mv 1),Rq 7 (.call (.func 58) [5, 6]),Rq 8 (.bin .geq 7 (Kq 0)),Rq 4 (.mv 8)])
 (.ret))
theorem ck_slices_ContainsFunc_string_string : chkFun Tryd.prog 33 2 = some (rc_slices_ContainsFunc_string_string, [4]) := by kernel_rfl
def rc_strings_Split : RCode :=
 .seq (.reg [Rq 4 (.mv (.const (.slice none 0 0)))])
 (.seq (.reg [Rq 5 (.mv 0),Rq 6 (.mv 1),Rq 7 (.call (.func 60) [5, 6, (Kq 0), (.const (.int .i64 (-1)))]),Rq 4 (.mv 7)])
 (.ret))
theorem ck_strings_Split : chkFun Tryd.prog 39 2 = some (rc_strings_Split, [4]) := by kernel_rfl
def rc_hearsayref_LabelsOf : RCode :=
 .seq (.reg [Rq 2 (.mv (.const (.slice none 0 0)))])
 (.seq (.seq (.reg [Rq 6 (.mv 0),Rq 7 (.bin .eql 6 (.const (.string ⟨#[]⟩)))])
 (.cond 7
 (.seq (.reg [Rq 2 (.mv (.const (.slice none 0 0)))])
 (.ret))
 (.skip)))
 (.seq (.reg [Rq 3 (.mv (.const (.slice none 0 0)))])
 (.seq (.reg [Rq 4 (.mv (Kq 0))])
 (.seq (.seq (.reg [Rq 5 (.mv (Kq 0))])
 (.block 0
 (.loop
 (.seq (.seq (.reg [Rq 8 (.mv 5),Rq 9 (.mv 0),Rq 10 (.len true 9),Rq 11 (.bin .lss 8 10)])
 (.cond 11
 (.skip)
 (.exit 0)))
 (.seq (.block 1
 (.seq (.reg [Rq 14 (.mv 0),Rq 15 (.mv 5),Rq 16 (.idxS 14 15),Rq 17 (.bin .eql 16 (.const (.int .u8 46)))])
 (.cond 17
 (.seq (.reg [Rq 18 (.mv 3),Rq 19 (.mv 0),Rq 20 (.mv 4),Rq 21 (.mv 5),Rq 22 (.slcS 19 (some 20) (some 21)),Rq 23 (.mks 9 1 1 [(.string ⟨#[]⟩)] [(0, 22)]),Rq 24 (.app 9 1 16 (.string ⟨#[]⟩) 18 23),Rq 3 (.mv 24)])
 (.reg [Rq 25 (.mv 5),Rq 26 (.bin .add 25 (Kq 1)),Rq 4 (.mv 26)]))
 (.skip))))
 (.reg [Rq 12 (.mv 5),Rq 13 (.bin .add 12 (Kq 1)),Rq 5 (.mv 13)]))))))
 (.seq (.reg [Rq 27 (.mv 3),Rq 28 (.mv 0),Rq 29 (.mv 4),Rq 30 (.slcS 28 (some 29) none),Rq 31 (.mks 9 1 1 [(.string ⟨#[]⟩)] [(0, 30)]),Rq 32 (.app 9 1 16 (.string ⟨#[]⟩) 27 31),Rq 2 (.mv 32)])
 (.ret))))))
theorem ck_hearsayref_LabelsOf : chkFun Tryd.prog 40 1 = some (rc_hearsayref_LabelsOf, [2]) := by kernel_rfl
def rc_dns_labels : RCode :=
 .seq (.reg [Rq 2 (.mv (.const (.slice none 0 0)))])
 (.seq (.seq (.reg [Rq 3 (.mv 0),Rq 4 (.bin .eql 3 (.const (.string ⟨#[]⟩)))])
 (.cond 4
 (.seq (.reg [Rq 2 (.mv (.const (.slice none 0 0)))])
 (.ret))
 (.skip)))
 (.seq (.reg [Rq 5 (.mv 0),Rq 6 (.call (.func 39) [5, (.const (.string ⟨#[46]⟩))]),Rq 2 (.mv 6)])
 (.ret)))
theorem ck_dns_labels : chkFun Tryd.prog 41 1 = some (rc_dns_labels, [2]) := by kernel_rfl
def rc_dns_Check_1 : RCode :=
 .seq (.reg [Rq 2 (.mv (.const (.bool false)))])
 (.seq (.reg [Rq 3 (.mv 0),Rq 4 (.call (.func 35) [3]),Rq 5 (.not 4),Rq 2 (.mv 5)])
 (.ret))
theorem ck_dns_Check_1 : chkFun Tryd.prog 42 1 = some (rc_dns_Check_1, [2]) := by kernel_rfl
def rc_dns_check : RCode :=
 .seq (.reg [Rq 1 (.box 40 7 0),Rq 2 (.mv (Kq 0))])
 (.seq (.block 0
 (.seq (.reg [Rq 8 (.fldA 0 1),Rq 9 (.load false 1 8),Rq 10 (.call (.func 54) [9, (Kq 0), (Kq 65535)]),Rq 11 (.not 10),Rq 12 (.mv 11),Gq 13 12 false (.fldA 3 1),Gq 14 12 false (.load false 1 13),Gq 15 12 false (.call (.func 54) [14, (Kq 0), (Kq 15)]),Gq 16 12 false (.not 15),Rq 17 (.pick 12 (.const (.bool true)) 16),Rq 7 (.mv 17)])
 (.cond 7
 (.seq (.reg [Rq 2 (.mv (Kq 3))])
 (.ret))
 (.seq (.reg [Rq 19 (.fldA 6 1),Rq 20 (.load false 1 19),Rq 21 (.len false 20),Rq 22 (.bin .gtr 21 (Kq 20)),Rq 18 (.mv 22)])
 (.cond 18
 (.seq (.reg [Rq 2 (.mv (Kq 2))])
 (.ret))
 (.skip))))))
 (.seq (.seq (.reg [Rq 23 (.fldA 4 1),Rq 24 (.fldA 0 23),Rq 25 (.load false 1 24),Rq 26 (.call (.func 21) [25]),Rq 3 (.mv 26)])
 (.seq (.reg [Rq 27 (.mv 3),Rq 28 (.bin .neq 27 (Kq 0))])
 (.cond 28
 (.seq (.reg [Rq 29 (.mv 3),Rq 2 (.mv 29)])
 (.ret))
 (.skip))))
 (.seq (.seq (.reg [Rq 30 (.fldA 4 1),Rq 31 (.fldA 1 30),Rq 32 (.load false 1 31),Rq 33 (.call (.func 61) [32]),Rq 34 (.not 33)])
 (.cond 34
 (.seq (.reg [Rq 2 (.mv (Kq 7))])
 (.ret))
 (.skip)))
 (.seq (.seq (.reg [Rq 35 (.fldA 6 1),Rq 36 (.load false 1 35),Rq 37 (.len false 36),Rq 38 (.mv (Kq 0))])
 (.block 1
 (.loop
 (.seq (.reg [Rq 39 (.bin .lss 38 37)])
 (.seq (.cond 39
 (.skip)
 (.exit 1))
 (.seq (.block 2
 (.seq (.reg [Rq 40 (.idxA 7 36 38),Rq 41 (.load true 7 40),Rq 5 (.zbox 64 zq1),Sq 7 5 41])
 (.seq (.reg [Rq 42 (.load true 7 5),Rq 43 (.call (.func 62) [42]),Rq 6 (.mv 43)])
 (.seq (.reg [Rq 44 (.mv 6),Rq 45 (.bin .neq 44 (Kq 0))])
 (.cond 45
 (.seq (.reg [Rq 46 (.mv 6),Rq 2 (.mv 46)])
 (.ret))
 (.skip))))))
 (.reg [Rq 47 (.bin .add 38 (Kq 1)),Rq 38 (.mv 47)])))))))
 (.seq (.reg [Rq 2 (.mv (Kq 0))])
 (.ret))))))
theorem ck_dns_check : chkFun Tryd.prog 43 1 = some (rc_dns_check, [2]) := by kernel_rfl
def rc_dns_write : RCode :=
 .seq (.reg [Rq 1 (.box 40 7 0),Rq 2 (.mv (.const (.string ⟨#[]⟩)))])
 (.seq (.reg [Rq 7 (.build [(.pointer none), (.slice none 0 0)] []),Rq 8 (.box 90 2 7),Rq 3 (.mv 8)])
 (.seq (.reg [Rq 9 (.fldA 3 1),Rq 10 (.load false 1 9),Rq 4 (.mv 10)])
 (.seq (.seq (.reg [Rq 11 (.fldA 1 1),Rq 12 (.load false 1 11)])
 (.cond 12
 (.reg [Rq 13 (.mv 4),Rq 14 (.bin .or 13 (Kq 32768)),Rq 4 (.mv 14)])
 (.skip)))
 (.seq (.seq (.reg [Rq 15 (.fldA 2 1),Rq 16 (.load false 1 15)])
 (.cond 16
 (.reg [Rq 17 (.mv 4),Rq 18 (.bin .or 17 (Kq 512)),Rq 4 (.mv 18)])
 (.skip)))
 (.seq (.reg [Rq 19 (.mv 3),Rq 20 (.fldA 0 1),Rq 21 (.load false 1 20),Rq 22 (.mv 4),Rq 23 (.fldA 6 1),Rq 24 (.load false 1 23),Rq 25 (.len false 24),Rq 26 (.mks 3 1 6 [(.int .i64 0)] [(0, 21), (1, 22), (2, (Kq 1)), (3, 25), (4, (Kq 0)), (5, (Kq 0))]),Rq 27 (.call (.func 63) [19, 26])])
 (.seq (.reg [Rq 28 (.mv 3),Rq 29 (.fldA 4 1),Rq 30 (.fldA 0 29),Rq 31 (.load false 1 30),Rq 32 (.call (.func 64) [28, 31])])
 (.seq (.reg [Rq 33 (.mv 3),Rq 34 (.fldA 4 1),Rq 35 (.fldA 1 34),Rq 36 (.load false 1 35),Rq 37 (.mks 3 1 2 [(.int .i64 0)] [(0, 36), (1, (Kq 1))]),Rq 38 (.call (.func 63) [33, 37])])
 (.seq (.seq (.reg [Rq 39 (.fldA 6 1),Rq 40 (.load false 1 39),Rq 41 (.len false 40),Rq 42 (.mv (Kq 0))])
 (.block 0
 (.loop
 (.seq (.reg [Rq 43 (.bin .lss 42 41)])
 (.seq (.cond 43
 (.skip)
 (.exit 0))
 (.seq (.block 1
 (.seq (.reg [Rq 44 (.idxA 7 40 42),Rq 45 (.load true 7 44),Rq 6 (.zbox 64 zq1),Sq 7 6 45])
 (.reg [Rq 46 (.mv 3),Rq 47 (.load true 7 6),Rq 48 (.call (.func 65) [46, 47])])))
 (.reg [Rq 49 (.bin .add 42 (Kq 1)),Rq 42 (.mv 49)])))))))
 (.seq (.reg [Rq 50 (.mv 3),Rq 51 (.fldA 0 50),Rq 52 (.fldA 0 51),Rq 53 (.call (.func 66) [52]),Rq 2 (.mv 53)])
 (.ret))))))))))
theorem ck_dns_write : chkFun Tryd.prog 44 1 = some (rc_dns_write, [2]) := by kernel_rfl
def rc_hearsayref_between : RCode :=
 .seq (.reg [Rq 6 (.mv (.const (.bool false)))])
 (.seq (.reg [Rq 7 (.mv 0),Rq 8 (.mv 1),Rq 9 (.bin .geq 7 8),Rq 10 (.mv 9),Gq 11 10 true (.mv 0),Gq 12 10 true (.mv 2),Gq 13 10 true (.bin .leq 11 12),Rq 14 (.pick 10 13 (.const (.bool false))),Rq 6 (.mv 14)])
 (.ret))
theorem ck_hearsayref_between : chkFun Tryd.prog 45 3 = some (rc_hearsayref_between, [6]) := by kernel_rfl
def rc_hearsayref_IsType : RCode :=
 .seq (.reg [Rq 2 (.mv (.const (.bool false)))])
 (.seq (.reg [Rq 3 (.mv 0),Rq 4 (.bin .eql 3 (Kq 1)),Rq 5 (.mv 4),Gq 6 5 false (.mv 0),Gq 7 5 false (.bin .eql 6 (Kq 16)),Rq 8 (.pick 5 (.const (.bool true)) 7),Rq 9 (.mv 8),Gq 10 9 false (.mv 0),Gq 11 9 false (.bin .eql 10 (Kq 33)),Rq 12 (.pick 9 (.const (.bool true)) 11),Rq 2 (.mv 12)])
 (.ret))
theorem ck_hearsayref_IsType : chkFun Tryd.prog 46 1 = some (rc_hearsayref_IsType, [2]) := by kernel_rfl
def rc_hearsayref_CheckRecord : RCode :=
 .seq (.reg [Rq 1 (.box 64 7 0),Rq 2 (.mv (Kq 0))])
 (.seq (.reg [Rq 4 (.fldA 0 1),Rq 5 (.load false 1 4),Rq 6 (.call (.func 22) [5]),Rq 3 (.mv 6)])
 (.seq (.block 0
 (.seq (.reg [Rq 8 (.mv 3),Rq 9 (.bin .neq 8 (Kq 0)),Rq 7 (.mv 9)])
 (.cond 7
 (.seq (.reg [Rq 10 (.mv 3),Rq 2 (.mv 10)])
 (.ret))
 (.seq (.reg [Rq 12 (.fldA 1 1),Rq 13 (.load false 1 12),Rq 14 (.call (.func 46) [13]),Rq 15 (.not 14),Rq 11 (.mv 15)])
 (.cond 11
 (.seq (.reg [Rq 2 (.mv (Kq 7))])
 (.ret))
 (.seq (.reg [Rq 17 (.fldA 2 1),Rq 18 (.load false 1 17),Rq 19 (.call (.func 45) [18, (Kq 0), (Kq 2147483647)]),Rq 20 (.not 19),Rq 16 (.mv 20)])
 (.cond 16
 (.seq (.reg [Rq 2 (.mv (Kq 3))])
 (.ret))
 (.seq (.seq (.reg [Rq 22 (.fldA 1 1),Rq 23 (.load false 1 22),Rq 24 (.bin .neq 23 (Kq 1)),Rq 25 (.mv 24),Gq 26 25 true (.fldA 3 1),Gq 27 25 true (.load false 1 26),Gq 28 25 true (.bin .neq 27 (Kq 0)),Rq 29 (.pick 25 28 (.const (.bool false))),Rq 21 (.mv 29)])
 (.cond 21
 (.skip)
 (.seq (.reg [Rq 30 (.fldA 1 1),Rq 31 (.load false 1 30),Rq 32 (.bin .neq 31 (Kq 16)),Rq 33 (.mv 32),Gq 34 33 true (.fldA 4 1),Gq 35 33 true (.load false 1 34),Gq 36 33 true (.bin .neq 35 (.const (.string ⟨#[]⟩))),Rq 37 (.pick 33 36 (.const (.bool false))),Rq 21 (.mv 37)])
 (.cond 21
 (.skip)
 (.reg [Rq 38 (.fldA 1 1),Rq 39 (.load false 1 38),Rq 40 (.bin .neq 39 (Kq 33)),Rq 41 (.mv 40),Gq 42 41 true (.fldA 5 1),Gq 43 41 true (.load false 1 42),Gq 44 41 true (.bin .neq 43 (Kq 0)),Gq 45 41 true (.mv 44),Gq 46 45 false (.fldA 6 1),Gq 47 45 false (.load false 1 46),Gq 48 45 false (.bin .neq 47 (.const (.string ⟨#[]⟩))),Gq 49 41 true (.pick 45 (.const (.bool true)) 48),Rq 50 (.pick 41 49 (.const (.bool false))),Rq 21 (.mv 50)])))))
 (.cond 21
 (.seq (.reg [Rq 2 (.mv (Kq 1))])
 (.ret))
 (.seq (.seq (.reg [Rq 52 (.fldA 3 1),Rq 53 (.load false 1 52),Rq 54 (.call (.func 67) [53]),Rq 55 (.not 54),Rq 51 (.mv 55)])
 (.cond 51
 (.skip)
 (.reg [Rq 56 (.fldA 5 1),Rq 57 (.load false 1 56),Rq 58 (.call (.func 45) [57, (Kq 0), (Kq 65535)]),Rq 59 (.not 58),Rq 51 (.mv 59)])))
 (.cond 51
 (.seq (.reg [Rq 2 (.mv (Kq 3))])
 (.ret))
 (.seq (.reg [Rq 61 (.fldA 4 1),Rq 62 (.load false 1 61),Rq 63 (.len true 62),Rq 64 (.bin .gtr 63 (Kq 200)),Rq 60 (.mv 64)])
 (.cond 60
 (.seq (.reg [Rq 2 (.mv (Kq 2))])
 (.ret))
 (.skip))))))))))))))
 (.seq (.reg [Rq 65 (.fldA 6 1),Rq 66 (.load false 1 65),Rq 67 (.call (.func 22) [66]),Rq 2 (.mv 67)])
 (.ret))))
theorem ck_hearsayref_CheckRecord : chkFun Tryd.prog 47 1 = some (rc_hearsayref_CheckRecord, [2]) := by kernel_rfl
def rc_dns_reader_message : RCode :=
 .seq (.reg [Rq 2 (.zbox 40 zq0)])
 (.seq (.reg [Rq 7 (.mv 0),Rq 8 (.call (.func 68) [7]),Rq 9 (.build zq0 [(0, 1, 8)]),Rq 3 (.zbox 40 zq0),Sq 7 3 9])
 (.seq (.reg [Rq 10 (.mv 0),Rq 11 (.call (.func 69) [10]),Rq 12 (.mv 0),Rq 13 (.call (.func 69) [12]),Rq 4 (.mv 11),Rq 5 (.mv 13)])
 (.seq (.reg [Rq 14 (.mv 0),Rq 15 (.mv 4),Rq 16 (.bin .andNot 15 (Kq 130)),Rq 17 (.bin .eql 16 (Kq 0)),Rq 18 (.mv 17),Gq 19 18 true (.mv 5),Gq 20 18 true (.bin .lss 19 (Kq 16)),Rq 21 (.pick 18 20 (.const (.bool false))),Rq 22 (.call (.func 70) [14, 21])])
 (.seq (.reg [Rq 23 (.mv 4),Rq 24 (.bin .and 23 (Kq 128)),Rq 25 (.bin .gtr 24 (Kq 0)),Rq 26 (.mv 4),Rq 27 (.bin .and 26 (Kq 2)),Rq 28 (.bin .gtr 27 (Kq 0)),Rq 29 (.mv 5),Rq 30 (.fldA 1 3),Sq 1 30 25,Rq 31 (.fldA 2 3),Sq 1 31 28,Rq 32 (.fldA 3 3),Sq 1 32 29])
 (.seq (.reg [Rq 33 (.mv 0),Rq 34 (.mv 0),Rq 35 (.call (.func 68) [34]),Rq 36 (.bin .eql 35 (Kq 1)),Rq 37 (.call (.func 70) [33, 36])])
 (.seq (.reg [Rq 38 (.mv 0),Rq 39 (.call (.func 68) [38]),Rq 6 (.mv 39)])
 (.seq (.reg [Rq 40 (.mv 0),Rq 41 (.mv 6),Rq 42 (.bin .leq 41 (Kq 20)),Rq 43 (.mv 42),Gq 44 43 true (.mv 0),Gq 45 43 true (.call (.func 68) [44]),Gq 46 43 true (.bin .eql 45 (Kq 0)),Rq 47 (.pick 43 46 (.const (.bool false))),Rq 48 (.mv 47),Gq 49 48 true (.mv 0),Gq 50 48 true (.call (.func 68) [49]),Gq 51 48 true (.bin .eql 50 (Kq 0)),Rq 52 (.pick 48 51 (.const (.bool false))),Rq 53 (.call (.func 70) [40, 52])])
 (.seq (.reg [Rq 54 (.mv 0),Rq 55 (.call (.func 71) [54]),Rq 56 (.mv 0),Rq 57 (.call (.func 68) [56]),Rq 58 (.build [(.string ⟨#[]⟩), (.int .i64 0)] [(0, 1, 55), (1, 1, 57)]),Rq 59 (.fldA 4 3),Sq 2 59 58])
 (.seq (.reg [Rq 60 (.mv 0),Rq 61 (.mv 0),Rq 62 (.call (.func 68) [61]),Rq 63 (.bin .eql 62 (Kq 1)),Rq 64 (.call (.func 70) [60, 63])])
 (.seq (.seq (.reg [Rq 65 (.mv 6),Rq 66 (.mv (Kq 0))])
 (.block 0
 (.loop
 (.seq (.reg [Rq 67 (.bin .lss 66 65)])
 (.seq (.cond 67
 (.skip)
 (.exit 0))
 (.seq (.block 1
 (.dreg [[],[⟨none, none, .mkm⟩],[Rq 68 (.fldA 6 3),Rq 69 (.load false 1 68),Rq 70 (.mv 0),Rq 71 (.call (.func 72) [70]),Rq 72 (.mks 64 7 1 zq1 [(0, 71)])],[Rq 73 (.app 64 7 80 (.agg #[(.string ⟨#[]⟩), (.int .i64 0), (.int .i64 0), (.int .i64 0), (.string ⟨#[]⟩), (.int .i64 0), (.string ⟨#[]⟩)]) 69 72)],[Rq 74 (.fldA 6 3)],[Sq 1 74 73]]))
 (.reg [Rq 75 (.bin .add 66 (Kq 1)),Rq 66 (.mv 75)])))))))
 (.seq (.dreg [[Rq 76 (.mv 0),Rq 77 (.mv 0),Rq 78 (.fldA 0 77),Rq 79 (.fldA 1 78),Rq 80 (.load false 1 79),Rq 81 (.mv 0),Rq 82 (.fldA 0 81),Rq 83 (.fldA 0 82),Rq 84 (.load false 1 83),Rq 85 (.len true 84),Rq 86 (.bin .eql 80 85)],[Rq 87 (.call (.func 70) [76, 86])]])
 (.seq (.reg [Rq 88 (.load true 7 3),Sq 7 2 88])
 (.ret)))))))))))))
theorem ck_dns_reader_message : chkFunC Tryd.prog 51 1 = some (rc_dns_reader_message, [(2, some (true, 7))]) := by kernel_rfl
def rc_hearsayref_Scan_number : RCode :=
 .seq (.reg [Rq 4 (.mv (Kq 0))])
 (.seq (.reg [Rq 5 (.mv (Kq 0))])
 (.seq (.seq (.reg [Rq 6 (.mv (Kq 0))])
 (.block 0
 (.loop
 (.seq (.seq (.reg [Rq 7 (.mv 6),Rq 8 (.mv 1),Rq 9 (.bin .lss 7 8)])
 (.cond 9
 (.skip)
 (.exit 0)))
 (.seq (.block 1
 (.seq (.seq (.dreg [[Rq 12 (.mv 0),Rq 13 (.fldA 0 12),Rq 14 (.fldA 1 13),Rq 15 (.load false 1 14),Rq 16 (.mv 0),Rq 17 (.fldA 0 16),Rq 18 (.fldA 0 17),Rq 19 (.load false 1 18),Rq 20 (.len true 19)],[Rq 21 (.bin .geq 15 20)]])
 (.cond 21
 (.seq (.reg [Rq 22 (.mv 0),Rq 23 (.fldA 0 22),Rq 24 (.fldA 2 23),Sq 1 24 (.const (.bool true))])
 (.seq (.reg [Rq 4 (.mv (Kq 0))])
 (.ret)))
 (.skip)))
 (.seq (.dreg [[Rq 25 (.mv 5),Rq 26 (.bin .mul (Kq 256) 25),Rq 27 (.mv 0),Rq 28 (.fldA 0 27),Rq 29 (.fldA 0 28),Rq 30 (.load false 1 29),Rq 31 (.mv 0),Rq 32 (.fldA 0 31),Rq 33 (.fldA 1 32),Rq 34 (.load false 1 33),Rq 35 (.idxS 30 34),Rq 36 (.conv .i64 35)],[Rq 37 (.bin .add 26 36)],[Rq 5 (.mv 37)]])
 (.reg [Rq 38 (.mv 0),Rq 39 (.fldA 0 38),Rq 40 (.fldA 1 39),Rq 41 (.load false 1 40),Rq 42 (.bin .add 41 (Kq 1)),Rq 43 (.fldA 0 38),Rq 44 (.fldA 1 43),Sq 1 44 42]))))
 (.reg [Rq 10 (.mv 6),Rq 11 (.bin .add 10 (Kq 1)),Rq 6 (.mv 11)]))))))
 (.seq (.reg [Rq 45 (.mv 5),Rq 4 (.mv 45)])
 (.ret))))
theorem ck_hearsayref_Scan_number : chkFun Tryd.prog 52 2 = some (rc_hearsayref_Scan_number, [4]) := by kernel_rfl
def rc_hearsayref_Scan_name : RCode :=
 .seq (.reg [Rq 2 (.mv (.const (.string ⟨#[]⟩)))])
 (.seq (.reg [Rq 3 (.mv (.const (.slice none 0 0)))])
 (.seq (.reg [Rq 11 (.mv 0),Rq 12 (.fldA 0 11),Rq 13 (.fldA 1 12),Rq 14 (.load false 1 13),Rq 4 (.mv 14),Rq 5 (.mv (.const (.int .i64 (-1))))])
 (.seq (.block 0
 (.loop
 (.seq (.seq (.reg [Rq 15 (.mv 0),Rq 16 (.fldA 0 15),Rq 17 (.fldA 2 16),Rq 18 (.load false 1 17),Rq 19 (.not 18)])
 (.cond 19
 (.skip)
 (.exit 0)))
 (.block 1
 (.seq (.reg [Rq 20 (.mv 0),Rq 21 (.call (.func 52) [20, (Kq 1)]),Rq 6 (.mv 21)])
 (.seq (.seq (.reg [Rq 22 (.mv 0),Rq 23 (.fldA 0 22),Rq 24 (.fldA 2 23),Rq 25 (.load false 1 24)])
 (.cond 25
 (.exit 0)
 (.skip)))
 (.seq (.seq (.reg [Rq 26 (.mv 6),Rq 27 (.bin .eql 26 (Kq 0))])
 (.cond 27
 (.seq (.seq (.reg [Rq 28 (.mv 5),Rq 29 (.bin .geq 28 (Kq 0))])
 (.cond 29
 (.reg [Rq 30 (.mv 0),Rq 31 (.mv 5),Rq 32 (.fldA 0 30),Rq 33 (.fldA 1 32),Sq 1 33 31])
 (.skip)))
 (.seq (.reg [Rq 34 (.mv 3),Rq 35 (.call (.func 73) [34]),Rq 2 (.mv 35)])
 (.ret)))
 (.skip)))
 (.seq (.seq (.reg [Rq 36 (.mv 6),Rq 37 (.bin .geq 36 (Kq 192))])
 (.cond 37
 (.seq (.reg [Rq 38 (.mv 6),Rq 39 (.bin .sub 38 (Kq 192)),Rq 40 (.bin .mul 39 (Kq 256)),Rq 41 (.mv 0),Rq 42 (.call (.func 52) [41, (Kq 1)]),Rq 43 (.bin .add 40 42),Rq 7 (.mv 43)])
 (.seq (.seq (.reg [Rq 44 (.mv 5),Rq 45 (.bin .lss 44 (Kq 0))])
 (.cond 45
 (.reg [Rq 46 (.mv 0),Rq 47 (.fldA 0 46),Rq 48 (.fldA 1 47),Rq 49 (.load false 1 48),Rq 5 (.mv 49)])
 (.skip)))
 (.seq (.reg [Rq 50 (.mv 0),Rq 51 (.mv 0),Rq 52 (.fldA 0 51),Rq 53 (.fldA 2 52),Rq 54 (.load false 1 53),Rq 55 (.mv 54),Gq 56 55 false (.mv 7),Gq 57 55 false (.mv 4),Gq 58 55 false (.bin .geq 56 57),Rq 59 (.pick 55 (.const (.bool true)) 58),Rq 60 (.fldA 0 50),Rq 61 (.fldA 2 60),Sq 1 61 59])
 (.seq (.reg [Rq 62 (.mv 7),Rq 4 (.mv 62)])
 (.seq (.reg [Rq 63 (.mv 0),Rq 64 (.mv 7),Rq 65 (.fldA 0 63),Rq 66 (.fldA 1 65),Sq 1 66 64])
 (.exit 1))))))
 (.skip)))
 (.seq (.reg [Rq 8 (.mv (.const (.string ⟨#[]⟩)))])
 (.seq (.seq (.reg [Rq 9 (.mv (Kq 0))])
 (.block 2
 (.loop
 (.seq (.seq (.reg [Rq 67 (.mv 9),Rq 68 (.mv 6),Rq 69 (.bin .lss 67 68)])
 (.cond 69
 (.skip)
 (.exit 2)))
 (.seq (.block 3
 (.seq (.reg [Rq 72 (.mv 0),Rq 73 (.call (.func 52) [72, (Kq 1)]),Rq 10 (.mv 73)])
 (.seq (.seq (.reg [Rq 74 (.mv 10),Rq 75 (.bin .geq 74 (Kq 65)),Rq 76 (.mv 75),Gq 77 76 true (.mv 10),Gq 78 76 true (.bin .leq 77 (Kq 90)),Rq 79 (.pick 76 78 (.const (.bool false)))])
 (.cond 79
 (.reg [Rq 80 (.mv 10),Rq 81 (.bin .add 80 (Kq 32)),Rq 10 (.mv 81)])
 (.skip)))
 (.reg [Rq 82 (.mv 8),Rq 83 (.mv 10),Rq 84 (.conv .u8 83),Rq 85 (.mks 5 1 1 [(.int .u8 0)] [(0, 84)]),Rq 86 (.ofB 85),Rq 87 (.bin .add 82 86),Rq 8 (.mv 87)]))))
 (.reg [Rq 70 (.mv 9),Rq 71 (.bin .add 70 (Kq 1)),Rq 9 (.mv 71)]))))))
 (.seq (.reg [Rq 88 (.mv 0),Rq 89 (.mv 0),Rq 90 (.fldA 0 89),Rq 91 (.fldA 2 90),Rq 92 (.load false 1 91),Rq 93 (.mv 92),Gq 94 93 false (.mv 8),Gq 95 93 false (.call (.func 38) [94]),Gq 96 93 false (.not 95),Rq 97 (.pick 93 (.const (.bool true)) 96),Rq 98 (.fldA 0 88),Rq 99 (.fldA 2 98),Sq 1 99 97])
 (.seq (.reg [Rq 100 (.mv 3),Rq 101 (.mv 8),Rq 102 (.mks 9 1 1 [(.string ⟨#[]⟩)] [(0, 101)]),Rq 103 (.app 9 1 16 (.string ⟨#[]⟩) 100 102),Rq 3 (.mv 103)])
 (.seq (.reg [Rq 104 (.mv 3),Rq 105 (.len false 104),Rq 106 (.bin .gtr 105 (Kq 8))])
 (.cond 106
 (.reg [Rq 107 (.mv 0),Rq 108 (.fldA 0 107),Rq 109 (.fldA 2 108),Sq 1 109 (.const (.bool true))])
 (.skip)))))))))))))))
 (.seq (.reg [Rq 2 (.mv (.const (.string ⟨#[]⟩)))])
 (.ret)))))
theorem ck_hearsayref_Scan_name : chkFun Tryd.prog 53 1 = some (rc_hearsayref_Scan_name, [2]) := by kernel_rfl
def rc_dns_within : RCode :=
 .seq (.reg [Rq 6 (.mv (.const (.bool false)))])
 (.seq (.reg [Rq 7 (.mv 0),Rq 8 (.mv 1),Rq 9 (.bin .geq 7 8),Rq 10 (.mv 9),Gq 11 10 true (.mv 0),Gq 12 10 true (.mv 2),Gq 13 10 true (.bin .leq 11 12),Rq 14 (.pick 10 13 (.const (.bool false))),Rq 6 (.mv 14)])
 (.ret))
theorem ck_dns_within : chkFun Tryd.prog 54 3 = some (rc_dns_within, [6]) := by kernel_rfl
def rc_slices_IndexFunc_string_string : RCode :=
 .seq (.reg [Rq 4 (.mv (Kq 0))])
 (.seq (.seq (.reg [Rq 6 (.mv 0),Rq 7 (.len false 6),Rq 8 (.mv (Kq 0))])
 (.block 0
 (.loop
 (.seq (.reg [Rq 9 (.bin .lss 8 7)])
 (.seq (.cond 9
 (.skip)
 (.exit 0))
 (.seq (.block 1
 (.seq (.reg [Rq 10 (.mv 8),Rq 5 (.mv 10)])
 (.seq (.reg [Rq 11 (.mv 1),Rq 12 (.mv 0),Rq 13 (.mv 5),Rq 14 (.idxA 1 12 13),Rq 15 (.load false 1 14),Rq 16 (.call 11 [15])])
 (.cond 16
 (.seq (.reg [Rq 17 (.mv 5),Rq 4 (.mv 17)])
 (.ret))
 (.skip)))))
 (.reg [Rq 18 (.bin .add 8 (Kq 1)),Rq 8 (.mv 18)])))))))
 (.seq (.reg [Rq 4 (.mv (.const (.int .i64 (-1))))])
 (.ret)))
theorem ck_slices_IndexFunc_string_string : chkFun Tryd.prog 58 2 = some (rc_slices_IndexFunc_string_string, [4]) := by kernel_rfl
def rc_strings_genSplit : RCode :=
 .seq (.reg [Rq 8 (.mv (.const (.slice none 0 0)))])
 (.seq (.seq (.reg [Rq 12 (.mv 3),Rq 13 (.bin .eql 12 (Kq 0))])
 (.cond 13
 (.seq (.reg [Rq 8 (.mv (.const (.slice none 0 0)))])
 (.ret))
 (.skip)))
 (.seq (.seq (.reg [Rq 14 (.mv 1),Rq 15 (.bin .eql 14 (.const (.string ⟨#[]⟩)))])
 (.cond 15
 (.seq (.reg [Rq 16 (.mv 0),Rq 17 (.mv 3),Rq 18 (.call (.func 76) [16, 17]),Rq 8 (.mv 18)])
 (.ret))
 (.skip)))
 (.seq (.seq (.reg [Rq 19 (.mv 3),Rq 20 (.bin .lss 19 (Kq 0))])
 (.cond 20
 (.reg [Rq 21 (.mv 0),Rq 22 (.mv 1),Rq 23 (.call (.func 77) [21, 22]),Rq 24 (.bin .add 23 (Kq 1)),Rq 3 (.mv 24)])
 (.skip)))
 (.seq (.reg [Rq 25 (.mv 3),Rq 26 (.mv 0),Rq 27 (.len true 26),Rq 28 (.bin .add 27 (Kq 1)),Rq 29 (.mm false 25 28),Rq 3 (.mv 29)])
 (.seq (.reg [Rq 30 (.mv 3),Rq 31 (.mkn 9 1 16 [(.string ⟨#[]⟩)] 30 30),Rq 9 (.mv 31)])
 (.seq (.reg [Rq 32 (.mv 3),Rq 33 (.bin .sub 32 (Kq 1)),Rq 3 (.mv 33)])
 (.seq (.reg [Rq 10 (.mv (Kq 0))])
 (.seq (.block 0
 (.loop
 (.seq (.seq (.reg [Rq 34 (.mv 10),Rq 35 (.mv 3),Rq 36 (.bin .lss 34 35)])
 (.cond 36
 (.skip)
 (.exit 0)))
 (.block 1
 (.seq (.reg [Rq 37 (.mv 0),Rq 38 (.mv 1),Rq 39 (.call (.func 78) [37, 38]),Rq 11 (.mv 39)])
 (.seq (.seq (.reg [Rq 40 (.mv 11),Rq 41 (.bin .lss 40 (Kq 0))])
 (.cond 41
 (.exit 0)
 (.skip)))
 (.seq (.reg [Rq 42 (.mv 9),Rq 43 (.mv 10),Rq 44 (.mv 0),Rq 45 (.mv 11),Rq 46 (.mv 2),Rq 47 (.bin .add 45 46),Rq 48 (.slcS 44 none (some 47)),Rq 49 (.idxA 1 42 43),Sq 1 49 48])
 (.seq (.reg [Rq 50 (.mv 0),Rq 51 (.mv 11),Rq 52 (.mv 1),Rq 53 (.len true 52),Rq 54 (.bin .add 51 53),Rq 55 (.slcS 50 (some 54) none),Rq 0 (.mv 55)])
 (.reg [Rq 56 (.mv 10),Rq 57 (.bin .add 56 (Kq 1)),Rq 10 (.mv 57)])))))))))
 (.seq (.reg [Rq 58 (.mv 9),Rq 59 (.mv 10),Rq 60 (.mv 0),Rq 61 (.idxA 1 58 59),Sq 1 61 60])
 (.seq (.reg [Rq 62 (.mv 9),Rq 63 (.mv 10),Rq 64 (.bin .add 63 (Kq 1)),Rq 65 (.slcL 1 62 none (some 64) none),Rq 8 (.mv 65)])
 (.ret)))))))))))
theorem ck_strings_genSplit : chkFun Tryd.prog 60 4 = some (rc_strings_genSplit, [8]) := by kernel_rfl
def rc_dns_IsType : RCode :=
 .seq (.reg [Rq 2 (.mv (.const (.bool false)))])
 (.seq (.reg [Rq 3 (.mks 3 1 3 [(.int .i64 0)] [(0, (Kq 1)), (1, (Kq 16)), (2, (Kq 33))]),Rq 4 (.mv 0),Rq 5 (.call (.func 79) [3, 4]),Rq 2 (.mv 5)])
 (.ret))
theorem ck_dns_IsType : chkFun Tryd.prog 61 1 = some (rc_dns_IsType, [2]) := by kernel_rfl
def rc_dns_checkRecord : RCode :=
 .seq (.reg [Rq 1 (.box 64 7 0),Rq 2 (.mv (Kq 0))])
 (.seq (.seq (.reg [Rq 4 (.fldA 0 1),Rq 5 (.load false 1 4),Rq 6 (.call (.func 21) [5]),Rq 3 (.mv 6)])
 (.seq (.reg [Rq 7 (.mv 3),Rq 8 (.bin .neq 7 (Kq 0))])
 (.cond 8
 (.seq (.reg [Rq 9 (.mv 3),Rq 2 (.mv 9)])
 (.ret))
 (.skip))))
 (.seq (.block 0
 (.seq (.reg [Rq 11 (.fldA 1 1),Rq 12 (.load false 1 11),Rq 13 (.call (.func 61) [12]),Rq 14 (.not 13),Rq 10 (.mv 14)])
 (.cond 10
 (.seq (.reg [Rq 2 (.mv (Kq 7))])
 (.ret))
 (.seq (.reg [Rq 16 (.fldA 2 1),Rq 17 (.load false 1 16),Rq 18 (.call (.func 54) [17, (Kq 0), (Kq 2147483647)]),Rq 19 (.not 18),Rq 15 (.mv 19)])
 (.cond 15
 (.seq (.reg [Rq 2 (.mv (Kq 3))])
 (.ret))
 (.seq (.reg [Rq 21 (.load true 7 1),Rq 22 (.call (.func 80) [21]),Rq 23 (.not 22),Rq 20 (.mv 23)])
 (.cond 20
 (.seq (.reg [Rq 2 (.mv (Kq 1))])
 (.ret))
 (.seq (.reg [Rq 25 (.fldA 3 1),Rq 26 (.load false 1 25),Rq 27 (.call (.func 54) [26, (Kq 0), (Kq 4294967295)]),Rq 28 (.not 27),Rq 29 (.mv 28),Gq 30 29 false (.fldA 5 1),Gq 31 29 false (.load false 1 30),Gq 32 29 false (.call (.func 54) [31, (Kq 0), (Kq 65535)]),Gq 33 29 false (.not 32),Rq 34 (.pick 29 (.const (.bool true)) 33),Rq 24 (.mv 34)])
 (.cond 24
 (.seq (.reg [Rq 2 (.mv (Kq 3))])
 (.ret))
 (.seq (.reg [Rq 36 (.fldA 4 1),Rq 37 (.load false 1 36),Rq 38 (.len true 37),Rq 39 (.bin .gtr 38 (Kq 200)),Rq 35 (.mv 39)])
 (.cond 35
 (.seq (.reg [Rq 2 (.mv (Kq 2))])
 (.ret))
 (.skip))))))))))))
 (.seq (.reg [Rq 40 (.fldA 6 1),Rq 41 (.load false 1 40),Rq 42 (.call (.func 21) [41]),Rq 2 (.mv 42)])
 (.ret))))
theorem ck_dns_checkRecord : chkFun Tryd.prog 62 1 = some (rc_dns_checkRecord, [2]) := by kernel_rfl
def rc_dns_writer_two : RCode :=
 .seq (.reg [Rq 6 (.mv 1),Rq 7 (.len false 6),Rq 8 (.mv (Kq 0))])
 (.block 0
 (.loop
 (.seq (.reg [Rq 9 (.bin .lss 8 7)])
 (.seq (.cond 9
 (.skip)
 (.exit 0))
 (.seq (.block 1
 (.seq (.reg [Rq 10 (.idxA 1 6 8),Rq 11 (.load false 1 10),Rq 5 (.mv 11)])
 (.seq (.reg [Rq 12 (.mv 0),Rq 13 (.fldA 0 12),Rq 14 (.fldA 0 13),Rq 15 (.mv 5),Rq 16 (.bin .shr 15 (.const (.int .u64 8))),Rq 17 (.conv .u8 16),Rq 18 (.call (.func 81) [14, 17])])
 (.reg [Rq 19 (.mv 0),Rq 20 (.fldA 0 19),Rq 21 (.fldA 0 20),Rq 22 (.mv 5),Rq 23 (.conv .u8 22),Rq 24 (.call (.func 81) [21, 23])]))))
 (.reg [Rq 25 (.bin .add 8 (Kq 1)),Rq 8 (.mv 25)]))))))
theorem ck_dns_writer_two : chkFun Tryd.prog 63 2 = some (rc_dns_writer_two, []) := by kernel_rfl
def rc_dns_writer_name : RCode :=
 .seq (.seq (.reg [Rq 6 (.mv 1),Rq 7 (.call (.func 41) [6]),Rq 8 (.len false 7),Rq 9 (.mv (Kq 0))])
 (.block 0
 (.loop
 (.seq (.reg [Rq 10 (.bin .lss 9 8)])
 (.seq (.cond 10
 (.skip)
 (.exit 0))
 (.seq (.block 1
 (.seq (.reg [Rq 11 (.idxA 1 7 9),Rq 12 (.load false 1 11),Rq 5 (.mv 12)])
 (.seq (.reg [Rq 13 (.mv 0),Rq 14 (.fldA 0 13),Rq 15 (.fldA 0 14),Rq 16 (.mv 5),Rq 17 (.len true 16),Rq 18 (.conv .u8 17),Rq 19 (.call (.func 81) [15, 18])])
 (.reg [Rq 20 (.mv 0),Rq 21 (.fldA 0 20),Rq 22 (.fldA 0 21),Rq 23 (.mv 5),Rq 24 (.call (.func 75) [22, 23])]))))
 (.reg [Rq 25 (.bin .add 9 (Kq 1)),Rq 9 (.mv 25)])))))))
 (.reg [Rq 26 (.mv 0),Rq 27 (.fldA 0 26),Rq 28 (.fldA 0 27),Rq 29 (.call (.func 81) [28, (.const (.int .u8 0))])])
theorem ck_dns_writer_name : chkFun Tryd.prog 64 2 = some (rc_dns_writer_name, []) := by kernel_rfl
def rc_dns_writer_record : RCode :=
 .seq (.reg [Rq 3 (.box 64 7 1)])
 (.seq (.reg [Rq 5 (.mv 0),Rq 6 (.fldA 0 3),Rq 7 (.load false 1 6),Rq 8 (.call (.func 64) [5, 7])])
 (.seq (.reg [Rq 9 (.mv 0),Rq 10 (.fldA 1 3),Rq 11 (.load false 1 10),Rq 12 (.fldA 2 3),Rq 13 (.load false 1 12),Rq 14 (.bin .shr 13 (.const (.int .u64 16))),Rq 15 (.fldA 2 3),Rq 16 (.load false 1 15),Rq 17 (.bin .and 16 (Kq 65535)),Rq 18 (.mks 3 1 4 [(.int .i64 0)] [(0, 11), (1, (Kq 1)), (2, 14), (3, 17)]),Rq 19 (.call (.func 63) [9, 18])])
 (.seq (.reg [Rq 20 (.build [(.pointer none), (.slice none 0 0)] []),Rq 21 (.box 90 2 20),Rq 4 (.mv 21)])
 (.seq (.seq (.reg [Rq 22 (.fldA 1 3),Rq 23 (.load false 1 22)])
 (.block 0
 (.seq (.reg [Rq 25 (.bin .eql 23 (Kq 1)),Rq 24 (.mv 25)])
 (.cond 24
 (.reg [Rq 26 (.mv 4),Rq 27 (.fldA 3 3),Rq 28 (.load false 1 27),Rq 29 (.bin .shr 28 (.const (.int .u64 16))),Rq 30 (.fldA 3 3),Rq 31 (.load false 1 30),Rq 32 (.bin .and 31 (Kq 65535)),Rq 33 (.mks 3 1 2 [(.int .i64 0)] [(0, 29), (1, 32)]),Rq 34 (.call (.func 63) [26, 33])])
 (.seq (.reg [Rq 36 (.bin .eql 23 (Kq 16)),Rq 35 (.mv 36)])
 (.cond 35
 (.seq (.dreg [[Rq 37 (.mv 4),Rq 38 (.fldA 0 37),Rq 39 (.fldA 0 38),Rq 40 (.fldA 4 3),Rq 41 (.load false 1 40),Rq 42 (.len true 41),Rq 43 (.conv .u8 42)],[Rq 44 (.call (.func 81) [39, 43])]])
 (.dreg [[Rq 45 (.mv 4),Rq 46 (.fldA 0 45),Rq 47 (.fldA 0 46),Rq 48 (.fldA 4 3),Rq 49 (.load false 1 48)],[Rq 50 (.call (.func 75) [47, 49])]]))
 (.seq (.reg [Rq 52 (.bin .eql 23 (Kq 33)),Rq 51 (.mv 52)])
 (.cond 51
 (.seq (.reg [Rq 53 (.mv 4),Rq 54 (.fldA 5 3),Rq 55 (.load false 1 54),Rq 56 (.mks 3 1 3 [(.int .i64 0)] [(0, (Kq 0)), (1, (Kq 0)), (2, 55)]),Rq 57 (.call (.func 63) [53, 56])])
 (.reg [Rq 58 (.mv 4),Rq 59 (.fldA 6 3),Rq 60 (.load false 1 59),Rq 61 (.call (.func 64) [58, 60])]))
 (.skip)))))))))
 (.seq (.reg [Rq 62 (.mv 0),Rq 63 (.mv 4),Rq 64 (.fldA 0 63),Rq 65 (.fldA 0 64),Rq 66 (.call (.func 82) [65]),Rq 67 (.mks 3 1 1 [(.int .i64 0)] [(0, 66)]),Rq 68 (.call (.func 63) [62, 67])])
 (.dreg [[],[Rq 75 (.call (.func 66) [74]),Rq 70 (.mkm),Rq 71 (.mkm)],[Rq 69 (.mv 0),Rq 70 (.fldA 0 69),Rq 71 (.fldA 0 70),Rq 72 (.mv 4),Rq 73 (.fldA 0 72),Rq 74 (.fldA 0 73)],[Rq 76 (.call (.func 75) [71, 75])]]))))))
theorem ck_dns_writer_record : chkFun Tryd.prog 65 2 = some (rc_dns_writer_record, []) := by kernel_rfl
def rc_hearsayref_IsAddress : RCode :=
 .seq (.reg [Rq 2 (.mv (.const (.bool false)))])
 (.seq (.reg [Rq 3 (.mv 0),Rq 4 (.call (.func 45) [3, (Kq 0), (Kq 4294967295)]),Rq 2 (.mv 4)])
 (.ret))
theorem ck_hearsayref_IsAddress : chkFun Tryd.prog 67 1 = some (rc_hearsayref_IsAddress, [2]) := by kernel_rfl
def rc_dns_reader_two : RCode :=
 .seq (.reg [Rq 2 (.mv (Kq 0))])
 (.seq (.reg [Rq 3 (.mv 0),Rq 4 (.call (.func 69) [3]),Rq 5 (.bin .shl 4 (.const (.int .u64 8))),Rq 6 (.mv 0),Rq 7 (.call (.func 69) [6]),Rq 8 (.bin .or 5 7),Rq 2 (.mv 8)])
 (.ret))
theorem ck_dns_reader_two : chkFun Tryd.prog 68 1 = some (rc_dns_reader_two, [2]) := by kernel_rfl
def rc_dns_reader_byte : RCode :=
 .seq (.reg [Rq 2 (.mv (Kq 0))])
 (.seq (.dreg [[Rq 3 (.mv 0),Rq 4 (.mv 0),Rq 5 (.fldA 0 4),Rq 6 (.fldA 1 5),Rq 7 (.load false 1 6),Rq 8 (.mv 0),Rq 9 (.fldA 0 8),Rq 10 (.fldA 0 9),Rq 11 (.load false 1 10),Rq 12 (.len true 11),Rq 13 (.bin .lss 7 12)],[Rq 14 (.call (.func 70) [3, 13])]])
 (.seq (.reg [Rq 15 (.mv 0),Rq 16 (.fldA 0 15),Rq 17 (.fldA 1 16),Rq 18 (.load false 1 17),Rq 19 (.bin .add 18 (Kq 1)),Rq 20 (.fldA 0 15),Rq 21 (.fldA 1 20),Sq 1 21 19])
 (.seq (.dreg [[Rq 22 (.mv 0),Rq 23 (.fldA 0 22),Rq 24 (.fldA 0 23),Rq 25 (.load false 1 24),Rq 26 (.mv 0),Rq 27 (.fldA 0 26),Rq 28 (.fldA 1 27),Rq 29 (.load false 1 28),Rq 30 (.bin .sub 29 (Kq 1))],[Rq 31 (.idxS 25 30)],[Rq 32 (.conv .i64 31)],[Rq 2 (.mv 32)]])
 (.ret))))
theorem ck_dns_reader_byte : chkFun Tryd.prog 69 1 = some (rc_dns_reader_byte, [2]) := by kernel_rfl
def rc_dns_reader_must : RCode :=
 .seq (.reg [Rq 4 (.mv 1),Rq 5 (.not 4)])
 (.cond 5
 (.reg [Rq 6 (.build [] []),Rq 7 (.mki 68 6),⟨none, none, .die 7⟩])
 (.skip))
theorem ck_dns_reader_must : chkFun Tryd.prog 70 2 = some (rc_dns_reader_must, []) := by kernel_rfl
def rc_dns_reader_name : RCode :=
 .seq (.reg [Rq 2 (.mv (.const (.string ⟨#[]⟩)))])
 (.seq (.reg [Rq 3 (.mv (.const (.slice none 0 0)))])
 (.seq (.dreg [[Rq 9 (.mv 0),Rq 10 (.fldA 0 9),Rq 11 (.fldA 1 10),Rq 12 (.load false 1 11),Rq 4 (.mv (.const (.int .i64 (-1))))],[Rq 5 (.mv 12)]])
 (.block 0
 (.loop
 (.block 1
 (.seq (.reg [Rq 13 (.mv 0),Rq 14 (.mv 3),Rq 15 (.len false 14),Rq 16 (.bin .leq 15 (Kq 8)),Rq 17 (.call (.func 70) [13, 16])])
 (.seq (.reg [Rq 18 (.mv 0),Rq 19 (.call (.func 69) [18]),Rq 6 (.mv 19)])
 (.block 2
 (.seq (.reg [Rq 33 (.mv 6),Rq 34 (.bin .eql 33 (Kq 0)),Rq 32 (.mv 34)])
 (.cond 32
 (.seq (.seq (.reg [Rq 35 (.mv 4),Rq 36 (.bin .geq 35 (Kq 0))])
 (.cond 36
 (.reg [Rq 37 (.mv 0),Rq 38 (.mv 4),Rq 39 (.fldA 0 37),Rq 40 (.fldA 1 39),Sq 1 40 38])
 (.skip)))
 (.seq (.reg [Rq 41 (.mv 3),Rq 42 (.call (.func 55) [41, (.const (.string ⟨#[46]⟩))]),Rq 2 (.mv 42)])
 (.ret)))
 (.seq (.reg [Rq 44 (.mv 6),Rq 45 (.bin .geq 44 (Kq 192)),Rq 43 (.mv 45)])
 (.cond 43
 (.seq (.reg [Rq 46 (.mv 6),Rq 47 (.bin .and 46 (Kq 63)),Rq 48 (.bin .shl 47 (.const (.int .u64 8))),Rq 49 (.mv 0),Rq 50 (.call (.func 69) [49]),Rq 51 (.bin .or 48 50),Rq 7 (.mv 51)])
 (.seq (.seq (.reg [Rq 52 (.mv 4),Rq 53 (.bin .lss 52 (Kq 0))])
 (.cond 53
 (.reg [Rq 54 (.mv 0),Rq 55 (.fldA 0 54),Rq 56 (.fldA 1 55),Rq 57 (.load false 1 56),Rq 4 (.mv 57)])
 (.skip)))
 (.seq (.reg [Rq 58 (.mv 0),Rq 59 (.mv 7),Rq 60 (.mv 5),Rq 61 (.bin .lss 59 60),Rq 62 (.call (.func 70) [58, 61])])
 (.reg [Rq 63 (.mv 0),Rq 64 (.mv 7),Rq 65 (.mv 7),Rq 66 (.fldA 0 63),Rq 67 (.fldA 1 66),Sq 1 67 64,Rq 5 (.mv 65)]))))
 (.seq (.reg [Rq 20 (.mv 0),Rq 21 (.mv 6),Rq 22 (.call (.func 84) [20, 21]),Rq 23 (.call (.func 83) [22]),Rq 8 (.mv 23)])
 (.seq (.reg [Rq 24 (.mv 0),Rq 25 (.mv 8),Rq 26 (.call (.func 35) [25]),Rq 27 (.call (.func 70) [24, 26])])
 (.reg [Rq 28 (.mv 3),Rq 29 (.mv 8),Rq 30 (.mks 9 1 1 [(.string ⟨#[]⟩)] [(0, 29)]),Rq 31 (.app 9 1 16 (.string ⟨#[]⟩) 28 30),Rq 3 (.mv 31)])))))))))))))))
theorem ck_dns_reader_name : chkFun Tryd.prog 71 1 = some (rc_dns_reader_name, [2]) := by kernel_rfl
def rc_dns_reader_record : RCode :=
 .seq (.reg [Rq 2 (.zbox 64 zq1)])
 (.seq (.reg [Rq 6 (.mv 0),Rq 7 (.call (.func 71) [6]),Rq 8 (.mv 0),Rq 9 (.call (.func 68) [8]),Rq 10 (.build zq1 [(0, 1, 7), (1, 1, 9)]),Rq 3 (.zbox 64 zq1),Sq 7 3 10])
 (.seq (.reg [Rq 11 (.mv 0),Rq 12 (.mv 0),Rq 13 (.call (.func 68) [12]),Rq 14 (.bin .eql 13 (Kq 1)),Rq 15 (.call (.func 70) [11, 14])])
 (.seq (.reg [Rq 16 (.mv 0),Rq 17 (.call (.func 85) [16]),Rq 18 (.fldA 2 3),Sq 1 18 17])
 (.seq (.reg [Rq 19 (.mv 0),Rq 20 (.call (.func 68) [19]),Rq 4 (.mv 20)])
 (.seq (.reg [Rq 21 (.mv 0),Rq 22 (.fldA 0 21),Rq 23 (.fldA 1 22),Rq 24 (.load false 1 23),Rq 25 (.mv 4),Rq 26 (.bin .add 24 25),Rq 5 (.mv 26)])
 (.seq (.reg [Rq 27 (.mv 0),Rq 28 (.mv 5),Rq 29 (.mv 0),Rq 30 (.fldA 0 29),Rq 31 (.fldA 0 30),Rq 32 (.load false 1 31),Rq 33 (.len true 32),Rq 34 (.bin .leq 28 33),Rq 35 (.call (.func 70) [27, 34])])
 (.seq (.seq (.reg [Rq 36 (.fldA 1 3),Rq 37 (.load false 1 36)])
 (.block 0
 (.seq (.reg [Rq 41 (.bin .eql 37 (Kq 1)),Rq 40 (.mv 41)])
 (.cond 40
 (.reg [Rq 42 (.mv 0),Rq 43 (.call (.func 85) [42]),Rq 44 (.fldA 3 3),Sq 1 44 43])
 (.seq (.reg [Rq 46 (.bin .eql 37 (Kq 16)),Rq 45 (.mv 46)])
 (.cond 45
 (.reg [Rq 47 (.mv 0),Rq 48 (.mv 0),Rq 49 (.call (.func 69) [48]),Rq 50 (.call (.func 84) [47, 49]),Rq 51 (.fldA 4 3),Sq 1 51 50])
 (.seq (.reg [Rq 53 (.bin .eql 37 (Kq 33)),Rq 52 (.mv 53)])
 (.cond 52
 (.seq (.reg [Rq 54 (.mv 0),Rq 55 (.mv 0),Rq 56 (.call (.func 68) [55]),Rq 57 (.bin .eql 56 (Kq 0)),Rq 58 (.mv 57),Gq 59 58 true (.mv 0),Gq 60 58 true (.call (.func 68) [59]),Gq 61 58 true (.bin .eql 60 (Kq 0)),Rq 62 (.pick 58 61 (.const (.bool false))),Rq 63 (.call (.func 70) [54, 62])])
 (.seq (.reg [Rq 64 (.mv 0),Rq 65 (.call (.func 68) [64]),Rq 66 (.fldA 5 3),Sq 1 66 65])
 (.reg [Rq 67 (.mv 0),Rq 68 (.call (.func 71) [67]),Rq 69 (.fldA 6 3),Sq 1 69 68])))
 (.reg [Rq 38 (.mv 0),Rq 39 (.call (.func 70) [38, (.const (.bool false))])])))))))))
 (.seq (.reg [Rq 70 (.mv 0),Rq 71 (.mv 0),Rq 72 (.fldA 0 71),Rq 73 (.fldA 1 72),Rq 74 (.load false 1 73),Rq 75 (.mv 5),Rq 76 (.bin .eql 74 75),Rq 77 (.call (.func 70) [70, 76])])
 (.seq (.reg [Rq 78 (.load true 7 3),Sq 7 2 78])
 (.ret))))))))))
theorem ck_dns_reader_record : chkFunC Tryd.prog 72 1 = some (rc_dns_reader_record, [(2, some (true, 7))]) := by kernel_rfl
def rc_hearsayref_NameOf : RCode :=
 .seq (.reg [Rq 2 (.mv (.const (.string ⟨#[]⟩)))])
 (.seq (.reg [Rq 3 (.mv (.const (.string ⟨#[]⟩)))])
 (.seq (.seq (.reg [Rq 4 (.mv (Kq 0))])
 (.block 0
 (.loop
 (.seq (.seq (.reg [Rq 5 (.mv 4),Rq 6 (.mv 0),Rq 7 (.len false 6),Rq 8 (.bin .lss 5 7)])
 (.cond 8
 (.skip)
 (.exit 0)))
 (.seq (.block 1
 (.seq (.seq (.reg [Rq 11 (.mv 4),Rq 12 (.bin .gtr 11 (Kq 0))])
 (.cond 12
 (.reg [Rq 13 (.mv 3),Rq 14 (.bin .add 13 (.const (.string ⟨#[46]⟩))),Rq 3 (.mv 14)])
 (.skip)))
 (.reg [Rq 15 (.mv 3),Rq 16 (.mv 0),Rq 17 (.mv 4),Rq 18 (.idxA 1 16 17),Rq 19 (.load false 1 18),Rq 20 (.bin .add 15 19),Rq 3 (.mv 20)])))
 (.reg [Rq 9 (.mv 4),Rq 10 (.bin .add 9 (Kq 1)),Rq 4 (.mv 10)]))))))
 (.seq (.reg [Rq 21 (.mv 3),Rq 2 (.mv 21)])
 (.ret))))
theorem ck_hearsayref_NameOf : chkFun Tryd.prog 73 1 = some (rc_hearsayref_NameOf, [2]) := by kernel_rfl
def rc_slices_Contains_int_int : RCode :=
 .seq (.reg [Rq 4 (.mv (.const (.bool false)))])
 (.seq (.reg [Rq 5 (.mv 0),Rq 6 (.mv 1),Rq 7 (.call (.func 92) [5, 6]),Rq 8 (.bin .geq 7 (Kq 0)),Rq 4 (.mv 8)])
 (.ret))
theorem ck_slices_Contains_int_int : chkFun Tryd.prog 79 2 = some (rc_slices_Contains_int_int, [4]) := by kernel_rfl
def rc_dns_unused : RCode :=
 .seq (.reg [Rq 1 (.box 64 7 0),Rq 2 (.mv (.const (.bool false)))])
 (.seq (.reg [Rq 3 (.fldA 1 1),Rq 4 (.load false 1 3),Rq 5 (.bin .eql 4 (Kq 1)),Rq 6 (.mv 5),Gq 7 6 false (.fldA 3 1),Gq 8 6 false (.load false 1 7),Gq 9 6 false (.bin .eql 8 (Kq 0)),Rq 10 (.pick 6 (.const (.bool true)) 9),Rq 11 (.mv 10),Gq 12 11 true (.fldA 1 1),Gq 13 11 true (.load false 1 12),Gq 14 11 true (.bin .eql 13 (Kq 16)),Gq 15 11 true (.mv 14),Gq 16 15 false (.fldA 4 1),Gq 17 15 false (.load false 1 16),Gq 18 15 false (.bin .eql 17 (.const (.string ⟨#[]⟩))),Gq 19 11 true (.pick 15 (.const (.bool true)) 18),Rq 20 (.pick 11 19 (.const (.bool false))),Rq 21 (.mv 20),Gq 22 21 true (.fldA 1 1),Gq 23 21 true (.load false 1 22),Gq 24 21 true (.bin .eql 23 (Kq 33)),Gq 25 21 true (.mv 24),Gq 26 25 false (.fldA 5 1),Gq 27 25 false (.load false 1 26),Gq 28 25 false (.bin .eql 27 (Kq 0)),Gq 29 25 false (.mv 28),Gq 30 29 true (.fldA 6 1),Gq 31 29 true (.load false 1 30),Gq 32 29 true (.bin .eql 31 (.const (.string ⟨#[]⟩))),Gq 33 25 false (.pick 29 32 (.const (.bool false))),Gq 34 21 true (.pick 25 (.const (.bool true)) 33),Rq 35 (.pick 21 34 (.const (.bool false))),Rq 2 (.mv 35)])
 (.ret))
theorem ck_dns_unused : chkFun Tryd.prog 80 1 = some (rc_dns_unused, [2]) := by kernel_rfl
def rc_dns_reader_bytes : RCode :=
 .seq (.reg [Rq 4 (.mv (.const (.string ⟨#[]⟩)))])
 (.seq (.dreg [[Rq 5 (.mv 0),Rq 6 (.mv 1),Rq 7 (.mv 0),Rq 8 (.fldA 0 7),Rq 9 (.fldA 0 8),Rq 10 (.load false 1 9),Rq 11 (.len true 10),Rq 12 (.mv 0),Rq 13 (.fldA 0 12),Rq 14 (.fldA 1 13),Rq 15 (.load false 1 14),Rq 16 (.bin .sub 11 15),Rq 17 (.bin .leq 6 16)],[Rq 18 (.call (.func 70) [5, 17])]])
 (.seq (.reg [Rq 19 (.mv 0),Rq 20 (.fldA 0 19),Rq 21 (.fldA 1 20),Rq 22 (.load false 1 21),Rq 23 (.mv 1),Rq 24 (.bin .add 22 23),Rq 25 (.fldA 0 19),Rq 26 (.fldA 1 25),Sq 1 26 24])
 (.seq (.dreg [[Rq 27 (.mv 0),Rq 28 (.fldA 0 27),Rq 29 (.fldA 0 28),Rq 30 (.load false 1 29),Rq 31 (.mv 0),Rq 32 (.fldA 0 31),Rq 33 (.fldA 1 32),Rq 34 (.load false 1 33),Rq 35 (.mv 1),Rq 36 (.bin .sub 34 35),Rq 37 (.mv 0),Rq 38 (.fldA 0 37),Rq 39 (.fldA 1 38),Rq 40 (.load false 1 39)],[Rq 41 (.slcS 30 (some 36) (some 40))],[Rq 4 (.mv 41)]])
 (.ret))))
theorem ck_dns_reader_bytes : chkFun Tryd.prog 84 2 = some (rc_dns_reader_bytes, [4]) := by kernel_rfl
def rc_dns_reader_four : RCode :=
 .seq (.reg [Rq 2 (.mv (Kq 0))])
 (.seq (.reg [Rq 3 (.mv 0),Rq 4 (.call (.func 68) [3]),Rq 5 (.bin .shl 4 (.const (.int .u64 16))),Rq 6 (.mv 0),Rq 7 (.call (.func 68) [6]),Rq 8 (.bin .or 5 7),Rq 2 (.mv 8)])
 (.ret))
theorem ck_dns_reader_four : chkFun Tryd.prog 85 1 = some (rc_dns_reader_four, [2]) := by kernel_rfl
def rc_slices_Index_int_int : RCode :=
 .seq (.reg [Rq 4 (.mv (Kq 0))])
 (.seq (.seq (.reg [Rq 6 (.mv 0),Rq 7 (.len false 6),Rq 8 (.mv (Kq 0))])
 (.block 0
 (.loop
 (.seq (.reg [Rq 9 (.bin .lss 8 7)])
 (.seq (.cond 9
 (.skip)
 (.exit 0))
 (.seq (.block 1
 (.seq (.reg [Rq 10 (.mv 8),Rq 5 (.mv 10)])
 (.seq (.reg [Rq 11 (.mv 1),Rq 12 (.mv 0),Rq 13 (.mv 5),Rq 14 (.idxA 1 12 13),Rq 15 (.load false 1 14),Rq 16 (.bin .eql 11 15)])
 (.cond 16
 (.seq (.reg [Rq 17 (.mv 5),Rq 4 (.mv 17)])
 (.ret))
 (.skip)))))
 (.reg [Rq 18 (.bin .add 8 (Kq 1)),Rq 8 (.mv 18)])))))))
 (.seq (.reg [Rq 4 (.mv (.const (.int .i64 (-1))))])
 (.ret)))
theorem ck_slices_Index_int_int : chkFun Tryd.prog 92 2 = some (rc_slices_Index_int_int, [4]) := by kernel_rfl
end Go.Proofs.YtjhdlcmecbngkaaDoor
namespace Go.Proofs.YtjhdlcmecbngkaaDoor
open Go.RowKit Pl
set_option linter.unusedVariables false
def sRow (s : ByteArray) : List V := [.v (.string s)]
instance : FlatRow sRow := ⟨fun x u hu => by simp [sRow] at hu; subst hu; exact ⟨_, rfl⟩⟩
theorem count_fun (s : ByteArray) (c : UInt8) : Fun Tryd.prog 77 [.c (.v (.string s)), .c (.v (.string ⟨#[c]⟩))] [.c (.v (.int .i64 (cnb s c)))] :=
 fun_flat (xs := [.string s, .string ⟨#[c]⟩]) (callable Tryd.func77 (by kernel_rfl) (by kernel_rfl)) fun w => (count_one s c w).mono fun e w' ⟨h1, h2⟩ => ⟨h1, h2 ▸ Below.refl _ _⟩
theorem index_fun (s : ByteArray) (c : UInt8) : Fun Tryd.prog 78 [.c (.v (.string s)), .c (.v (.string ⟨#[c]⟩))] [.c (.v (.int .i64 (ixb s c)))] :=
 fun_flat (xs := [.string s, .string ⟨#[c]⟩]) (callable Tryd.func78 (by kernel_rfl) (by kernel_rfl)) fun w => (index_one s c w).mono fun e w' ⟨h1, h2⟩ => ⟨h1, h2 ▸ Below.refl _ _⟩
def splRows (c : UInt8) (s : ByteArray) (k : Nat) : List ByteArray := (List.range k).map (piece c s) ++ List.replicate (cnb s c + 1 - k) ⟨#[]⟩
theorem splRows_len (c : UInt8) (s : ByteArray) {k : Nat} (h : k ≤ cnb s c + 1) : (splRows c s k).length = cnb s c + 1 := by simp [splRows]; omega
theorem splRows_set (c : UInt8) (s : ByteArray) {k : Nat} (h : k < cnb s c + 1) (x : ByteArray) : (splRows c s k).set k x = (List.range k).map (piece c s) ++ [x] ++ List.replicate (cnb s c - k) ⟨#[]⟩ := by
 unfold splRows
 rw [show cnb s c + 1 - k = (cnb s c - k) + 1 by omega, List.replicate_succ]
 rw [List.set_append_right _ _ (by simp)]
 simp
theorem splRows_next (c : UInt8) (s : ByteArray) {k : Nat} (h : k < cnb s c) : (splRows c s k).set k (piece c s k) = splRows c s (k + 1) := by
 rw [splRows_set c s (by omega)]
 unfold splRows
 rw [List.range_succ, List.map_append]
 simp
theorem splRows_end (c : UInt8) (s : ByteArray) : ((splRows c s (cnb s c)).set (cnb s c) (rest c s (cnb s c))).take (cnb s c + 1) = pieces c s := by
 rw [splRows_set c s (by omega)]
 unfold pieces
 rw [Nat.sub_self, List.replicate_zero, List.append_nil]
 exact List.take_of_length_le (by simp)
theorem sep_ne (c : UInt8) : ((⟨#[c]⟩ : ByteArray).toList == (⟨#[]⟩ : ByteArray).toList) = false := by simp [Lib.toList_data]
theorem splRows_zero (c : UInt8) (s : ByteArray) : (splRows c s 0).map sRow = List.replicate (cnb s c + 1) (([.string ⟨#[]⟩] : List Value).map .v) := by
 simp [splRows, sRow]
theorem genSplit_fun (s : ByteArray) (c : UInt8) (hs : s.size ≤ 1000000000000) : Fun Tryd.prog 60 [.c (.v (.string s)), .c (.v (.string ⟨#[c]⟩)), .c (.v (.int .i64 0)), .c (.v (.int .i64 (-1)))] [.o 9 1 ((pieces c s).map sRow)] := by
 have hc := cnb_le s c
 have hR := rest_count c s
 have hz := rest_size c s
 refine fun_x ck_strings_genSplit rfl ?_
 (refine goI ?_; repeat (intro gg; refine goI ?_))
 rw [sep_ne]
 (refine goI ?_; repeat (intro gg; refine goI ?_))
 (refine .inl ⟨_, _, false, [], aI, count_fun s c, nobor, nI, ?_⟩)
 (refine goI ?_; repeat (intro gg; refine goI ?_))
 rw [show min ((cnb s c : Int) + 1) ((s.size : Int) + 1) = (cnb s c : Int) + 1 by omega]
 (refine goI ?_; repeat (intro gg; refine goI ?_))
 refine ⟨cnb s c + 1, by simp, by simp, by simp only [maxLen]; omega, by omega, ?_⟩
 (refine goI ?_; repeat (intro gg; refine goI ?_))
 rw [← splRows_zero]
 (refine goI ?_; repeat (intro gg; refine goI ?_))
 (refine ⟨[], none, {k : Nat // k ≤ cnb s c}, [1, 2, 3, 9], fun ⟨k, hk⟩ => [(0, .v (.string (rest c s k))), (10, .v (.int .i64 k))], [], fun ⟨k, hk⟩ => [(496, ⟨gg, 9, 1, (splRows c s k).map sRow⟩)], fun ⟨k, hk⟩ => cnb s c - k, trivial, fun _ => ⟨trivial, fun _ => ⟨⟨0, by omega⟩, tI, keptE_refl _ _, tI, keptH_refl _ _⟩⟩, fun ⟨k, hk⟩ => ?_⟩)
 (refine goI ?_; repeat (intro gg; refine goI ?_))
 (refine bIf_of (fun h1 => ?_) (fun h1 => ?_) <;> rw [h1])
 ·have hlt : k < cnb s c := (by have := of_decide_eq_true h1; omega)
  obtain ⟨m, e1, e2, e3, e4⟩ := rest_at c s hlt
  have e5 := hz k
  have e6 := splRows_next c s hlt
  have e7 := splRows_len c s (k := k) (by omega)
  have e8 : k < (splRows c s k).length := by omega
  (refine goI ?_; repeat (intro gg; refine goI ?_))
  (refine .inl ⟨_, _, false, [], aI, index_fun (rest c s k) c, nobor, nI, ?_⟩)
  rw [e1]
  (refine goI ?_; repeat (intro gg; refine goI ?_))
  refine ⟨0, m, rfl, ⟨_, rfl⟩, by omega, by omega, ?_⟩
  (refine goI ?_; repeat (intro gg; refine goI ?_))
  refine ⟨k, _, rfl, row_map e8, ?_⟩
  (refine goI ?_; repeat (intro gg; refine goI ?_))
  refine ⟨(m : Int) + 1, wrap_ok (n := (m : Int) + 1) (by omega) (by omega), ?_⟩
  (refine goI ?_; repeat (intro gg; refine goI ?_))
  refine ⟨m + 1, (rest c s k).size, ⟨_, rfl⟩, rfl, by omega, Nat.le_refl _, ?_⟩
  rw [← e4]
  (refine goI ?_; repeat (intro gg; refine goI ?_))
  have hn : (splRows c s (k + 1)).map sRow = ((splRows c s k).map sRow).set k [V.v (Value.string ((rest c s k).extract 0 m))] := by rw [← e6, List.map_set, e3]; rfl
  (exact ⟨none, trivial, fun gr => ⟨⟨k + 1, by omega⟩, by show cnb s c - (k + 1) < cnb s c - k; omega, hxI hn, hxI hn, hxI hn, hxI hn⟩⟩)
 ·have hge : ¬ k < cnb s c := (by have := of_decide_eq_false h1; omega)
  have hk' : k ≤ cnb s c := hk
  obtain rfl : k = cnb s c := by omega
  have e7 := splRows_len c s (k := cnb s c) (by omega)
  have e8 : cnb s c < (splRows c s (cnb s c)).length := by omega
  (refine goI ?_; repeat (intro gg; refine goI ?_))
  refine ⟨cnb s c, _, rfl, row_map e8, ?_⟩
  (refine goI ?_; repeat (intro gg; refine goI ?_))
  refine ⟨0, 0, cnb s c + 1, rfl, rfl, ⟨_, rfl⟩, Nat.zero_le _, by simp [e7], rfl, rfl, fun g => ?_⟩
  (refine goI ?_; repeat (intro gg; refine goI ?_))
  have hE : (((splRows c s (cnb s c)).map sRow).set (cnb s c) [V.v (Value.string (rest c s (cnb s c)))]).take (cnb s c + 1) = (pieces c s).map sRow := by rw [← splRows_end, List.map_take, List.map_set]; rfl
  rw [hE]
  (exact ⟨[496], aI⟩)
end Go.Proofs.YtjhdlcmecbngkaaDoor
namespace Go.Proofs.YtjhdlcmecbngkaaDoor.Pl
set_option linter.unusedVariables false
def okB (n : Int) : Bool := decide ((97 ≤ n ∧ n ≤ 122) ∨ (48 ≤ n ∧ n ≤ 57) ∨ n = 45 ∨ n = 95)
def lab (s : List UInt8) : Bool := s.all (fun c => okB c.toNat) && decide (1 ≤ s.length ∧ s.length ≤ 30)
theorem lab_yes {s : List UInt8} (h : ∀ i, (hi : i < s.length) → okB (s[i]).toNat = true) (h1 : 1 ≤ s.length) (h2 : s.length ≤ 30) : lab s = true := by
 unfold lab
 rw [Bool.and_eq_true_iff]
 refine ⟨List.all_eq_true.2 fun c hc => ?_, by simp; omega⟩
 obtain ⟨i, hi, rfl⟩ := List.getElem_of_mem hc
 exact h i hi
theorem lab_bad {s : List UInt8} {i : Nat} (hi : i < s.length) (h : okB (s[i]).toNat = false) : lab s = false := by
 unfold lab
 rw [Bool.and_eq_false_iff]
 left
 rw [List.all_eq_false]
 exact ⟨s[i], List.getElem_mem hi, by simp [h]⟩
theorem lab_long {s : List UInt8} (h : ¬ (1 ≤ s.length ∧ s.length ≤ 30)) : lab s = false := by
 unfold lab
 simp only [h, decide_false, Bool.and_false]
theorem okB_no {n : Int} (h : ¬ ((97 ≤ n ∧ n ≤ 122) ∨ (48 ≤ n ∧ n ≤ 57) ∨ n = 45 ∨ n = 95)) : okB n = false := by
 unfold okB; simpa using h
theorem okB_yes {n : Int} (h : (97 ≤ n ∧ n ≤ 122) ∨ (48 ≤ n ∧ n ≤ 57) ∨ n = 45 ∨ n = 95) : okB n = true := by
 unfold okB; simpa using h
end Go.Proofs.YtjhdlcmecbngkaaDoor.Pl
namespace Go.Proofs.YtjhdlcmecbngkaaDoor
open Go.RowKit Pl
set_option linter.unusedVariables false
theorem lab_step {s : ByteArray} {k : Nat} (h : ∀ j, (hj : j < s.data.toList.length) → j < k → okB (s.data.toList[j]).toNat = true) (hlt : k < s.size) (hk : okB (s[k]).toNat = true) :
  ∀ j, (hj : j < s.data.toList.length) → j < k + 1 → okB (s.data.toList[j]).toNat = true := by
 intro j hj hjk
 rcases (by omega : j < k ∨ j = k) with g | rfl
 ·exact h j hj g
 ·exact hk
theorem isEmpty_size (s : ByteArray) : s.toList.isEmpty = decide (s.size = 0) := by
 rw [ByteArray.toList_eq, Bool.eq_iff_iff, List.isEmpty_iff_length_eq_zero, decide_eq_true_eq, Array.length_toList]
 rfl
theorem lab_endA {s : ByteArray} (h1 : 1 ≤ s.size ∧ s.size ≤ 30 → lab s.data.toList = true) (h2 : ¬ (1 ≤ s.size ∧ s.size ≤ 30) → lab s.data.toList = false) (e : s.toList.isEmpty = false) : decide ((s.size : Int) ≤ 30) = lab s.data.toList := by
 have e0 : s.size ≠ 0 := by simpa [isEmpty_size] using e
 by_cases g : s.size ≤ 30
 ·rw [h1 ⟨by omega, g⟩]; simp; omega
 ·rw [h2 (by omega)]; simp; omega
theorem lab_endB {s : ByteArray} (h2 : ¬ (1 ≤ s.size ∧ s.size ≤ 30) → lab s.data.toList = false) (e : s.toList.isEmpty = true) : false = lab s.data.toList := by
 have e0 : s.size = 0 := by simpa [isEmpty_size] using e
 rw [h2 (by omega)]
theorem cell_new (w : World) (C : Array Value) (t : TypeId) (fr : Nat × Nat) (k : Nat) : (w.alloc (.cells C t fr)).drew.cell? ⟨w.heap.size, k, none⟩ = C[k]? := by
 have h : (w.alloc (.cells C t fr)).drew.heap[w.heap.size]? = some (.cells C t fr) := heap_alloc_new w _
 unfold World.cell?
 rw [h]
 rfl
theorem lab_out {s : ByteArray} {k : Nat} (hlt : k < s.size) (hk : okB (s[k]).toNat = false) : false = lab s.data.toList :=
 (lab_bad (i := k) (s := s.data.toList) (by simpa using hlt) hk).symm
theorem refIsLabel_any (s : ByteArray) (w : World) (hs : s.size ≤ 9223372036854775807) :
    Calls Tryd.prog 38 #[.string s] w fun e w' => e = .returned (.bool (lab s.data.toList)) ∧ w = w' := by
  go_enter Tryd.func38, Tryd.ntmps38
  go_wp2
  go_loop [3] (fun i => ∃ k : Nat, k ≤ s.size ∧ i = .int .i64 k ∧ ∀ j, (hj : j < s.data.toList.length) → j < k → okB (s.data.toList[j]).toNat = true) (fun i => s.size - (intOf i).toNat)
  case atStart => exact ⟨0, Nat.zero_le _, rfl, fun j _ h => absurd h (by omega)⟩
  case round =>
    obtain ⟨k, hk, rfl, hall⟩ := hrel
    have HA := hid hall
    clear hall
    by_cases hlt : k < s.size
    · go_wp2
      all_goals first
        | (go_round
           case rel => exact ⟨k + 1, by omega, by go_num, lab_step HA.out hlt (okB_yes (by go_light; clear HA; first | omega | (simp_all; done) | (simp_all; omega)))⟩
           case measure => simp [intOf]; omega)
        | (go_ret
           exact ⟨ret_bool (lab_out hlt (okB_no (by go_light; clear HA; first | omega | (simp_all; done) | (simp_all; omega)))), rfl⟩)
    · have HL := fun (g : 1 ≤ s.size ∧ s.size ≤ 30) => lab_yes (s := s.data.toList) (fun i hi => HA.out i hi (by simp at hi; omega)) (by simpa using g.1) (by simpa using g.2)
      have HN := fun (g : ¬ (1 ≤ s.size ∧ s.size ≤ 30)) => lab_long (s := s.data.toList) (by simpa using g)
      have HL := hid HL
      have HN := hid HN
      clear HA
      go_wp2
      all_goals go_ret
      all_goals exact ⟨ret_bool (by
        go_light
        by_cases g : 1 ≤ s.size ∧ s.size ≤ 30
        · rw [HL.out g] <;> first | rfl | (simp <;> omega)
        · rw [HN.out g] <;> first | rfl | (simp <;> omega)), rfl⟩
theorem bytes_run (s : ByteArray) (w : World) : ∃ (cap : Nat) (C : Array Value) (fr : Nat × Nat),
  (convert 9 82 (.string s)).run Tryd.prog w = .ok (.slice (some ⟨w.heap.size, 0, none⟩) s.size cap) (w.drew.alloc (.cells C 5 fr)) ∧
  ∀ j, (h : j < s.size) → C[j]? = some (.int .u8 ((s[j]).toNat : Int)) := by
 refine ⟨_, _, _, run_bytes_of_string w 9 82 5 s Tryd.underlying9 Tryd.underlying82 Tryd.underlying5, ?_⟩
 intro j h
 exact bytesRow_at s _ j h
set_option maxRecDepth 100000 in
theorem IsLabel_any (s : ByteArray) (w : World) (hs : s.size ≤ 9223372036854775807) :
    Calls Tryd.prog 35 #[.string s] w fun e w' => e = .returned (.bool (lab s.data.toList)) ∧ Below w.heap.size w w' ∧ w.drawn ≤ w'.drawn := by
  obtain ⟨cap, C, fr, hrun, hC⟩ := bytes_run s w
  have HC := hid hC
  clear hC
  have hB : Below w.heap.size w (w.alloc (.cells C 5 fr)).drew ∧ w.drawn ≤ (w.alloc (.cells C 5 fr)).drew.drawn := ⟨(by repeat (first | exact Below.refl _ _ | assumption | refine Below.drew ?_ | refine below_drewN ?_ _ | refine Below.alloc ?_ (by simp; try omega) _ | refine Below.setCell ?_ (by simp; try omega) _)), Nat.le_succ _⟩
  have HB := hid hB
  clear hB
  go_enter Tryd.func35, Tryd.ntmps35
  go_wp2
  go_loop [8] (fun i => ∃ k : Nat, k ≤ s.size ∧ i = .int .i64 k ∧ ∀ j, (hj : j < s.data.toList.length) → j < k → okB (s.data.toList[j]).toNat = true) (fun i => s.size - (intOf i).toNat)
  case atStart => exact ⟨0, Nat.zero_le _, rfl, fun j _ h => absurd h (by omega)⟩
  case round =>
    obtain ⟨k, hk, rfl, hall⟩ := hrel
    have HA := hid hall
    clear hall
    by_cases hlt : k < s.size
    · have hcell : (w.alloc (.cells C 5 fr)).drew.cell? ⟨w.heap.size, k, none⟩ = some (.int .u8 ((s[k]).toNat : Int)) := (cell_new w C 5 fr k).trans (HC.out k hlt)
      have hby : ((s[k]).toNat : Int) ≤ 255 := by have := (s[k]).toNat_lt; omega
      clear hrun
      go_wp2
      all_goals first
        | (go_round
           case rel => exact ⟨k + 1, by omega, by go_num, lab_step HA.out hlt (okB_yes (by go_light; clear HA; first | omega | (simp_all; done) | (simp_all; omega)))⟩
           case measure => simp [intOf]; omega)
        | (go_ret
           exact ⟨ret_bool (lab_out hlt (okB_no (by go_light; clear HA; first | omega | (simp_all; done) | (simp_all; omega)))), HB.out⟩)
    · have HL := fun (g : 1 ≤ s.size ∧ s.size ≤ 30) => lab_yes (s := s.data.toList) (fun i hi => HA.out i hi (by simp at hi; omega)) (by simpa using g.1) (by simpa using g.2)
      have HN := fun (g : ¬ (1 ≤ s.size ∧ s.size ≤ 30)) => lab_long (s := s.data.toList) (by simpa using g)
      have HL := hid HL
      have HN := hid HN
      clear HA
      go_wp2
      all_goals go_ret
      all_goals first
        | exact ⟨ret_bool (lab_endA HL.out HN.out ‹s.toList.isEmpty = false›), HB.out⟩
        | exact ⟨ret_bool (lab_endB HN.out ‹s.toList.isEmpty = true›), HB.out⟩
end Go.Proofs.YtjhdlcmecbngkaaDoor
namespace Go.Proofs.YtjhdlcmecbngkaaDoor
open Go.RowKit Pl
set_option linter.unusedVariables false
theorem label_fun (s : ByteArray) (hs : s.size ≤ 9223372036854775807) : Fun Tryd.prog 35 [.c (.v (.string s))] [.c (.v (.bool (lab s.data.toList)))] :=
 fun_flat (xs := [.string s]) (callable Tryd.func35 (by kernel_rfl) (by kernel_rfl)) fun w => (IsLabel_any s w hs).mono fun e w' h => ⟨h.1, h.2.1⟩
theorem rlabel_fun (s : ByteArray) (hs : s.size ≤ 9223372036854775807) : Fun Tryd.prog 38 [.c (.v (.string s))] [.c (.v (.bool (lab s.data.toList)))] :=
 fun_flat (xs := [.string s]) (callable Tryd.func38 (by kernel_rfl) (by kernel_rfl)) fun w => (refIsLabel_any s w hs).mono fun e w' ⟨h1, h2⟩ => ⟨h1, h2 ▸ Below.refl _ _⟩
end Go.Proofs.YtjhdlcmecbngkaaDoor
namespace Go.Proofs.YtjhdlcmecbngkaaDoor.Pl
set_option linter.unusedVariables false
theorem any_at {α : Type} (p : α → Bool) (l : List α) : decide (0 ≤ at_ p l) = l.any p := by
 rcases at_inv (p := p) (l := l) with ⟨h1, h2⟩ | ⟨k, hk, h1, h2, _⟩
 ·rw [h1]
  cases hq : l.any p with
  | false => rfl
  | true =>
   obtain ⟨x, hx, hp⟩ := List.any_eq_true.1 hq
   obtain ⟨i, hi, rfl⟩ := List.getElem_of_mem hx
   rw [h2 i hi] at hp; cases hp
 ·rw [h1]
  have : l.any p = true := List.any_eq_true.2 ⟨_, List.getElem_mem hk, h2⟩
  rw [this]; simp
def keep {α : Type} (p : α → Bool) (l : List α) : List α := l.filter fun x => !p x
theorem keep_all {α : Type} {p : α → Bool} {l : List α} (h : ∀ i, (h : i < l.length) → p l[i] = false) : keep p l = l := by
 unfold keep; rw [List.filter_eq_self]; intro x hx
 obtain ⟨i, hi, rfl⟩ := List.getElem_of_mem hx
 simp [h i hi]
theorem keep_take {α : Type} {p : α → Bool} {l : List α} {k : Nat} (h : k < l.length) : keep p (l.take (k + 1)) = if p l[k] = true then keep p (l.take k) else keep p (l.take k) ++ [l[k]] := by
 unfold keep
 rw [List.take_add_one, List.getElem?_eq_getElem h, List.filter_append]
 cases q : p l[k] <;> simp [q]
structure Moved {α : Type} (p : α → Bool) (l l' : List α) (i j : Nat) : Prop where
 ij : i < j
 jl : j ≤ l.length
 len : l'.length = l.length
 ahead : l'.take i = keep p (l.take j)
 behind : ∀ k, (h : k < l.length) → j ≤ k → l'[k]'(by rw [len]; exact h) = l[k]
theorem Moved.start {α : Type} {p : α → Bool} {l : List α} {k : Nat} (hk : k < l.length) (h1 : p l[k] = true) (h0 : ∀ i, (h : i < l.length) → i < k → p l[i] = false) : Moved p l l k (k + 1) := by
 refine ⟨by omega, by omega, rfl, ?_, fun _ _ _ => rfl⟩
 rw [keep_take hk, if_pos h1, keep_all]
 intro i hi
 simp at hi
 simp only [List.getElem_take]
 exact h0 i (by omega) (by omega)
theorem Moved.gone {α : Type} {p : α → Bool} {l l' : List α} {i j : Nat} (h : Moved p l l' i j) (hj : j < l.length) (hp : p l[j] = true) : Moved p l l' i (j + 1) := by
 refine ⟨by have := h.ij; omega, by omega, h.len, ?_, fun k hk hkj => h.behind k hk (by omega)⟩
 rw [keep_take hj, if_pos hp]; exact h.ahead
theorem Moved.fin {α : Type} {p : α → Bool} {l l' : List α} {i j : Nat} (h : Moved p l l' i j) (hj : ¬ j < l.length) : l'.take i = keep p l := by
 rw [h.ahead, List.take_of_length_le (by omega)]
end Go.Proofs.YtjhdlcmecbngkaaDoor.Pl
namespace Go.Proofs.YtjhdlcmecbngkaaDoor
open Go.RowKit Pl
set_option linter.unusedVariables false
def labelsP (s : ByteArray) : List ByteArray := if (s.toList == (⟨#[]⟩ : ByteArray).toList) = true then [] else pieces 46 s
def nameErr (s : ByteArray) : Int := if (labelsP s).any (fun x => !lab x.data.toList) = true then 1 else if 8 < (labelsP s).length then 2 else if 120 < s.size then 2 else 0
theorem split_fun (s : ByteArray) (c : UInt8) (hs : s.size ≤ 1000000000000) : Fun Tryd.prog 39 [.c (.v (.string s)), .c (.v (.string ⟨#[c]⟩))] [.o 9 1 ((pieces c s).map sRow)] := by
 refine fun_x ck_strings_Split rfl ?_
 (refine goI ?_; repeat (intro gg; refine goI ?_))
 (refine .inl ⟨_, _, false, [], aI, genSplit_fun s c hs, nobor, nI, ?_⟩)
 (refine goI ?_; repeat (intro gg; refine goI ?_))
 (exact ⟨[112], aI⟩)
theorem labels_fun (s : ByteArray) (hs : s.size ≤ 1000000000000) : Fun Tryd.prog 41 [.c (.v (.string s))] [.c (.sl false ((labelsP s).map sRow))] := by
 refine fun_x ck_dns_labels rfl ?_
 (refine goI ?_; repeat (intro gg; refine goI ?_))
 (refine bIf_of (fun h => ?_) (fun h => ?_) <;> rw [h])
 ·(refine goI ?_; repeat (intro gg; refine goI ?_))
  rw [show labelsP s = [] from if_pos h]
  (exact ⟨[], aI⟩)
 ·(refine goI ?_; repeat (intro gg; refine goI ?_))
  (refine .inl ⟨_, _, false, [], aI, split_fun s 46 hs, nobor, nI, ?_⟩)
  (refine goI ?_; repeat (intro gg; refine goI ?_))
  rw [show labelsP s = pieces 46 s from if_neg (by rw [h]; decide)]
  (exact ⟨[], aI⟩)
theorem chk1_fun (s : ByteArray) (hs : s.size ≤ 9223372036854775807) : Fun Tryd.prog 42 [.c (.v (.string s))] [.c (.v (.bool (!lab s.data.toList)))] := by
 refine fun_x ck_dns_Check_1 rfl ?_
 (refine goI ?_; repeat (intro gg; refine goI ?_))
 (refine .inl ⟨_, _, false, [], aI, label_fun s hs, nobor, nI, ?_⟩)
 (refine goI ?_; repeat (intro gg; refine goI ?_))
 (exact ⟨[], aI⟩)
theorem indexF_fun (cl : Bool) (l : List ByteArray) (f : FuncId) (p : ByteArray → Bool) (hl : l.length ≤ 9223372036854775807) (hf : ∀ s ∈ l, Fun Tryd.prog f [.c (.v (.string s))] [.c (.v (.bool (p s)))]) :
  Fun Tryd.prog 58 [.c (.sl cl (l.map sRow)), .c (.v (.func (.func f) #[] #[]))] [.c (.v (.int .i64 (at_ p l)))] := by
 refine fun_x ck_slices_IndexFunc_string_string rfl ?_
 (refine goI ?_; repeat (intro gg; refine goI ?_))
 rw [List.length_map]
 (refine ⟨[], none, {k : Nat // k ≤ l.length ∧ ∀ j, (h : j < l.length) → j < k → p l[j] = false}, [0, 1, 7], fun ⟨k, hk, h0⟩ => [(8, .v (.int .i64 k))], [], fun ⟨k, hk, h0⟩ => [], fun ⟨k, hk, h0⟩ => l.length - k, trivial, fun _ => ⟨trivial, fun _ => ⟨⟨0, by omega, fun j _ h => by omega⟩, tI, keptE_refl _ _, tI, keptH_refl _ _⟩⟩, fun ⟨k, hk, h0⟩ => ?_⟩)
 (refine goI ?_; repeat (intro gg; refine goI ?_))
 (refine bIf_of (fun h => ?_) (fun h => ?_) <;> rw [h])
 ·have hlt : k < l.length := (by have := of_decide_eq_true h; omega)
  (refine goI ?_; repeat (intro gg; refine goI ?_))
  refine ⟨k, _, rfl, row_map hlt, ?_⟩
  (refine goI ?_; repeat (intro gg; refine goI ?_))
  (refine .inl ⟨_, _, false, [], aI, hf _ (List.getElem_mem hlt), nobor, nI, ?_⟩)
  (refine goI ?_; repeat (intro gg; refine goI ?_))
  (refine bIf_of (fun h2 => ?_) (fun h2 => ?_) <;> rw [h2])
  ·(refine goI ?_; repeat (intro gg; refine goI ?_))
   rw [at_yes hlt h0 h2]
   (exact ⟨[], aI⟩)
  ·(refine goI ?_; repeat (intro gg; refine goI ?_))
   (exact ⟨none, trivial, fun _ => ⟨⟨k + 1, by omega, up1 (p := fun j h => p l[j] = false) h0 (fun _ => h2)⟩, by show l.length - (k + 1) < l.length - k; omega, tI, tI, tI, tI⟩⟩)
 ·have hge : ¬ k < l.length := (by have := of_decide_eq_false h; omega)
  (refine goI ?_; repeat (intro gg; refine goI ?_))
  rw [at_no (p := p) (l := l) (fun i hi => h0 i hi (by omega))]
  (exact ⟨[], aI⟩)
theorem containsF_fun (cl : Bool) (l : List ByteArray) (f : FuncId) (p : ByteArray → Bool) (hl : l.length ≤ 9223372036854775807) (hf : ∀ s ∈ l, Fun Tryd.prog f [.c (.v (.string s))] [.c (.v (.bool (p s)))]) :
  Fun Tryd.prog 33 [.c (.sl cl (l.map sRow)), .c (.v (.func (.func f) #[] #[]))] [.c (.v (.bool (l.any p)))] := by
 have hI := indexF_fun cl l f p hl hf
 refine fun_x ck_slices_ContainsFunc_string_string rfl ?_
 (refine goI ?_; repeat (intro gg; refine goI ?_))
 (refine .inl ⟨_, _, false, [], aI, hI, nobor, nI, ?_⟩)
 (refine goI ?_; repeat (intro gg; refine goI ?_))
 rw [any_at]
 (exact ⟨[], aI⟩)
theorem extract_le (s : ByteArray) (a b : Nat) : (s.extract a b).size ≤ s.size := by rw [ByteArray.size_extract]; omega
theorem labelsP_size {s x : ByteArray} (h : x ∈ labelsP s) : x.size ≤ s.size := by
 unfold labelsP at h
 split at h
 ·cases h
 ·unfold pieces at h
  rcases List.mem_append.1 h with h | h
  ·obtain ⟨k, _, rfl⟩ := List.mem_map.1 h
   exact Nat.le_trans (extract_le _ _ _) (rest_size 46 s k)
  ·simp only [List.mem_cons, List.not_mem_nil, or_false] at h; subst h
   exact rest_size 46 s _
theorem labelsP_len (s : ByteArray) : (labelsP s).length ≤ s.size + 1 := by
 unfold labelsP
 split
 ·simp
 ·rw [pieces_len]; have := cnb_le s 46; omega
theorem Check_fun (s : ByteArray) (hs : s.size ≤ 1000000000000) : Fun Tryd.prog 21 [.c (.v (.string s))] [.c (.v (.int .i64 (nameErr s)))] := by
 have hL := labelsP_len s
 have hC := containsF_fun false (labelsP s) 42 (fun x => !lab x.data.toList) (by omega) (fun x hx => chk1_fun x (by have := labelsP_size hx; omega))
 refine fun_x ck_dns_Check rfl ?_
 (refine goI ?_; repeat (intro gg; refine goI ?_))
 (refine .inl ⟨_, _, false, [], aI, labels_fun s hs, nobor, nI, ?_⟩)
 (refine goI ?_; repeat (intro gg; refine goI ?_))
 (refine .inl ⟨_, _, false, [], aI, hC, nobor, nI, ?_⟩)
 (refine goI ?_; repeat (intro gg; refine goI ?_))
 (refine bIf_of (fun h => ?_) (fun h => ?_) <;> rw [h])
 ·(refine goI ?_; repeat (intro gg; refine goI ?_))
  rw [show nameErr s = 1 from if_pos h]
  (exact ⟨[], aI⟩)
 ·have e : nameErr s = if 8 < (labelsP s).length then 2 else if 120 < s.size then 2 else 0 := if_neg (by rw [h]; decide)
  (refine goI ?_; repeat (intro gg; refine goI ?_))
  rw [List.length_map]
  (refine bIf_of (fun h2 => ?_) (fun h2 => ?_) <;> rw [h2])
  ·(refine goI ?_; repeat (intro gg; refine goI ?_))
   rw [e, if_pos (by have := of_decide_eq_true h2; omega)]
   (exact ⟨[], aI⟩)
  ·rw [if_neg (by have := of_decide_eq_false h2; omega)] at e
   (refine goI ?_; repeat (intro gg; refine goI ?_))
   (refine bIf_of (fun h3 => ?_) (fun h3 => ?_) <;> rw [h3])
   ·(refine goI ?_; repeat (intro gg; refine goI ?_))
    rw [e, if_pos (by have := of_decide_eq_true h3; omega)]
    (exact ⟨[], aI⟩)
   ·(refine goI ?_; repeat (intro gg; refine goI ?_))
    rw [e, if_neg (by have := of_decide_eq_false h3; omega)]
    (exact ⟨[], aI⟩)
end Go.Proofs.YtjhdlcmecbngkaaDoor
namespace Go.Proofs.YtjhdlcmecbngkaaDoor
open Go Go.RowKit
set_option linter.unusedVariables false
def BldV (T : TypeId) (b : Nat) (v : Value) (bs : List Value) (w : World) : Prop :=
 (∃ p, (p = .pointer none ∨ p = .pointer (some ⟨b, 0, none⟩)) ∧ w.heap[b]? = some (.cells #[p, v] T (0, 0))) ∧ w.ownsRow 0 5 1 v bs.length bs ∧ v.ownBlock ≠ some b
theorem heap_set {b : Nat} {w : World} {cs : Array Value} {T : TypeId} {fr : Nat × Nat} (hb : w.heap[b]? = some (.cells cs T fr)) (i : Nat) (x : Value) : (w.setCell ⟨b, i, none⟩ x).heap[b]? = some (.cells (cs.setIfInBounds i x) T fr) := by
 have hlt : b < w.heap.size := (Array.getElem?_eq_some_iff.1 hb).1
 simp [World.setCell, Array.getElem?_modify, hb]
theorem heap_else_ {b k : Nat} {w : World} (hk : k ≠ b) (i : Nat) (x : Value) : (w.setCell ⟨b, i, none⟩ x).heap[k]? = w.heap[k]? := by
 have : b ≠ k := fun e => hk e.symm
 simp [World.setCell, Array.getElem?_modify, this]
theorem gb_set (b i : Nat) (x : Value) (w : World) : w.grownBy (w.setCell ⟨b, i, none⟩ x) (some b) := ⟨rfl, rfl, rfl, by simp, fun k hk hn => heap_else_ (fun e => hn (by rw [e])) i x⟩
theorem fr_set {b : Nat} {w : World} {L : Nat → Prop} (hL : L b) (i : Nat) (x : Value) : Fr L w (w.setCell ⟨b, i, none⟩ x) :=
 ⟨rfl, rfl, rfl, by simp, fun k hk hn => heap_else_ (fun e => hn (by rw [e]; exact hL)) i x⟩
set_option maxHeartbeats 1000000 in
set_option maxRecDepth 100000 in
theorem copyCheck_any (T : TypeId) (hT : liesAt Tryd.prog Tryd.prog.depth T (2 / Tryd.prog.cellsOf T) 0 88 1 = true) (b : Nat) (v : Value) (bs : List Value) (w : World) (h : BldV T b v bs w) :
  Calls Tryd.prog 86 #[.pointer (some ⟨b, 0, none⟩)] w fun e w' => e = .returned (.tuple #[]) ∧ w'.heap[b]? = some (.cells #[.pointer (some ⟨b, 0, none⟩), v] T (0, 0)) ∧ w'.ownsRow 0 5 1 v bs.length bs ∧ Fr (fun k => k = b) w w' := by
 obtain ⟨⟨p, hp, hbk⟩, hown, hne⟩ := h
 obtain ⟨j, hj, hjs⟩ := Option.map_eq_some_iff.1 (show (Tryd.prog.info? 88).map (·.size) = some 2 by kernel_rfl)
 have h0 : w.cell? ⟨b, 0, none⟩ = some p := by rw [Lib.cell_of_heap hbk]; rfl
 have hsh : w.shape? b = some (T, 2) := by simp [World.shape?, hbk]
 have hfz : w.frozen? ⟨b, 0, none⟩ = false := Lib.frozen_of_heap hbk 0
 rcases hp with rfl | rfl
 ·go_enter Tryd.func86, Tryd.ntmps86
  go_wp2
  rw [Lib.run_to_unsafe w ⟨b, 0, none⟩ Tryd.underlying86 Tryd.underlying117 hj (by rw [hjs]; decide) hsh (Nat.zero_lt_succ 1)]
  simp only [Result.andThen]
  rw [Oper.upon_value]
  go_wp2
  rw [run_callFunc_extern Tryd.func93 (by kernel_rfl) (by kernel_rfl) (by kernel_rfl) (e := Extern.AbiNoEscape.same) (by kernel_rfl)]
  rw [Lib.run_noEscape]
  simp only [Result.andThen]
  rw [Oper.upon_value]
  go_wp2
  rw [Lib.run_from_unsafe w ⟨b, 0, none⟩ Tryd.underlying117 Tryd.underlying86 hj hsh hT]
  simp only [Result.andThen]
  rw [Oper.upon_value]
  go_wp2
  go_end0
  refine ⟨rfl, ?_, ?_, fr_set (L := fun k => k = b) rfl _ _⟩
  ·rw [heap_set hbk]; rfl
  ·exact hown.kept (gb_set _ _ _ _) (.inr hne)
 ·go_enter Tryd.func86, Tryd.ntmps86
  go_wp2
  rw [Lib.run_neq_ptr_same w _ Tryd.underlying86 hj]
  go_wp2
  go_end0
  exact ⟨rfl, hbk, hown, Fr.refl _ _⟩
theorem info_u8 : (Tryd.prog.info? 5).map (fun i => (i.zero, i.size, i.bytes)) = some (some (.int .u8 0), 1, 1) := by kernel_rfl
theorem fr_mono {L L' : Nat → Prop} {w w' : World} (h : Fr L w w') (hL : ∀ k, L k → L' k) : Fr L' w w' :=
 ⟨h.os, h.tape, h.output, h.size, fun k hk hn => h.block k hk fun q => hn (hL k q)⟩
theorem fr_alloc (L : Nat → Prop) (w : World) (o : Obj) : Fr L w (w.alloc o) := ⟨rfl, rfl, rfl, by simp, fun k hk _ => Lib.alloc_old w o k hk⟩
theorem fr_grown {L : Nat → Prop} {w w' : World} {row : Option Nat} (hg : w.grownBy w' row) (hr : ∀ k, row = some k → L k) : Fr L w w' :=
 ⟨hg.os, hg.tape, hg.output, hg.size, fun k hk hn => hg.block k hk fun e => hn (hr k e.symm)⟩
def BldPost (T : TypeId) (b : Nat) (v : Value) (bs : List Value) (w w' : World) : Prop :=
 ∃ v', BldV T b v' bs w' ∧ Fr (fun k => k = b ∨ v.ownBlock = some k) w w' ∧ ∀ k, v'.ownBlock = some k → v.ownBlock = some k ∨ w.heap.size ≤ k
theorem wpList_app {P : Program} {w : World} {ops : Array Oper} {rest : List Oper} {o : Oper} {a : Act} {Q : Exit → Act → World → Prop} (hgd : o.guard = none) (s x : Operand) (t : TypeId)
  (ho : o.op = .call { callee := .builtin .append, args := #[s, x], argTypes := #[t, t] })
  (e : TypeId) (i : TypeInfo) (z : Value) (ht : P.underlying t = some (.slice e)) (hi : P.info? e = some i) (hz : i.zero = some z) (hzs : z.cells.size = i.size) (hsz : 0 < i.size)
  (v : Value) (n : Nat) (xs : List Value) (hs : a.eval s = v) (hown : w.ownsRow 0 e i.size v n xs)
  (ad : Addr) (m c : Nat) (news : List Value) (hx : a.eval x = .slice (some ad) m c) (hl : news.length = m * i.size) (hnews : ∀ j u, news[j]? = some u → w.cell? (ad.add j) = some u) (h1 : ∀ u ∈ news, u.oneCell' = true)
  (h63 : n + m ≤ maxLen) (hbytes : (n + m) * i.bytes ≤ 140737488355328)
  (h : ∀ v' w', w'.ownsRow 0 e i.size v' (n + m) (xs ++ news) → w.grownBy w' v.ownBlock → (v'.ownBlock = v.ownBlock ∨ v'.ownBlock = some w.heap.size) → wpList P ops Q rest (a.put o.dst v') w') : wpList P ops Q (o :: rest) a w := by
 refine wpList_plain hgd fun K hK => ?_
 obtain ⟨v', w', hr, h2, h3, _, h5⟩ := run_append_own_at (P := P) w 0 t o.type e i z i.size i.bytes ht hi hz rfl rfl hzs hsz v n xs hown ad m c news hl hnews h1 h63 hbytes (Nat.zero_le _)
 unfold Oper.wp execOp
 simp only [ho, resolve, invoke, builtin, Sem.run_bind, Sem.run_pure, Result.andThen_ok, List.map_toArray, List.map_cons, List.map_nil, hs, hx, hr]
 exact hK _ _ (h v' w' h2 h3 h5)
theorem app_str_blk {P : Program} {w : World} {t u ty e : TypeId} {i : TypeInfo} (ht : P.underlying t = some (.slice e)) (hu : P.underlying u = some .string) (hi : P.info? e = some i) (hz : i.zero = some (.int .u8 0)) (hsize : i.size = 1) (hby : i.bytes = 1)
  {v : Value} {n : Nat} {xs : List Value} (hown : w.ownsRow 0 e 1 v n xs) (s : ByteArray) (h63 : n + s.size ≤ maxLen) (hbytes : n + s.size ≤ 140737488355328) {v' : Value} {w' : World}
  (hr : (Builtin.append_ #[t, u] ty #[v, .string s]).run P w = .ok v' w') : (v'.ownBlock = v.ownBlock ∨ v'.ownBlock = some w.heap.size) := by
 have hsmall : n + s.size ≤ 9223372036854775807 := by simp only [maxLen] at h63; omega
 have hxl : xs.length = n := by simpa using hown.1
 rcases hown.2 with ⟨rfl, rfl⟩ | ⟨g, cap, cur, rfl, hbg, hg, hnc, hcm, hcs, htake⟩
 ·by_cases hm : s.size = 0
  ·have h : (Builtin.append_ #[t, u] ty #[.slice none 0 0, .string s]).run P w = .ok (.slice none 0 0) w := by
    have hf := Lib.run_firstCells_string (P := P) w 1 s
    rw [hm] at hf
    simp [Builtin.append_, run_underlying ht, run_underlying hu, sizeOf, typeInfo, hi, hsize, Builtin.lenOf, hm, hf]
   rw [h] at hr
   injection hr with h1 h2
   subst h1 h2
   exact .inl rfl
  ·have h := run_append_nil_string (P := P) w t u ty e i (.int .u8 0) ht hu hi hz s (by omega) (by omega) (by rw [hby]; omega)
   rw [h] at hr
   injection hr with h1 h2
   subst h1 h2
   exact .inr rfl
 ·by_cases hroom : n + s.size ≤ cap
  ·have hcs' : cur.size = cap := by simpa using hcs
   have h := Lib.run_append_room_string (P := P) w t u ty e i ht hu hi hsize g n cap cur hg s hroom (by omega)
   rw [h] at hr
   injection hr with h1 h2
   subst h1 h2
   exact .inl rfl
  ·have holds : ∀ j u, xs[j]? = some u → w.cell? ((⟨g, 0, none⟩ : Addr).add j) = some u := hown.cells (g := g) rfl
   have h := Lib.run_append_grow_string (P := P) w t u ty e i (.int .u8 0) ht hu hi hz ⟨g, 0, none⟩ n cap xs (by rw [hsize]; simpa using hxl) holds s (by omega) (by omega) (by rw [hby]; exact growslice_fits (by omega) (by omega))
   rw [h] at hr
   injection hr with h1 h2
   subst h1 h2
   exact .inr rfl
theorem wpList_app_str {P : Program} {w : World} {ops : Array Oper} {rest : List Oper} {o : Oper} {a : Act} {Q : Exit → Act → World → Prop} (hgd : o.guard = none) (sl x : Operand) (t u : TypeId)
  (ho : o.op = .call { callee := .builtin .append, args := #[sl, x], argTypes := #[t, u] })
  (e : TypeId) (i : TypeInfo) (ht : P.underlying t = some (.slice e)) (hu : P.underlying u = some .string) (hi : P.info? e = some i) (hz : i.zero = some (.int .u8 0)) (hsize : i.size = 1) (hby : i.bytes = 1)
  (v : Value) (n : Nat) (xs : List Value) (hs : a.eval sl = v) (hown : w.ownsRow 0 e 1 v n xs) (s : ByteArray) (hx : a.eval x = .string s) (h63 : n + s.size ≤ maxLen) (hbytes : n + s.size ≤ 140737488355328)
  (h : ∀ v' w', w'.ownsRow 0 e 1 v' (n + s.size) (xs ++ Lib.strCells s) → w.grownBy w' v.ownBlock → (v'.ownBlock = v.ownBlock ∨ v'.ownBlock = some w.heap.size) → wpList P ops Q rest (a.put o.dst v') w') : wpList P ops Q (o :: rest) a w := by
 refine wpList_plain hgd fun K hK => ?_
 obtain ⟨v', w', hr, h2, h3, _⟩ := Lib.run_append_own_string (P := P) w 0 t u o.type e i ht hu hi hz hsize hby v n xs hown s h63 hbytes (Nat.zero_le _)
 have hb := app_str_blk ht hu hi hz hsize hby hown s h63 hbytes hr
 unfold Oper.wp execOp
 simp only [ho, resolve, invoke, builtin, Sem.run_bind, Sem.run_pure, Result.andThen_ok, List.map_toArray, List.map_cons, List.map_nil, hs, hx, hr]
 exact hK _ _ (h v' w' h2 h3 hb)
theorem own_ne {w : World} {e T : TypeId} {v : Value} {n : Nat} {xs : List Value} {b : Nat} {cs : Array Value} {fr : Nat × Nat} (hown : w.ownsRow 0 e 1 v n xs) (hb : w.heap[b]? = some (.cells cs T fr)) (hTe : T ≠ e) : v.ownBlock ≠ some b := fun q => by
 rcases hown.2 with ⟨rfl, _⟩ | ⟨g, cap, cur, rfl, _, hg, _⟩
 ·cases q
 ·have : g = b := by simpa [Value.ownBlock] using q
  subst this
  rw [hb] at hg
  injection hg with hg
  injection hg with _ hg _
  exact hTe hg
theorem bld_end {T : TypeId} (hTe : T ≠ 5) {b : Nat} {v v' : Value} {bs bs' : List Value} {w w1 w2 : World} (hbk : w1.heap[b]? = some (.cells #[.pointer (some ⟨b, 0, none⟩), v] T (0, 0))) (hown' : w2.ownsRow 0 5 1 v' bs'.length bs')
  (hb2 : w2.heap[b]? = some (.cells #[.pointer (some ⟨b, 0, none⟩), v] T (0, 0))) (hfr : Fr (fun k => k = b) w w1) (hfr2 : Fr (fun k => k = b ∨ v.ownBlock = some k) w1 w2) (hbl : ∀ k, v'.ownBlock = some k → v.ownBlock = some k ∨ w.heap.size ≤ k) :
  BldPost T b v bs' w (w2.setCell ⟨b, 1, none⟩ v') := by
 have hne := own_ne hown' hb2 hTe
 refine ⟨v', ⟨⟨_, .inr rfl, by rw [heap_set hb2]; rfl⟩, hown'.kept (gb_set _ _ _ _) (.inr hne), hne⟩, ?_, hbl⟩
 exact (fr_mono hfr fun k q => .inl q).trans (hfr2.trans (fr_set (.inl rfl) _ _))
set_option maxHeartbeats 2000000 in
set_option maxRecDepth 100000 in
theorem writeByte_any (T : TypeId) (hT : liesAt Tryd.prog Tryd.prog.depth T (2 / Tryd.prog.cellsOf T) 0 88 1 = true) (hTe : T ≠ 5) (b : Nat) (v : Value) (bs : List Value) (c : Int) (w : World) (h : BldV T b v bs w) (hlen : bs.length + 1 ≤ 140737488355328) :
  Calls Tryd.prog 81 #[.pointer (some ⟨b, 0, none⟩), .int .u8 c] w fun e w' => e = .returned .nilIface ∧ BldPost T b v (bs ++ [.int .u8 c]) w w' := by
 obtain ⟨i0, hi, hz0, hz1, hz2⟩ := info_parts info_u8
 have hne := h.2.2
 go_enter Tryd.func81, Tryd.ntmps81
 go_wp2_with (go_at_call 86; refine (copyCheck_any T hT b v bs _ h).mono ?_)
 rintro e w1 ⟨rfl, hbk, hown, hfr⟩
 have c0 : w1.cell? ⟨b, 0, none⟩ = some (.pointer (some ⟨b, 0, none⟩)) := by rw [Lib.cell_of_heap hbk]; rfl
 have c1 : w1.cell? ⟨b, 1, none⟩ = some v := by rw [Lib.cell_of_heap hbk]; rfl
 have hownA : (w1.alloc (.cells #[.int .u8 c] 5)).ownsRow 0 5 i0.size v bs.length bs := by rw [hz1]; exact hown.alloc _
 go_wp2_with (at_builtin; refine wpList_app rfl _ _ 82 rfl 5 i0 (.int .u8 0) Tryd.underlying82 hi hz0 (by rw [hz1]; rfl) (by omega) _ _ _ rfl hownA ⟨w1.heap.size, 0, none⟩ 1 1 [.int .u8 c] rfl (by rw [hz1]; rfl) ?c1 ?c2 ?c3 ?c4 ?_)
 case c1 =>
  intro j u hj
  match j, hj with
  | 0, hj => simp at hj; subst hj; simp [Addr.add]
 case c2 => intro u hu; simp at hu; subst hu; rfl
 case c3 => unfold maxLen; omega
 case c4 => rw [hz2]; omega
 intro v' w2 hown' hgrow hblk
 have hlt : b < w1.heap.size := (Array.getElem?_eq_some_iff.1 hbk).1
 have hb2 : w2.heap[b]? = some (.cells #[.pointer (some ⟨b, 0, none⟩), v] T (0, 0)) := by
  rw [hgrow.block b (by simp; omega) (fun e => hne e.symm), Lib.alloc_old w1 _ b hlt]
  exact hbk
 have d0 : w2.cell? ⟨b, 0, none⟩ = some (.pointer (some ⟨b, 0, none⟩)) := by rw [Lib.cell_of_heap hb2]; rfl
 have d1 : w2.cell? ⟨b, 1, none⟩ = some v := by rw [Lib.cell_of_heap hb2]; rfl
 have f1 : w2.frozen? ⟨b, 1, none⟩ = false := Lib.frozen_of_heap hb2 1
 obtain ⟨ao, n', cap, hv'⟩ : ∃ ao n' cap, v' = .slice ao n' cap := by
  rcases hown'.2 with ⟨q, _⟩ | ⟨g, cap, cur, q, _⟩
  ·exact ⟨_, _, _, q⟩
  ·exact ⟨_, _, _, q⟩
 have fin := bld_end (bs := bs) (bs' := bs ++ [.int .u8 c]) hTe hbk (by simpa using hown') hb2 hfr ((fr_alloc _ _ _).trans (fr_grown hgrow fun k q => .inr q)) (fun k hk => by
  rcases hblk with q | q
  ·exact .inl (by rw [← q]; exact hk)
  ·rw [q] at hk; injection hk with hk; right; have := hfr.size; (try simp at hk); omega)
 subst hv'
 go_wp2
 go_ret
 exact ⟨rfl, fin⟩
set_option maxHeartbeats 2000000 in
set_option maxRecDepth 100000 in
theorem writeString_any (T : TypeId) (hT : liesAt Tryd.prog Tryd.prog.depth T (2 / Tryd.prog.cellsOf T) 0 88 1 = true) (hTe : T ≠ 5) (b : Nat) (v : Value) (bs : List Value) (s : ByteArray) (w : World) (h : BldV T b v bs w) (hlen : bs.length + s.size ≤ 140737488355328) :
  Calls Tryd.prog 75 #[.pointer (some ⟨b, 0, none⟩), .string s] w fun e w' => e = .returned (.tuple #[.int .i64 s.size, .nilIface]) ∧ BldPost T b v (bs ++ Lib.strCells s) w w' := by
 obtain ⟨i0, hi, hz0, hz1, hz2⟩ := info_parts info_u8
 have hne := h.2.2
 go_enter Tryd.func75, Tryd.ntmps75
 go_wp2_with (go_at_call 86; refine (copyCheck_any T hT b v bs _ h).mono ?_)
 rintro e w1 ⟨rfl, hbk, hown, hfr⟩
 have c0 : w1.cell? ⟨b, 0, none⟩ = some (.pointer (some ⟨b, 0, none⟩)) := by rw [Lib.cell_of_heap hbk]; rfl
 have c1 : w1.cell? ⟨b, 1, none⟩ = some v := by rw [Lib.cell_of_heap hbk]; rfl
 go_wp2_with (at_builtin; refine wpList_app_str rfl _ _ 82 9 rfl 5 i0 Tryd.underlying82 Tryd.underlying9 hi hz0 hz1 hz2 _ _ _ rfl hown s rfl ?c3 ?c4 ?_)
 case c3 => unfold maxLen; omega
 case c4 => omega
 intro v' w2 hown' hgrow hblk
 have hlt : b < w1.heap.size := (Array.getElem?_eq_some_iff.1 hbk).1
 have hb2 : w2.heap[b]? = some (.cells #[.pointer (some ⟨b, 0, none⟩), v] T (0, 0)) := by
  rw [hgrow.block b hlt (fun e => hne e.symm)]
  exact hbk
 have d0 : w2.cell? ⟨b, 0, none⟩ = some (.pointer (some ⟨b, 0, none⟩)) := by rw [Lib.cell_of_heap hb2]; rfl
 have d1 : w2.cell? ⟨b, 1, none⟩ = some v := by rw [Lib.cell_of_heap hb2]; rfl
 have f1 : w2.frozen? ⟨b, 1, none⟩ = false := Lib.frozen_of_heap hb2 1
 obtain ⟨ao, n', cap, hv'⟩ : ∃ ao n' cap, v' = .slice ao n' cap := by
  rcases hown'.2 with ⟨q, _⟩ | ⟨g, cap, cur, q, _⟩
  ·exact ⟨_, _, _, q⟩
  ·exact ⟨_, _, _, q⟩
 have fin := bld_end (bs := bs) (bs' := bs ++ Lib.strCells s) hTe hbk (by simpa [Lib.strCells_length] using hown') hb2 hfr (fr_grown hgrow fun k q => .inr q) (fun k hk => by
  rcases hblk with q | q
  ·exact .inl (by rw [← q]; exact hk)
  ·rw [q] at hk; injection hk with hk; right; have := hfr.size; omega)
 subst hv'
 go_wp2
 go_ret2
 exact ⟨rfl, fin⟩
set_option maxHeartbeats 1000000 in
theorem len_any (T : TypeId) (b : Nat) (v : Value) (bs : List Value) (w : World) (h : BldV T b v bs w) :
  Calls Tryd.prog 82 #[.pointer (some ⟨b, 0, none⟩)] w fun e w' => e = .returned (.int .i64 bs.length) ∧ w' = w := by
 obtain ⟨⟨p, _, hbk⟩, hown, hne⟩ := h
 obtain ⟨ao, cap, rfl⟩ : ∃ ao cap, v = .slice ao bs.length cap := by
  rcases hown.2 with ⟨q, h0⟩ | ⟨g, cap, cur, q, _⟩
  ·exact ⟨none, 0, by rw [q, h0]⟩
  ·exact ⟨_, _, q⟩
 have c1 : w.cell? ⟨b, 1, none⟩ = some (.slice ao bs.length cap) := by rw [Lib.cell_of_heap hbk]; rfl
 go_enter Tryd.func82, Tryd.ntmps82
 go_wp2
 go_ret
 exact ⟨rfl, rfl⟩
set_option maxHeartbeats 1000000 in
set_option maxRecDepth 100000 in
theorem string_any (T : TypeId) (b : Nat) (v : Value) (l : List UInt8) (w : World) (h : BldV T b v (Lib.byteCells l) w) (h0 : l ≠ []) :
  Calls Tryd.prog 66 #[.pointer (some ⟨b, 0, none⟩)] w fun e w' => e = .returned (.string ⟨l.toArray⟩) ∧ Fr (fun k => k = b ∨ v.ownBlock = some k) w w' := by
 obtain ⟨⟨p, _, hbk⟩, hown, hne⟩ := h
 have hl0 : l.length ≠ 0 := by simpa using h0
 rw [Lib.byteCells_length] at hown
 obtain ⟨g, cap, cur, rfl, _, hg, hnc, hcm, hcs, htake⟩ := hown.2.resolve_left (fun q => hl0 q.2)
 have c1 : w.drew.cell? ⟨b, 1, none⟩ = some (.slice (some ⟨g, 0, none⟩) l.length cap) := by
  have : w.drew.heap[b]? = some (.cells #[p, .slice (some ⟨g, 0, none⟩) l.length cap] T (0, 0)) := hbk
  rw [Lib.cell_of_heap this]; rfl
 have hSD : (Builtin.unsafeSliceData_ #[82] 110 #[.slice (some ⟨g, 0, none⟩) l.length cap]).run Tryd.prog w.drew = .ok (.pointer (some ⟨g, 0, none⟩)) w.drew :=
  Lib.run_unsafeSliceData_row _ _ _ _ _ _ (by omega)
 have hUS : (Builtin.unsafeString_ #[110, 3] 9 #[.pointer (some ⟨g, 0, none⟩), .int .i64 l.length]).run Tryd.prog w.drew = .ok (.string ⟨l.toArray⟩) (w.drew.freeze ⟨g, 0, none⟩ l.length) := by
  refine Lib.run_unsafeString_row w.drew 110 3 9 5 Tryd.underlying110 (by kernel_rfl) g cur.size (by have hg' : w.drew.heap[g]? = some (.cells cur 5 (0, 0)) := hg; simp [World.shape?, hg']) l h0 (by omega) (by unfold maxLen at hcm; omega) ?_
  intro j x hx
  exact hown.cells (g := g) rfl j (.int .u8 x.toNat) (by simp [Lib.byteCells, hx])
 have hfr : Fr (fun k => k = b ∨ (Value.slice (some ⟨g, 0, none⟩) l.length cap).ownBlock = some k) w (w.drew.freeze ⟨g, 0, none⟩ l.length) := by
  unfold World.freeze
  rw [if_neg hl0]
  refine ⟨rfl, rfl, rfl, by simp, fun k hk hn => ?_⟩
  have : g ≠ k := fun e => hn (.inr (by rw [e]; rfl))
  simp [Array.getElem?_modify, this]
  rfl
 have mixed : Tryd.prog.follows .mixedOrders = true := by kernel_rfl
 go_enter Tryd.func66, Tryd.ntmps66
 go_wp2
 go_region_o
 all_goals (go_wp2; go_ret; exact ⟨rfl, hfr⟩)
end Go.Proofs.YtjhdlcmecbngkaaDoor
