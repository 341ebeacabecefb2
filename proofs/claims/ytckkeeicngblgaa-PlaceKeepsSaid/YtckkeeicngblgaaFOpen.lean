/- Arguments of any type made of numbers, texts, yes or no, structs and slices: what is known of them. -/
import Derived.Test.YtckkeeicngblgaaAbsG
import Derived.Test.YtckkeeicngblgaaLaw
import Derived.Deep.Slices
import Derived.Deep.Fields
import Derived.ChangeSame
import Derived.Lib.SmallJoins
import Derived.ProofKit
import Derived.OpenShut
namespace Go.Proofs.Ytckkeeicngblgaa
open Go.Joins Go.ChangeShapes Go.WideShapes Go.RowKit Go.Deep
set_option linter.unusedVariables false
inductive Ty where
  | i
  | s
  | b
  | l (row : List Ty)
inductive FitV : Ty → V → Prop where
  | i (n : Int) (h1 : -9223372036854775808 ≤ n) (h2 : n ≤ 9223372036854775807) : FitV .i (.v (.int .i64 n))
  | s (x : ByteArray) (h : x.size ≤ 9223372036854775807) : FitV .s (.v (.string x))
  | b (x : Bool) : FitV .b (.v (.bool x))
  | l (tys : List Ty) (rows : List (List V)) (hl : rows.length ≤ 9223372036854775807) (hr : ∀ row ∈ rows, tys.length = row.length) (h : ∀ row ∈ rows, ∀ (j : Nat) (t : Ty) (u : V), tys[j]? = some t → row[j]? = some u → FitV t u) : FitV (.l tys) (.sl false rows)
def Fits (tys : List Ty) (us : List V) : Prop := tys.length = us.length ∧ ∀ (j : Nat) (t : Ty) (u : V), tys[j]? = some t → us[j]? = some u → FitV t u
def tyFs (P : Program) (rc : TypeId → Option (List Ty)) : List Field → Nat → Option (List Ty)
  | [], _ => some []
  | f :: fs, off => match rc f.type with
    | some ts => if f.offset == off && P.cellsOf f.type == ts.length then (match tyFs P rc fs (off + ts.length) with
      | some r => some (ts ++ r)
      | none => none) else none
    | none => none
def tyOf (P : Program) : Nat → TypeId → Option (List Ty)
  | 0, _ => none
  | d + 1, t => match P.underlying t with
    | some (.int .i64) => some [.i]
    | some .string => some [.s]
    | some .bool => some [.b]
    | some (.struct fs) => match tyFs P (tyOf P d) fs.toList 0 with
      | some ts => if P.cellsOf t == ts.length then some ts else none
      | none => none
    | some (.slice e) => match tyOf P d e with
      | some ts => if P.cellsOf e == ts.length && 0 < ts.length then some [.l ts] else none
      | none => none
    | _ => none
section
variable {H : Type} {enc : TypeId × Value → H} {P : Program} {w : World} {base : Nat} {spare : Nat → Bool} {held : Bool}
/-- cells that read as what is known -/
def Reads (w : World) (tys : List Ty) (cs : List Value) (us : List V) : Prop :=
  Fits tys us ∧ cs.length = us.length ∧ ∀ (j : Nat) (u : V) (x : Value), us[j]? = some u → cs[j]? = some x → RV w (fun b => b < w.heap.size) noG u x
theorem Reads.app {t1 t2 : List Ty} {c1 c2 : List Value} {u1 u2 : List V} (h1 : Reads w t1 c1 u1) (h2 : Reads w t2 c2 u2) : Reads w (t1 ++ t2) (c1 ++ c2) (u1 ++ u2) := by
  obtain ⟨⟨a1, a2⟩, a3, a4⟩ := h1
  obtain ⟨⟨b1, b2⟩, b3, b4⟩ := h2
  refine ⟨⟨by simp [a1, b1], fun j t u g1 g2 => ?_⟩, by simp [a3, b3], fun j u x g1 g2 => ?_⟩
  · by_cases hj : j < t1.length
    · rw [List.getElem?_append_left hj] at g1
      rw [List.getElem?_append_left (by omega)] at g2
      exact a2 j t u g1 g2
    · rw [List.getElem?_append_right (by omega)] at g1 g2
      rw [← a1] at g2
      exact b2 _ t u g1 g2
  · by_cases hj : j < u1.length
    · rw [List.getElem?_append_left hj] at g1
      rw [List.getElem?_append_left (by omega)] at g2
      exact a4 j u x g1 g2
    · rw [List.getElem?_append_right (by omega)] at g1 g2
      rw [a3] at g2
      exact b4 _ u x g1 g2
theorem reads_one {t : Ty} {x : Value} {u : V} (h : FitV t u) (hr : RV w (fun b => b < w.heap.size) noG u x) : Reads w [t] [x] [u] := by
  refine ⟨⟨rfl, fun j t' u' g1 g2 => ?_⟩, rfl, fun j u' x' g1 g2 => ?_⟩
  · cases j with
    | zero => simp at g1 g2; subst g1 g2; exact h
    | succ j => simp at g1
  · cases j with
    | zero => simp at g1 g2; subst g1 g2; exact hr
    | succ j => simp at g1
theorem add_full (a : Addr) (n : Nat) (h : a.spot = none) : a.add n = ⟨a.block, a.off + n, none⟩ := by
  obtain ⟨b, o, sp⟩ := a
  simp only at h; subst h
  unfold Addr.add
  split <;> simp_all
theorem reads_fields {d fuel : Nat} {cs : List Value} (rc : ∀ (t : TypeId) (tys : List Ty) (cs : List Value) (x : DataW H × List MemPlace), tyOf P d t = some tys → DataW.trod enc P w base spare held fuel t cs = some x → ∃ us, Reads w tys cs us) :
    ∀ (fs : List Field) (off : Nat) (tys : List Ty) (xs : List (DataW H × List MemPlace)), tyFs P (tyOf P d) fs off = some tys → (∀ (i : Nat) (f : Field), fs[i]? = some f → ∃ x, DataW.trod enc P w base spare held fuel f.type ((cs.drop f.offset).take (P.cellsOf f.type)) = some x) →
      ∃ us, Reads w tys ((cs.drop off).take tys.length) us := by
  intro fs
  induction fs with
  | nil =>
    intro off tys xs h _
    simp only [tyFs, Option.some.injEq] at h; subst h
    exact ⟨[], ⟨rfl, by simp⟩, by simp, by simp⟩
  | cons f fs ih =>
    intro off tys xs h hf
    simp only [tyFs] at h
    split at h
    · rename_i ts hts
      split at h
      · rename_i hc
        simp only [Bool.and_eq_true, beq_iff_eq] at hc
        split at h
        · rename_i r hr
          injection h with h; subst h
          obtain ⟨x0, hx0⟩ := hf 0 f rfl
          obtain ⟨us1, h1⟩ := rc _ _ _ _ hts hx0
          obtain ⟨us2, h2⟩ := ih _ _ xs hr (fun i g hg => hf (i + 1) g (by simpa using hg))
          rw [hc.1, hc.2] at h1
          have hlen : ((cs.drop off).take ts.length).length = ts.length := by rw [h1.2.1, ← h1.1.1]
          refine ⟨us1 ++ us2, ?_⟩
          have e : (cs.drop off).take (ts ++ r).length = (cs.drop off).take ts.length ++ (cs.drop (off + ts.length)).take r.length := by
            rw [List.length_append, List.take_add, List.drop_drop]
          rw [e]
          exact h1.app h2
        · cases h
      · cases h
    · cases h
theorem reads_of : ∀ (d fuel : Nat) (t : TypeId) (tys : List Ty) (cs : List Value) (x : DataW H × List MemPlace), tyOf P d t = some tys → DataW.trod enc P w base spare held fuel t cs = some x → ∃ us, Reads w tys cs us := by
  intro d
  induction d with
  | zero => intro fuel t tys cs x h; cases h
  | succ d ih =>
    intro fuel t tys cs x h hd
    simp only [tyOf] at h
    split at h
    · rename_i hu
      injection h with h; subst h
      obtain ⟨n, rfl, _, hw⟩ := DataW.trod_int hu hd
      have hb : -9223372036854775808 ≤ n ∧ n ≤ 9223372036854775807 := by simpa [Lit.wf, IntKind.min, IntKind.max, IntKind.signed, IntKind.bits] using hw
      exact ⟨_, reads_one (.i n hb.1 hb.2) (.v _)⟩
    · rename_i hu
      injection h with h; subst h
      obtain ⟨s, rfl, _, hs⟩ := DataW.trod_string hu hd
      exact ⟨_, reads_one (.s s (by simpa [maxLen] using hs)) (.v _)⟩
    · rename_i hu
      injection h with h; subst h
      obtain ⟨s, rfl, _⟩ := DataW.trod_bool hu hd
      exact ⟨_, reads_one (.b s) (.v _)⟩
    · rename_i fs hu
      split at h
      · rename_i ts hts
        split at h
        · rename_i hc
          simp only [beq_iff_eq] at hc
          injection h with h; subst h
          obtain ⟨xs, n, rfl, _, hcl, hxl, hf⟩ := DataW.trod_struct hu hd
          obtain ⟨us, hus⟩ := reads_fields (cs := cs) (fun t tys cs x h1 h2 => ih n t tys cs x h1 h2) fs.toList 0 ts xs hts (fun i f hi => by
            have hi' : fs[i]? = some f := by simpa using hi
            have hlt : i < xs.length := by rw [hxl]; exact (Array.getElem?_eq_some_iff.1 hi').1
            exact ⟨_, (hf i f hi').trans (List.getElem?_eq_getElem hlt)⟩)
          refine ⟨us, ?_⟩
          rwa [List.drop_zero, ← hc, ← hcl, List.take_length] at hus
        · cases h
      · cases h
    · rename_i e hu
      split at h
      · rename_i ts hts
        split at h
        · rename_i hc
          simp only [Bool.and_eq_true, beq_iff_eq, decide_eq_true_eq] at hc
          injection h with h; subst h
          rcases open_slice hu hd with ⟨rfl, _⟩ | ⟨a, len, cap, m, n, D, Pl, rfl, hb, hl, hm, hmm, _, hi⟩
          · exact ⟨[.sl false []], reads_one (.l _ [] (by simp) (by simp) (by simp)) (.nil _ _ _ (by simp))⟩
          · have hlm : len ≤ m := by rw [hmm]; split <;> omega
            have hall : ∀ i : Nat, ∃ p : List Value × List V, i < len → Reads w ts p.1 p.2 ∧ ∀ j, j < ts.length → w.cell? (a.add (i * ts.length + j)) = p.1[j]? := fun i => by
              by_cases hil : i < len
              · obtain ⟨cs', h1, h2⟩ := hi i (by omega)
                obtain ⟨us, hus⟩ := ih n e ts cs' _ hts h2
                obtain ⟨_, h3, h4⟩ := World.cells?_some h1
                rw [hc.1] at h3 h4
                exact ⟨(cs', us), fun _ => ⟨hus, fun j hj => by rw [← Go.Deep.add_add]; exact h4 j hj⟩⟩
              · exact ⟨([], []), fun h => absurd h hil⟩
            obtain ⟨f, hf⟩ := Classical.axiomOfChoice hall
            have hsp : 0 < len → a.spot = none ∧ a.block < w.heap.size := fun h0 => by
              obtain ⟨h1, h2⟩ := hf 0 h0
              have hx := h2 0 hc.2
              have hlt : 0 < (f 0).1.length := by rw [h1.2.1, ← h1.1.1]; exact hc.2
              rw [List.getElem?_eq_getElem hlt] at hx
              have e : a.add (0 * ts.length + 0) = a := by simp [Addr.add]
              rw [e] at hx
              refine ⟨?_, World.block_lt_of_cell? w _ hx⟩
              unfold World.cell? at hx
              split at hx
              · cases hq : a.spot with
                | none => rfl
                | some k => simp [hq] at hx
              · cases hx
            refine ⟨[.sl false ((List.range len).map fun i => (f i).2)], reads_one (.l _ _ (by simp only [List.length_map, List.length_range]; simp only [maxLen] at hm; omega) ?_ ?_) ?_⟩
            · intro row hrow
              simp only [List.mem_map, List.mem_range] at hrow
              obtain ⟨i, hil, rfl⟩ := hrow
              exact (hf i hil).1.1.1
            · intro row hrow j t u g1 g2
              simp only [List.mem_map, List.mem_range] at hrow
              obtain ⟨i, hil, rfl⟩ := hrow
              exact (hf i hil).1.1.2 j t u g1 g2
            · rcases Nat.eq_zero_or_pos len with h0 | h0
              · subst h0; exact .nil _ _ _ (by simp)
              · obtain ⟨h1, h2⟩ := hsp h0
                obtain ⟨b, off, sp⟩ := a
                simp only at h1 h2
                subst h1
                have hrows : ∀ (i : Nat) (row : List V), ((List.range len).map fun i => (f i).2)[i]? = some row → i < len ∧ row = (f i).2 := fun i row h => by
                  have hlt := (List.getElem?_eq_some_iff.1 h).1
                  simp only [List.length_map, List.length_range] at hlt
                  simp [hlt] at h
                  exact ⟨hlt, h.symm⟩
                have e := RV.sl (w := w) (R := fun b => b < w.heap.size) (G := noG) false ((List.range len).map fun i => (f i).2) b off cap ts.length (fun i j => ((f i).1[j]?).getD undef) h2 (by simpa using hl) (by simp) (by
                    intro row hrow
                    simp only [List.mem_map, List.mem_range] at hrow
                    obtain ⟨i, hil, rfl⟩ := hrow
                    exact (hf i hil).1.1.1.symm) (by
                    intro i j row u g1 g2
                    obtain ⟨hil, rfl⟩ := hrows i row g1
                    have hj : j < ts.length := by have := (List.getElem?_eq_some_iff.1 g2).1; rw [(hf i hil).1.1.1]; exact this
                    have hjl : j < (f i).1.length := by rw [(hf i hil).1.2.1, ← (hf i hil).1.1.1]; exact hj
                    have hx := (hf i hil).2 j hj
                    rw [add_full _ _ rfl, List.getElem?_eq_getElem hjl] at hx
                    rw [List.getElem?_eq_getElem hjl]
                    simp only [Option.getD_some]
                    rw [Nat.add_assoc]; exact hx) (by
                    intro i j row u g1 g2
                    obtain ⟨hil, rfl⟩ := hrows i row g1
                    have hj : j < ts.length := by have := (List.getElem?_eq_some_iff.1 g2).1; rw [(hf i hil).1.1.1]; exact this
                    have hjl : j < (f i).1.length := by rw [(hf i hil).1.2.1, ← (hf i hil).1.1.1]; exact hj
                    rw [List.getElem?_eq_getElem hjl]
                    exact (hf i hil).1.2.2 j u _ g2 (List.getElem?_eq_getElem hjl))
                have e2 : ((List.range len).map fun i => (f i).2).length = len := by simp
                rw [e2] at e
                exact e
        · cases h
      · cases h
    · cases h
/-- an argument -/
theorem open_one {t : TypeId} {ty : Ty} {v : Value} {d : DataW H} {p : List MemPlace} {dp : Nat} (ht : tyOf P dp t = some [ty]) (hv : v.cells.toList = [v]) (h : DataW.Trod enc P w base spare held t v d p) :
    ∃ u, FitV ty u ∧ RV w (fun b => b < w.heap.size) noG u v := by
  obtain ⟨fuel, hf⟩ := h
  rw [hv] at hf
  obtain ⟨us, ⟨h1, h2⟩, h3, h4⟩ := reads_of dp fuel t _ _ _ ht hf
  match us, h3 with
  | [u], _ => exact ⟨u, h2 0 _ _ rfl rfl, h4 0 _ _ rfl rfl⟩
theorem open_struct {t : TypeId} {tys : List Ty} {r : Reach} {b0 : Nat} {v : Value} {fs : Array Field} {d : DataW H} {p : List MemPlace} {dp : Nat} (hs : P.underlying t = some (.struct fs)) (ht : tyOf P dp t = some tys) (hv : Value.okWide P w r b0 t v) (h : DataW.Trod enc P w base spare held t v d p) :
    ∃ us, Fits tys us ∧ RV w (fun b => b < w.heap.size) noG (.agg us) v := by
  obtain ⟨cs, rfl, hsz⟩ := okWide_struct hs hv
  obtain ⟨fuel, hf⟩ := h
  obtain ⟨us, h1, h3, h4⟩ := reads_of dp fuel t _ _ _ ht hf
  obtain ⟨cs⟩ := cs
  exact ⟨us, h1, .agg us cs h3.symm h4⟩
theorem open_list {t e : TypeId} {ty : Ty} {r : Reach} {b0 : Nat} {v : Value} {d : DataW H} {p : List MemPlace} {dp : Nat} (hs : P.underlying t = some (.slice e)) (ht : tyOf P dp t = some [ty]) (hv : Value.okWide P w r b0 t v) (h : DataW.Trod enc P w base spare held t v d p) :
    ∃ u, FitV ty u ∧ RV w (fun b => b < w.heap.size) noG u v := by
  obtain ⟨a, len, cap, rfl⟩ := okWide_slice hs hv
  exact open_one ht rfl h
end
/-! what fits, as data -/
theorem fits_cons {t : Ty} {ts : List Ty} {us : List V} (h : Fits (t :: ts) us) : ∃ u us', us = u :: us' ∧ FitV t u ∧ Fits ts us' := by
  obtain ⟨h1, h2⟩ := h
  match us, h1 with
  | u :: us', h1 => exact ⟨u, us', rfl, h2 0 _ _ rfl rfl, by simpa using h1, fun j t' u' g1 g2 => h2 (j + 1) t' u' (by simpa using g1) (by simpa using g2)⟩
theorem fits_nil {us : List V} (h : Fits [] us) : us = [] := List.eq_nil_of_length_eq_zero h.1.symm
theorem fit_i {u : V} (h : FitV .i u) : ∃ n : Int, u = .v (.int .i64 n) ∧ -9223372036854775808 ≤ n ∧ n ≤ 9223372036854775807 := by cases h with | i n h1 h2 => exact ⟨n, rfl, h1, h2⟩
theorem fit_s {u : V} (h : FitV .s u) : ∃ x : ByteArray, u = .v (.string x) ∧ x.size ≤ 9223372036854775807 := by cases h with | s x h => exact ⟨x, rfl, h⟩
theorem fit_b {u : V} (h : FitV .b u) : ∃ x : Bool, u = .v (.bool x) := by cases h with | b x => exact ⟨x, rfl⟩
theorem fit_l {tys : List Ty} {u : V} (h : FitV (.l tys) u) : ∃ rows, u = .sl false rows ∧ rows.length ≤ 9223372036854775807 ∧ ∀ row ∈ rows, Fits tys row := by
  cases h with | l tys rows hl hr h => exact ⟨rows, rfl, hl, fun row hm => ⟨hr row hm, h row hm⟩⟩
theorem rows_dec {α : Type} {enc : α → List V} {p : α → Prop} {tys : List Ty} (hd : ∀ row, Fits tys row → ∃ x : α, row = enc x ∧ p x) : ∀ (rows : List (List V)), (∀ row ∈ rows, Fits tys row) → ∃ l : List α, rows = l.map enc ∧ ∀ x ∈ l, p x
  | [], _ => ⟨[], rfl, by simp⟩
  | row :: rows, h => by
    obtain ⟨x, hx, px⟩ := hd row (h row (by simp))
    obtain ⟨l, hl, pl⟩ := rows_dec hd rows fun r hr => h r (by simp [hr])
    exact ⟨x :: l, by simp [hx, hl], by simpa using ⟨px, pl⟩⟩
theorem fit_list {α : Type} {enc : α → List V} {p : α → Prop} {tys : List Ty} {u : V} (hd : ∀ row, Fits tys row → ∃ x : α, row = enc x ∧ p x) (h : FitV (.l tys) u) : ∃ l : List α, u = .sl false (l.map enc) ∧ l.length ≤ 9223372036854775807 ∧ ∀ x ∈ l, p x := by
  obtain ⟨rows, rfl, hl, hr⟩ := fit_l h
  obtain ⟨l, rfl, hp⟩ := rows_dec hd rows hr
  exact ⟨l, rfl, by simpa using hl, hp⟩
/-! functions whose contracts are at hand in another form -/
theorem pars_v {w : World} {R : Nat → Prop} : ∀ {xs ys : List Value}, Pars w R (xs.map fun x => .c (.v x)) ys → ys = xs
  | xs, ys, h => by
    apply List.ext_getElem?
    intro i
    have hl := h.len
    rw [List.length_map] at hl
    by_cases hi : i < xs.length
    · have h1 : xs[i]? = some xs[i] := List.getElem?_eq_getElem hi
      have h2 : ys[i]? = some (ys[i]'(by omega)) := List.getElem?_eq_getElem (by omega)
      have h3 : ParOk w R (.c (.v xs[i])) (ys[i]'(by omega)) := h.ok i _ _ (by rw [List.getElem?_map, h1]; rfl) h2
      have h4 : RV w R noG (.v xs[i]) (ys[i]'(by omega)) := h3
      rw [h1, h2, rv_v h4]
    · rw [List.getElem?_eq_none (by omega), List.getElem?_eq_none (by omega)]
theorem no_blk {ps : List Par} {xs : List Value} {b : Nat} (h : ∀ p ∈ ps, ∃ u, p = .c u) : ¬ ParBlk ps xs b := by
  rintro ⟨i, T, sz, rows, x, h1, _⟩
  obtain ⟨u, hu⟩ := h _ (List.mem_of_getElem? h1)
  cases hu
theorem fr_of_below {L : Nat → Prop} {w w' : World} (h : Below w.heap.size w w') : Fr L w w' := ⟨h.os, h.tape, h.output, h.size, fun k hk _ => h.block k hk⟩
theorem fun_flat {P : Program} {f : FuncId} {xs : List Value} {v : Value} (hc : Callable P f) (h : ∀ w, Calls P f xs.toArray w fun e w' => e = .returned v ∧ Below w.heap.size w w') : Fun P f (xs.map fun x => .c (.v x)) [.c (.v v)] := by
  refine ⟨hc, fun w R ys hlt hp => ?_⟩
  obtain rfl := pars_v hp
  refine (h w).mono fun e w' ⟨he, hb⟩ => ⟨[v], R, by rw [he]; rfl, fr_of_below hb, fun _ h => h, fun b h => .inl h, ⟨rfl, ?_, ?_, ?_⟩, ?_⟩
  · intro i p x h1 h2
    cases i with
    | zero => simp at h1 h2; subst h1 h2; exact .v _
    | succ i => simp at h1
  · intro i j T sz rows T' sz' rows' x y b _ h1
    cases i with
    | zero => simp at h1
    | succ i => simp at h1
  · intro b hb'
    exact absurd hb' (no_blk (by simp))
  · intro b hb'
    exact absurd hb' (no_blk (by simp))
theorem callable {P : Program} {f : FuncId} {fn : Func} (h1 : P.funcs[f]? = some fn) (h2 : (fn.name == "runtime.NumGoroutine") = false) (h3 : fn.body.isNone = false) : Callable P f := ⟨fn, h1, h2, h3⟩
/-- a law's walk -/
theorem tie {P : Program} {f : FuncId} {ps : List Par} {xs : List Value} {v : Value} {w : World} (hF : Fun P f ps [.c (.v v)]) (hc : ∀ p ∈ ps, ∃ u, p = .c u) (hl : ps.length = xs.length)
    (hp : ∀ (i : Nat) (u : V) (x : Value), ps[i]? = some (.c u) → xs[i]? = some x → RV w (fun b => b < w.heap.size) noG u x) : Calls P f xs.toArray w fun e w' => e = .returned v ∧ Below w.heap.size w w' := by
  refine (hF.2 w (fun b => b < w.heap.size) xs (fun _ h => h) ⟨hl, ?_, ?_, ?_⟩).mono ?_
  · intro i p x h1 h2
    obtain ⟨u, rfl⟩ := hc p (List.mem_of_getElem? h1)
    exact hp i u x h1 h2
  · intro i j T sz rows T' sz' rows' x y b _ h1
    obtain ⟨u, hu⟩ := hc _ (List.mem_of_getElem? h1)
    cases hu
  · intro b hb; exact absurd hb (no_blk hc)
  · rintro e w' ⟨ys, R', rfl, hfr, _, _, hpr, _⟩
    have hy : ys.length = 1 := hpr.len.symm
    match ys, hy with
    | [y], _ =>
      have : RV w' R' noG (.v v) y := hpr.ok 0 _ y rfl rfl
      obtain rfl := rv_v this
      exact ⟨rfl, hfr.os, hfr.tape, hfr.output, hfr.size, fun k hk => hfr.block k hk (no_blk hc)⟩
def RVL (w : World) : List V → List Value → Prop
  | [], [] => True
  | u :: us, x :: xs => RV w (fun b => b < w.heap.size) noG u x ∧ RVL w us xs
  | _, _ => False
theorem rvl_len {w : World} : ∀ {us : List V} {xs : List Value}, RVL w us xs → us.length = xs.length
  | [], [], _ => rfl
  | u :: us, x :: xs, h => by simp [rvl_len h.2]
  | [], _ :: _, h => h.elim
  | _ :: _, [], h => h.elim
theorem rvl_at {w : World} : ∀ {us : List V} {xs : List Value}, RVL w us xs → ∀ (i : Nat) (u : V) (x : Value), us[i]? = some u → xs[i]? = some x → RV w (fun b => b < w.heap.size) noG u x
  | [], [], _, i, u, x, h1, _ => by simp at h1
  | u' :: us, x' :: xs, h, 0, u, x, h1, h2 => by simp at h1 h2; subst h1 h2; exact h.1
  | u' :: us, x' :: xs, h, i + 1, u, x, h1, h2 => rvl_at h.2 i u x (by simpa using h1) (by simpa using h2)
  | [], _ :: _, h, _, _, _, _, _ => h.elim
  | _ :: _, [], h, _, _, _, _, _ => h.elim
theorem tieL {P : Program} {f : FuncId} {us : List V} {xs : List Value} {v : Value} {w : World} (hF : Fun P f (us.map .c) [.c (.v v)]) (h : RVL w us xs) : Calls P f xs.toArray w fun e w' => e = .returned v ∧ Below w.heap.size w w' :=
  tie hF (by simp) (by rw [List.length_map]; exact rvl_len h) (fun i u x h1 h2 => by
    rw [List.getElem?_map] at h1
    cases hq : us[i]? with
    | none => rw [hq] at h1; cases h1
    | some u' => rw [hq] at h1; simp at h1; subst h1; exact rvl_at h i u' x hq h2)
theorem parsC {w : World} {R : Nat → Prop} : ∀ {us : List V} {xs : List Value}, us.length = xs.length → (∀ (i : Nat) (u : V) (x : Value), us[i]? = some u → xs[i]? = some x → RV w R noG u x) → True := fun _ _ => trivial
end Go.Proofs.Ytckkeeicngblgaa
