/- Texts of this claim, joined. -/
import Derived.Test.YtjhdlcmecbngkaaRows
import Derived.WalkKit
import Derived.ProofKit
import Derived.OpenShut
import Derived.Below
import Derived.ChangeSame
import Derived.Test.YtjhdlcmecbngkaaAbsG
import Derived.Deep.Slices
import Derived.Deep.Fields
import Derived.Lib.SmallJoins
import Derived.Test.YtjhdlcmecbngkaaAbsQ
import Derived.Shelf.SlSortCmp.NoneTotal
import Derived.Test.YtjhdlcmecbngkaaProg
import Derived.KernelRfl
import Derived.WalkSmall
import Derived.WalkLawsBesides
import Derived.BigGuardPart
import Derived.Deep.Light
import Derived.Laws.IdiomStrings
/- The frame that every law of mine shares: the call returned true and below the heap's old size nothing has turned; so the row's post holds, whatever the arguments are. -/
namespace Go.Proofs.Ytjhdlcmecbngkaa
open Go.ChangeShapes Go.WideShapes Go.ChangeAt Go.RowKit
set_option linter.unusedVariables false
section
variable {H : Type} {enc : TypeId × Value → H} {P : Program}

theorem trodAll_stays (hl : laidOutB P = true) {W W' : World} {B : Nat} (hb : Below B W W') (sp : Nat → Bool) :
    ∀ {ts : List TypeId} {vs : List Value} {ds : List (DataW H)} {p : List MemPlace}, (∀ t ∈ ts, P.readableRec t = true ∧ t < P.types.size) →
      DataW.TrodAll enc P W 0 (fun _ => true) true ts vs ds p → (∀ x ∈ p, sp x.block = true) → (∀ x ∈ p, x.block < B) → B = W.heap.size → DataW.TrodAll enc P W' 0 sp true ts vs ds p
  | [], _, _, _, _, h, _, _, _ => by
    obtain ⟨rfl, rfl, rfl⟩ := trodAll_nil h
    exact trodAll_mk0
  | t :: ts, _, _, _, ht, h, hs, hlt, hB => by
    obtain ⟨v, vs1, d, ds1, a, b, rfl, rfl, rfl, h1, h2⟩ := trodAll_cons h
    obtain ⟨hr, hrow⟩ := ht t (by simp)
    subst hB
    refine ⟨a, b, WideElems.Trod_stays hl hr hrow h1 (fun x hx => hb.same (hlt x (by simp [hx]))) (fun x hx => hs x (by simp [hx])), ?_, rfl⟩
    exact trodAll_stays hl hb sp (fun t h => ht t (by simp [h])) h2 (fun x hx => hs x (by simp [hx])) (fun x hx => hlt x (by simp [hx])) rfl

theorem law_post {f : Func} {s : ChangeSpec} {apart fresh handsOn again : Bool} {W W' : World} {args : Array Value} {ds gs : List (DataW H)} {before : List MemPlace} {tb : TypeId}
    (hW : DataW.Whole enc P f.params.toList s.vars apart W args.toList ds gs before) (hl : laidOutB P = true) (hr : ∀ t ∈ f.params.toList, P.readableRec t = true ∧ t < P.types.size)
    (hv : s.vars = []) (hf : s.fn H (ds ++ gs) = { results := [.lit (.bool true)], args := ds }) (hres : f.resultTypes = #[tb]) (hbool : P.underlying tb = some .bool)
    (hb : Below W.heap.size W W') : s.post enc P f apart fresh handsOn again W args (.bool true) W' := by
  have hW0 := hW
  have hlt : ∀ p ∈ before, p.block < W.heap.size := fun p hp => hW.lt p hp
  obtain ⟨p, q, hA, hV, rfl, hz, hn⟩ := hW
  rw [hv] at hV
  obtain ⟨rfl, rfl⟩ := trodVars_none hV
  simp only [List.append_nil] at *
  have hst : ∀ sp : Nat → Bool, (∀ x ∈ p, sp x.block = true) → DataW.TrodAll enc P W' 0 sp true f.params.toList args.toList ds p := fun sp hs => trodAll_stays hl hb sp hr hA hs hlt rfl
  have hold : ∀ x ∈ p, (fun b => decide (b < W.heap.size)) x.block = true := fun x hx => by simpa using hlt x hx
  have hR : ∀ (b : Nat) (sp : Nat → Bool) (hd : Bool), DataW.TrodAll enc P W' b sp hd f.resultTypes.toList ((Value.bool true).resultList f.resultTypes.size) [.lit (.bool true)] [] := fun b sp hd => by
    rw [hres]
    exact trodAll_cons_mk (shut_bool hbool _) trodAll_mk0
  refine ⟨ds, [], p, [], p, [], hW0, ?_, ?_, ?_, ?_, fun _ => ?_⟩
  · rw [List.append_nil, hf]; exact hR _ _ _
  · rw [List.append_nil, hf]; exact hst _ hold
  · rw [List.append_nil, hv, hf]; rfl
  · exact World.keptBut_mono (fun x hx => ⟨hx, by simp [hx]⟩) (hb.frame (· ∈ p))
  · obtain ⟨_, _, _, _, _, hz', hn'⟩ := hW0
    refine ⟨ok_one hres rfl (okWide_bool_mk hbool _), _, [], ([] ++ p) ++ [], ⟨[] ++ p, [], trodAll_append (hst _ (fun _ _ => rfl)) (hR _ _ _), ?_, rfl, ?_, ?_⟩, ?_⟩
    · rw [hv]; rfl
    · intro b off hp
      rw [hb.frozen (hlt _ (by simpa using hp))]
      exact hz b off (by simpa using hp)
    · intro ha
      simpa using hn ha
    · intro x hx _
      simpa using hx
end
end Go.Proofs.Ytjhdlcmecbngkaa
/- Arguments of any type made of numbers, texts, yes or no, structs and slices: what is known of them. -/
namespace Go.Proofs.Ytjhdlcmecbngkaa
open Go.Joins Go.ChangeShapes Go.WideShapes Go.RowKit Go.Deep
set_option linter.unusedVariables false
inductive Ty where
  | i
  | s
  | b
  | l (row : List Ty)
inductive FitV : Ty → V → Prop where
  | i (n : Int) (h1 : -9223372036854775808 ≤ n) (h2 : n ≤ 9223372036854775807) : FitV .i (.v (.int .i64 n))
  | s (x : ByteArray) (h : x.size ≤ 9223372036854775807) : FitV .s (.v (.string x))
  | b (x : Bool) : FitV .b (.v (.bool x))
  | l (tys : List Ty) (rows : List (List V)) (hl : rows.length ≤ 9223372036854775807) (hr : ∀ row ∈ rows, tys.length = row.length) (h : ∀ row ∈ rows, ∀ (j : Nat) (t : Ty) (u : V), tys[j]? = some t → row[j]? = some u → FitV t u) : FitV (.l tys) (.sl false rows)
def Fits (tys : List Ty) (us : List V) : Prop := tys.length = us.length ∧ ∀ (j : Nat) (t : Ty) (u : V), tys[j]? = some t → us[j]? = some u → FitV t u
def tyFs (P : Program) (rc : TypeId → Option (List Ty)) : List Field → Nat → Option (List Ty)
  | [], _ => some []
  | f :: fs, off => match rc f.type with
    | some ts => if f.offset == off && P.cellsOf f.type == ts.length then (match tyFs P rc fs (off + ts.length) with
      | some r => some (ts ++ r)
      | none => none) else none
    | none => none
def tyOf (P : Program) : Nat → TypeId → Option (List Ty)
  | 0, _ => none
  | d + 1, t => match P.underlying t with
    | some (.int .i64) => some [.i]
    | some .string => some [.s]
    | some .bool => some [.b]
    | some (.struct fs) => match tyFs P (tyOf P d) fs.toList 0 with
      | some ts => if P.cellsOf t == ts.length then some ts else none
      | none => none
    | some (.slice e) => match tyOf P d e with
      | some ts => if P.cellsOf e == ts.length && 0 < ts.length then some [.l ts] else none
      | none => none
    | _ => none
section
variable {H : Type} {enc : TypeId × Value → H} {P : Program} {w : World} {base : Nat} {spare : Nat → Bool} {held : Bool}
/-- cells that read as what is known -/
def Reads (w : World) (tys : List Ty) (cs : List Value) (us : List V) : Prop :=
  Fits tys us ∧ cs.length = us.length ∧ ∀ (j : Nat) (u : V) (x : Value), us[j]? = some u → cs[j]? = some x → RV w (fun b => b < w.heap.size) noG u x
theorem Reads.app {t1 t2 : List Ty} {c1 c2 : List Value} {u1 u2 : List V} (h1 : Reads w t1 c1 u1) (h2 : Reads w t2 c2 u2) : Reads w (t1 ++ t2) (c1 ++ c2) (u1 ++ u2) := by
  obtain ⟨⟨a1, a2⟩, a3, a4⟩ := h1
  obtain ⟨⟨b1, b2⟩, b3, b4⟩ := h2
  refine ⟨⟨by simp [a1, b1], fun j t u g1 g2 => ?_⟩, by simp [a3, b3], fun j u x g1 g2 => ?_⟩
  · by_cases hj : j < t1.length
    · rw [List.getElem?_append_left hj] at g1
      rw [List.getElem?_append_left (by omega)] at g2
      exact a2 j t u g1 g2
    · rw [List.getElem?_append_right (by omega)] at g1 g2
      rw [← a1] at g2
      exact b2 _ t u g1 g2
  · by_cases hj : j < u1.length
    · rw [List.getElem?_append_left hj] at g1
      rw [List.getElem?_append_left (by omega)] at g2
      exact a4 j u x g1 g2
    · rw [List.getElem?_append_right (by omega)] at g1 g2
      rw [a3] at g2
      exact b4 _ u x g1 g2
theorem reads_one {t : Ty} {x : Value} {u : V} (h : FitV t u) (hr : RV w (fun b => b < w.heap.size) noG u x) : Reads w [t] [x] [u] := by
  refine ⟨⟨rfl, fun j t' u' g1 g2 => ?_⟩, rfl, fun j u' x' g1 g2 => ?_⟩
  · cases j with
    | zero => simp at g1 g2; subst g1 g2; exact h
    | succ j => simp at g1
  · cases j with
    | zero => simp at g1 g2; subst g1 g2; exact hr
    | succ j => simp at g1
theorem add_full (a : Addr) (n : Nat) (h : a.spot = none) : a.add n = ⟨a.block, a.off + n, none⟩ := by
  obtain ⟨b, o, sp⟩ := a
  simp only at h; subst h
  unfold Addr.add
  split <;> simp_all
theorem reads_fields {d fuel : Nat} {cs : List Value} (rc : ∀ (t : TypeId) (tys : List Ty) (cs : List Value) (x : DataW H × List MemPlace), tyOf P d t = some tys → DataW.trod enc P w base spare held fuel t cs = some x → ∃ us, Reads w tys cs us) :
    ∀ (fs : List Field) (off : Nat) (tys : List Ty) (xs : List (DataW H × List MemPlace)), tyFs P (tyOf P d) fs off = some tys → (∀ (i : Nat) (f : Field), fs[i]? = some f → ∃ x, DataW.trod enc P w base spare held fuel f.type ((cs.drop f.offset).take (P.cellsOf f.type)) = some x) →
      ∃ us, Reads w tys ((cs.drop off).take tys.length) us := by
  intro fs
  induction fs with
  | nil =>
    intro off tys xs h _
    simp only [tyFs, Option.some.injEq] at h; subst h
    exact ⟨[], ⟨rfl, by simp⟩, by simp, by simp⟩
  | cons f fs ih =>
    intro off tys xs h hf
    simp only [tyFs] at h
    split at h
    · rename_i ts hts
      split at h
      · rename_i hc
        simp only [Bool.and_eq_true, beq_iff_eq] at hc
        split at h
        · rename_i r hr
          injection h with h; subst h
          obtain ⟨x0, hx0⟩ := hf 0 f rfl
          obtain ⟨us1, h1⟩ := rc _ _ _ _ hts hx0
          obtain ⟨us2, h2⟩ := ih _ _ xs hr (fun i g hg => hf (i + 1) g (by simpa using hg))
          rw [hc.1, hc.2] at h1
          have hlen : ((cs.drop off).take ts.length).length = ts.length := by rw [h1.2.1, ← h1.1.1]
          refine ⟨us1 ++ us2, ?_⟩
          have e : (cs.drop off).take (ts ++ r).length = (cs.drop off).take ts.length ++ (cs.drop (off + ts.length)).take r.length := by
            rw [List.length_append, List.take_add, List.drop_drop]
          rw [e]
          exact h1.app h2
        · cases h
      · cases h
    · cases h
theorem reads_of : ∀ (d fuel : Nat) (t : TypeId) (tys : List Ty) (cs : List Value) (x : DataW H × List MemPlace), tyOf P d t = some tys → DataW.trod enc P w base spare held fuel t cs = some x → ∃ us, Reads w tys cs us := by
  intro d
  induction d with
  | zero => intro fuel t tys cs x h; cases h
  | succ d ih =>
    intro fuel t tys cs x h hd
    simp only [tyOf] at h
    split at h
    · rename_i hu
      injection h with h; subst h
      obtain ⟨n, rfl, _, hw⟩ := DataW.trod_int hu hd
      have hb : -9223372036854775808 ≤ n ∧ n ≤ 9223372036854775807 := by simpa [Lit.wf, IntKind.min, IntKind.max, IntKind.signed, IntKind.bits] using hw
      exact ⟨_, reads_one (.i n hb.1 hb.2) (.v _)⟩
    · rename_i hu
      injection h with h; subst h
      obtain ⟨s, rfl, _, hs⟩ := DataW.trod_string hu hd
      exact ⟨_, reads_one (.s s (by simpa [maxLen] using hs)) (.v _)⟩
    · rename_i hu
      injection h with h; subst h
      obtain ⟨s, rfl, _⟩ := DataW.trod_bool hu hd
      exact ⟨_, reads_one (.b s) (.v _)⟩
    · rename_i fs hu
      split at h
      · rename_i ts hts
        split at h
        · rename_i hc
          simp only [beq_iff_eq] at hc
          injection h with h; subst h
          obtain ⟨xs, n, rfl, _, hcl, hxl, hf⟩ := DataW.trod_struct hu hd
          obtain ⟨us, hus⟩ := reads_fields (cs := cs) (fun t tys cs x h1 h2 => ih n t tys cs x h1 h2) fs.toList 0 ts xs hts (fun i f hi => by
            have hi' : fs[i]? = some f := by simpa using hi
            have hlt : i < xs.length := by rw [hxl]; exact (Array.getElem?_eq_some_iff.1 hi').1
            exact ⟨_, (hf i f hi').trans (List.getElem?_eq_getElem hlt)⟩)
          refine ⟨us, ?_⟩
          rwa [List.drop_zero, ← hc, ← hcl, List.take_length] at hus
        · cases h
      · cases h
    · rename_i e hu
      split at h
      · rename_i ts hts
        split at h
        · rename_i hc
          simp only [Bool.and_eq_true, beq_iff_eq, decide_eq_true_eq] at hc
          injection h with h; subst h
          rcases open_slice hu hd with ⟨rfl, _⟩ | ⟨a, len, cap, m, n, D, Pl, rfl, hb, hl, hm, hmm, _, hi⟩
          · exact ⟨[.sl false []], reads_one (.l _ [] (by simp) (by simp) (by simp)) (.nil _ _ _ (by simp))⟩
          · have hlm : len ≤ m := by rw [hmm]; split <;> omega
            have hall : ∀ i : Nat, ∃ p : List Value × List V, i < len → Reads w ts p.1 p.2 ∧ ∀ j, j < ts.length → w.cell? (a.add (i * ts.length + j)) = p.1[j]? := fun i => by
              by_cases hil : i < len
              · obtain ⟨cs', h1, h2⟩ := hi i (by omega)
                obtain ⟨us, hus⟩ := ih n e ts cs' _ hts h2
                obtain ⟨_, h3, h4⟩ := World.cells?_some h1
                rw [hc.1] at h3 h4
                exact ⟨(cs', us), fun _ => ⟨hus, fun j hj => by rw [← Go.Deep.add_add]; exact h4 j hj⟩⟩
              · exact ⟨([], []), fun h => absurd h hil⟩
            obtain ⟨f, hf⟩ := Classical.axiomOfChoice hall
            have hsp : 0 < len → a.spot = none ∧ a.block < w.heap.size := fun h0 => by
              obtain ⟨h1, h2⟩ := hf 0 h0
              have hx := h2 0 hc.2
              have hlt : 0 < (f 0).1.length := by rw [h1.2.1, ← h1.1.1]; exact hc.2
              rw [List.getElem?_eq_getElem hlt] at hx
              have e : a.add (0 * ts.length + 0) = a := by simp [Addr.add]
              rw [e] at hx
              refine ⟨?_, World.block_lt_of_cell? w _ hx⟩
              unfold World.cell? at hx
              split at hx
              · cases hq : a.spot with
                | none => rfl
                | some k => simp [hq] at hx
              · cases hx
            refine ⟨[.sl false ((List.range len).map fun i => (f i).2)], reads_one (.l _ _ (by simp only [List.length_map, List.length_range]; simp only [maxLen] at hm; omega) ?_ ?_) ?_⟩
            · intro row hrow
              simp only [List.mem_map, List.mem_range] at hrow
              obtain ⟨i, hil, rfl⟩ := hrow
              exact (hf i hil).1.1.1
            · intro row hrow j t u g1 g2
              simp only [List.mem_map, List.mem_range] at hrow
              obtain ⟨i, hil, rfl⟩ := hrow
              exact (hf i hil).1.1.2 j t u g1 g2
            · rcases Nat.eq_zero_or_pos len with h0 | h0
              · subst h0; exact .nil _ _ _ (by simp)
              · obtain ⟨h1, h2⟩ := hsp h0
                obtain ⟨b, off, sp⟩ := a
                simp only at h1 h2
                subst h1
                have hrows : ∀ (i : Nat) (row : List V), ((List.range len).map fun i => (f i).2)[i]? = some row → i < len ∧ row = (f i).2 := fun i row h => by
                  have hlt := (List.getElem?_eq_some_iff.1 h).1
                  simp only [List.length_map, List.length_range] at hlt
                  simp [hlt] at h
                  exact ⟨hlt, h.symm⟩
                have e := RV.sl (w := w) (R := fun b => b < w.heap.size) (G := noG) false ((List.range len).map fun i => (f i).2) b off cap ts.length (fun i j => ((f i).1[j]?).getD undef) h2 (by simpa using hl) (by simp) (by
                    intro row hrow
                    simp only [List.mem_map, List.mem_range] at hrow
                    obtain ⟨i, hil, rfl⟩ := hrow
                    exact (hf i hil).1.1.1.symm) (by
                    intro i j row u g1 g2
                    obtain ⟨hil, rfl⟩ := hrows i row g1
                    have hj : j < ts.length := by have := (List.getElem?_eq_some_iff.1 g2).1; rw [(hf i hil).1.1.1]; exact this
                    have hjl : j < (f i).1.length := by rw [(hf i hil).1.2.1, ← (hf i hil).1.1.1]; exact hj
                    have hx := (hf i hil).2 j hj
                    rw [add_full _ _ rfl, List.getElem?_eq_getElem hjl] at hx
                    rw [List.getElem?_eq_getElem hjl]
                    simp only [Option.getD_some]
                    rw [Nat.add_assoc]; exact hx) (by
                    intro i j row u g1 g2
                    obtain ⟨hil, rfl⟩ := hrows i row g1
                    have hj : j < ts.length := by have := (List.getElem?_eq_some_iff.1 g2).1; rw [(hf i hil).1.1.1]; exact this
                    have hjl : j < (f i).1.length := by rw [(hf i hil).1.2.1, ← (hf i hil).1.1.1]; exact hj
                    rw [List.getElem?_eq_getElem hjl]
                    exact (hf i hil).1.2.2 j u _ g2 (List.getElem?_eq_getElem hjl))
                have e2 : ((List.range len).map fun i => (f i).2).length = len := by simp
                rw [e2] at e
                exact e
        · cases h
      · cases h
    · cases h
/-- an argument -/
theorem open_one {t : TypeId} {ty : Ty} {v : Value} {d : DataW H} {p : List MemPlace} {dp : Nat} (ht : tyOf P dp t = some [ty]) (hv : v.cells.toList = [v]) (h : DataW.Trod enc P w base spare held t v d p) :
    ∃ u, FitV ty u ∧ RV w (fun b => b < w.heap.size) noG u v := by
  obtain ⟨fuel, hf⟩ := h
  rw [hv] at hf
  obtain ⟨us, ⟨h1, h2⟩, h3, h4⟩ := reads_of dp fuel t _ _ _ ht hf
  match us, h3 with
  | [u], _ => exact ⟨u, h2 0 _ _ rfl rfl, h4 0 _ _ rfl rfl⟩
theorem open_struct {t : TypeId} {tys : List Ty} {r : Reach} {b0 : Nat} {v : Value} {fs : Array Field} {d : DataW H} {p : List MemPlace} {dp : Nat} (hs : P.underlying t = some (.struct fs)) (ht : tyOf P dp t = some tys) (hv : Value.okWide P w r b0 t v) (h : DataW.Trod enc P w base spare held t v d p) :
    ∃ us, Fits tys us ∧ RV w (fun b => b < w.heap.size) noG (.agg us) v := by
  obtain ⟨cs, rfl, hsz⟩ := okWide_struct hs hv
  obtain ⟨fuel, hf⟩ := h
  obtain ⟨us, h1, h3, h4⟩ := reads_of dp fuel t _ _ _ ht hf
  obtain ⟨cs⟩ := cs
  exact ⟨us, h1, .agg us cs h3.symm h4⟩
theorem open_list {t e : TypeId} {ty : Ty} {r : Reach} {b0 : Nat} {v : Value} {d : DataW H} {p : List MemPlace} {dp : Nat} (hs : P.underlying t = some (.slice e)) (ht : tyOf P dp t = some [ty]) (hv : Value.okWide P w r b0 t v) (h : DataW.Trod enc P w base spare held t v d p) :
    ∃ u, FitV ty u ∧ RV w (fun b => b < w.heap.size) noG u v := by
  obtain ⟨a, len, cap, rfl⟩ := okWide_slice hs hv
  exact open_one ht rfl h
end
/-! what fits, as data -/
theorem fits_cons {t : Ty} {ts : List Ty} {us : List V} (h : Fits (t :: ts) us) : ∃ u us', us = u :: us' ∧ FitV t u ∧ Fits ts us' := by
  obtain ⟨h1, h2⟩ := h
  match us, h1 with
  | u :: us', h1 => exact ⟨u, us', rfl, h2 0 _ _ rfl rfl, by simpa using h1, fun j t' u' g1 g2 => h2 (j + 1) t' u' (by simpa using g1) (by simpa using g2)⟩
theorem fits_nil {us : List V} (h : Fits [] us) : us = [] := List.eq_nil_of_length_eq_zero h.1.symm
theorem fit_i {u : V} (h : FitV .i u) : ∃ n : Int, u = .v (.int .i64 n) ∧ -9223372036854775808 ≤ n ∧ n ≤ 9223372036854775807 := by cases h with | i n h1 h2 => exact ⟨n, rfl, h1, h2⟩
theorem fit_s {u : V} (h : FitV .s u) : ∃ x : ByteArray, u = .v (.string x) ∧ x.size ≤ 9223372036854775807 := by cases h with | s x h => exact ⟨x, rfl, h⟩
theorem fit_b {u : V} (h : FitV .b u) : ∃ x : Bool, u = .v (.bool x) := by cases h with | b x => exact ⟨x, rfl⟩
theorem fit_l {tys : List Ty} {u : V} (h : FitV (.l tys) u) : ∃ rows, u = .sl false rows ∧ rows.length ≤ 9223372036854775807 ∧ ∀ row ∈ rows, Fits tys row := by
  cases h with | l tys rows hl hr h => exact ⟨rows, rfl, hl, fun row hm => ⟨hr row hm, h row hm⟩⟩
theorem rows_dec {α : Type} {enc : α → List V} {p : α → Prop} {tys : List Ty} (hd : ∀ row, Fits tys row → ∃ x : α, row = enc x ∧ p x) : ∀ (rows : List (List V)), (∀ row ∈ rows, Fits tys row) → ∃ l : List α, rows = l.map enc ∧ ∀ x ∈ l, p x
  | [], _ => ⟨[], rfl, by simp⟩
  | row :: rows, h => by
    obtain ⟨x, hx, px⟩ := hd row (h row (by simp))
    obtain ⟨l, hl, pl⟩ := rows_dec hd rows fun r hr => h r (by simp [hr])
    exact ⟨x :: l, by simp [hx, hl], by simpa using ⟨px, pl⟩⟩
theorem fit_list {α : Type} {enc : α → List V} {p : α → Prop} {tys : List Ty} {u : V} (hd : ∀ row, Fits tys row → ∃ x : α, row = enc x ∧ p x) (h : FitV (.l tys) u) : ∃ l : List α, u = .sl false (l.map enc) ∧ l.length ≤ 9223372036854775807 ∧ ∀ x ∈ l, p x := by
  obtain ⟨rows, rfl, hl, hr⟩ := fit_l h
  obtain ⟨l, rfl, hp⟩ := rows_dec hd rows hr
  exact ⟨l, rfl, by simpa using hl, hp⟩
/-! functions whose contracts are at hand in another form -/
theorem pars_v {w : World} {R : Nat → Prop} : ∀ {xs ys : List Value}, Pars w R (xs.map fun x => .c (.v x)) ys → ys = xs
  | xs, ys, h => by
    apply List.ext_getElem?
    intro i
    have hl := h.len
    rw [List.length_map] at hl
    by_cases hi : i < xs.length
    · have h1 : xs[i]? = some xs[i] := List.getElem?_eq_getElem hi
      have h2 : ys[i]? = some (ys[i]'(by omega)) := List.getElem?_eq_getElem (by omega)
      have h3 : ParOk w R (.c (.v xs[i])) (ys[i]'(by omega)) := h.ok i _ _ (by rw [List.getElem?_map, h1]; rfl) h2
      have h4 : RV w R noG (.v xs[i]) (ys[i]'(by omega)) := h3
      rw [h1, h2, rv_v h4]
    · rw [List.getElem?_eq_none (by omega), List.getElem?_eq_none (by omega)]
theorem no_blk {ps : List Par} {xs : List Value} {b : Nat} (h : ∀ p ∈ ps, ∃ u, p = .c u) : ¬ ParBlk ps xs b := by
  rintro ⟨i, T, sz, rows, x, h1, _⟩
  obtain ⟨u, hu⟩ := h _ (List.mem_of_getElem? h1)
  cases hu
theorem fr_of_below {L : Nat → Prop} {w w' : World} (h : Below w.heap.size w w') (hd : w.drawn ≤ w'.drawn) : Fr L w w' := ⟨h.os, h.tape, h.output, h.size, fun k hk _ => h.block k hk, hd⟩
theorem fun_flat {P : Program} {f : FuncId} {xs : List Value} {v : Value} (hc : Callable P f) (h : ∀ w, Calls P f xs.toArray w fun e w' => e = .returned v ∧ Below w.heap.size w w' ∧ w.drawn ≤ w'.drawn) : Fun P f (xs.map fun x => .c (.v x)) [.c (.v v)] := by
  refine ⟨hc, fun w R ys hlt hp => ?_⟩
  obtain rfl := pars_v hp
  refine (h w).mono fun e w' ⟨he, hb, hd⟩ => ⟨[v], R, by rw [he]; rfl, fr_of_below hb hd, fun _ h => h, fun b h => .inl h, ⟨rfl, ?_, ?_, ?_⟩, ?_⟩
  · intro i p x h1 h2
    cases i with
    | zero => simp at h1 h2; subst h1 h2; exact .v _
    | succ i => simp at h1
  · intro i j T sz rows T' sz' rows' x y b _ h1
    cases i with
    | zero => simp at h1
    | succ i => simp at h1
  · intro b hb'
    exact absurd hb' (no_blk (by simp))
  · intro b hb'
    exact absurd hb' (no_blk (by simp))
theorem callable {P : Program} {f : FuncId} {fn : Func} (h1 : P.funcs[f]? = some fn) (h2 : (fn.name == "runtime.NumGoroutine") = false) (h3 : fn.body.isNone = false) : Callable P f := ⟨fn, h1, h2, h3⟩
/-- a law's walk -/
theorem tieF {P : Program} {f : FuncId} {ps : List Par} {xs : List Value} {v : Value} {w : World} (hF : Fun P f ps [.c (.v v)]) (hc : ∀ p ∈ ps, ∃ u, p = .c u) (hl : ps.length = xs.length)
    (hp : ∀ (i : Nat) (u : V) (x : Value), ps[i]? = some (.c u) → xs[i]? = some x → RV w (fun b => b < w.heap.size) noG u x) : Calls P f xs.toArray w fun e w' => e = .returned v ∧ Below w.heap.size w w' := by
  refine (hF.2 w (fun b => b < w.heap.size) xs (fun _ h => h) ⟨hl, ?_, ?_, ?_⟩).mono ?_
  · intro i p x h1 h2
    obtain ⟨u, rfl⟩ := hc p (List.mem_of_getElem? h1)
    exact hp i u x h1 h2
  · intro i j T sz rows T' sz' rows' x y b _ h1
    obtain ⟨u, hu⟩ := hc _ (List.mem_of_getElem? h1)
    cases hu
  · intro b hb; exact absurd hb (no_blk hc)
  · rintro e w' ⟨ys, R', rfl, hfr, _, _, hpr, _⟩
    have hy : ys.length = 1 := hpr.len.symm
    match ys, hy with
    | [y], _ =>
      have : RV w' R' noG (.v v) y := hpr.ok 0 _ y rfl rfl
      obtain rfl := rv_v this
      exact ⟨rfl, hfr.os, hfr.tape, hfr.output, hfr.size, fun k hk => hfr.block k hk (no_blk hc)⟩
def RVL (w : World) : List V → List Value → Prop
  | [], [] => True
  | u :: us, x :: xs => RV w (fun b => b < w.heap.size) noG u x ∧ RVL w us xs
  | _, _ => False
theorem rvl_len {w : World} : ∀ {us : List V} {xs : List Value}, RVL w us xs → us.length = xs.length
  | [], [], _ => rfl
  | u :: us, x :: xs, h => by simp [rvl_len h.2]
  | [], _ :: _, h => h.elim
  | _ :: _, [], h => h.elim
theorem rvl_at {w : World} : ∀ {us : List V} {xs : List Value}, RVL w us xs → ∀ (i : Nat) (u : V) (x : Value), us[i]? = some u → xs[i]? = some x → RV w (fun b => b < w.heap.size) noG u x
  | [], [], _, i, u, x, h1, _ => by simp at h1
  | u' :: us, x' :: xs, h, 0, u, x, h1, h2 => by simp at h1 h2; subst h1 h2; exact h.1
  | u' :: us, x' :: xs, h, i + 1, u, x, h1, h2 => rvl_at h.2 i u x (by simpa using h1) (by simpa using h2)
  | [], _ :: _, h, _, _, _, _, _ => h.elim
  | _ :: _, [], h, _, _, _, _, _ => h.elim
theorem tieL {P : Program} {f : FuncId} {us : List V} {xs : List Value} {v : Value} {w : World} (hF : Fun P f (us.map .c) [.c (.v v)]) (h : RVL w us xs) : Calls P f xs.toArray w fun e w' => e = .returned v ∧ Below w.heap.size w w' :=
  tieF hF (by simp) (by rw [List.length_map]; exact rvl_len h) (fun i u x h1 h2 => by
    rw [List.getElem?_map] at h1
    cases hq : us[i]? with
    | none => rw [hq] at h1; cases h1
    | some u' => rw [hq] at h1; simp at h1; subst h1; exact rvl_at h i u' x hq h2)
theorem parsC {w : World} {R : Nat → Prop} : ∀ {us : List V} {xs : List Value}, us.length = xs.length → (∀ (i : Nat) (u : V) (x : Value), us[i]? = some u → xs[i]? = some x → RV w R noG u x) → True := fun _ _ => trivial
end Go.Proofs.Ytjhdlcmecbngkaa
/- Plain functions of places: no program in sight. -/

namespace Go.Proofs.Ytjhdlcmecbngkaa.Pl
set_option linter.unusedVariables false

/-- within two bounds -/
def wi (n a b : Int) : Bool := decide (a ≤ n) && decide (n ≤ b)
theorem wi_iff {n a b : Int} : wi n a b = true ↔ a ≤ n ∧ n ≤ b := by simp [wi]
theorem wi_no {n a b : Int} : wi n a b = false ↔ ¬ (a ≤ n ∧ n ≤ b) := by rw [← wi_iff]; simp

def okPl (x y z h s : Int) : Bool := wi x (-10000000) 10000000 && wi y (-10000000) 10000000 && wi z (-10000000) 10000000 && wi h 0 1000000 && wi s 0 1000
/-- what is wrong with a place -/
def ckPl (x y z h s : Int) : Int := if okPl x y z h s then 0 else 3
end Go.Proofs.Ytjhdlcmecbngkaa.Pl
/- Plain: the order of texts, byte by byte. -/
namespace Go.Proofs.Ytjhdlcmecbngkaa.Pl
set_option linter.unusedVariables false

theorem bl_irrefl : ∀ x : List UInt8, Op.bytesLess x x = false
  | [] => rfl
  | a :: x => by simp [Op.bytesLess, bl_irrefl x, UInt8.lt_irrefl]
theorem bl_trans : ∀ {x y z : List UInt8}, Op.bytesLess x y = true → Op.bytesLess y z = true → Op.bytesLess x z = true
  | [], _ :: _, [], _, h => by simp [Op.bytesLess] at h
  | _, [], _, h, _ => by cases ‹List UInt8› <;> simp [Op.bytesLess] at h
  | [], b :: y, c :: z, _, _ => rfl
  | a :: x, b :: y, [], _, h => by simp [Op.bytesLess] at h
  | a :: x, b :: y, c :: z, h1, h2 => by
    simp only [Op.bytesLess, Bool.or_eq_true, decide_eq_true_eq, Bool.and_eq_true, beq_iff_eq] at h1 h2 ⊢
    rcases h1 with h1 | ⟨rfl, h1⟩
    · rcases h2 with h2 | ⟨rfl, h2⟩
      · exact .inl (UInt8.lt_trans h1 h2)
      · exact .inl h1
    · rcases h2 with h2 | ⟨rfl, h2⟩
      · exact .inl h2
      · exact .inr ⟨rfl, bl_trans h1 h2⟩
theorem bl_tri : ∀ {x y : List UInt8}, Op.bytesLess x y = false → Op.bytesLess y x = false → x = y
  | [], [], _, _ => rfl
  | [], b :: y, h, _ => by simp [Op.bytesLess] at h
  | a :: x, [], _, h => by simp [Op.bytesLess] at h
  | a :: x, b :: y, h1, h2 => by
    simp only [Op.bytesLess, Bool.or_eq_false_iff, decide_eq_false_iff_not, Bool.and_eq_false_iff] at h1 h2
    have hab : a = b := by
      have g1 : ¬ a.toNat < b.toNat := h1.1
      have g2 : ¬ b.toNat < a.toNat := h2.1
      exact UInt8.toNat_inj.1 (by omega)
    subst hab
    have e1 : Op.bytesLess x y = false := by rcases h1.2 with h | h <;> simp_all
    have e2 : Op.bytesLess y x = false := by rcases h2.2 with h | h <;> simp_all
    rw [bl_tri e1 e2]
/-- does one text stand ahead of another? -/
def slt (a b : ByteArray) : Bool := Op.bytesLess a.toList b.toList
theorem toList_inj {a b : ByteArray} (h : a.toList = b.toList) : a = b := by
  rw [ByteArray.toList_eq, ByteArray.toList_eq] at h
  cases a; cases b
  congr
  exact Array.toList_inj.1 h
theorem slt_irrefl (a : ByteArray) : slt a a = false := bl_irrefl _
theorem slt_trans {a b c : ByteArray} (h1 : slt a b = true) (h2 : slt b c = true) : slt a c = true := bl_trans h1 h2
theorem slt_tri {a b : ByteArray} (h1 : slt a b = false) (h2 : slt b a = false) : a = b := toList_inj (bl_tri h1 h2)
theorem slt_asymm {a b : ByteArray} (h1 : slt a b = true) : slt b a = false := by
  rcases Bool.eq_false_or_eq_true (slt b a) with h | h
  · have := slt_trans h1 h; rw [slt_irrefl] at this; cases this
  · exact h
theorem slt_ne {a b : ByteArray} (h1 : slt a b = true) : a ≠ b := by
  rintro rfl
  rw [slt_irrefl] at h1; cases h1
theorem seq_iff {a b : ByteArray} : (a.toList == b.toList) = true ↔ a = b := by
  rw [beq_iff_eq]; exact ⟨toList_inj, fun h => by rw [h]⟩
theorem seq_no {a b : ByteArray} (h : a ≠ b) : (a.toList == b.toList) = false := by
  rcases Bool.eq_false_or_eq_true (a.toList == b.toList) with g | g
  · exact absurd (seq_iff.1 g) h
  · exact g
/-- what '<=' says -/
theorem sle_eq (a b : ByteArray) : (Op.bytesLess a.toList b.toList || a.toList == b.toList) = !(slt b a) := by
  rcases Bool.eq_false_or_eq_true (slt b a) with h | h
  · rw [h]
    have h1 := slt_asymm h
    unfold slt at h1
    rw [h1, seq_no (fun e => by subst e; rw [slt_irrefl] at h; cases h)]
    rfl
  · rw [h]
    rcases Bool.eq_false_or_eq_true (slt a b) with g | g
    · unfold slt at g; rw [g]; rfl
    · have := slt_tri g h
      subst this
      simp
end Go.Proofs.Ytjhdlcmecbngkaa.Pl
/- Plain: looking a thing up in a sorted list. No program in sight (but for the order of texts). -/
namespace Go.Proofs.Ytjhdlcmecbngkaa.Pl
set_option linter.unusedVariables false

/-- three ways -/
def scmp (a b : ByteArray) : Int := if slt a b then -1 else if slt b a then 1 else 0
theorem scmp_lt {a b : ByteArray} (h : slt a b = true) : scmp a b = -1 := by simp [scmp, h]
theorem scmp_gt {a b : ByteArray} (h : slt b a = true) : scmp a b = 1 := by simp [scmp, slt_asymm h, h]
theorem scmp_eq (a : ByteArray) : scmp a a = 0 := by simp [scmp, slt_irrefl]
theorem scmp_neg {a b : ByteArray} : scmp a b < 0 ↔ slt a b = true := by
  unfold scmp
  split
  · simp_all
  · split <;> simp_all
theorem scmp_zero {a b : ByteArray} : scmp a b = 0 ↔ a = b := by
  unfold scmp
  split
  · rename_i h
    exact ⟨fun e => by omega, fun e => by subst e; rw [slt_irrefl] at h; cases h⟩
  · split
    · rename_i h
      exact ⟨fun e => by omega, fun e => by subst e; rw [slt_irrefl] at h; cases h⟩
    · rename_i h1 h2
      exact ⟨fun _ => slt_tri (by simpa using h1) (by simpa using h2), fun _ => rfl⟩
theorem scmp_bd (a b : ByteArray) : -1 ≤ scmp a b ∧ scmp a b ≤ 1 := by
  unfold scmp; split
  · omega
  · split <;> omega

section
variable {α : Type} {cf : α → Int} {l : List α}
/-- how many stand ahead -/
def low (cf : α → Int) : List α → Nat
  | [] => 0
  | x :: r => if cf x < 0 then low cf r + 1 else 0
/-- those ahead stand ahead of all others -/
def Mono (cf : α → Int) (l : List α) : Prop := ∀ i j, (hi : i < l.length) → (hj : j < l.length) → i ≤ j → cf l[j] < 0 → cf l[i] < 0
theorem low_le : ∀ l : List α, low cf l ≤ l.length
  | [] => Nat.le_refl _
  | x :: r => by simp only [low, List.length_cons]; split <;> have := low_le r <;> omega
theorem low_lt : ∀ {l : List α} {i : Nat} (hi : i < l.length), i < low cf l → cf l[i] < 0
  | x :: r, 0, _, h => by
    simp only [low] at h
    split at h
    · assumption
    · omega
  | x :: r, i + 1, hi, h => by
    simp only [low] at h
    split at h
    · exact low_lt (l := r) (by simpa using hi) (by omega)
    · omega
theorem low_ge : ∀ {l : List α} (h : low cf l < l.length), 0 ≤ cf l[low cf l]
  | [], h => by simp at h
  | x :: r, h => by
    by_cases hx : cf x < 0
    · have e : low cf (x :: r) = low cf r + 1 := by simp [low, hx]
      have h' : low cf r < r.length := by rw [e] at h; simpa using h
      have := low_ge h'
      simp only [e, List.getElem_cons_succ]
      exact this
    · have e : low cf (x :: r) = 0 := by simp [low, hx]
      simp only [e, List.getElem_cons_zero]
      omega
/-- what the search leaves: all below a stand ahead, none from a on -/
theorem low_uniq {a : Nat} (ha : a ≤ l.length) (h1 : ∀ i, (hi : i < l.length) → i < a → cf l[i] < 0) (h2 : ∀ i, (hi : i < l.length) → a ≤ i → 0 ≤ cf l[i]) : a = low cf l := by
  have hl := low_le (cf := cf) l
  rcases Nat.lt_trichotomy a (low cf l) with h | h | h
  · have := low_lt (cf := cf) (l := l) (i := a) (by omega) h
    have := h2 a (by omega) (Nat.le_refl _)
    omega
  · exact h
  · have := low_ge (cf := cf) (l := l) (by omega)
    have := h1 (low cf l) (by omega) h
    omega
/-- is it there? -/
def hit (cf : α → Int) (l : List α) : Bool := match l[low cf l]? with
  | some x => decide (cf x = 0)
  | none => false
theorem hit_in (h : low cf l < l.length) : hit cf l = decide (cf l[low cf l] = 0) := by simp [hit, h]
theorem hit_out (h : ¬ low cf l < l.length) : hit cf l = false := by
  have : l[low cf l]? = none := List.getElem?_eq_none (by omega)
  simp [hit, this]
end
end Go.Proofs.Ytjhdlcmecbngkaa.Pl
/- Plain: lists that are checked element by element, and for order. No program in sight. -/
namespace Go.Proofs.Ytjhdlcmecbngkaa.Pl
set_option linter.unusedVariables false
section
variable {α : Type}

/-- the first thing that is wrong; 0: nothing is -/
def firstErr (e : α → Int) : List α → Int
  | [] => 0
  | x :: r => if e x = 0 then firstErr e r else e x
/-- does each stand ahead of the next? -/
def sorted (lt : α → α → Bool) : List α → Bool
  | [] => true
  | [_] => true
  | x :: y :: r => lt x y && sorted lt (y :: r)
/-- what is wrong with a list of so many at most -/
def ckL (mx : Nat) (e : α → Int) (lt : α → α → Bool) (l : List α) : Int :=
  if mx < l.length then 2 else if firstErr e l = 0 then (if sorted lt l then 0 else 4) else firstErr e l

theorem firstErr_zero {e : α → Int} : ∀ {l : List α}, (∀ i, (h : i < l.length) → e l[i] = 0) → firstErr e l = 0
  | [], _ => rfl
  | x :: r, h => by
    have h0 : e x = 0 := h 0 (by simp)
    simp only [firstErr, h0, if_true]
    exact firstErr_zero fun i hi => h (i + 1) (by simpa using hi)
theorem firstErr_at {e : α → Int} : ∀ {l : List α} {k : Nat} (hk : k < l.length), (∀ i, (h : i < l.length) → i < k → e l[i] = 0) → e l[k] ≠ 0 → firstErr e l = e l[k]
  | x :: r, 0, _, _, hne => by
    simp only [List.getElem_cons_zero] at hne ⊢
    simp [firstErr, hne]
  | x :: r, k + 1, hk, h, hne => by
    have h0 : e x = 0 := h 0 (by simp) (by omega)
    simp only [firstErr, h0, if_true, List.getElem_cons_succ] at hne ⊢
    exact firstErr_at (by simpa using hk) (fun i hi hik => h (i + 1) (by simpa using hi) (by omega)) hne
theorem sorted_of {lt : α → α → Bool} : ∀ {l : List α}, (∀ i, (h : i + 1 < l.length) → lt l[i] l[i + 1] = true) → sorted lt l = true
  | [], _ => rfl
  | [_], _ => rfl
  | x :: y :: r, h => by
    simp only [sorted, Bool.and_eq_true_iff]
    exact ⟨h 0 (by simp), sorted_of fun i hi => h (i + 1) (by simpa using hi)⟩
theorem sorted_not {lt : α → α → Bool} : ∀ {l : List α} {k : Nat} (hk : k + 1 < l.length), lt l[k] l[k + 1] = false → sorted lt l = false
  | [_], k, hk, _ => by simp at hk
  | x :: y :: r, 0, _, h => by
    simp only [List.getElem_cons_zero, List.getElem_cons_succ] at h
    simp [sorted, h]
  | x :: y :: r, k + 1, hk, h => by
    have : sorted lt (y :: r) = false := sorted_not (k := k) (by simpa using hk) (by simpa using h)
    simp [sorted, this]
theorem sorted_get {lt : α → α → Bool} : ∀ {l : List α}, sorted lt l = true → ∀ i, (h : i + 1 < l.length) → lt l[i] l[i + 1] = true
  | [], _, i, h => by simp at h
  | [_], _, i, h => by simp at h
  | x :: y :: r, hs, 0, _ => by
    simp only [sorted, Bool.and_eq_true_iff] at hs
    exact hs.1
  | x :: y :: r, hs, i + 1, h => by
    simp only [sorted, Bool.and_eq_true_iff] at hs
    exact sorted_get hs.2 i (by simpa using h)
theorem firstErr_get {e : α → Int} : ∀ {l : List α}, firstErr e l = 0 → ∀ i, (h : i < l.length) → e l[i] = 0
  | [], _, i, h => by simp at h
  | x :: r, hs, i, h => by
    by_cases h0 : e x = 0
    · simp only [firstErr, h0, if_true] at hs
      cases i with
      | zero => exact h0
      | succ i => exact firstErr_get hs i (by simpa using h)
    · simp [firstErr, h0] at hs

variable {mx : Nat} {e : α → Int} {lt : α → α → Bool} {l : List α}
theorem ckL_long (h : mx < l.length) : ckL mx e lt l = 2 := by simp [ckL, h]
theorem ckL_err {k : Nat} (h : l.length ≤ mx) (hk : k < l.length) (h0 : ∀ i, (hi : i < l.length) → i < k → e l[i] = 0) (h1 : e l[k] ≠ 0) : ckL mx e lt l = e l[k] := by
  have hf := firstErr_at hk h0 h1
  unfold ckL
  rw [if_neg (by omega), if_neg (by rw [hf]; exact h1), hf]
theorem ckL_unsorted {k : Nat} (h : l.length ≤ mx) (h0 : ∀ i, (hi : i < l.length) → e l[i] = 0) (hk : k + 1 < l.length) (h1 : lt l[k] l[k + 1] = false) : ckL mx e lt l = 4 := by
  unfold ckL
  rw [if_neg (by omega), if_pos (firstErr_zero h0), sorted_not hk h1]
  rfl
theorem ckL_ok (h : l.length ≤ mx) (h0 : ∀ i, (hi : i < l.length) → e l[i] = 0) (h1 : ∀ i, (hi : i + 1 < l.length) → lt l[i] l[i + 1] = true) : ckL mx e lt l = 0 := by
  unfold ckL
  rw [if_neg (by omega), if_pos (firstErr_zero h0), sorted_of h1]
  rfl
theorem ckL_inv (he : ∀ x, e x = 0 ∨ e x = 1 ∨ e x = 3 ∨ e x = 7) (h : ckL mx e lt l = 0) : l.length ≤ mx ∧ (∀ i, (hi : i < l.length) → e l[i] = 0) ∧ sorted lt l = true := by
  unfold ckL at h
  split at h
  · omega
  · split at h
    · rename_i h1 h2
      split at h
      · rename_i h3
        exact ⟨by omega, firstErr_get h2, h3⟩
      · omega
    · rename_i h1 h2
      exact absurd h h2
end
end Go.Proofs.Ytjhdlcmecbngkaa.Pl
/- Plain: a list into which a thing is put in its place. No program in sight. -/
namespace Go.Proofs.Ytjhdlcmecbngkaa.Pl
set_option linter.unusedVariables false
section
variable {α : Type}

/-- the first place at which p holds; -1: there is none -/
def at_ (p : α → Bool) (l : List α) : Int := match l.findIdx? p with
  | some i => (i : Int)
  | none => -1
theorem at_yes {p : α → Bool} {l : List α} {k : Nat} (hk : k < l.length) (h0 : ∀ i, (h : i < l.length) → i < k → p l[i] = false) (h1 : p l[k] = true) : at_ p l = k := by
  have : l.findIdx? p = some k := by
    rw [List.findIdx?_eq_some_iff_getElem]
    exact ⟨hk, h1, fun j hj => by simp [h0 j (by omega) hj]⟩
  simp [at_, this]
theorem at_no {p : α → Bool} {l : List α} (h0 : ∀ i, (h : i < l.length) → p l[i] = false) : at_ p l = -1 := by
  have : l.findIdx? p = none := by
    rw [List.findIdx?_eq_none_iff]
    intro x hx
    obtain ⟨i, hi, rfl⟩ := List.getElem_of_mem hx
    exact h0 i hi
  simp [at_, this]
theorem at_inv {p : α → Bool} {l : List α} : (at_ p l = -1 ∧ ∀ i, (h : i < l.length) → p l[i] = false) ∨ ∃ k, ∃ hk : k < l.length, at_ p l = (k : Int) ∧ p l[k] = true ∧ ∀ i, (h : i < l.length) → i < k → p l[i] = false := by
  cases h : l.findIdx? p with
  | none =>
    left
    refine ⟨by simp [at_, h], fun i hi => ?_⟩
    rw [List.findIdx?_eq_none_iff] at h
    exact h _ (List.getElem_mem hi)
  | some k =>
    right
    rw [List.findIdx?_eq_some_iff_getElem] at h
    obtain ⟨hk, h1, h2⟩ := h
    refine ⟨k, hk, ?_, h1, fun i hi hik => by simpa using h2 i hik⟩
    have : l.findIdx? p = some k := by
      rw [List.findIdx?_eq_some_iff_getElem]
      exact ⟨hk, h1, h2⟩
    simp [at_, this]

/-- one round: ahead of the first that does not stand ahead (ge) the new one is put; what has its key (not ne) is left out -/
def putStep (ge ne : α → Bool) (g : α) (st : List α × Bool) (x : α) : List α × Bool :=
  if (!st.2 && ge x) = true then (if ne x = true then (st.1 ++ [g] ++ [x], true) else (st.1 ++ [g], true))
  else (if ne x = true then (st.1 ++ [x], st.2) else st)
def putTo (ge ne : α → Bool) (g : α) (l : List α) : List α × Bool := l.foldl (putStep ge ne g) ([], false)
def putL (ge ne : α → Bool) (g : α) (l : List α) : List α := if (putTo ge ne g l).2 = true then (putTo ge ne g l).1 else (putTo ge ne g l).1 ++ [g]

theorem putTo_snoc {ge ne : α → Bool} {g : α} (l : List α) (x : α) : putTo ge ne g (l ++ [x]) = putStep ge ne g (putTo ge ne g l) x := by
  simp [putTo, List.foldl_append]
theorem take_snoc_ {l : List α} {k : Nat} (hk : k < l.length) : l.take (k + 1) = l.take k ++ [l[k]] := by
  rw [List.take_succ_eq_append_getElem hk]
theorem putTo_next {ge ne : α → Bool} {g : α} {l : List α} {k : Nat} (hk : k < l.length) : putTo ge ne g (l.take (k + 1)) = putStep ge ne g (putTo ge ne g (l.take k)) l[k] := by
  rw [take_snoc_ hk, putTo_snoc]
theorem putStep_len {ge ne : α → Bool} {g : α} (st : List α × Bool) (x : α) : (putStep ge ne g st x).1.length ≤ st.1.length + 2 := by
  unfold putStep
  split <;> split <;> simp
theorem putTo_len {ge ne : α → Bool} {g : α} : ∀ (n : Nat) (l : List α), l.length = n → (putTo ge ne g l).1.length ≤ 2 * n := by
  intro n
  induction n with
  | zero => intro l h; obtain rfl := List.eq_nil_of_length_eq_zero h; simp [putTo]
  | succ n ih =>
    intro l h
    have hk : n < l.length := by omega
    have e : l = l.take (n + 1) := (List.take_of_length_le (by omega)).symm
    rw [e, putTo_next hk]
    have h1 := ih (l.take n) (by rw [List.length_take]; omega)
    have h2 := putStep_len (ge := ge) (ne := ne) (g := g) (putTo ge ne g (l.take n)) l[n]
    omega

/-- all ahead of it: nothing is put yet -/
theorem putTo_ahead {ge ne : α → Bool} {g : α} {l : List α} (h1 : ∀ x ∈ l, ge x = false) (h2 : ∀ x ∈ l, ne x = true) : ∀ (k : Nat), k ≤ l.length → putTo ge ne g (l.take k) = (l.take k, false) := by
  intro k
  induction k with
  | zero => intro _; simp [putTo]
  | succ k ih =>
    intro hk
    have hk' : k < l.length := hk
    rw [putTo_next hk', ih (by omega), take_snoc_ hk']
    simp [putStep, h1 _ (List.getElem_mem hk'), h2 _ (List.getElem_mem hk')]
/-- behind: what is left is taken over -/
theorem putTo_behind {ge ne : α → Bool} {g : α} {pre : List α} {out : List α} (hp : putTo ge ne g pre = (out, true)) {r : List α} (h2 : ∀ x ∈ r, ne x = true) : ∀ (k : Nat), k ≤ r.length → putTo ge ne g (pre ++ r.take k) = (out ++ r.take k, true) := by
  intro k
  induction k with
  | zero => intro _; simp [hp]
  | succ k ih =>
    intro hk
    have hk' : k < r.length := hk
    rw [take_snoc_ hk', ← List.append_assoc, putTo_snoc, ih (by omega)]
    simp [putStep, h2 _ (List.getElem_mem hk')]

/-- put, where those ahead stand in front: not there: in between -/
theorem putL_new {ge ne : α → Bool} {g : α} {pre r : List α} (h1 : ∀ x ∈ pre, ge x = false) (h2 : ∀ x ∈ pre, ne x = true) (h3 : ∀ x ∈ r, ge x = true) (h4 : ∀ x ∈ r, ne x = true) :
    putL ge ne g (pre ++ r) = pre ++ [g] ++ r := by
  have hp : putTo ge ne g pre = (pre, false) := by simpa using putTo_ahead h1 h2 pre.length (Nat.le_refl _)
  cases r with
  | nil => simp [putL, hp]
  | cons x r =>
    have hx : putTo ge ne g (pre ++ [x]) = (pre ++ [g] ++ [x], true) := by
      rw [putTo_snoc, hp]
      simp [putStep, h3 x (by simp), h4 x (by simp)]
    have := putTo_behind hx (r := r) (fun y hy => h4 y (by simp [hy])) r.length (Nat.le_refl _)
    rw [List.take_length] at this
    have e : pre ++ x :: r = pre ++ [x] ++ r := by simp
    rw [e]
    unfold putL
    rw [this]
    simp
/-- there already: in its place -/
theorem putL_set {ge ne : α → Bool} {g x : α} {pre r : List α} (h1 : ∀ x ∈ pre, ge x = false) (h2 : ∀ x ∈ pre, ne x = true) (hx : ge x = true) (hx' : ne x = false) (h4 : ∀ x ∈ r, ne x = true) :
    putL ge ne g (pre ++ x :: r) = pre ++ g :: r := by
  have hp : putTo ge ne g pre = (pre, false) := by simpa using putTo_ahead h1 h2 pre.length (Nat.le_refl _)
  have hx2 : putTo ge ne g (pre ++ [x]) = (pre ++ [g], true) := by
    rw [putTo_snoc, hp]
    simp [putStep, hx, hx']
  have := putTo_behind hx2 (r := r) h4 r.length (Nat.le_refl _)
  rw [List.take_length] at this
  have e : pre ++ x :: r = pre ++ [x] ++ r := by simp
  rw [e]
  unfold putL
  rw [this]
  simp
end
end Go.Proofs.Ytjhdlcmecbngkaa.Pl
/- Words for proofs over resolved code; no function of a program in sight. -/
namespace Go.Proofs.Ytjhdlcmecbngkaa
open Go.RowKit Pl
set_option linter.unusedVariables false
theorem wrap_u64 {n : Int} (h1 : 0 ≤ n) (h2 : n ≤ 18446744073709551615) : IntKind.u64.wrap n = n := IntWalk.u64_in n ⟨h1, h2⟩
theorem fdiv_half {n : Int} (h : 0 ≤ n) : n.fdiv (2 ^ (min (1 : Int).toNat IntKind.u64.bits)) = n / 2 := by
  have e : (2 : Int) ^ (min (1 : Int).toNat IntKind.u64.bits) = 2 := by decide
  rw [e, Int.fdiv_eq_ediv_of_nonneg _ (by decide)]
/-- a thing's cells are values -/
class FlatRow {α : Type} (enc : α → List V) : Prop where
  flat : ∀ x, ∀ u ∈ enc x, ∃ v, u = .v v
theorem row_map {α : Type} {f : α → List V} {l : List α} {k : Nat} (h : k < l.length) : (l.map f)[k]? = some (f l[k]) := by simp [h]
theorem fl_row {α : Type} {enc : α → List V} [hf : FlatRow enc] {x : α} : ∀ u ∈ enc x, Fl u := fun u hu => by
  obtain ⟨v, rfl⟩ := hf.flat x u hu
  exact fl_v v
theorem fl_rows {α : Type} {enc : α → List V} [FlatRow enc] {l : List α} : ∀ row ∈ l.map enc, ∀ u ∈ row, Fl u := fun row hr u hu => by
  obtain ⟨x, _, rfl⟩ := List.mem_map.1 hr
  exact fl_row u hu
theorem cl_rows {α : Type} {enc : α → List V} [FlatRow enc] {l : List α} : ∀ row ∈ l.map enc, ∀ u ∈ row, Cl u := fun row hr u hu => (fl_rows row hr u hu).cl
theorem cl_list {α : Type} {enc : α → List V} [FlatRow enc] {c : Bool} {l : List α} : Cl (.sl c (l.map enc)) := cl_sl cl_rows
theorem cl_nil {c : Bool} : Cl (.sl c []) := cl_sl (by simp)
theorem cl_one {α : Type} {enc : α → List V} [FlatRow enc] {x : α} : Cl (.agg (enc x)) := cl_agg fun u hu => (fl_row u hu).cl
theorem fl_one {α : Type} {enc : α → List V} [FlatRow enc] {x : α} : Fl (.agg (enc x)) := fl_agg fun u hu => fl_row u hu
def vB : V → Bool
  | .v _ => true
  | _ => false
def vsB : List V → Bool
  | [] => true
  | u :: us => bif vB u then vsB us else false
def clB : V → Bool
  | .v _ => true
  | .agg cs => vsB cs
  | .tup cs => vsB cs
  | .clo _ cs => vsB cs
  | .sl false [] => true
  | _ => false
def clRs : List (List V) → Bool
  | [] => true
  | r :: rs => bif vsB r then clRs rs else false
theorem vB_fl {u : V} (h : vB u = true) : Fl u := by
  cases u <;> first | exact fl_v _ | cases h
theorem vsB_fl : ∀ {us : List V}, vsB us = true → ∀ u ∈ us, Fl u
  | [], _, u, hu => by cases hu
  | v :: us, h, u, hu => by
    unfold vsB at h
    cases hv : vB v with
    | false => rw [hv] at h; cases h
    | true =>
      rw [hv] at h
      rcases List.mem_cons.1 hu with rfl | hu
      · exact vB_fl hv
      · exact vsB_fl h u hu
theorem clRs_fl : ∀ {rs : List (List V)}, clRs rs = true → ∀ r ∈ rs, ∀ u ∈ r, Fl u
  | [], _, r, hr => by cases hr
  | r' :: rs, h, r, hr => by
    unfold clRs at h
    cases hv : vsB r' with
    | false => rw [hv] at h; cases h
    | true =>
      rw [hv] at h
      rcases List.mem_cons.1 hr with rfl | hr
      · exact vsB_fl hv
      · exact clRs_fl h r hr
theorem fl_clo {f : FuncId} {cs : List V} (h : ∀ u ∈ cs, Fl u) : Fl (.clo f cs) := fun w w' R R' G G' x hx => by
  cases hx with
  | clo f cs xs hl hh => exact .clo f cs xs hl fun i u x h1 h2 => h u (List.mem_of_getElem? h1) _ _ _ _ _ _ _ (hh i u x h1 h2)
theorem fl_b {u : V} (h : clB u = true) : Fl u := by
  cases u with
  | v x => exact fl_v x
  | agg cs => exact fl_agg (vsB_fl h)
  | tup cs => exact fl_tup (vsB_fl h)
  | clo f cs => exact fl_clo (vsB_fl h)
  | sl c rows => cases c <;> cases rows <;> first | exact fl_nil | cases h
  | _ => cases h
theorem cl_b {u : V} (h : clB u = true) : Cl u := (fl_b h).cl
theorem cl_rs {rs : List (List V)} (h : clRs rs = true) : ∀ r ∈ rs, ∀ u ∈ r, Cl u := fun r hr u hu => (clRs_fl h r hr u hu).cl
theorem cl_rl1 {α : Type} {enc : α → List V} [FlatRow enc] {c : Bool} {l : List α} : ∀ row ∈ [[V.sl c (l.map enc)]], ∀ u ∈ row, Cl u := by
  intro row hr u hu
  simp only [List.mem_cons, List.not_mem_nil, or_false] at hr; subst hr
  simp only [List.mem_cons, List.not_mem_nil, or_false] at hu; subst hu
  exact cl_list
theorem cl_rl2 {α : Type} {enc : α → List V} [FlatRow enc] {c d : Bool} {l m : List α} : ∀ row ∈ [[V.sl c (l.map enc)], [V.sl d (m.map enc)]], ∀ u ∈ row, Cl u := by
  intro row hr u hu
  simp only [List.mem_cons, List.not_mem_nil, or_false] at hr
  rcases hr with rfl | rfl <;> (simp only [List.mem_cons, List.not_mem_nil, or_false] at hu; subst hu; exact cl_list)
theorem cl_ll1 {α : Type} {enc : α → List V} [FlatRow enc] {c e : Bool} {l : List α} : Cl (.sl e [[V.sl c (l.map enc)]]) := cl_sl cl_rl1
theorem cl_ll2 {α : Type} {enc : α → List V} [FlatRow enc] {c d e : Bool} {l m : List α} : Cl (.sl e [[V.sl c (l.map enc)], [V.sl d (m.map enc)]]) := cl_sl cl_rl2
def flB : List Par → Bool
  | [] => true
  | .c u :: ps => bif clB u then flB ps else false
  | _ => false
theorem flat_b : ∀ {rs : List Par}, flB rs = true → flatRes rs
  | [], _ => fun r hr => by cases hr
  | .c u :: ps, h => by
    unfold flB at h
    cases hv : clB u with
    | false => rw [hv] at h; cases h
    | true =>
      rw [hv] at h
      intro r hr
      rcases List.mem_cons.1 hr with rfl | hr
      · exact fl_b hv
      · exact flat_b h r hr
  | .o _ _ _ :: _, h => by cases h
theorem flat_own {α : Type} {enc : α → List V} [FlatRow enc] {T : TypeId} {sz : Nat} {l : List α} : flatRes [.o T sz (l.map enc)] := by
  intro r hr
  simp only [List.mem_cons, List.not_mem_nil, or_false] at hr; subst hr
  exact fl_rows
theorem flat_own1 {α : Type} {enc : α → List V} [FlatRow enc] {T : TypeId} {sz : Nat} {l : List α} {ps : List Par} (h : flB ps = true) : flatRes (.o T sz (l.map enc) :: ps) := by
  intro r hr
  rcases List.mem_cons.1 hr with rfl | hr
  · exact fl_rows
  · exact flat_b h r hr
theorem cl_setB {α : Type} {enc : α → List V} [FlatRow enc] {l : List α} {i : Nat} {row : List V} (h : vsB row = true) : ∀ r ∈ (l.map enc).set i row, ∀ u ∈ r, Cl u := fun r hr u hu => by
  rcases List.mem_or_eq_of_mem_set hr with h1 | rfl
  · exact cl_rows r h1 u hu
  · exact (vsB_fl h u hu).cl
theorem cl_setG {rows : List (List V)} {i : Nat} {row : List V} (h0 : ∀ r ∈ rows, ∀ u ∈ r, Cl u) (h : vsB row = true) : ∀ r ∈ rows.set i row, ∀ u ∈ r, Cl u := fun r hr u hu => by
  rcases List.mem_or_eq_of_mem_set hr with h1 | rfl
  · exact h0 r h1 u hu
  · exact (vsB_fl h u hu).cl
theorem set_at {α : Type} {f : α → List V} {l : List α} {k : Nat} {r : List V} (h : k < l.length) : ((l.map f).set k r)[k]? = some r := by simp [h]
theorem cl_appB {rs rs' : List (List V)} (h : ∀ r ∈ rs, ∀ u ∈ r, Cl u) (h' : ∀ r ∈ rs', ∀ u ∈ r, Cl u) : ∀ r ∈ rs ++ rs', ∀ u ∈ r, Cl u := fun r hr u hu => by
  rcases List.mem_append.1 hr with h1 | h1
  · exact h r h1 u hu
  · exact h' r h1 u hu
theorem give' {H : Nat → Option Ent} {all : List Nat} {bor : Bool} {gone : List Nat} {id g : Nat} {T : TypeId} {sz : Nat} {rows : List (List V)} {us : List V} {ps : List Par} (he : H id = some ⟨g, .t T, sz, rows⟩) (hr : ∀ row ∈ rows, ∀ u ∈ row, Cl u) (hn : id ∉ gone) (ha : id ∈ all) (h : ArgsOk H all bor gone us ps) : ArgsOk H all bor (id :: gone) (.own id g :: us) (.o T sz rows :: ps) :=
  ArgsOk.give (e := ⟨g, .t T, sz, rows⟩) he rfl rfl hr hn ha h
theorem not_t {b : Bool} (h : (!b) = true) : b = false := by cases b; rfl; cases h
theorem not_f {b : Bool} (h : (!b) = false) : b = true := by cases b; cases h; rfl
theorem nobor {p : Prop} : false = true → p := by simp
theorem wi_t {n a b : Int} (h : decide (a ≤ n) = true) : wi n a b = decide (n ≤ b) := by simp [wi, h]
theorem wi_f {n a b : Int} (h : decide (a ≤ n) = false) : wi n a b = false := by simp [wi, h]
theorem up1 {n k : Nat} {p : (j : Nat) → (j < n) → Prop} (h0 : ∀ j (h : j < n), j < k → p j h) (hk : ∀ h : k < n, p k h) : ∀ j (h : j < n), j < k + 1 → p j h := fun j h hj => by
  rcases (by omega : j < k ∨ j = k) with g | rfl
  · exact h0 j h g
  · exact hk h
theorem up2 {n k : Nat} {p : (j : Nat) → (j + 1 < n) → Prop} (h0 : ∀ j (h : j + 1 < n), j < k → p j h) (hk : ∀ h : k + 1 < n, p k h) : ∀ j (h : j + 1 < n), j < k + 1 → p j h := fun j h hj => by
  rcases (by omega : j < k ∨ j = k) with g | rfl
  · exact h0 j h g
  · exact hk h
theorem cl_row {row : List V} (h : clRs [row] = true) : ∀ u ∈ row, Cl u := fun u hu => cl_rs h row (by simp) u hu
theorem GetR.cell1 {env : Nat → V} {H : Nat → Option Ent} {a id gen k off sz : Nat} {agg : Bool} {e : Ent} {row : List V} {r : List RT} {u : V} {us : List V} (h1 : env a = .ptr id gen k off) (h2 : H id = some e) (h3 : e.gen = gen) (h4 : e.rows[k]? = some row) (h5 : Nat.ble (off + sz) row.length = true) (hu : u = mkV agg ((row.drop off).take sz)) (h : GetR env H r us) :
    GetR env H ((a, some (agg, sz)) :: r) (u :: us) := by rw [hu]; exact .cell h1 h2 h3 h4 (Nat.le_of_ble_eq_true h5) h
theorem GetR.tmp1 {env : Nat → V} {H : Nat → Option Ent} {t : Nat} {r : List RT} {u : V} {us : List V} (hu : u = env t) (h : GetR env H r us) : GetR env H ((t, none) :: r) (u :: us) := by rw [hu]; exact .tmp h
theorem retc2 {env : Nat → V} {H : Nat → Option Ent} {ts : List RT} {u v : V} (h1 : Cl u) (h2 : Cl v) (hG : GetR env H ts [u, v]) : ∃ us gone, GetR env H ts us ∧ ArgsOk H gone true gone us [.c u, .c v] := ⟨_, [], hG, .same h1 (.same h2 (.nil _))⟩
theorem retc1 {env : Nat → V} {H : Nat → Option Ent} {ts : List RT} {u : V} (h1 : Cl u) (hG : GetR env H ts [u]) : ∃ us gone, GetR env H ts us ∧ ArgsOk H gone true gone us [.c u] := ⟨_, [], hG, .same h1 (.nil _)⟩
/-- a thing's cells are one cell each, so many -/
class OneRow {α : Type} (enc : α → List V) (sz : outParam Nat) : Prop where
  len : ∀ x, (enc x).length = sz
  one : ∀ x, ∀ u ∈ enc x, ∃ v, u = .v v ∧ v.oneCell' = true
theorem ones_of {H : Nat → Option Ent} : ∀ {us : List V}, (∀ u ∈ us, ∃ v, u = .v v ∧ v.oneCell' = true) → ones H us
  | [], _ => trivial
  | u :: us, h => by
    obtain ⟨v, rfl, hv⟩ := h u (List.mem_cons_self ..)
    exact ⟨hv, ones_of fun w hw => h w (List.mem_cons_of_mem _ hw)⟩
theorem ones_rows {α : Type} {enc : α → List V} {sz : Nat} [OneRow enc sz] {H : Nat → Option Ent} {l : List α} : ∀ row ∈ l.map enc, row.length = sz ∧ ones H row := fun row hr => by
  obtain ⟨x, _, rfl⟩ := List.mem_map.1 hr
  exact ⟨OneRow.len x, ones_of (OneRow.one x)⟩
theorem outs_b {rs : List ParM} (h : rs.all outM = true) : ∀ p ∈ rs, outM p = true := List.all_eq_true.1 h
theorem cl_r1 {c : Bool} {rows : List (List V)} (h : clRs rows = true) : ∀ u ∈ [V.sl c rows], Cl u := fun u hu => by
  simp only [List.mem_cons, List.not_mem_nil, or_false] at hu; subst hu
  exact cl_sl (cl_rs h)
theorem cl_r1b {α : Type} {enc : α → List V} [FlatRow enc] {c : Bool} {l : List α} : ∀ u ∈ [V.sl c (l.map enc)], Cl u := fun u hu => by
  simp only [List.mem_cons, List.not_mem_nil, or_false] at hu; subst hu
  exact cl_list
theorem cl_rowF {α : Type} {enc : α → List V} [FlatRow enc] {x : α} : ∀ u ∈ enc x, Cl u := fun u hu => (fl_row u hu).cl
theorem pair_eq {α β : Type} {p : α × β} {a : α} {b : β} (h : p = (a, b)) : p.1 = a ∧ p.2 = b := by rw [h]; exact ⟨rfl, rfl⟩
/-- rows without things of our own -/
theorem cr_app {rs rs' : List (List V)} (h : ∀ r ∈ rs, ∀ u ∈ r, Cl u) (h' : ∀ r ∈ rs', ∀ u ∈ r, Cl u) : ∀ r ∈ rs ++ rs', ∀ u ∈ r, Cl u := cl_appB h h'
theorem cr_take {rs : List (List V)} {n : Nat} (h : ∀ r ∈ rs, ∀ u ∈ r, Cl u) : ∀ r ∈ rs.take n, ∀ u ∈ r, Cl u := fun r hr => h r (List.mem_of_mem_take hr)
theorem cr_drop {rs : List (List V)} {n : Nat} (h : ∀ r ∈ rs, ∀ u ∈ r, Cl u) : ∀ r ∈ rs.drop n, ∀ u ∈ r, Cl u := fun r hr => h r (List.mem_of_mem_drop hr)
theorem cr_repl {row : List V} {n : Nat} (h : clRs [row] = true) : ∀ r ∈ List.replicate n row, ∀ u ∈ r, Cl u := fun r hr => by
  obtain ⟨_, rfl⟩ := List.mem_replicate.1 hr
  exact cl_row h
theorem ret_osub {H : Nat → Option Ent} {id g n sz : Nat} {e : Ent} {T : TypeId} {rows : List (List V)} {us : List V} (hu : us = [.osub id g 0 n]) (he : H id = some e) (hg : e.gen = g) (hT : e.T = .t T) (hs : e.sz = sz) (hl : n ≤ e.rows.length) (hr : ∀ row ∈ e.rows, ∀ u ∈ row, Cl u) (hq : rows = e.rows.take n) : ArgsOk H [id] true [id] us [.o T sz rows] := by
  rw [hu, hq, ← hs]; exact .givv he hg hT hl hr (by simp) (by simp) (.nil _)
theorem ret_own {H : Nat → Option Ent} {id g sz : Nat} {e : Ent} {T : TypeId} {rows : List (List V)} {us : List V} (hu : us = [.own id g]) (he : H id = some e) (hg : e.gen = g) (hT : e.T = .t T) (hs : e.sz = sz) (hr : ∀ row ∈ rows, ∀ u ∈ row, Cl u) (hq : e.rows = rows) : ArgsOk H [id] true [id] us [.o T sz rows] := by
  subst hq; rw [hu, ← hs]; exact .give he hg hT hr (by simp) (by simp) (.nil _)
theorem flat_own2 {α β : Type} {enc : α → List V} {enc' : β → List V} [FlatRow enc] [FlatRow enc'] {T T' : TypeId} {sz sz' : Nat} {l : List α} {l' : List β} {ps : List Par} (h : flB ps = true) : flatRes (.o T sz (l.map enc) :: .o T' sz' (l'.map enc') :: ps) := by
  intro r hr
  rcases List.mem_cons.1 hr with rfl | hr
  · exact fl_rows
  · exact flat_own1 h r hr
/-! ### what is found by itself -/
theorem nI {a b : Nat} (h : Nat.ble a b = true := by exact rfl) : a ≤ b := Nat.le_of_ble_eq_true h
theorem oI {rs : List ParM} (h : rs.all outM = true := by exact rfl) : ∀ p ∈ rs, outM p = true := outs_b h
theorem dI {l : List Nat} (h : ndB l = true := by exact rfl) : l.Nodup := nd_b h
theorem tI {p : Prop} (h : p := by (repeat' (first | exact trivial | refine ⟨rfl, ?_⟩))) : p := h
theorem lI {p : Prop} (h : p := by (simp only [List.length_map, List.length_append, List.length_cons, List.length_nil, List.length_set, List.length_replicate, maxLen]; omega)) : p := h
theorem fI {rs : List Par} (h : flatRes rs := by (first | exact flat_b rfl | exact flat_own | exact flat_own1 rfl | exact flat_own2 rfl)) : flatRes rs := h
theorem mfI {rs : List ParM} (h : ∀ p ∈ rs, flatM p := by (intro p hp; simp only [exitsP, List.nil_append, List.append_nil, List.mem_cons, List.not_mem_nil, or_false] at hp; subst hp; first | exact flat_own | exact flat_b rfl)) : ∀ p ∈ rs, flatM p := h
theorem cBI {H : Nat → Option Ent} {all : List Nat} {cs cs' : List V} (h : CellsB H all cs cs' := by (repeat' (first | exact CellsB.nil | refine CellsB.same (by first | exact cl_b rfl | exact cl_list | exact cl_nil | assumption) ?_ | refine CellsB.nilsl _ ?_ | refine cB_own rfl rfl (by first | exact cl_rs rfl | exact cl_rows | exact cl_setB rfl | exact cl_setG (cl_setB rfl) rfl | exact cl_appB cl_rows (cl_rs rfl) | exact cl_rl1 | exact cl_rl2) (by decide) ?_))) : CellsB H all cs cs' := h
theorem aI {H : Nat → Option Ent} {all gone : List Nat} {bor : Bool} {us : List V} {ps : List Par} (h : ArgsOk H all bor gone us ps := by (repeat' (first | exact ArgsOk.nil _ | exact argsOk_cells (by assumption) | refine ArgsOk.same (by first | exact cl_b rfl | exact cl_list | exact cl_nil | exact cl_one | exact cl_ll1 | exact cl_ll2 | exact cl_clo (by assumption) | exact cl_agg' (by repeat' (first | exact clcs_nil | refine clcs_cons (by first | exact cl_b rfl | exact cl_list | exact cl_nil | assumption) ?_))) ?_ | refine ArgsOk.nilsl _ ?_ | refine ArgsOk.nilown _ _ (by decide) ?_ | refine ArgsOk.borp rfl rfl rfl (cl_row rfl) (by decide) ?_ | refine ArgsOk.borc (by (repeat' (first | exact cap_n | refine cap_p rfl rfl rfl (by first | exact cl_row rfl | exact cl_r1 rfl | exact cl_r1b) ?_ ?_ | refine cap_m rfl (by decide) ?_ | refine cap_c (by first | exact cl_b rfl | exact cl_list | exact cl_nil | exact cl_one | exact cl_ll1 | exact cl_ll2 | exact cl_clo (by assumption) | exact cl_agg' (by repeat' (first | exact clcs_nil | refine clcs_cons (by first | exact cl_b rfl | exact cl_list | exact cl_nil | assumption) ?_))) ?_ | decide))) ?_ | refine ArgsOk.bora cBI ?_ | refine ArgsOk.bor rfl rfl (deref_flat (by first | exact cl_rs rfl | exact cl_rows | exact cl_setB rfl | exact cl_setG (cl_setB rfl) rfl | exact cl_appB cl_rows (cl_rs rfl) | exact cl_rl1 | exact cl_rl2)) (by decide) ?_ | refine give' rfl (by first | exact cl_rs rfl | exact cl_rows | exact cl_setB rfl | exact cl_setG (cl_setB rfl) rfl | exact cl_appB cl_rows (cl_rs rfl) | exact cl_rl1 | exact cl_rl2) (by decide) (by decide) ?_))) : ArgsOk H all bor gone us ps := h
theorem aM {H : Nat → Option Ent} {all gone : List Nat} {bor : Bool} {us : List V} {ps : List ParM} (h : ArgsM H all bor gone us ps := by (repeat' (first | exact ArgsM.nil _ | refine aM_same (by first | exact cl_b rfl | exact cl_list | exact cl_nil | exact cl_one | exact cl_ll1 | exact cl_ll2 | exact cl_clo (by assumption) | exact cl_agg' (by repeat' (first | exact clcs_nil | refine clcs_cons (by first | exact cl_b rfl | exact cl_list | exact cl_nil | assumption) ?_))) ?_ | refine aM_nilsl _ ?_ | refine aM_nilown _ _ (by decide) ?_ | refine aM_mf rfl (cl_row rfl) (by decide) (by decide) rfl ?_ | refine aM_pf rfl (cl_row rfl) (by decide) (by decide) ?_ | refine aM_mo rfl (by decide) (by decide) ?_ | refine aM_po rfl (by decide) (by decide) ?_ | refine aM_borp rfl rfl rfl (cl_row rfl) (by decide) ?_ | refine aM_borc (by (repeat' (first | exact cap_n | refine cap_p rfl rfl rfl (by first | exact cl_row rfl | exact cl_r1 rfl | exact cl_r1b) ?_ ?_ | refine cap_m rfl (by decide) ?_ | refine cap_c (by first | exact cl_b rfl | exact cl_list | exact cl_nil | exact cl_one | exact cl_ll1 | exact cl_ll2 | exact cl_clo (by assumption) | exact cl_agg' (by repeat' (first | exact clcs_nil | refine clcs_cons (by first | exact cl_b rfl | exact cl_list | exact cl_nil | assumption) ?_))) ?_ | decide))) ?_ | refine aM_bora cBI ?_ | refine aM_bor rfl rfl (deref_flat (by first | exact cl_rs rfl | exact cl_rows | exact cl_setB rfl | exact cl_setG (cl_setB rfl) rfl | exact cl_appB cl_rows (cl_rs rfl) | exact cl_rl1 | exact cl_rl2)) (by decide) ?_ | refine aM_give rfl (by first | exact cl_rs rfl | exact cl_rows | exact cl_setB rfl | exact cl_setG (cl_setB rfl) rfl | exact cl_appB cl_rows (cl_rs rfl) | exact cl_rl1 | exact cl_rl2) (by decide) (by decide) ?_ | refine aM_ms rfl (by first | exact cl_rs rfl | exact cl_rows | exact cl_setB rfl | exact cl_setG (cl_setB rfl) rfl | exact cl_appB cl_rows (cl_rs rfl) | exact cl_rl1 | exact cl_rl2) (by decide) (by decide) (by simp) ?_))) : ArgsM H all bor gone us ps := h
theorem hxI {α : Type} {a b : α} {p : Prop} (hn : a = b) (h : a = b → p := by (intro hq; (repeat' (first | exact trivial | refine ⟨rfl, ?_⟩ | refine ⟨(by show some (Ent.mk _ _ _ _) = some (Ent.mk _ _ _ _); (first | (rw [hq]; done) | (rw [hq]; rfl) | (rw [hq, List.map_append]; done) | (rw [hq, List.map_append]; rfl) | (rw [hq, List.map_append, List.map_append]; done) | (rw [hq, List.map_append, List.map_append]; rfl))), ?_⟩ | refine ⟨(by show V.v _ = V.v _; (first | (rw [hq]; done) | (rw [hq]; rfl) | (rw [hq, List.map_append]; done) | (rw [hq, List.map_append]; rfl) | (rw [hq, List.map_append, List.map_append]; done) | (rw [hq, List.map_append, List.map_append]; rfl))), ?_⟩ | refine ⟨(by show V.sl _ _ = V.sl _ _; (first | (rw [hq]; done) | (rw [hq]; rfl) | (rw [hq, List.map_append]; done) | (rw [hq, List.map_append]; rfl) | (rw [hq, List.map_append, List.map_append]; done) | (rw [hq, List.map_append, List.map_append]; rfl))), ?_⟩)))) : p := h hn
structure Hold (q : Prop) : Prop where
  out : q
theorem goI {p q : Prop} (h : q) (e : Hold q → p := by (intro hq; (conv => whnf); (repeat' ((first | refine ⟨rfl, ?_⟩ | refine ⟨_, row_map (by assumption), ?_⟩ | refine ⟨_, (by exact some_rfl), ?_⟩ | refine ⟨_, wrap_ok (by omega) (by omega), ?_⟩ | refine ⟨_, wrap_u64 (by omega) (by omega), ?_⟩ | refine ⟨by decide, _, fdiv_half (by omega), ?_⟩); (conv => whnf))); exact hq.out)) : p := e ⟨h⟩
end Go.Proofs.Ytjhdlcmecbngkaa
/- slices.SortFunc, out of the shelf's contract, as a function that turns what it is lent. No program in sight. -/
namespace Go.Proofs.Ytjhdlcmecbngkaa
open Go.RowKit Go.Sort Go.Shelf
set_option linter.unusedVariables false
theorem callable_enters {P : Program} {f : FuncId} (h : Callable P f) : ∀ args w, (callFunc f args).run P w = .ok (.enter f args) w := fun args w => by
  obtain ⟨fn, h1, h2, h3⟩ := h
  have h2' : fn.name ≠ "runtime.NumGoroutine" := by simpa using h2
  have h3' : ¬ fn.body = none := by intro q; rw [q] at h3; simp at h3
  simp [callFunc, h1, h2', h3']
theorem world_of_fr {L : Nat → Prop} {w w' : World} (h : Fr L w w') (hL : ∀ b, ¬ L b) : ∃ q os, w' = Go.Sort.grow (w.drewN q) os := by
  refine ⟨w'.drawn - w.drawn, w'.heap.extract w.heap.size w'.heap.size, ?_⟩
  obtain ⟨hp, tp, dr, os, out⟩ := w
  obtain ⟨hp', tp', dr', os', out'⟩ := w'
  obtain ⟨rfl, rfl, rfl, h4, h5, h6⟩ := h
  have h4 : hp.size ≤ hp'.size := h4
  have h6 : dr ≤ dr' := h6
  have e : hp' = hp ++ hp'.extract hp.size hp'.size := by
    apply Array.ext_getElem?
    intro i
    by_cases hi : i < hp.size
    · rw [Array.getElem?_append_left hi]; exact h5 i hi (hL i)
    · rw [Array.getElem?_append_right (by omega), Array.getElem?_extract]
      by_cases hi' : i < hp'.size
      · rw [if_pos (by omega)]; congr 1; omega
      · rw [if_neg (by omega), Array.getElem?_eq_none (by omega)]
  have e2 : dr' = dr + (dr' - dr) := by omega
  unfold Go.Sort.grow World.drewN
  simp only [World.mk.injEq, true_and, and_true]
  exact ⟨e, e2⟩
section
variable {α : Type} [Inhabited α] {enc : α → Value}
theorem holds_blk {w : World} {g : Nat} {cur : Array Value} {e : TypeId} {ss : List α} (hb : w.heap[g]? = some (.cells cur e (0, 0))) (ht : cur.toList.take ss.length = ss.map enc) : Holds enc w g 0 ss.toArray := by
  intro j hj
  have hj' : j < ss.length := by simpa using hj
  refine ⟨?_, by simp [World.frozen?, hb]⟩
  have h1 : (cur.toList.take ss.length)[j]? = (ss.map enc)[j]? := by rw [ht]
  rw [List.getElem?_take_of_lt hj'] at h1
  simp only [World.cell?, hb, Nat.zero_add]
  simp only [Option.isSome_none, Bool.false_eq_true, if_false]
  rw [← Array.getElem?_toList, h1]
  simp [hj']
theorem heap_srt {w : World} {g n : Nat} {os : Array Obj} {cur : Array Value} {e : TypeId} {fr : Nat × Nat} (d : Array α) (hb : w.heap[g]? = some (.cells cur e fr)) :
    (sortWorld enc w g 0 n d os).heap[g]? = some (.cells (putCells enc 0 d cur) e fr) := by
  have hg : g < w.heap.size := (Array.getElem?_eq_some_iff.1 hb).1
  unfold sortWorld
  rw [heap_grow_old _ _ (by simpa using hg)]
  simp [putRow, mapBlock, Sort.ahead, Array.getElem?_modify, hb, onCells]
theorem heap_else {w : World} {g n k : Nat} {os : Array Obj} (d : Array α) (hk : k < w.heap.size) (hne : k ≠ g) : (sortWorld enc w g 0 n d os).heap[k]? = w.heap[k]? := by
  unfold sortWorld
  rw [heap_grow_old _ _ (by simpa using hk)]
  have : g ≠ k := fun e => hne e.symm
  simp [putRow, mapBlock, Sort.ahead, Array.getElem?_modify, this]
theorem srt_size {w : World} {g n : Nat} {os : Array Obj} (d : Array α) : w.heap.size ≤ (sortWorld enc w g 0 n d os).heap.size := by
  unfold sortWorld Go.Sort.grow; simp
theorem take_cells (cur : Array Value) (ts : List α) (h : ts.length ≤ cur.size) : (putCells enc 0 ts.toArray cur).toList.take ts.length = ts.map enc := by
  apply List.ext_getElem?
  intro j
  by_cases hj : j < ts.length
  · rw [List.getElem?_take_of_lt hj, Array.getElem?_toList]
    simp [putCells, hj, show j < cur.size by omega]
  · rw [List.getElem?_take_eq_none (by omega), List.getElem?_eq_none (by simp; omega)]
def oneRow (enc : α → Value) (x : α) : List V := [.v (enc x)]
def srtL (cf : α → α → Int) (d : List α) : List α := d.mergeSort fun x y => !(ltOf cf) y x
omit [Inhabited α] in
theorem rows_one {w : World} {R : Nat → Prop} {G : Nat → Option Loc} {d : List α} {vs : List Value} (hl : vs.length = d.length * 1) (h : RowsR w R G vs 1 (d.map (oneRow enc))) : vs = d.map enc := by
  apply List.ext_getElem?
  intro i
  by_cases hi : i < d.length
  · obtain ⟨x, h1, _, h2⟩ := h.2 i 0 (oneRow enc d[i]) (.v (enc d[i])) (by simp [hi]) rfl
    rw [Nat.mul_one, Nat.add_zero] at h1
    rw [h1, rv_v h2]; simp [hi]
  · rw [List.getElem?_eq_none (by omega), List.getElem?_eq_none (by simp; omega)]
omit [Inhabited α] in
theorem one_rows (h1 : OneCell enc) {w : World} {R : Nat → Prop} {G : Nat → Option Loc} (d : List α) : RowsR w R G (d.map enc) 1 (d.map (oneRow enc)) := by
  refine ⟨fun row hr => ?_, fun i j row u hi hj => ?_⟩
  · obtain ⟨x, _, rfl⟩ := List.mem_map.1 hr; rfl
  · have hi' : i < d.length := by have := (List.getElem?_eq_some_iff.1 hi).1; simpa using this
    have e : row = oneRow enc d[i] := by rw [List.getElem?_map, List.getElem?_eq_getElem hi'] at hi; simpa using hi.symm
    subst e
    cases j with
    | succ j => simp [oneRow] at hj
    | zero =>
      have e2 : u = .v (enc d[i]) := by simpa [oneRow] using hj.symm
      subst e2
      exact ⟨enc d[i], by simp [hi'], h1 _, .v _⟩
theorem sort_funM {P : Program} {ρ : Ren} (L : SlLaysF.n6 P ρ) (hcall : Callable P (ρ.f 6)) (T : TypeId) (h1 : OneCell enc) (cf : α → α → Int) (hO : SWO (ltOf cf)) (hT : ∀ x y, ltOf cf x y = false → ltOf cf y x = false → x = y) (f : FuncId) (caps : List V) (hfc : Callable P f) (d : List α) (hsz : d.length < 4611686018427387904)
    (hf : d ≠ [] → ∀ x y, Fun P f (.c (.v (enc x)) :: .c (.v (enc y)) :: caps.map .c) [.c (.v (.int .i64 (cf x y)))]) :
    FunM P (ρ.f 6) [.ms T 1 (d.map (oneRow enc)) ((srtL cf d).map (oneRow enc)), .p (.c (.clo f caps))] [] := by
  refine ⟨hcall, fun w R xs F hlt hp => ?_⟩
  match xs, hp with
  | [x0, x1], hp =>
    obtain ⟨F1, F2, ⟨⟨hpos, vs, hown, hrows⟩, hF1⟩, ⟨F3, F4, ⟨hx1, hF3⟩, hnil, hd34, hF2⟩, hd12, hF⟩ := hp
    have hx1 : RV w R noG (.clo f caps) x1 := hx1
    have hF3' : ∀ k, ¬ F3 k := fun k hk => by
      obtain ⟨i, T', sz, rows, x, q1, _⟩ := (hF3 k).1 hk
      cases i with
      | zero => simp at q1
      | succ i => simp at q1
    have hFF : ∀ b, F b ↔ F1 b := fun b => by
      rw [hF b, hF2 b]
      constructor
      · rintro (q | q | q)
        · exact q
        · exact absurd q (hF3' b)
        · exact absurd q (hnil b)
      · exact .inl
    cases hx1 with
    | clo f cs xs' hl hcs =>
      have hvs := rows_one (by simpa using hown.1) hrows
      subst hvs
      have hlen : (d.map (oneRow enc)).length = d.length := by simp
      have hslen : (srtL cf d).length = d.length := List.length_mergeSort d
      -- what comes back
      have fin : ∀ w', Fr F w w' → (∀ b, R b → w'.heap[b]? = w.heap[b]?) → w'.ownsRow 0 T 1 x0 (srtL cf d).length ((srtL cf d).map enc) →
          ∃ (ys : List Value) (R' F' : Nat → Prop), Ending.returned (Value.tuple #[]) = .returned (packV ys) ∧ ([] : List ParM).length = ys.length ∧ Fr F w w' ∧ (∀ b, R b → R' b) ∧ (∀ b, R' b → R b ∨ (b < w'.heap.size ∧ (F b ∨ w.heap.size ≤ b))) ∧
            ParsM w' R' (([] : List ParM) ++ exitsP [.ms T 1 (d.map (oneRow enc)) ((srtL cf d).map (oneRow enc)), .p (.c (.clo f caps))]) (ys ++ exitsX [.ms T 1 (d.map (oneRow enc)) ((srtL cf d).map (oneRow enc)), .p (.c (.clo f caps))] [x0, .func (.func f) #[] xs'.toArray]) F' ∧ (∀ b, F' b → F b ∨ w.heap.size ≤ b) := fun w' hfr hR ho => by
        refine ⟨[], R, F1, rfl, rfl, hfr, fun b hb => hb, fun b hb => .inl hb, ?_, fun b hb => .inl ((hFF b).2 hb)⟩
        refine ⟨F1, fun _ => False, ⟨⟨hpos, (srtL cf d).map enc, by rw [List.length_map]; exact ho, one_rows h1 _⟩, fun k => ?_⟩, fun b hb => hb, fun b hb => ⟨fun q => q, (hd12 b hb).2⟩, fun b => by simp⟩
        rw [hF1 k]
        constructor
        · rintro ⟨i, T', sz, rows, x, q1, q2, q3⟩
          cases i with
          | zero => simp at q1 q2; exact ⟨0, T, 1, _, x, rfl, by simpa using q2, q3⟩
          | succ i => simp at q1
        · rintro ⟨i, T', sz, rows, x, q1, q2, q3⟩
          cases i with
          | zero => simp at q1 q2; exact ⟨0, T, 1, _, x, rfl, by simpa using q2, q3⟩
          | succ i => simp at q1
      have hnone : ∀ (p : Option Addr) (cap : Nat), d = [] → x0 = .slice p 0 cap → Calls P (ρ.f 6) [x0, .func (.func f) #[] xs'.toArray].toArray w fun e w' => ∃ (ys : List Value) (R' F' : Nat → Prop), e = .returned (packV ys) ∧ ([] : List ParM).length = ys.length ∧ Fr F w w' ∧ (∀ b, R b → R' b) ∧ (∀ b, R' b → R b ∨ (b < w'.heap.size ∧ (F b ∨ w.heap.size ≤ b))) ∧
            ParsM w' R' (([] : List ParM) ++ exitsP [.ms T 1 (d.map (oneRow enc)) ((srtL cf d).map (oneRow enc)), .p (.c (.clo f caps))]) (ys ++ exitsX [.ms T 1 (d.map (oneRow enc)) ((srtL cf d).map (oneRow enc)), .p (.c (.clo f caps))] [x0, .func (.func f) #[] xs'.toArray]) F' ∧ (∀ b, F' b → F b ∨ w.heap.size ≤ b) := fun p cap hd0 hx => by
        have hs0 : srtL cf d = [] := List.eq_nil_of_length_eq_zero (by rw [hslen, hd0]; rfl)
        have h := AnyF.slices_SortFunc_none (P := P) (ρ := ρ) { L with } p cap (.func (.func f) #[] xs'.toArray) w
        rw [← hx] at h
        refine h.mono ?_
        rintro e w' ⟨rfl, rfl⟩
        refine fin w' (Fr.refl _ _) (fun _ _ => rfl) ?_
        rw [hs0]; rw [hd0] at hown; exact hown
      rcases hown.2 with ⟨hx, hz⟩ | ⟨g, cap, cur, hx, hbase, hb, hnc, hcm, hcs2, htake⟩
      · exact hnone none 0 (List.eq_nil_of_length_eq_zero (by omega)) hx
      · by_cases hd0 : d = []
        · exact hnone _ cap hd0 (by rw [hx, hd0]; rfl)
        · have hgR : ∀ b, R b → b ≠ g := fun b hb e => by
            have : F1 g := (hF1 g).2 ⟨0, T, 1, _, x0, rfl, rfl, by rw [hx]; rfl⟩
            exact (hd12 g this).2 (e ▸ hb)
          have hgF : F g := (hFF g).2 ((hF1 g).2 ⟨0, T, 1, _, x0, rfl, rfl, by rw [hx]; rfl⟩)
          have hgs : g < w.heap.size := (Array.getElem?_eq_some_iff.1 hb).1
          have hH : Holds enc w g 0 d.toArray := holds_blk hb (by simpa using htake)
          have hcmp : CmpLays1 P f xs'.toArray enc cf g 0 d.toArray.size w := fun m os dk hs x y => by
            have hW : ∀ b, R b → (sortWorld enc w g 0 m dk os).heap[b]? = w.heap[b]? := fun b hb => heap_else dk (hlt b hb) (hgR b hb)
            have hlt' : ∀ b, R b → b < (sortWorld enc w g 0 m dk os).heap.size := fun b hb => Nat.lt_of_lt_of_le (hlt b hb) (srt_size dk)
            have hpars : Pars (sortWorld enc w g 0 m dk os) R (.c (.v (enc x)) :: .c (.v (enc y)) :: caps.map .c) (enc x :: enc y :: xs') := by
              have hc : ∀ p ∈ (.c (.v (enc x)) :: .c (.v (enc y)) :: caps.map .c : List Par), ∃ u, p = .c u := fun p hp => by
                simp only [List.mem_cons, List.mem_map] at hp
                rcases hp with rfl | rfl | ⟨u, _, rfl⟩ <;> exact ⟨_, rfl⟩
              refine ⟨by simp [hl], fun i p z q1 q2 => ?_, fun i j T1 s1 r1 T2 s2 r2 z1 z2 b _ q1 => ?_, fun b hb => absurd hb (no_blk hc)⟩
              · match i with
                | 0 => simp at q1 q2; subst q1 q2; exact .v _
                | 1 => simp at q1 q2; subst q1 q2; exact .v _
                | i + 2 =>
                  simp only [List.getElem?_cons_succ, List.getElem?_map] at q1 q2
                  cases hu : caps[i]? with
                  | none => rw [hu] at q1; cases q1
                  | some u =>
                    rw [hu] at q1; injection q1 with q1; subst q1
                    exact (hcs i u z hu q2).mono (fun b hb => ⟨hb, hW b hb⟩) (Gle.refl _)
              · obtain ⟨u, hu⟩ := hc _ (List.mem_of_getElem? q1)
                cases hu
            have := (hf hd0 x y).2 _ R _ hlt' hpars
            have e0 : (#[enc x, enc y] ++ xs'.toArray : Array Value) = (enc x :: enc y :: xs').toArray := by simp
            rw [e0]
            refine this.mono fun e w' ⟨ys, R', he, hfr, _, _, hr, _⟩ => ?_
            have hy : ys = [.int .i64 (cf x y)] := pars_v (xs := [.int .i64 (cf x y)]) hr
            subst hy
            refine ⟨he, world_of_fr hfr fun b hb => no_blk (fun p hp => ?_) hb⟩
            simp only [List.mem_cons, List.mem_map] at hp
            rcases hp with rfl | rfl | ⟨u, _, rfl⟩ <;> exact ⟨_, rfl⟩
          have h := Any.slices_SortFunc_total L enc h1 cf hO f xs'.toArray g 0 cap d.toArray w (callable_enters hfc) hcmp hH hgs (by simpa using hsz) hT
          have e1 : x0 = .slice (some ⟨g, 0, none⟩) d.toArray.size cap := by rw [hx]; simp
          rw [← e1] at h
          refine h.mono ?_
          rintro e w' ⟨rfl, n, os, rfl⟩
          have hto : d.toArray.toList = d := by simp
          rw [hto]
          refine fin _ ⟨rfl, rfl, rfl, srt_size _, fun k hk hn => heap_else _ hk (fun e => hn (e ▸ hgF)), Nat.le_add_right _ _⟩ (fun b hb => heap_else _ (hlt b hb) (hgR b hb)) ?_
          rw [hx, hlen, ← hslen]
          refine ⟨by simp, .inr ⟨g, cap, _, rfl, Nat.zero_le _, heap_srt _ hb, by rw [hslen]; rw [hlen] at hnc; exact hnc, hcm, by simp [putCells, hcs2], ?_⟩⟩
          rw [Nat.mul_one]
          exact take_cells cur _ (by rw [hslen, hcs2]; rw [hlen] at hnc; omega)
end
end Go.Proofs.Ytjhdlcmecbngkaa
/- Plain: sorted lists, what is found in them, and what is put into them. No program in sight. -/
namespace Go.Proofs.Ytjhdlcmecbngkaa.Pl
set_option linter.unusedVariables false
section
variable {α : Type} {lt : α → α → Bool} {cf : α → Int} {l : List α}

theorem sorted_pair (htr : ∀ x y z, lt x y = true → lt y z = true → lt x z = true) (hs : sorted lt l = true) : ∀ j i, (hj : j < l.length) → (hij : i < j) → lt (l[i]'(by omega)) l[j] = true := by
  intro j
  induction j with
  | zero => intro i _ h; omega
  | succ j ih =>
    intro i hj hij
    have h1 := sorted_get hs j hj
    rcases (by omega : i < j ∨ i = j) with g | rfl
    · exact htr _ _ _ (ih i (by omega) g) h1
    · exact h1
/-- strictly: whoever stands ahead of one that is not behind the target stands ahead of the target -/
def SMono (cf : α → Int) (l : List α) : Prop := ∀ i j, (hj : j < l.length) → (hij : i < j) → cf l[j] ≤ 0 → cf (l[i]'(by omega)) < 0
theorem smono_of (htr : ∀ x y z, lt x y = true → lt y z = true → lt x z = true) (hcf : ∀ x y, lt x y = true → cf y ≤ 0 → cf x < 0) (hs : sorted lt l = true) : SMono cf l :=
  fun i j hj hij h => hcf _ _ (sorted_pair htr hs j i hj hij) h
theorem SMono.mono (h : SMono cf l) : Mono cf l := fun i j hi hj hij hc => by
  rcases (by omega : i < j ∨ i = j) with g | rfl
  · exact h i j hj g (by omega)
  · exact hc

theorem hit_lt (h : hit cf l = true) : low cf l < l.length := by
  rcases Nat.lt_or_ge (low cf l) l.length with g | g
  · exact g
  · rw [hit_out (by omega)] at h; cases h
theorem hit_zero (h : hit cf l = true) : cf (l[low cf l]'(hit_lt h)) = 0 := by
  have := hit_in (hit_lt h)
  rw [this] at h
  simpa using h
theorem low_ahead {x : α} (hx : x ∈ l.take (low cf l)) : cf x < 0 := by
  obtain ⟨i, hi, rfl⟩ := List.getElem_of_mem hx
  rw [List.length_take] at hi
  rw [List.getElem_take]
  exact low_lt (by omega) (by omega)
theorem low_behind (hm : SMono cf l) (h : hit cf l = false) {x : α} (hx : x ∈ l.drop (low cf l)) : 0 < cf x := by
  obtain ⟨i, hi, rfl⟩ := List.getElem_of_mem hx
  rw [List.length_drop] at hi
  rw [List.getElem_drop]
  have hlo : low cf l < l.length := by omega
  have h0 := low_ge hlo
  have h1 : cf l[low cf l] ≠ 0 := by
    rw [hit_in hlo] at h
    simpa using h
  rcases Nat.eq_zero_or_pos i with rfl | hp
  · simp only [Nat.add_zero]; omega
  · have := hm (low cf l) (low cf l + i) (by omega) (by omega)
    omega
theorem hit_behind (hm : SMono cf l) (h : hit cf l = true) {x : α} (hx : x ∈ l.drop (low cf l + 1)) : 0 < cf x := by
  obtain ⟨i, hi, rfl⟩ := List.getElem_of_mem hx
  rw [List.length_drop] at hi
  rw [List.getElem_drop]
  have h0 := hit_zero h
  have := hm (low cf l) (low cf l + 1 + i) (by omega) (by omega)
  omega
theorem split_at {k : Nat} (hk : k < l.length) : l = l.take k ++ l[k] :: l.drop (k + 1) := by
  rw [← List.drop_eq_getElem_cons hk, List.take_append_drop]

/-- what the reference finds -/
theorem at_sorted (hm : SMono cf l) : at_ (fun x => decide (cf x = 0)) l = if hit cf l = true then (low cf l : Int) else -1 := by
  split
  · rename_i h
    refine at_yes (hit_lt h) (fun i hi hlt => ?_) (by simpa using hit_zero h)
    have := low_lt (cf := cf) hi hlt
    simp; omega
  · rename_i h
    refine at_no fun i hi => ?_
    have hf : hit cf l = false := by simpa using h
    rcases Nat.lt_or_ge i (low cf l) with g | g
    · have := low_lt (cf := cf) hi g
      simp; omega
    · have hx : l[i] ∈ l.drop (low cf l) := by
        rw [List.mem_iff_getElem]
        exact ⟨i - low cf l, by rw [List.length_drop]; omega, by rw [List.getElem_drop]; congr 1; omega⟩
      have := low_behind hm hf hx
      simp; omega
/-- what the program puts: in its place, or in between -/
def putAt (cf : α → Int) (g : α) (l : List α) : List α := if hit cf l = true then l.set (low cf l) g else l.take (low cf l) ++ [g] ++ l.drop (low cf l)
theorem putL_sorted (hm : SMono cf l) (g : α) : putL (fun x => decide (0 ≤ cf x)) (fun x => decide (cf x ≠ 0)) g l = putAt cf g l := by
  unfold putAt
  split
  · rename_i h
    have hl := hit_lt h
    have e : l = l.take (low cf l) ++ l[low cf l] :: l.drop (low cf l + 1) := split_at hl
    have e2 : l.set (low cf l) g = l.take (low cf l) ++ g :: l.drop (low cf l + 1) := by
      rw [List.set_eq_take_append_cons_drop, if_pos hl]
    rw [e2]
    conv => lhs; arg 4; rw [e]
    refine putL_set (fun x hx => ?_) (fun x hx => ?_) ?_ ?_ (fun x hx => ?_)
    · have := low_ahead hx; simp; omega
    · have := low_ahead hx; simp; omega
    · have := hit_zero h; simp; omega
    · simpa using hit_zero h
    · have := hit_behind hm h hx; simp; omega
  · rename_i h
    have hf : hit cf l = false := by simpa using h
    conv => lhs; arg 4; rw [← List.take_append_drop (low cf l) l]
    refine putL_new (fun x hx => ?_) (fun x hx => ?_) (fun x hx => ?_) (fun x hx => ?_)
    · have := low_ahead hx; simp; omega
    · have := low_ahead hx; simp; omega
    · have := low_behind hm hf hx; simp; omega
    · have := low_behind hm hf hx; simp; omega
end
end Go.Proofs.Ytjhdlcmecbngkaa.Pl
/- Plain: sorted lists that are joined. No program in sight. -/
namespace Go.Proofs.Ytjhdlcmecbngkaa.Pl
set_option linter.unusedVariables false

/-- how things are held against each other: 'cf g x': x against g's key; 'lt': stands ahead -/
structure Ord {α : Type} (lt : α → α → Bool) (cf : α → α → Int) : Prop where
  neg : ∀ g x, cf g x < 0 ↔ lt x g = true
  pos : ∀ g x, 0 < cf g x ↔ lt g x = true
  trans : ∀ x y z, lt x y = true → lt y z = true → lt x z = true
  left : ∀ g x y, cf g x = 0 → lt x y = lt g y
  right : ∀ g x y, cf g x = 0 → lt y x = lt y g

section
variable {α : Type} {lt : α → α → Bool} {cf : α → α → Int} {l : List α}

theorem Ord.smono (o : Ord lt cf) (hs : sorted lt l = true) (g : α) : SMono (cf g) l :=
  smono_of o.trans (fun x y h hy => by
    rw [o.neg]
    rcases (by omega : cf g y < 0 ∨ cf g y = 0) with q | q
    · exact o.trans _ _ _ h ((o.neg g y).1 q)
    · rw [← o.right g y x q]; exact h) hs
theorem sorted_of_pair (h : ∀ j i, (hj : j < l.length) → (hij : i < j) → lt (l[i]'(by omega)) l[j] = true) : sorted lt l = true :=
  sorted_of fun i hi => h (i + 1) i hi (by omega)
theorem putAt_len (g : α) (cf : α → Int) : (putAt cf g l).length = if hit cf l = true then l.length else l.length + 1 := by
  unfold putAt
  have := low_le (cf := cf) l
  split
  · simp
  · simp; omega
theorem putAt_mem {cf : α → Int} {g x : α} (h : x ∈ putAt cf g l) : x = g ∨ x ∈ l := by
  unfold putAt at h
  split at h
  · rcases List.mem_or_eq_of_mem_set h with h | h
    · exact .inr h
    · exact .inl h
  · simp only [List.append_assoc, List.mem_append, List.mem_cons, List.not_mem_nil, or_false] at h
    rcases h with h | h | h
    · exact .inr (List.mem_of_mem_take h)
    · exact .inl h
    · exact .inr (List.mem_of_mem_drop h)
/-- sorted lists as chains -/
theorem sorted_iff (ht : ∀ x y z, lt x y = true → lt y z = true → lt x z = true) : sorted lt l = true ↔ l.Pairwise (fun x y => lt x y = true) := by
  constructor
  · intro h
    rw [List.pairwise_iff_getElem]
    intro i j hi hj hij
    exact sorted_pair ht h j i hj hij
  · intro h
    rw [List.pairwise_iff_getElem] at h
    exact sorted_of_pair fun j i hj hij => h i j (by omega) hj hij
theorem Ord.put (o : Ord lt cf) (hs : sorted lt l = true) (g : α) : sorted lt (putAt (cf g) g l) = true := by
  have hm := o.smono hs g
  rw [sorted_iff o.trans] at hs ⊢
  unfold putAt
  split
  · rename_i h
    have hl := hit_lt h
    have h0 := hit_zero h
    rw [List.set_eq_take_append_cons_drop, if_pos hl]
    have e := split_at hl
    rw [e] at hs
    rw [List.pairwise_append, List.pairwise_cons] at hs ⊢
    refine ⟨hs.1, ⟨fun y hy => ?_, hs.2.1.2⟩, fun x hx y hy => ?_⟩
    · rw [← o.left g _ y h0]; exact hs.2.1.1 y hy
    · rcases List.mem_cons.1 hy with rfl | hy
      · rw [← o.right _ _ x h0]; exact hs.2.2 x hx _ (List.mem_cons_self ..)
      · exact hs.2.2 x hx y (List.mem_cons_of_mem _ hy)
  · rename_i h
    have hf : hit (cf g) l = false := by simpa using h
    have e : l = l.take (low (cf g) l) ++ l.drop (low (cf g) l) := (List.take_append_drop _ _).symm
    rw [e, List.pairwise_append] at hs
    rw [List.append_assoc, List.pairwise_append, List.singleton_append, List.pairwise_cons]
    refine ⟨hs.1, ⟨fun y hy => (o.pos g y).1 (low_behind hm hf hy), hs.2.1⟩, fun x hx y hy => ?_⟩
    rcases List.mem_cons.1 hy with rfl | hy
    · exact (o.neg _ x).1 (low_ahead hx)
    · exact hs.2.2 x hx y hy

/-- put what is newer -/
def upd (cf : α → α → Int) (nw : α → α → Bool) (l : List α) (g : α) : List α :=
  match l[low (cf g) l]? with
  | some x => if hit (cf g) l = true ∧ nw g x = false then l else putAt (cf g) g l
  | none => putAt (cf g) g l
theorem upd_new {nw : α → α → Bool} {g : α} (h : hit (cf g) l = false) : upd cf nw l g = putAt (cf g) g l := by
  unfold upd; split <;> simp [h]
theorem upd_set {nw : α → α → Bool} {g : α} {lo : Nat} (hlo : low (cf g) l = lo) (hlt : lo < l.length) (h : nw g l[lo] = true) : upd cf nw l g = putAt (cf g) g l := by
  subst hlo
  unfold upd
  rw [List.getElem?_eq_getElem hlt]
  simp [h]
theorem upd_old {nw : α → α → Bool} {g : α} {lo : Nat} (hh : hit (cf g) l = true) (hlo : low (cf g) l = lo) (hlt : lo < l.length) (h : nw g l[lo] = false) : upd cf nw l g = l := by
  subst hlo
  unfold upd
  rw [List.getElem?_eq_getElem hlt]
  simp [h, hh]
theorem upd_cases (nw : α → α → Bool) (g : α) : upd cf nw l g = l ∨ upd cf nw l g = putAt (cf g) g l := by
  unfold upd
  split
  · split
    · exact .inl rfl
    · exact .inr rfl
  · exact .inr rfl
def joinL (cf : α → α → Int) (nw : α → α → Bool) (a b : List α) : List α := b.foldl (upd cf nw) a
theorem joinL_next {nw : α → α → Bool} {a b : List α} {k : Nat} (hk : k < b.length) : joinL cf nw a (b.take (k + 1)) = upd cf nw (joinL cf nw a (b.take k)) b[k] := by
  unfold joinL
  rw [take_snoc_ hk, List.foldl_append]
  rfl
theorem Ord.upd (o : Ord lt cf) (nw : α → α → Bool) (hs : sorted lt l = true) (g : α) : sorted lt (upd cf nw l g) = true := by
  rcases upd_cases (cf := cf) (l := l) nw g with h | h
  · rw [h]; exact hs
  · rw [h]; exact o.put hs g
theorem upd_len (nw : α → α → Bool) (g : α) : l.length ≤ (upd cf nw l g).length ∧ (upd cf nw l g).length ≤ l.length + 1 := by
  rcases upd_cases (cf := cf) (l := l) nw g with h | h
  · rw [h]; omega
  · rw [h, putAt_len]; split <;> omega
theorem upd_mem {nw : α → α → Bool} {g x : α} (h : x ∈ upd cf nw l g) : x = g ∨ x ∈ l := by
  rcases upd_cases (cf := cf) (l := l) nw g with e | e
  · rw [e] at h; exact .inr h
  · rw [e] at h; exact putAt_mem h
theorem Ord.join (o : Ord lt cf) (nw : α → α → Bool) : ∀ (b : List α) {a : List α}, sorted lt a = true → sorted lt (joinL cf nw a b) = true
  | [], a, h => h
  | g :: b, a, h => o.join nw b (o.upd nw h g)
theorem joinL_len (nw : α → α → Bool) : ∀ (b a : List α), a.length ≤ (joinL cf nw a b).length ∧ (joinL cf nw a b).length ≤ a.length + b.length
  | [], a => by simp [joinL]
  | g :: b, a => by
    have h1 := upd_len (cf := cf) (l := a) nw g
    have h2 := joinL_len nw b (upd cf nw a g)
    simp only [joinL, List.foldl_cons, List.length_cons] at *
    omega
theorem joinL_mem {nw : α → α → Bool} : ∀ {b a : List α} {x : α}, x ∈ joinL cf nw a b → x ∈ a ∨ x ∈ b
  | [], a, x, h => .inl h
  | g :: b, a, x, h => by
    rcases joinL_mem (b := b) (a := upd cf nw a g) h with h | h
    · rcases upd_mem h with rfl | h
      · exact .inr (by simp)
      · exact .inl h
    · exact .inr (by simp [h])
end
end Go.Proofs.Ytjhdlcmecbngkaa.Pl
/- Plain: hearing of one more. No program in sight. -/
namespace Go.Proofs.Ytjhdlcmecbngkaa.Pl
set_option linter.unusedVariables false
section
variable {α : Type} {cf : α → α → Int} {nw : α → α → Bool} {l : List α} {g : α}
/-- was it news? -/
def hearF (cf : α → α → Int) (nw : α → α → Bool) (l : List α) (g : α) : Bool := match l[low (cf g) l]? with
  | some x => !(hit (cf g) l) || nw g x
  | none => true
theorem hearF_miss (h : hit (cf g) l = false) : hearF cf nw l g = true := by unfold hearF; split <;> simp [h]
theorem hearF_hit (h : hit (cf g) l = true) : hearF cf nw l g = nw g (l[low (cf g) l]'(hit_lt h)) := by
  unfold hearF; rw [List.getElem?_eq_getElem (hit_lt h)]; simp [h]
theorem upd_miss (h : hit (cf g) l = false) : upd cf nw l g = l.take (low (cf g) l) ++ [g] ++ l.drop (low (cf g) l) := by
  rw [upd_new h]; simp [putAt, h]
theorem upd_newer (h : hit (cf g) l = true) (h2 : nw g (l[low (cf g) l]'(hit_lt h)) = true) : upd cf nw l g = l.set (low (cf g) l) g := by
  rw [upd_set rfl (hit_lt h) h2]; simp [putAt, h]
theorem upd_older (h : hit (cf g) l = true) (h2 : nw g (l[low (cf g) l]'(hit_lt h)) = false) : upd cf nw l g = l := upd_old h rfl (hit_lt h) h2
theorem upd_put (h : hearF cf nw l g = true) : upd cf nw l g = putAt (cf g) g l := by
  rcases Bool.eq_false_or_eq_true (hit (cf g) l) with q | q
  · rw [hearF_hit q] at h
    exact upd_set rfl (hit_lt q) h
  · exact upd_new q
end
end Go.Proofs.Ytjhdlcmecbngkaa.Pl
/- The code of the functions, resolved; printed by a program (mkrc.py) and held against the translation by the kernel. -/
namespace Go.Proofs.Ytjhdlcmecbngkaa
set_option linter.unusedVariables false
abbrev zq0 : List Value := [(.int .i64 0), (.int .i64 0), (.int .i64 0), (.int .i64 0), (.int .i64 0)]
abbrev zq1 : List Value := [(.string ⟨#[]⟩), (.int .i64 0), (.int .i64 0), (.int .i64 0), (.bool false), (.int .i64 0)]
abbrev zq2 : List Value := [(.string ⟨#[]⟩), (.int .i64 0), (.int .i64 0), (.int .i64 0), (.bool false)]
/-- hearsay/hearsaylaw.PlaceSorts -/
def rc_hearsaylaw_PlaceSorts : RCode :=
 .seq (.reg [Rq 3 (.box 23 5 0),Rq 6 (.mv (.const (.bool false)))])
 (.seq (.reg [Rq 13 (.load true 5 3),Rq 14 (.mv 1),Rq 15 (.mv 2),Rq 16 (.call (.func 8) [13, 14, 15]),Rq 12 (.mv 16),Rq 17 (.ext 12 0),Rq 18 (.ext 12 1),Rq 7 (.mv 17),Rq 8 (.mv 18)])
 (.seq (.reg [Rq 9 (.mv (Kq 0))])
 (.seq (.seq (.reg [Rq 19 (.mv 1),Rq 20 (.len false 19),Rq 21 (.bin .gtr 20 (Kq 100)),Rq 22 (.mv 21),Gq 23 22 false (.mv 2),Gq 24 22 false (.len false 23),Gq 25 22 false (.bin .gtr 24 (Kq 100)),Rq 26 (.pick 22 (.const (.bool true)) 25)])
 (.cond 26
 (.reg [Rq 9 (.mv (Kq 2))])
 (.reg [Rq 27 (.load true 5 3),Rq 28 (.call (.func 9) [27]),Rq 9 (.mv 28)])))
 (.seq (.seq (.reg [Rq 10 (.mv (Kq 0))])
 (.block 0
 (.loop
 (.seq (.seq (.reg [Rq 29 (.mv 10),Rq 30 (.mv 1),Rq 31 (.len false 30),Rq 32 (.bin .lss 29 31),Rq 33 (.mv 32),Gq 34 33 true (.mv 9),Gq 35 33 true (.bin .eql 34 (Kq 0)),Rq 36 (.pick 33 35 (.const (.bool false)))])
 (.cond 36
 (.skip)
 (.exit 0)))
 (.seq (.block 1
 (.reg [Rq 39 (.mv 1),Rq 40 (.mv 10),Rq 41 (.idxA 6 39 40),Rq 42 (.fldA 1 41),Rq 43 (.load true 5 42),Rq 44 (.call (.func 9) [43]),Rq 9 (.mv 44)]))
 (.reg [Rq 37 (.mv 10),Rq 38 (.bin .add 37 (Kq 1)),Rq 10 (.mv 38)]))))))
 (.seq (.reg [Rq 11 (.mv (.const (.slice none 0 0)))])
 (.seq (.seq (.reg [Rq 45 (.mv 9),Rq 46 (.bin .eql 45 (Kq 0))])
 (.cond 46
 (.reg [Rq 47 (.load true 5 3),Rq 48 (.mv 1),Rq 49 (.mv 2),Rq 50 (.call (.func 10) [47, 48, 49]),Rq 11 (.mv 50)])
 (.skip)))
 (.seq (.reg [Rq 51 (.call (.func 11) []),Rq 52 (.mv 51),Gq 53 52 true (.mv 8),Gq 54 52 true (.mv 9),Gq 55 52 true (.bin .eql 53 54),Rq 56 (.pick 52 55 (.const (.bool false))),Rq 57 (.mv 56),Gq 58 57 true (.mv 7),Gq 59 57 true (.mv 11),Gq 60 57 true (.call (.func 12) [58, 59]),Rq 61 (.pick 57 60 (.const (.bool false))),Rq 6 (.mv 61)])
 (.ret))))))))
theorem ck_hearsaylaw_PlaceSorts : chkFun Try.prog 3 3 = some (rc_hearsaylaw_PlaceSorts, [6]) := by kernel_rfl
/-- hearsay/hearsaylaw.RumorPuts -/
def rc_hearsaylaw_RumorPuts : RCode :=
 .seq (.reg [Rq 3 (.box 38 5 1),Rq 4 (.mv (.const (.bool false)))])
 (.seq (.reg [Rq 11 (.mv 0),Rq 12 (.load true 5 3),Rq 13 (.call (.func 13) [11, 12]),Rq 10 (.mv 13),Rq 14 (.ext 10 0),Rq 15 (.ext 10 1),Rq 5 (.mv 14),Rq 6 (.mv 15)])
 (.seq (.reg [Rq 16 (.mv 0),Rq 17 (.call (.func 14) [16]),Rq 7 (.mv 17)])
 (.seq (.reg [Rq 18 (.mv 7),Rq 8 (.mv 18)])
 (.seq (.seq (.reg [Rq 19 (.mv 8),Rq 20 (.bin .eql 19 (Kq 0))])
 (.cond 20
 (.reg [Rq 21 (.load true 5 3),Rq 22 (.call (.func 15) [21]),Rq 8 (.mv 22)])
 (.skip)))
 (.seq (.reg [Rq 9 (.mv (.const (.slice none 0 0)))])
 (.seq (.seq (.reg [Rq 23 (.mv 8),Rq 24 (.bin .eql 23 (Kq 0))])
 (.cond 24
 (.reg [Rq 26 (.mv 0),Rq 27 (.load true 5 3),Rq 28 (.call (.func 16) [26, 27]),Rq 25 (.mv 28),Rq 29 (.ext 25 0),Rq 30 (.ext 25 1),Rq 9 (.mv 29),Rq 8 (.mv 30)])
 (.skip)))
 (.seq (.reg [Rq 31 (.call (.func 17) []),Rq 32 (.mv 31),Gq 33 32 true (.mv 0),Gq 34 32 true (.call (.func 18) [33]),Gq 35 32 true (.mv 7),Gq 36 32 true (.bin .eql 34 35),Rq 37 (.pick 32 36 (.const (.bool false))),Rq 38 (.mv 37),Gq 39 38 true (.mv 6),Gq 40 38 true (.mv 8),Gq 41 38 true (.bin .eql 39 40),Rq 42 (.pick 38 41 (.const (.bool false))),Rq 43 (.mv 42),Gq 44 43 true (.mv 5),Gq 45 43 true (.mv 9),Gq 46 43 true (.call (.func 19) [44, 45]),Rq 47 (.pick 43 46 (.const (.bool false))),Rq 4 (.mv 47)])
 (.ret))))))))
theorem ck_hearsaylaw_RumorPuts : chkFun Try.prog 4 2 = some (rc_hearsaylaw_RumorPuts, [4]) := by kernel_rfl
/-- hearsay/hearsaylaw.RumorTakes -/
def rc_hearsaylaw_RumorTakes : RCode :=
 .seq (.reg [Rq 6 (.mv (.const (.bool false)))])
 (.seq (.reg [Rq 14 (.mv 0),Rq 15 (.mv 1),Rq 16 (.mv 2),Rq 17 (.call (.func 20) [14, 15, 16]),Rq 13 (.mv 17),Rq 18 (.ext 13 0),Rq 19 (.ext 13 1),Rq 20 (.ext 13 2),Rq 7 (.mv 18),Rq 8 (.mv 19),Rq 9 (.mv 20)])
 (.seq (.reg [Rq 21 (.mv 0),Rq 22 (.call (.func 14) [21]),Rq 10 (.mv 22)])
 (.seq (.seq (.reg [Rq 23 (.mv 10),Rq 24 (.bin .eql 23 (Kq 0)),Rq 25 (.mv 24),Gq 26 25 true (.mv 1),Gq 27 25 true (.bin .lss 26 (Kq 1)),Gq 28 25 true (.mv 27),Gq 29 28 false (.mv 1),Gq 30 28 false (.bin .gtr 29 (Kq 20)),Gq 31 25 true (.pick 28 (.const (.bool true)) 30),Gq 32 25 true (.mv 31),Gq 33 32 false (.mv 2),Gq 34 32 false (.bin .lss 33 (Kq 1)),Gq 35 25 true (.pick 32 (.const (.bool true)) 34),Gq 36 25 true (.mv 35),Gq 37 36 false (.mv 2),Gq 38 36 false (.bin .gtr 37 (Kq 100)),Gq 39 25 true (.pick 36 (.const (.bool true)) 38),Rq 40 (.pick 25 39 (.const (.bool false)))])
 (.cond 40
 (.reg [Rq 10 (.mv (Kq 3))])
 (.skip)))
 (.seq (.reg [Rq 11 (.mv (.const (.slice none 0 0)))])
 (.seq (.reg [Rq 12 (.mv (.const (.slice none 0 0)))])
 (.seq (.seq (.reg [Rq 41 (.mv 10),Rq 42 (.bin .eql 41 (Kq 0))])
 (.cond 42
 (.reg [Rq 44 (.mv 0),Rq 45 (.mv 1),Rq 46 (.mv 2),Rq 47 (.call (.func 21) [44, 45, 46]),Rq 43 (.mv 47),Rq 48 (.ext 43 0),Rq 49 (.ext 43 1),Rq 11 (.mv 48),Rq 12 (.mv 49)])
 (.skip)))
 (.seq (.reg [Rq 50 (.call (.func 17) []),Rq 51 (.mv 50),Gq 52 51 true (.mv 9),Gq 53 51 true (.mv 10),Gq 54 51 true (.bin .eql 52 53),Rq 55 (.pick 51 54 (.const (.bool false))),Rq 56 (.mv 55),Gq 57 56 true (.mv 7),Gq 58 56 true (.mv 11),Gq 59 56 true (.call (.func 22) [57, 58]),Rq 60 (.pick 56 59 (.const (.bool false))),Rq 61 (.mv 60),Gq 62 61 true (.mv 8),Gq 63 61 true (.mv 12),Gq 64 61 true (.call (.func 19) [62, 63]),Rq 65 (.pick 61 64 (.const (.bool false))),Rq 6 (.mv 65)])
 (.ret))))))))
theorem ck_hearsaylaw_RumorTakes : chkFun Try.prog 5 3 = some (rc_hearsaylaw_RumorTakes, [6]) := by kernel_rfl
/-- hearsay/hearsaylaw.RumorEnds -/
def rc_hearsaylaw_RumorEnds : RCode :=
 .seq (.reg [Rq 6 (.mv (.const (.bool false)))])
 (.seq (.seq (.reg [Rq 18 (.call (.func 17) []),Rq 19 (.not 18)])
 (.cond 19
 (.seq (.reg [Rq 6 (.mv (.const (.bool false)))])
 (.ret))
 (.skip)))
 (.seq (.reg [Rq 20 (.mv 1),Rq 21 (.call (.func 23) [20, (Kq 20)]),Rq 22 (.bin .add (Kq 1) 21),Rq 23 (.mv 2),Rq 24 (.call (.func 23) [23, (Kq 12)]),Rq 25 (.bin .add (Kq 1) 24),Rq 1 (.mv 22),Rq 2 (.mv 25)])
 (.seq (.reg [Rq 26 (.mv 0),Rq 27 (.len false 26),Rq 28 (.mkn 3 1 8 [(.int .i64 0)] 27 27),Rq 7 (.mv 28)])
 (.seq (.reg [Rq 29 (.mv 0),Rq 8 (.mv 29)])
 (.seq (.seq (.reg [Rq 9 (.mv (Kq 0))])
 (.block 0
 (.loop
 (.seq (.seq (.reg [Rq 30 (.mv 9),Rq 31 (.bin .leq 30 (Kq 240))])
 (.cond 31
 (.skip)
 (.exit 0)))
 (.seq (.block 1
 (.seq (.reg [Rq 35 (.mv 8),Rq 36 (.mv 1),Rq 37 (.mv 2),Rq 38 (.call (.func 20) [35, 36, 37]),Rq 34 (.mv 38),Rq 39 (.ext 34 0),Rq 40 (.ext 34 1),Rq 41 (.ext 34 2),Rq 10 (.mv 39),Rq 11 (.mv 40),Rq 12 (.mv 41)])
 (.seq (.seq (.reg [Rq 42 (.mv 12),Rq 43 (.bin .neq 42 (Kq 0))])
 (.cond 43
 (.seq (.reg [Rq 44 (.mv 9),Rq 45 (.bin .eql 44 (Kq 0)),Rq 46 (.mv 45),Gq 47 46 true (.mv 0),Gq 48 46 true (.call (.func 14) [47]),Gq 49 46 true (.bin .neq 48 (Kq 0)),Rq 50 (.pick 46 49 (.const (.bool false))),Rq 6 (.mv 50)])
 (.ret))
 (.skip)))
 (.seq (.seq (.reg [Rq 51 (.mv 11),Rq 52 (.call (.func 18) [51]),Rq 53 (.bin .neq 52 (Kq 0)),Rq 54 (.mv 53),Gq 55 54 false (.mv 10),Gq 56 54 false (.len false 55),Gq 57 54 false (.mv 1),Gq 58 54 false (.bin .gtr 56 57),Rq 59 (.pick 54 (.const (.bool true)) 58)])
 (.cond 59
 (.seq (.reg [Rq 6 (.mv (.const (.bool false)))])
 (.ret))
 (.skip)))
 (.seq (.seq (.reg [Rq 13 (.mv (Kq 0))])
 (.block 2
 (.loop
 (.seq (.seq (.reg [Rq 60 (.mv 13),Rq 61 (.mv 10),Rq 62 (.len false 61),Rq 63 (.bin .lss 60 62)])
 (.cond 63
 (.skip)
 (.exit 2)))
 (.seq (.block 3
 (.seq (.reg [Rq 14 (.mv (.const (.int .i64 (-1))))])
 (.seq (.seq (.reg [Rq 15 (.mv (Kq 0))])
 (.block 4
 (.loop
 (.seq (.seq (.reg [Rq 66 (.mv 15),Rq 67 (.mv 0),Rq 68 (.len false 67),Rq 69 (.bin .lss 66 68)])
 (.cond 69
 (.skip)
 (.exit 4)))
 (.seq (.block 5
 (.seq (.dreg [[Rq 72 (.mv 0),Rq 73 (.mv 15),Rq 74 (.idxA 6 72 73),Rq 75 (.fldA 0 74),Rq 76 (.load true 5 75),Rq 77 (.mv 10),Rq 78 (.mv 13),Rq 79 (.idxA 5 77 78),Rq 80 (.load true 5 79)],[Rq 81 (.eqS false [1, 0, 0, 0, 2] 76 80)]])
 (.cond 81
 (.reg [Rq 82 (.mv 15),Rq 14 (.mv 82)])
 (.skip))))
 (.reg [Rq 70 (.mv 15),Rq 71 (.bin .add 70 (Kq 1)),Rq 15 (.mv 71)]))))))
 (.seq (.seq (.reg [Rq 83 (.mv 14),Rq 84 (.bin .lss 83 (Kq 0))])
 (.cond 84
 (.seq (.reg [Rq 6 (.mv (.const (.bool false)))])
 (.ret))
 (.skip)))
 (.reg [Rq 85 (.mv 7),Rq 86 (.mv 14),Rq 87 (.idxA 1 85 86),Rq 88 (.load false 1 87),Rq 89 (.bin .add 88 (Kq 1)),Rq 90 (.idxA 1 85 86),Sq 1 90 89])))))
 (.reg [Rq 64 (.mv 13),Rq 65 (.bin .add 64 (Kq 1)),Rq 13 (.mv 65)]))))))
 (.seq (.reg [Rq 91 (.mv 11),Rq 8 (.mv 91)])
 (.seq (.reg [Rq 92 (.mv 8),Rq 93 (.len false 92),Rq 94 (.bin .eql 93 (Kq 0))])
 (.cond 94
 (.exit 0)
 (.skip)))))))))
 (.reg [Rq 32 (.mv 9),Rq 33 (.bin .add 32 (Kq 1)),Rq 9 (.mv 33)]))))))
 (.seq (.seq (.reg [Rq 16 (.mv (Kq 0))])
 (.block 6
 (.loop
 (.seq (.seq (.reg [Rq 95 (.mv 16),Rq 96 (.mv 0),Rq 97 (.len false 96),Rq 98 (.bin .lss 95 97)])
 (.cond 98
 (.skip)
 (.exit 6)))
 (.seq (.block 7
 (.seq (.reg [Rq 101 (.mv 2),Rq 102 (.mv 0),Rq 103 (.mv 16),Rq 104 (.idxA 6 102 103),Rq 105 (.fldA 5 104),Rq 106 (.load false 1 105),Rq 107 (.bin .sub 101 106),Rq 17 (.mv 107)])
 (.seq (.reg [Rq 108 (.mv 7),Rq 109 (.mv 16),Rq 110 (.idxA 1 108 109),Rq 111 (.load false 1 110),Rq 112 (.mv 17),Rq 113 (.mm true (Kq 1) 112),Rq 114 (.bin .gtr 111 113),Rq 115 (.mv 114),Gq 116 115 false (.mv 17),Gq 117 115 false (.bin .gtr 116 (Kq 0)),Gq 118 115 false (.mv 117),Gq 119 118 true (.mv 7),Gq 120 118 true (.mv 16),Gq 121 118 true (.idxA 1 119 120),Gq 122 118 true (.load false 1 121),Gq 123 118 true (.mv 17),Gq 124 118 true (.bin .neq 122 123),Gq 125 115 false (.pick 118 124 (.const (.bool false))),Rq 126 (.pick 115 (.const (.bool true)) 125)])
 (.cond 126
 (.seq (.reg [Rq 6 (.mv (.const (.bool false)))])
 (.ret))
 (.skip)))))
 (.reg [Rq 99 (.mv 16),Rq 100 (.bin .add 99 (Kq 1)),Rq 16 (.mv 100)]))))))
 (.seq (.reg [Rq 127 (.mv 8),Rq 128 (.len false 127),Rq 129 (.bin .eql 128 (Kq 0)),Rq 6 (.mv 129)])
 (.ret))))))))
theorem ck_hearsaylaw_RumorEnds : chkFun Try.prog 6 3 = some (rc_hearsaylaw_RumorEnds, [6]) := by kernel_rfl
/-- hearsay/hearsaylaw.RumorTimes -/
def rc_hearsaylaw_RumorTimes : RCode :=
 .seq (.reg [Rq 2 (.mv (.const (.bool false)))])
 (.seq (.reg [Rq 8 (.mv 0),Rq 9 (.call (.func 24) [8]),Rq 7 (.mv 9),Rq 10 (.ext 7 0),Rq 11 (.ext 7 1),Rq 3 (.mv 10),Rq 4 (.mv 11)])
 (.seq (.reg [Rq 5 (.mv (Kq 0)),Rq 6 (.mv (Kq 0))])
 (.seq (.seq (.reg [Rq 12 (.mv 0),Rq 13 (.bin .lss 12 (Kq 0)),Rq 14 (.mv 13),Gq 15 14 false (.mv 0),Gq 16 14 false (.bin .gtr 15 (Kq 20)),Rq 17 (.pick 14 (.const (.bool true)) 16)])
 (.cond 17
 (.reg [Rq 5 (.mv (Kq 3))])
 (.reg [Rq 18 (.mv 0),Rq 19 (.call (.func 25) [18]),Rq 6 (.mv 19)])))
 (.seq (.reg [Rq 20 (.call (.func 17) []),Rq 21 (.mv 20),Gq 22 21 true (.mv 4),Gq 23 21 true (.mv 5),Gq 24 21 true (.bin .eql 22 23),Rq 25 (.pick 21 24 (.const (.bool false))),Rq 26 (.mv 25),Gq 27 26 true (.mv 3),Gq 28 26 true (.mv 6),Gq 29 26 true (.bin .eql 27 28),Rq 30 (.pick 26 29 (.const (.bool false))),Rq 2 (.mv 30)])
 (.ret)))))
theorem ck_hearsaylaw_RumorTimes : chkFun Try.prog 7 1 = some (rc_hearsaylaw_RumorTimes, [2]) := by kernel_rfl
/-- hearsay/place.Sort -/
def rc_place_Sort : RCode :=
 .seq (.reg [Rq 3 (.box 23 5 0),Rq 6 (.mv (.const (.slice none 0 0))),Rq 7 (.mv (Kq 0))])
 (.seq (.seq (.reg [Rq 16 (.mv 1),Rq 17 (.len false 16),Rq 18 (.bin .gtr 17 (Kq 100)),Rq 19 (.mv 18),Gq 20 19 false (.mv 2),Gq 21 19 false (.len false 20),Gq 22 19 false (.bin .gtr 21 (Kq 100)),Rq 23 (.pick 19 (.const (.bool true)) 22)])
 (.cond 23
 (.seq (.reg [Rq 6 (.mv (.const (.slice none 0 0))),Rq 7 (.mv (Kq 2))])
 (.ret))
 (.skip)))
 (.seq (.seq (.reg [Rq 24 (.load true 5 3),Rq 25 (.call (.func 26) [24]),Rq 8 (.mv 25)])
 (.seq (.reg [Rq 26 (.mv 8),Rq 27 (.bin .neq 26 (Kq 0))])
 (.cond 27
 (.seq (.reg [Rq 28 (.mv 8),Rq 6 (.mv (.const (.slice none 0 0))),Rq 7 (.mv 28)])
 (.ret))
 (.skip))))
 (.seq (.reg [Rq 29 (.mkm),Rq 9 (.zbox 60 [(.map none)]),Sq 1 9 29])
 (.seq (.seq (.reg [Rq 30 (.mv 1),Rq 31 (.len false 30),Rq 32 (.mv (Kq 0))])
 (.block 0
 (.loop
 (.seq (.reg [Rq 33 (.bin .lss 32 31)])
 (.seq (.cond 33
 (.skip)
 (.exit 0))
 (.seq (.block 1
 (.seq (.reg [Rq 34 (.idxA 6 30 32),Rq 35 (.load true 6 34),Rq 11 (.zbox 31 [(.string ⟨#[]⟩), (.int .i64 0), (.int .i64 0), (.int .i64 0), (.int .i64 0), (.int .i64 0)]),Sq 6 11 35])
 (.seq (.seq (.reg [Rq 36 (.fldA 1 11),Rq 37 (.load true 5 36),Rq 38 (.call (.func 26) [37]),Rq 12 (.mv 38)])
 (.seq (.reg [Rq 39 (.mv 12),Rq 40 (.bin .neq 39 (Kq 0))])
 (.cond 40
 (.seq (.reg [Rq 41 (.mv 12),Rq 6 (.mv (.const (.slice none 0 0))),Rq 7 (.mv 41)])
 (.ret))
 (.skip))))
 (.seq (.reg [Rq 43 (.load false 1 9),Rq 44 (.fldA 0 11),Rq 45 (.load false 1 44),Rq 46 (.mlook .string true (.int .i64 0) 43 45),Rq 42 (.mv 46),Rq 47 (.ext 42 0),Rq 48 (.ext 42 1),Rq 13 (.mv 47),Rq 14 (.mv 48)])
 (.seq (.reg [Rq 49 (.mv 14),Rq 50 (.not 49)])
 (.cond 50
 (.dreg [[Rq 51 (.load false 1 9),Rq 52 (.fldA 0 11),Rq 53 (.load false 1 52),Rq 54 (.load true 5 3),Rq 55 (.fldA 1 11),Rq 56 (.load true 5 55),Rq 57 (.call (.func 27) [54, 56])],[⟨none, none, .mupd .string 51 53 57⟩]])
 (.skip)))))))
 (.reg [Rq 58 (.bin .add 32 (Kq 1)),Rq 32 (.mv 58)])))))))
 (.seq (.reg [Rq 59 (.mv 2),Rq 60 (.call (.func 28) [59]),Rq 15 (.mv 60)])
 (.seq (.reg [Rq 61 (.mv 15),Rq 62 (.mkfn 30 [9]),Rq 63 (.call (.func 29) [61, 62])])
 (.seq (.reg [Rq 64 (.mv 15),Rq 6 (.mv 64),Rq 7 (.mv (Kq 0))])
 (.ret))))))))
theorem ck_place_Sort : chkFun Try.prog 8 3 = some (rc_place_Sort, [6, 7]) := by kernel_rfl
/-- hearsay/hearsayref.CheckPlace -/
def rc_hearsayref_CheckPlace : RCode :=
 .seq (.reg [Rq 1 (.box 23 5 0),Rq 2 (.mv (Kq 0))])
 (.seq (.seq (.reg [Rq 3 (.fldA 0 1),Rq 4 (.load false 1 3),Rq 5 (.call (.func 34) [4, (.const (.int .i64 (-10000000))), (Kq 10000000)]),Rq 6 (.not 5),Rq 7 (.mv 6),Gq 8 7 false (.fldA 1 1),Gq 9 7 false (.load false 1 8),Gq 10 7 false (.call (.func 34) [9, (.const (.int .i64 (-10000000))), (Kq 10000000)]),Gq 11 7 false (.not 10),Rq 12 (.pick 7 (.const (.bool true)) 11),Rq 13 (.mv 12),Gq 14 13 false (.fldA 2 1),Gq 15 13 false (.load false 1 14),Gq 16 13 false (.call (.func 34) [15, (.const (.int .i64 (-10000000))), (Kq 10000000)]),Gq 17 13 false (.not 16),Rq 18 (.pick 13 (.const (.bool true)) 17),Rq 19 (.mv 18),Gq 20 19 false (.fldA 3 1),Gq 21 19 false (.load false 1 20),Gq 22 19 false (.call (.func 34) [21, (Kq 0), (Kq 1000000)]),Gq 23 19 false (.not 22),Rq 24 (.pick 19 (.const (.bool true)) 23),Rq 25 (.mv 24),Gq 26 25 false (.fldA 4 1),Gq 27 25 false (.load false 1 26),Gq 28 25 false (.call (.func 34) [27, (Kq 0), (Kq 1000)]),Gq 29 25 false (.not 28),Rq 30 (.pick 25 (.const (.bool true)) 29)])
 (.cond 30
 (.seq (.reg [Rq 2 (.mv (Kq 3))])
 (.ret))
 (.skip)))
 (.seq (.reg [Rq 2 (.mv (Kq 0))])
 (.ret)))
theorem ck_hearsayref_CheckPlace : chkFun Try.prog 9 1 = some (rc_hearsayref_CheckPlace, [2]) := by kernel_rfl
/-- hearsay/hearsayref.SortOf -/
def rc_hearsayref_SortOf : RCode :=
 .seq (.reg [Rq 3 (.box 23 5 0),Rq 6 (.mv (.const (.slice none 0 0)))])
 (.seq (.reg [Rq 7 (.mv (.const (.slice none 0 0)))])
 (.seq (.seq (.reg [Rq 8 (.mv (Kq 0))])
 (.block 0
 (.loop
 (.seq (.seq (.reg [Rq 13 (.mv 8),Rq 14 (.mv 2),Rq 15 (.len false 14),Rq 16 (.bin .lss 13 15)])
 (.cond 16
 (.skip)
 (.exit 0)))
 (.seq (.block 1
 (.seq (.dreg [[Rq 19 (.load true 5 3),Rq 20 (.mv 1),Rq 21 (.mv 2),Rq 22 (.mv 8),Rq 23 (.idxA 1 21 22),Rq 24 (.load false 1 23)],[Rq 25 (.call (.func 35) [19, 20, 24])],[Rq 9 (.mv 25)]])
 (.seq (.reg [Rq 10 (.mv (Kq 0))])
 (.seq (.block 2
 (.loop
 (.seq (.seq (.reg [Rq 26 (.mv 10),Rq 27 (.mv 7),Rq 28 (.len false 27),Rq 29 (.bin .lss 26 28)])
 (.cond 29
 (.skip)
 (.exit 2)))
 (.block 3
 (.seq (.dreg [[Rq 30 (.load true 5 3),Rq 31 (.mv 1),Rq 32 (.mv 7),Rq 33 (.mv 10),Rq 34 (.idxA 1 32 33),Rq 35 (.load false 1 34)],[Rq 36 (.call (.func 35) [30, 31, 35])],[Rq 11 (.mv 36)]])
 (.seq (.dreg [[Rq 37 (.mv 9)],[Rq 38 (.bin .lss 37 (Kq 0))],[Rq 39 (.mv 38)],[Gq 40 39 true (.mv 11)],[Gq 41 39 true (.bin .geq 40 (Kq 0))],[Rq 42 (.pick 39 41 (.const (.bool false)))],[Rq 43 (.mv 42)],[Gq 44 43 false (.mv 9),Gq 45 43 false (.bin .lss 44 (Kq 0)),Gq 46 43 false (.mv 11),Gq 47 43 false (.bin .lss 46 (Kq 0))],[Gq 48 43 false (.eqb false 45 47)],[Gq 49 43 false (.mv 48)],[Gq 50 49 true (.mv 11),Gq 51 49 true (.mv 9)],[Gq 52 49 true (.bin .lss 50 51)],[Gq 53 49 true (.mv 52)],[Gq 54 53 false (.mv 11),Gq 55 53 false (.mv 9)],[Gq 56 53 false (.bin .eql 54 55)],[Gq 57 53 false (.mv 56)],[Gq 58 57 true (.mv 7),Gq 59 57 true (.mv 10),Gq 60 57 true (.idxA 1 58 59),Gq 61 57 true (.load false 1 60),Gq 62 57 true (.mv 2),Gq 63 57 true (.mv 8),Gq 64 57 true (.idxA 1 62 63),Gq 65 57 true (.load false 1 64)],[Gq 66 57 true (.bin .leq 61 65)],[Gq 67 53 false (.pick 57 66 (.const (.bool false)))],[Gq 68 49 true (.pick 53 (.const (.bool true)) 67)],[Gq 69 43 false (.pick 49 68 (.const (.bool false)))],[Rq 70 (.pick 43 (.const (.bool true)) 69)],[Rq 12 (.mv 70)]])
 (.seq (.seq (.reg [Rq 71 (.mv 12),Rq 72 (.not 71)])
 (.cond 72
 (.exit 2)
 (.skip)))
 (.reg [Rq 73 (.mv 10),Rq 74 (.bin .add 73 (Kq 1)),Rq 10 (.mv 74)]))))))))
 (.dreg [[],[Rq 87 (.app 9 1 16 (.string ⟨#[]⟩) 83 86),Rq 78 (.mkm)],[Rq 75 (.mv 7),Rq 76 (.mv 10),Rq 77 (.mv 10),Rq 78 (.slcL 1 75 none (some 76) (some 77)),Rq 79 (.mv 2),Rq 80 (.mv 8),Rq 81 (.idxA 1 79 80),Rq 82 (.load false 1 81),Rq 83 (.mks 9 1 1 [(.string ⟨#[]⟩)] [(0, 82)]),Rq 84 (.mv 7),Rq 85 (.mv 10),Rq 86 (.slcL 1 84 (some 85) none none)],[Rq 88 (.app 9 1 16 (.string ⟨#[]⟩) 78 87)],[Rq 7 (.mv 88)]])))))
 (.reg [Rq 17 (.mv 8),Rq 18 (.bin .add 17 (Kq 1)),Rq 8 (.mv 18)]))))))
 (.seq (.reg [Rq 89 (.mv 7),Rq 6 (.mv 89)])
 (.ret))))
theorem ck_hearsayref_SortOf : chkFun Try.prog 10 3 = some (rc_hearsayref_SortOf, [6]) := by kernel_rfl
/-- hearsay/hearsaylaw.placeBegun -/
def rc_hearsaylaw_placeBegun : RCode :=
 .seq (.reg [Rq 0 (.mv (.const (.bool false)))])
 (.seq (.reg [Rq 6 (.call (.func 36) [(Kq 17)]),Rq 5 (.mv 6),Rq 7 (.ext 5 0),Rq 8 (.ext 5 1),Rq 1 (.mv 7),Rq 2 (.mv 8)])
 (.seq (.reg [Rq 10 (.build zq0 [(0, 1, (Kq 3)), (3, 1, (Kq 1))]),Rq 11 (.build zq0 [(1, 1, (Kq 4)), (3, 1, (Kq 2))]),Rq 12 (.call (.func 37) [10, 11]),Rq 9 (.mv 12),Rq 13 (.ext 9 0),Rq 14 (.ext 9 1),Rq 3 (.mv 13),Rq 4 (.mv 14)])
 (.seq (.reg [Rq 15 (.mv 2),Rq 16 (.bin .eql 15 (Kq 0)),Rq 17 (.mv 16),Gq 18 17 true (.mv 4),Gq 19 17 true (.bin .eql 18 (Kq 0)),Rq 20 (.pick 17 19 (.const (.bool false))),Rq 21 (.mv 20),Gq 22 21 true (.mv 1),Gq 23 21 true (.bin .eql 22 (Kq 4)),Rq 24 (.pick 21 23 (.const (.bool false))),Rq 25 (.mv 24),Gq 26 25 true (.mv 3),Gq 27 25 true (.bin .eql 26 (Kq 8)),Rq 28 (.pick 25 27 (.const (.bool false))),Rq 0 (.mv 28)])
 (.ret))))
theorem ck_hearsaylaw_placeBegun : chkFun Try.prog 11 0 = some (rc_hearsaylaw_placeBegun, [0]) := by kernel_rfl
/-- hearsay/hearsayref.SameTexts -/
def rc_hearsayref_SameTexts : RCode :=
 .seq (.reg [Rq 4 (.mv (.const (.bool false)))])
 (.seq (.seq (.reg [Rq 6 (.mv 0),Rq 7 (.len false 6),Rq 8 (.mv 1),Rq 9 (.len false 8),Rq 10 (.bin .neq 7 9)])
 (.cond 10
 (.seq (.reg [Rq 4 (.mv (.const (.bool false)))])
 (.ret))
 (.skip)))
 (.seq (.seq (.reg [Rq 5 (.mv (Kq 0))])
 (.block 0
 (.loop
 (.seq (.seq (.reg [Rq 11 (.mv 5),Rq 12 (.mv 0),Rq 13 (.len false 12),Rq 14 (.bin .lss 11 13)])
 (.cond 14
 (.skip)
 (.exit 0)))
 (.seq (.block 1
 (.seq (.dreg [[Rq 17 (.mv 0),Rq 18 (.mv 5),Rq 19 (.idxA 1 17 18),Rq 20 (.load false 1 19),Rq 21 (.mv 1),Rq 22 (.mv 5),Rq 23 (.idxA 1 21 22),Rq 24 (.load false 1 23)],[Rq 25 (.bin .neq 20 24)]])
 (.cond 25
 (.seq (.reg [Rq 4 (.mv (.const (.bool false)))])
 (.ret))
 (.skip))))
 (.reg [Rq 15 (.mv 5),Rq 16 (.bin .add 15 (Kq 1)),Rq 5 (.mv 16)]))))))
 (.seq (.reg [Rq 4 (.mv (.const (.bool true)))])
 (.ret))))
theorem ck_hearsayref_SameTexts : chkFun Try.prog 12 2 = some (rc_hearsayref_SameTexts, [4]) := by kernel_rfl
/-- hearsay/rumor.Put -/
def rc_rumor_Put : RCode :=
 .seq (.reg [Rq 3 (.box 38 5 1),Rq 4 (.mv (.const (.slice none 0 0))),Rq 5 (.mv (Kq 0))])
 (.seq (.reg [Rq 8 (.mv 0),Rq 9 (.call (.func 18) [8]),Rq 6 (.mv 9)])
 (.seq (.seq (.reg [Rq 10 (.mv 6),Rq 11 (.bin .eql 10 (Kq 0))])
 (.cond 11
 (.reg [Rq 12 (.load true 5 3),Rq 13 (.call (.func 38) [12]),Rq 6 (.mv 13)])
 (.skip)))
 (.seq (.seq (.reg [Rq 14 (.mv 6),Rq 15 (.bin .neq 14 (Kq 0))])
 (.cond 15
 (.seq (.reg [Rq 16 (.mv 6),Rq 4 (.mv (.const (.slice none 0 0))),Rq 5 (.mv 16)])
 (.ret))
 (.skip)))
 (.seq (.reg [Rq 17 (.mv 0),Rq 18 (.call (.func 39) [17]),Rq 0 (.mv 18)])
 (.seq (.seq (.reg [Rq 19 (.mv 0),Rq 20 (.mkfn 41 [3]),Rq 21 (.call (.func 40) [19, 20]),Rq 7 (.mv 21)])
 (.seq (.reg [Rq 22 (.mv 7),Rq 23 (.bin .geq 22 (Kq 0))])
 (.cond 23
 (.seq (.seq (.dreg [[Rq 24 (.load true 5 3),Rq 25 (.mv 0),Rq 26 (.mv 7),Rq 27 (.idxA 6 25 26),Rq 28 (.fldA 0 27),Rq 29 (.load true 5 28)],[Rq 30 (.call (.func 42) [24, 29])],[Rq 31 (.bin .leq 30 (Kq 0))]])
 (.cond 31
 (.seq (.reg [Rq 32 (.mv 0),Rq 4 (.mv 32),Rq 5 (.mv (Kq 0))])
 (.ret))
 (.skip)))
 (.reg [Rq 33 (.mv 0),Rq 34 (.mv 7),Rq 35 (.mv 7),Rq 36 (.bin .add 35 (Kq 1)),Rq 37 (.call (.func 43) [33, 34, 36]),Rq 0 (.mv 37)]))
 (.skip))))
 (.seq (.seq (.reg [Rq 38 (.mv 0),Rq 39 (.len false 38),Rq 40 (.bin .eql 39 (Kq 20))])
 (.cond 40
 (.seq (.reg [Rq 4 (.mv (.const (.slice none 0 0))),Rq 5 (.mv (Kq 2))])
 (.ret))
 (.skip)))
 (.seq (.reg [Rq 41 (.mv 0),Rq 42 (.load true 5 3),Rq 43 (.build zq1 [(0, 5, 42)]),Rq 44 (.mks 55 6 1 zq1 [(0, 43)]),Rq 45 (.app 55 6 56 (.agg #[(.string ⟨#[]⟩), (.int .i64 0), (.int .i64 0), (.int .i64 0), (.bool false), (.int .i64 0)]) 41 44),Rq 4 (.mv 45),Rq 5 (.mv (Kq 0))])
 (.ret))))))))
theorem ck_rumor_Put : chkFun Try.prog 13 2 = some (rc_rumor_Put, [4, 5]) := by kernel_rfl
/-- hearsay/hearsayref.CheckRumors -/
def rc_hearsayref_CheckRumors : RCode :=
 .seq (.reg [Rq 2 (.mv (Kq 0))])
 (.seq (.seq (.reg [Rq 8 (.mv 0),Rq 9 (.len false 8),Rq 10 (.bin .gtr 9 (Kq 20))])
 (.cond 10
 (.seq (.reg [Rq 2 (.mv (Kq 2))])
 (.ret))
 (.skip)))
 (.seq (.seq (.reg [Rq 3 (.mv (Kq 0))])
 (.block 0
 (.loop
 (.seq (.seq (.reg [Rq 11 (.mv 3),Rq 12 (.mv 0),Rq 13 (.len false 12),Rq 14 (.bin .lss 11 13)])
 (.cond 14
 (.skip)
 (.exit 0)))
 (.seq (.block 1
 (.seq (.reg [Rq 17 (.mv 0),Rq 18 (.mv 3),Rq 19 (.idxA 6 17 18),Rq 20 (.fldA 0 19),Rq 21 (.load true 5 20),Rq 22 (.call (.func 15) [21]),Rq 4 (.mv 22)])
 (.seq (.reg [Rq 23 (.mv 4),Rq 24 (.bin .neq 23 (Kq 0))])
 (.cond 24
 (.seq (.reg [Rq 25 (.mv 4),Rq 2 (.mv 25)])
 (.ret))
 (.skip)))))
 (.reg [Rq 15 (.mv 3),Rq 16 (.bin .add 15 (Kq 1)),Rq 3 (.mv 16)]))))))
 (.seq (.seq (.reg [Rq 5 (.mv (Kq 0))])
 (.block 2
 (.loop
 (.seq (.seq (.reg [Rq 26 (.mv 5),Rq 27 (.mv 0),Rq 28 (.len false 27),Rq 29 (.bin .lss 26 28)])
 (.cond 29
 (.skip)
 (.exit 2)))
 (.seq (.block 3
 (.seq (.reg [Rq 32 (.mv 0),Rq 33 (.mv 5),Rq 34 (.idxA 6 32 33),Rq 35 (.fldA 5 34),Rq 36 (.load false 1 35),Rq 37 (.call (.func 34) [36, (Kq 0), (Kq 100)]),Rq 38 (.not 37)])
 (.cond 38
 (.seq (.reg [Rq 2 (.mv (Kq 3))])
 (.ret))
 (.skip))))
 (.reg [Rq 30 (.mv 5),Rq 31 (.bin .add 30 (Kq 1)),Rq 5 (.mv 31)]))))))
 (.seq (.seq (.reg [Rq 6 (.mv (Kq 0))])
 (.block 4
 (.loop
 (.seq (.seq (.reg [Rq 39 (.mv 6),Rq 40 (.mv 0),Rq 41 (.len false 40),Rq 42 (.bin .lss 39 41)])
 (.cond 42
 (.skip)
 (.exit 4)))
 (.seq (.block 5
 (.seq (.reg [Rq 7 (.mv (Kq 0))])
 (.block 6
 (.loop
 (.seq (.seq (.reg [Rq 45 (.mv 7),Rq 46 (.mv 6),Rq 47 (.bin .lss 45 46)])
 (.cond 47
 (.skip)
 (.exit 6)))
 (.seq (.block 7
 (.seq (.dreg [[Rq 50 (.mv 0),Rq 51 (.mv 7),Rq 52 (.idxA 6 50 51),Rq 53 (.fldA 0 52),Rq 54 (.fldA 0 53),Rq 55 (.load false 1 54),Rq 56 (.mv 0),Rq 57 (.mv 6),Rq 58 (.idxA 6 56 57),Rq 59 (.fldA 0 58),Rq 60 (.fldA 0 59),Rq 61 (.load false 1 60)],[Rq 62 (.bin .eql 55 61)]])
 (.cond 62
 (.seq (.reg [Rq 2 (.mv (Kq 6))])
 (.ret))
 (.skip))))
 (.reg [Rq 48 (.mv 7),Rq 49 (.bin .add 48 (Kq 1)),Rq 7 (.mv 49)])))))))
 (.reg [Rq 43 (.mv 6),Rq 44 (.bin .add 43 (Kq 1)),Rq 6 (.mv 44)]))))))
 (.seq (.reg [Rq 2 (.mv (Kq 0))])
 (.ret))))))
theorem ck_hearsayref_CheckRumors : chkFun Try.prog 14 1 = some (rc_hearsayref_CheckRumors, [2]) := by kernel_rfl
/-- hearsay/hearsayref.OneMember -/
def rc_hearsayref_OneMember : RCode :=
 .seq (.reg [Rq 1 (.box 38 5 0),Rq 2 (.mv (Kq 0))])
 (.seq (.block 0
 (.seq (.reg [Rq 4 (.fldA 0 1),Rq 5 (.load false 1 4),Rq 6 (.call (.func 44) [5]),Rq 7 (.not 6),Rq 3 (.mv 7)])
 (.cond 3
 (.seq (.reg [Rq 2 (.mv (Kq 1))])
 (.ret))
 (.seq (.reg [Rq 9 (.fldA 1 1),Rq 10 (.load false 1 9),Rq 11 (.call (.func 34) [10, (Kq 1), (Kq 4)]),Rq 12 (.not 11),Rq 8 (.mv 12)])
 (.cond 8
 (.seq (.reg [Rq 2 (.mv (Kq 7))])
 (.ret))
 (.seq (.seq (.reg [Rq 14 (.fldA 2 1),Rq 15 (.load false 1 14),Rq 16 (.call (.func 34) [15, (Kq 1), (Kq 1000000)]),Rq 17 (.not 16),Rq 13 (.mv 17)])
 (.cond 13
 (.skip)
 (.reg [Rq 18 (.fldA 3 1),Rq 19 (.load false 1 18),Rq 20 (.call (.func 45) [19]),Rq 21 (.not 20),Rq 13 (.mv 21)])))
 (.cond 13
 (.seq (.reg [Rq 2 (.mv (Kq 3))])
 (.ret))
 (.skip))))))))
 (.seq (.reg [Rq 2 (.mv (Kq 0))])
 (.ret)))
theorem ck_hearsayref_OneMember : chkFun Try.prog 15 1 = some (rc_hearsayref_OneMember, [2]) := by kernel_rfl
/-- hearsay/hearsayref.PutRumor -/
def rc_hearsayref_PutRumor : RCode :=
 .seq (.reg [Rq 3 (.box 38 5 1),Rq 4 (.mv (.const (.slice none 0 0))),Rq 5 (.mv (Kq 0))])
 (.seq (.reg [Rq 6 (.mv (.const (.slice none 0 0)))])
 (.seq (.seq (.reg [Rq 7 (.mv (Kq 0))])
 (.block 0
 (.loop
 (.seq (.seq (.reg [Rq 8 (.mv 7),Rq 9 (.mv 0),Rq 10 (.len false 9),Rq 11 (.bin .lss 8 10)])
 (.cond 11
 (.skip)
 (.exit 0)))
 (.seq (.block 1
 (.seq (.dreg [[Rq 14 (.mv 0),Rq 15 (.mv 7),Rq 16 (.idxA 6 14 15),Rq 17 (.fldA 0 16),Rq 18 (.fldA 0 17),Rq 19 (.load false 1 18),Rq 20 (.fldA 0 3),Rq 21 (.load false 1 20)],[Rq 22 (.bin .neq 19 21)]])
 (.cond 22
 (.reg [Rq 23 (.mv 6),Rq 24 (.mv 0),Rq 25 (.mv 7),Rq 26 (.idxA 6 24 25),Rq 27 (.load true 6 26),Rq 28 (.mks 55 6 1 zq1 [(0, 27)]),Rq 29 (.app 55 6 56 (.agg #[(.string ⟨#[]⟩), (.int .i64 0), (.int .i64 0), (.int .i64 0), (.bool false), (.int .i64 0)]) 23 28),Rq 6 (.mv 29)])
 (.seq (.dreg [[Rq 30 (.load true 5 3),Rq 31 (.mv 0),Rq 32 (.mv 7),Rq 33 (.idxA 6 31 32),Rq 34 (.fldA 0 33),Rq 35 (.load true 5 34)],[Rq 36 (.call (.func 46) [30, 35])],[Rq 37 (.not 36)]])
 (.cond 37
 (.seq (.reg [Rq 38 (.mv 0),Rq 4 (.mv 38),Rq 5 (.mv (Kq 0))])
 (.ret))
 (.skip))))))
 (.reg [Rq 12 (.mv 7),Rq 13 (.bin .add 12 (Kq 1)),Rq 7 (.mv 13)]))))))
 (.seq (.seq (.reg [Rq 39 (.mv 6),Rq 40 (.len false 39),Rq 41 (.bin .eql 40 (Kq 20))])
 (.cond 41
 (.seq (.reg [Rq 4 (.mv (.const (.slice none 0 0))),Rq 5 (.mv (Kq 2))])
 (.ret))
 (.skip)))
 (.seq (.reg [Rq 42 (.mv 6),Rq 43 (.load true 5 3),Rq 44 (.build zq1 [(0, 5, 43)]),Rq 45 (.mks 55 6 1 zq1 [(0, 44)]),Rq 46 (.app 55 6 56 (.agg #[(.string ⟨#[]⟩), (.int .i64 0), (.int .i64 0), (.int .i64 0), (.bool false), (.int .i64 0)]) 42 45),Rq 4 (.mv 46),Rq 5 (.mv (Kq 0))])
 (.ret)))))
theorem ck_hearsayref_PutRumor : chkFun Try.prog 16 2 = some (rc_hearsayref_PutRumor, [4, 5]) := by kernel_rfl
/-- hearsay/hearsaylaw.rumorBegun -/
def rc_hearsaylaw_rumorBegun : RCode :=
 .seq (.reg [Rq 0 (.mv (.const (.bool false)))])
 (.seq (.reg [Rq 7 (.build zq2 [(0, 1, (.const (.string ⟨#[97]⟩))), (1, 1, (Kq 1)), (2, 1, (Kq 1))]),Rq 8 (.call (.func 13) [(.const (.slice none 0 0)), 7]),Rq 6 (.mv 8),Rq 9 (.ext 6 0),Rq 10 (.ext 6 1),Rq 1 (.mv 9),Rq 2 (.mv 10)])
 (.seq (.reg [Rq 12 (.mv 1),Rq 13 (.call (.func 20) [12, (Kq 5), (Kq 2)]),Rq 11 (.mv 13),Rq 14 (.ext 11 0),Rq 15 (.ext 11 1),Rq 16 (.ext 11 2),Rq 3 (.mv 14),Rq 4 (.mv 15),Rq 5 (.mv 16)])
 (.seq (.reg [Rq 17 (.mv 2),Rq 18 (.bin .eql 17 (Kq 0)),Rq 19 (.mv 18),Gq 20 19 true (.mv 5),Gq 21 19 true (.bin .eql 20 (Kq 0)),Rq 22 (.pick 19 21 (.const (.bool false))),Rq 23 (.mv 22),Gq 24 23 true (.mv 3),Gq 25 23 true (.len false 24),Gq 26 23 true (.bin .eql 25 (Kq 1)),Rq 27 (.pick 23 26 (.const (.bool false))),Rq 28 (.mv 27),Gq 29 28 true (.mv 4),Gq 30 28 true (.len false 29),Gq 31 28 true (.bin .eql 30 (Kq 1)),Rq 32 (.pick 28 31 (.const (.bool false))),Rq 33 (.mv 32),Gq 34 33 true (.mv 4),Gq 35 33 true (.idxA 6 34 (Kq 0)),Gq 36 33 true (.fldA 5 35),Gq 37 33 true (.load false 1 36),Gq 38 33 true (.bin .eql 37 (Kq 1)),Rq 39 (.pick 33 38 (.const (.bool false))),Rq 0 (.mv 39)])
 (.ret))))
theorem ck_hearsaylaw_rumorBegun : chkFun Try.prog 17 0 = some (rc_hearsaylaw_rumorBegun, [0]) := by kernel_rfl
/-- hearsay/rumor.Check -/
def rc_rumor_Check : RCode :=
 .seq (.reg [Rq 2 (.mv (Kq 0))])
 (.seq (.seq (.reg [Rq 7 (.mv 0),Rq 8 (.len false 7),Rq 9 (.bin .gtr 8 (Kq 20))])
 (.cond 9
 (.seq (.reg [Rq 2 (.mv (Kq 2))])
 (.ret))
 (.skip)))
 (.seq (.reg [Rq 10 (.mkm),Rq 3 (.mv 10)])
 (.seq (.seq (.reg [Rq 11 (.mv 0),Rq 12 (.len false 11),Rq 13 (.mv (Kq 0))])
 (.block 0
 (.loop
 (.seq (.reg [Rq 14 (.bin .lss 13 12)])
 (.seq (.cond 14
 (.skip)
 (.exit 0))
 (.seq (.block 1
 (.seq (.reg [Rq 15 (.idxA 6 11 13),Rq 16 (.load true 6 15),Rq 5 (.zbox 55 zq1),Sq 6 5 16])
 (.seq (.seq (.reg [Rq 17 (.fldA 0 5),Rq 18 (.load true 5 17),Rq 19 (.call (.func 38) [18]),Rq 6 (.mv 19)])
 (.seq (.reg [Rq 20 (.mv 6),Rq 21 (.bin .neq 20 (Kq 0))])
 (.cond 21
 (.seq (.reg [Rq 22 (.mv 6),Rq 2 (.mv 22)])
 (.ret))
 (.skip))))
 (.reg [Rq 23 (.mv 3),Rq 24 (.fldA 0 5),Rq 25 (.fldA 0 24),Rq 26 (.load false 1 25),⟨none, none, .mupd .string 23 26 (.const (.bool true))⟩]))))
 (.reg [Rq 27 (.bin .add 13 (Kq 1)),Rq 13 (.mv 27)])))))))
 (.seq (.block 2
 (.seq (.reg [Rq 29 (.mv 0),Rq 30 (.call (.func 47) [29, (.func 48)]),Rq 28 (.mv 30)])
 (.cond 28
 (.seq (.reg [Rq 2 (.mv (Kq 3))])
 (.ret))
 (.seq (.reg [Rq 32 (.mv 3),Rq 33 (.mlen 32),Rq 34 (.mv 0),Rq 35 (.len false 34),Rq 36 (.bin .lss 33 35),Rq 31 (.mv 36)])
 (.cond 31
 (.seq (.reg [Rq 2 (.mv (Kq 6))])
 (.ret))
 (.skip))))))
 (.seq (.reg [Rq 2 (.mv (Kq 0))])
 (.ret))))))
theorem ck_rumor_Check : chkFun Try.prog 18 1 = some (rc_rumor_Check, [2]) := by kernel_rfl
/-- hearsay/hearsayref.SameRumors -/
def rc_hearsayref_SameRumors : RCode :=
 .seq (.reg [Rq 4 (.mv (.const (.bool false)))])
 (.seq (.seq (.reg [Rq 6 (.mv 0),Rq 7 (.len false 6),Rq 8 (.mv 1),Rq 9 (.len false 8),Rq 10 (.bin .neq 7 9)])
 (.cond 10
 (.seq (.reg [Rq 4 (.mv (.const (.bool false)))])
 (.ret))
 (.skip)))
 (.seq (.seq (.reg [Rq 5 (.mv (Kq 0))])
 (.block 0
 (.loop
 (.seq (.seq (.reg [Rq 11 (.mv 5),Rq 12 (.mv 0),Rq 13 (.len false 12),Rq 14 (.bin .lss 11 13)])
 (.cond 14
 (.skip)
 (.exit 0)))
 (.seq (.block 1
 (.seq (.dreg [[Rq 17 (.mv 0),Rq 18 (.mv 5),Rq 19 (.idxA 6 17 18),Rq 20 (.load true 6 19),Rq 21 (.mv 1),Rq 22 (.mv 5),Rq 23 (.idxA 6 21 22),Rq 24 (.load true 6 23)],[Rq 25 (.eqS true [1, 0, 0, 0, 2, 0] 20 24)]])
 (.cond 25
 (.seq (.reg [Rq 4 (.mv (.const (.bool false)))])
 (.ret))
 (.skip))))
 (.reg [Rq 15 (.mv 5),Rq 16 (.bin .add 15 (Kq 1)),Rq 5 (.mv 16)]))))))
 (.seq (.reg [Rq 4 (.mv (.const (.bool true)))])
 (.ret))))
theorem ck_hearsayref_SameRumors : chkFun Try.prog 19 2 = some (rc_hearsayref_SameRumors, [4]) := by kernel_rfl
/-- hearsay/rumor.Take -/
def rc_rumor_Take : RCode :=
 .seq (.reg [Rq 3 (.box 36 1 0),Rq 5 (.box 3 1 2),Rq 6 (.mv (.const (.slice none 0 0))),Rq 7 (.mv (.const (.slice none 0 0))),Rq 8 (.mv (Kq 0))])
 (.seq (.seq (.reg [Rq 15 (.load false 1 3),Rq 16 (.call (.func 18) [15]),Rq 9 (.mv 16)])
 (.seq (.reg [Rq 17 (.mv 9),Rq 18 (.bin .neq 17 (Kq 0))])
 (.cond 18
 (.seq (.reg [Rq 19 (.mv 9),Rq 6 (.mv (.const (.slice none 0 0))),Rq 7 (.mv (.const (.slice none 0 0))),Rq 8 (.mv 19)])
 (.ret))
 (.skip))))
 (.seq (.seq (.reg [Rq 20 (.mv 1),Rq 21 (.bin .lss 20 (Kq 1)),Rq 22 (.mv 21),Gq 23 22 false (.mv 1),Gq 24 22 false (.bin .gtr 23 (Kq 20)),Rq 25 (.pick 22 (.const (.bool true)) 24),Rq 26 (.mv 25),Gq 27 26 false (.load false 1 5),Gq 28 26 false (.bin .lss 27 (Kq 1)),Rq 29 (.pick 26 (.const (.bool true)) 28),Rq 30 (.mv 29),Gq 31 30 false (.load false 1 5),Gq 32 30 false (.bin .gtr 31 (Kq 100)),Rq 33 (.pick 30 (.const (.bool true)) 32)])
 (.cond 33
 (.seq (.reg [Rq 6 (.mv (.const (.slice none 0 0))),Rq 7 (.mv (.const (.slice none 0 0))),Rq 8 (.mv (Kq 3))])
 (.ret))
 (.skip)))
 (.seq (.reg [Rq 34 (.load false 1 3),Rq 35 (.len false 34),Rq 36 (.mkn 3 1 8 [(.int .i64 0)] 35 35),Rq 10 (.mv 36)])
 (.seq (.seq (.reg [Rq 37 (.mv 10),Rq 38 (.len false 37),Rq 39 (.mv (Kq 0))])
 (.block 0
 (.loop
 (.seq (.reg [Rq 40 (.bin .lss 39 38)])
 (.seq (.cond 40
 (.skip)
 (.exit 0))
 (.seq (.block 1
 (.seq (.reg [Rq 41 (.mv 39),Rq 11 (.mv 41)])
 (.reg [Rq 42 (.mv 10),Rq 43 (.mv 11),Rq 44 (.mv 11),Rq 45 (.idxA 1 42 43),Sq 1 45 44])))
 (.reg [Rq 46 (.bin .add 39 (Kq 1)),Rq 39 (.mv 46)])))))))
 (.seq (.reg [Rq 47 (.mv 10),Rq 48 (.mkfn 50 [3]),Rq 49 (.call (.func 49) [47, 48])])
 (.seq (.reg [Rq 50 (.load false 1 3),Rq 51 (.call (.func 39) [50]),Sq 1 3 51])
 (.seq (.reg [Rq 12 (.mv (.const (.slice none 0 0)))])
 (.seq (.seq (.reg [Rq 52 (.mv 10),Rq 53 (.mv 1),Rq 54 (.load false 1 3),Rq 55 (.len false 54),Rq 56 (.mm false 53 55),Rq 57 (.slcL 1 52 none (some 56) none),Rq 58 (.len false 57),Rq 59 (.mv (Kq 0))])
 (.block 2
 (.loop
 (.seq (.reg [Rq 60 (.bin .lss 59 58)])
 (.seq (.cond 60
 (.skip)
 (.exit 2))
 (.seq (.block 3
 (.seq (.reg [Rq 61 (.idxA 1 57 59),Rq 62 (.load false 1 61),Rq 14 (.mv 62)])
 (.seq (.reg [Rq 63 (.mv 12),Rq 64 (.load false 1 3),Rq 65 (.mv 14),Rq 66 (.idxA 6 64 65),Rq 67 (.fldA 0 66),Rq 68 (.load true 5 67),Rq 69 (.mks 38 5 1 zq2 [(0, 68)]),Rq 70 (.app 38 5 48 (.agg #[(.string ⟨#[]⟩), (.int .i64 0), (.int .i64 0), (.int .i64 0), (.bool false)]) 63 69),Rq 12 (.mv 70)])
 (.reg [Rq 71 (.load false 1 3),Rq 72 (.mv 14),Rq 73 (.idxA 6 71 72),Rq 74 (.fldA 5 73),Rq 75 (.load false 1 74),Rq 76 (.bin .add 75 (Kq 1)),Rq 77 (.idxA 6 71 72),Rq 78 (.fldA 5 77),Sq 1 78 76]))))
 (.reg [Rq 79 (.bin .add 59 (Kq 1)),Rq 59 (.mv 79)])))))))
 (.seq (.reg [Rq 80 (.mv 12),Rq 81 (.load false 1 3),Rq 82 (.mkfn 52 [5]),Rq 83 (.call (.func 51) [81, 82]),Rq 6 (.mv 80),Rq 7 (.mv 83),Rq 8 (.mv (Kq 0))])
 (.ret))))))))))
theorem ck_rumor_Take : chkFun Try.prog 20 3 = some (rc_rumor_Take, [6, 7, 8]) := by kernel_rfl
/-- hearsay/hearsayref.TakeRumors -/
def rc_hearsayref_TakeRumors : RCode :=
 .seq (.reg [Rq 6 (.mv (.const (.slice none 0 0))),Rq 7 (.mv (.const (.slice none 0 0)))])
 (.seq (.reg [Rq 15 (.mks 55 6 0 zq1 []),Rq 16 (.mv 0),Rq 17 (.app 55 6 56 (.agg #[(.string ⟨#[]⟩), (.int .i64 0), (.int .i64 0), (.int .i64 0), (.bool false), (.int .i64 0)]) 15 16),Rq 8 (.mv 17)])
 (.seq (.reg [Rq 9 (.mv (.const (.slice none 0 0)))])
 (.seq (.reg [Rq 18 (.mv 0),Rq 19 (.len false 18),Rq 20 (.mkn 4 1 1 [(.bool false)] 19 19),Rq 10 (.mv 20)])
 (.seq (.block 0
 (.loop
 (.seq (.seq (.reg [Rq 21 (.mv 9),Rq 22 (.len false 21),Rq 23 (.mv 1),Rq 24 (.bin .lss 22 23),Rq 25 (.mv 24),Gq 26 25 true (.mv 9),Gq 27 25 true (.len false 26),Gq 28 25 true (.mv 0),Gq 29 25 true (.len false 28),Gq 30 25 true (.bin .lss 27 29),Rq 31 (.pick 25 30 (.const (.bool false)))])
 (.cond 31
 (.skip)
 (.exit 0)))
 (.block 1
 (.seq (.reg [Rq 11 (.mv (.const (.int .i64 (-1))))])
 (.seq (.seq (.reg [Rq 12 (.mv (Kq 0))])
 (.block 2
 (.loop
 (.seq (.seq (.reg [Rq 32 (.mv 12),Rq 33 (.mv 0),Rq 34 (.len false 33),Rq 35 (.bin .lss 32 34)])
 (.cond 35
 (.skip)
 (.exit 2)))
 (.seq (.block 3
 (.seq (.dreg [[Rq 38 (.mv 10),Rq 39 (.mv 12)],[Rq 40 (.idxA 1 38 39)],[Rq 41 (.load false 1 40)],[Rq 42 (.not 41)],[Rq 43 (.mv 42)],[Gq 44 43 true (.mv 11)],[Gq 45 43 true (.bin .lss 44 (Kq 0))],[Gq 46 43 true (.mv 45)],[Gq 47 46 false (.mv 0),Gq 48 46 false (.mv 12),Gq 49 46 false (.idxA 6 47 48),Gq 50 46 false (.fldA 5 49),Gq 51 46 false (.load false 1 50),Gq 52 46 false (.mv 0),Gq 53 46 false (.mv 11),Gq 54 46 false (.idxA 6 52 53),Gq 55 46 false (.fldA 5 54),Gq 56 46 false (.load false 1 55)],[Gq 57 46 false (.bin .leq 51 56)],[Gq 58 43 true (.pick 46 (.const (.bool true)) 57)],[Rq 59 (.pick 43 58 (.const (.bool false)))]])
 (.cond 59
 (.reg [Rq 60 (.mv 12),Rq 11 (.mv 60)])
 (.skip))))
 (.reg [Rq 36 (.mv 12),Rq 37 (.bin .add 36 (Kq 1)),Rq 12 (.mv 37)]))))))
 (.seq (.reg [Rq 61 (.mv 10),Rq 62 (.mv 11),Rq 63 (.idxA 1 61 62),Sq 1 63 (.const (.bool true))])
 (.seq (.reg [Rq 64 (.mv 9),Rq 65 (.mv 0),Rq 66 (.mv 11),Rq 67 (.idxA 6 65 66),Rq 68 (.fldA 0 67),Rq 69 (.load true 5 68),Rq 70 (.mks 38 5 1 zq2 [(0, 69)]),Rq 71 (.app 38 5 48 (.agg #[(.string ⟨#[]⟩), (.int .i64 0), (.int .i64 0), (.int .i64 0), (.bool false)]) 64 70),Rq 9 (.mv 71)])
 (.reg [Rq 72 (.mv 8),Rq 73 (.mv 11),Rq 74 (.idxA 6 72 73),Rq 75 (.fldA 5 74),Rq 76 (.load false 1 75),Rq 77 (.bin .add 76 (Kq 1)),Rq 78 (.idxA 6 72 73),Rq 79 (.fldA 5 78),Sq 1 79 77])))))))))
 (.seq (.reg [Rq 13 (.mv (.const (.slice none 0 0)))])
 (.seq (.seq (.reg [Rq 14 (.mv (Kq 0))])
 (.block 4
 (.loop
 (.seq (.seq (.reg [Rq 80 (.mv 14),Rq 81 (.mv 8),Rq 82 (.len false 81),Rq 83 (.bin .lss 80 82)])
 (.cond 83
 (.skip)
 (.exit 4)))
 (.seq (.block 5
 (.seq (.reg [Rq 86 (.mv 8),Rq 87 (.mv 14),Rq 88 (.idxA 6 86 87),Rq 89 (.fldA 5 88),Rq 90 (.load false 1 89),Rq 91 (.mv 2),Rq 92 (.bin .lss 90 91)])
 (.cond 92
 (.reg [Rq 93 (.mv 13),Rq 94 (.mv 8),Rq 95 (.mv 14),Rq 96 (.idxA 6 94 95),Rq 97 (.load true 6 96),Rq 98 (.mks 55 6 1 zq1 [(0, 97)]),Rq 99 (.app 55 6 56 (.agg #[(.string ⟨#[]⟩), (.int .i64 0), (.int .i64 0), (.int .i64 0), (.bool false), (.int .i64 0)]) 93 98),Rq 13 (.mv 99)])
 (.skip))))
 (.reg [Rq 84 (.mv 14),Rq 85 (.bin .add 84 (Kq 1)),Rq 14 (.mv 85)]))))))
 (.seq (.reg [Rq 100 (.mv 9),Rq 101 (.mv 13),Rq 6 (.mv 100),Rq 7 (.mv 101)])
 (.ret))))))))
theorem ck_hearsayref_TakeRumors : chkFun Try.prog 21 3 = some (rc_hearsayref_TakeRumors, [6, 7]) := by kernel_rfl
/-- hearsay/hearsayref.SameMembers -/
def rc_hearsayref_SameMembers : RCode :=
 .seq (.reg [Rq 4 (.mv (.const (.bool false)))])
 (.seq (.seq (.reg [Rq 6 (.mv 0),Rq 7 (.len false 6),Rq 8 (.mv 1),Rq 9 (.len false 8),Rq 10 (.bin .neq 7 9)])
 (.cond 10
 (.seq (.reg [Rq 4 (.mv (.const (.bool false)))])
 (.ret))
 (.skip)))
 (.seq (.seq (.reg [Rq 5 (.mv (Kq 0))])
 (.block 0
 (.loop
 (.seq (.seq (.reg [Rq 11 (.mv 5),Rq 12 (.mv 0),Rq 13 (.len false 12),Rq 14 (.bin .lss 11 13)])
 (.cond 14
 (.skip)
 (.exit 0)))
 (.seq (.block 1
 (.seq (.dreg [[Rq 17 (.mv 0),Rq 18 (.mv 5),Rq 19 (.idxA 5 17 18),Rq 20 (.load true 5 19),Rq 21 (.mv 1),Rq 22 (.mv 5),Rq 23 (.idxA 5 21 22),Rq 24 (.load true 5 23)],[Rq 25 (.eqS true [1, 0, 0, 0, 2] 20 24)]])
 (.cond 25
 (.seq (.reg [Rq 4 (.mv (.const (.bool false)))])
 (.ret))
 (.skip))))
 (.reg [Rq 15 (.mv 5),Rq 16 (.bin .add 15 (Kq 1)),Rq 5 (.mv 16)]))))))
 (.seq (.reg [Rq 4 (.mv (.const (.bool true)))])
 (.ret))))
theorem ck_hearsayref_SameMembers : chkFun Try.prog 22 2 = some (rc_hearsayref_SameMembers, [4]) := by kernel_rfl
/-- hearsay/hearsaylaw.choose -/
def rc_hearsaylaw_choose : RCode :=
 .seq (.reg [Rq 4 (.mv (Kq 0))])
 (.seq (.seq (.reg [Rq 5 (.mv 0),Rq 6 (.bin .lss 5 (Kq 0))])
 (.cond 6
 (.reg [Rq 7 (.mv 0),Rq 8 (.bin .add 7 (Kq 1)),Rq 9 (.neg 8),Rq 0 (.mv 9)])
 (.skip)))
 (.seq (.reg [Rq 10 (.mv 0),Rq 11 (.mv 1),Rq 12 (.bin .rem 10 11),Rq 4 (.mv 12)])
 (.ret)))
theorem ck_hearsaylaw_choose : chkFun Try.prog 23 2 = some (rc_hearsaylaw_choose, [4]) := by kernel_rfl
/-- hearsay/rumor.Times -/
def rc_rumor_Times : RCode :=
 .seq (.reg [Rq 2 (.mv (Kq 0)),Rq 3 (.mv (Kq 0))])
 (.seq (.seq (.reg [Rq 5 (.mv 0),Rq 6 (.bin .lss 5 (Kq 0)),Rq 7 (.mv 6),Gq 8 7 false (.mv 0),Gq 9 7 false (.bin .gtr 8 (Kq 20)),Rq 10 (.pick 7 (.const (.bool true)) 9)])
 (.cond 10
 (.seq (.reg [Rq 2 (.mv (Kq 0)),Rq 3 (.mv (Kq 3))])
 (.ret))
 (.skip)))
 (.seq (.reg [Rq 4 (.mv (Kq 0))])
 (.seq (.block 0
 (.loop
 (.seq (.seq (.reg [Rq 11 (.mv 4),Rq 12 (.bin .shl (Kq 1) 11),Rq 13 (.mv 0),Rq 14 (.bin .leq 12 13)])
 (.cond 14
 (.skip)
 (.exit 0)))
 (.block 1
 (.reg [Rq 15 (.mv 4),Rq 16 (.bin .add 15 (Kq 1)),Rq 4 (.mv 16)])))))
 (.seq (.reg [Rq 17 (.mv 4),Rq 18 (.bin .mul (Kq 3) 17),Rq 2 (.mv 18),Rq 3 (.mv (Kq 0))])
 (.ret)))))
theorem ck_rumor_Times : chkFun Try.prog 24 1 = some (rc_rumor_Times, [2, 3]) := by kernel_rfl
/-- hearsay/hearsayref.TimesOf -/
def rc_hearsayref_TimesOf : RCode :=
 .seq (.reg [Rq 2 (.mv (Kq 0))])
 (.seq (.reg [Rq 3 (.mv (Kq 0)),Rq 4 (.mv (Kq 1))])
 (.seq (.block 0
 (.loop
 (.seq (.seq (.reg [Rq 5 (.mv 4),Rq 6 (.mv 0),Rq 7 (.bin .leq 5 6)])
 (.cond 7
 (.skip)
 (.exit 0)))
 (.block 1
 (.seq (.reg [Rq 8 (.mv 3),Rq 9 (.bin .add 8 (Kq 1)),Rq 3 (.mv 9)])
 (.reg [Rq 10 (.mv 4),Rq 11 (.bin .mul (Kq 2) 10),Rq 4 (.mv 11)]))))))
 (.seq (.reg [Rq 12 (.mv 3),Rq 13 (.bin .mul (Kq 3) 12),Rq 2 (.mv 13)])
 (.ret))))
theorem ck_hearsayref_TimesOf : chkFun Try.prog 25 1 = some (rc_hearsayref_TimesOf, [2]) := by kernel_rfl
/-- hearsay/place.Check -/
def rc_place_Check : RCode :=
 .seq (.reg [Rq 1 (.box 23 5 0),Rq 2 (.mv (Kq 0))])
 (.seq (.reg [Rq 3 (.mv (.func 53))])
 (.seq (.seq (.reg [Rq 4 (.mv 3),Rq 5 (.fldA 0 1),Rq 6 (.load false 1 5),Rq 7 (.call 4 [6]),Rq 8 (.not 7),Rq 9 (.mv 8),Gq 10 9 false (.mv 3),Gq 11 9 false (.fldA 1 1),Gq 12 9 false (.load false 1 11),Gq 13 9 false (.call 10 [12]),Gq 14 9 false (.not 13),Rq 15 (.pick 9 (.const (.bool true)) 14),Rq 16 (.mv 15),Gq 17 16 false (.mv 3),Gq 18 16 false (.fldA 2 1),Gq 19 16 false (.load false 1 18),Gq 20 16 false (.call 17 [19]),Gq 21 16 false (.not 20),Rq 22 (.pick 16 (.const (.bool true)) 21),Rq 23 (.mv 22),Gq 24 23 false (.fldA 3 1),Gq 25 23 false (.load false 1 24),Gq 26 23 false (.call (.func 54) [25, (Kq 0), (Kq 1000000)]),Gq 27 23 false (.not 26),Rq 28 (.pick 23 (.const (.bool true)) 27),Rq 29 (.mv 28),Gq 30 29 false (.fldA 4 1),Gq 31 29 false (.load false 1 30),Gq 32 29 false (.call (.func 54) [31, (Kq 0), (Kq 1000)]),Gq 33 29 false (.not 32),Rq 34 (.pick 29 (.const (.bool true)) 33)])
 (.cond 34
 (.seq (.reg [Rq 2 (.mv (Kq 3))])
 (.ret))
 (.skip)))
 (.seq (.reg [Rq 2 (.mv (Kq 0))])
 (.ret))))
theorem ck_place_Check : chkFun Try.prog 26 1 = some (rc_place_Check, [2]) := by kernel_rfl
/-- hearsay/place.RawFar -/
def rc_place_RawFar : RCode :=
 .seq (.reg [Rq 2 (.box 23 5 0),Rq 3 (.box 23 5 1),Rq 4 (.mv (Kq 0))])
 (.seq (.dreg [[Rq 5 (.load true 5 2),Rq 6 (.load true 5 3),Rq 7 (.call (.func 55) [5, 6]),Rq 8 (.fldA 3 2),Rq 9 (.load false 1 8),Rq 10 (.bin .add 7 9),Rq 11 (.fldA 3 3),Rq 12 (.load false 1 11)],[Rq 13 (.bin .add 10 12)],[Rq 4 (.mv 13)]])
 (.ret))
theorem ck_place_RawFar : chkFun Try.prog 27 2 = some (rc_place_RawFar, [4]) := by kernel_rfl
/-- slices.Clone(()string,string) -/
def rc_slices_Clone_string_string : RCode :=
 .seq (.reg [Rq 2 (.mv (.const (.slice none 0 0)))])
 (.seq (.seq (.reg [Rq 3 (.mv 0),Rq 4 (.isnil false 3)])
 (.cond 4
 (.seq (.reg [Rq 2 (.mv (.const (.slice none 0 0)))])
 (.ret))
 (.skip)))
 (.seq (.reg [Rq 5 (.mks 9 1 0 [(.string ⟨#[]⟩)] []),Rq 6 (.mv 0),Rq 7 (.app 9 1 16 (.string ⟨#[]⟩) 5 6),Rq 2 (.mv 7)])
 (.ret)))
theorem ck_slices_Clone_string_string : chkFun Try.prog 28 1 = some (rc_slices_Clone_string_string, [2]) := by kernel_rfl
/-- hearsay/place.Sort$1 -/
def rc_place_Sort_1 : RCode :=
 .seq (.reg [Rq 5 (.mv (Kq 0))])
 (.seq (.reg [Rq 11 (.load false 1 2),Rq 12 (.mv 0),Rq 13 (.mlook .string true (.int .i64 0) 11 12),Rq 10 (.mv 13),Rq 14 (.ext 10 0),Rq 15 (.ext 10 1),Rq 6 (.mv 14),Rq 7 (.mv 15)])
 (.seq (.reg [Rq 17 (.load false 1 2),Rq 18 (.mv 1),Rq 19 (.mlook .string true (.int .i64 0) 17 18),Rq 16 (.mv 19),Rq 20 (.ext 16 0),Rq 21 (.ext 16 1),Rq 8 (.mv 20),Rq 9 (.mv 21)])
 (.seq (.block 0
 (.seq (.reg [Rq 23 (.mv 7),Rq 24 (.mv 23),Gq 25 24 true (.mv 9),Gq 26 24 true (.not 25),Rq 27 (.pick 24 26 (.const (.bool false))),Rq 22 (.mv 27)])
 (.cond 22
 (.seq (.reg [Rq 5 (.mv (.const (.int .i64 (-1))))])
 (.ret))
 (.seq (.reg [Rq 29 (.mv 9),Rq 30 (.mv 29),Gq 31 30 true (.mv 7),Gq 32 30 true (.not 31),Rq 33 (.pick 30 32 (.const (.bool false))),Rq 28 (.mv 33)])
 (.cond 28
 (.seq (.reg [Rq 5 (.mv (Kq 1))])
 (.ret))
 (.skip))))))
 (.seq (.reg [Rq 34 (.mv 6),Rq 35 (.mv 8),Rq 36 (.call (.func 32) [34, 35]),Rq 37 (.mv 0),Rq 38 (.mv 1),Rq 39 (.call (.func 33) [37, 38]),Rq 40 (.mks 3 1 2 [(.int .i64 0)] [(0, 36), (1, 39)]),Rq 41 (.call (.func 31) [40]),Rq 5 (.mv 41)])
 (.ret)))))
theorem ck_place_Sort_1 : chkFun Try.prog 30 3 = some (rc_place_Sort_1, [5]) := by kernel_rfl
/-- cmp.Or(int) -/
def rc_cmp_Or_int : RCode :=
 .seq (.reg [Rq 2 (.mv (Kq 0))])
 (.seq (.reg [Rq 3 (.mv (Kq 0))])
 (.seq (.seq (.reg [Rq 6 (.mv 0),Rq 7 (.len false 6),Rq 8 (.mv (Kq 0))])
 (.block 0
 (.loop
 (.seq (.reg [Rq 9 (.bin .lss 8 7)])
 (.seq (.cond 9
 (.skip)
 (.exit 0))
 (.seq (.block 1
 (.seq (.reg [Rq 10 (.idxA 1 6 8),Rq 11 (.load false 1 10),Rq 5 (.mv 11)])
 (.seq (.reg [Rq 12 (.mv 5),Rq 13 (.mv 3),Rq 14 (.bin .neq 12 13)])
 (.cond 14
 (.seq (.reg [Rq 15 (.mv 5),Rq 2 (.mv 15)])
 (.ret))
 (.skip)))))
 (.reg [Rq 16 (.bin .add 8 (Kq 1)),Rq 8 (.mv 16)])))))))
 (.seq (.reg [Rq 17 (.mv 3),Rq 2 (.mv 17)])
 (.ret))))
theorem ck_cmp_Or_int : chkFun Try.prog 31 1 = some (rc_cmp_Or_int, [2]) := by kernel_rfl
/-- cmp.Compare(int) -/
def rc_cmp_Compare_int : RCode :=
 .seq (.reg [Rq 4 (.mv (Kq 0))])
 (.seq (.reg [Rq 7 (.mv 0),Rq 8 (.call (.func 58) [7]),Rq 5 (.mv 8)])
 (.seq (.reg [Rq 9 (.mv 1),Rq 10 (.call (.func 58) [9]),Rq 6 (.mv 10)])
 (.seq (.seq (.reg [Rq 11 (.mv 5)])
 (.cond 11
 (.seq (.seq (.reg [Rq 12 (.mv 6)])
 (.cond 12
 (.seq (.reg [Rq 4 (.mv (Kq 0))])
 (.ret))
 (.skip)))
 (.seq (.reg [Rq 4 (.mv (.const (.int .i64 (-1))))])
 (.ret)))
 (.skip)))
 (.seq (.seq (.reg [Rq 13 (.mv 6)])
 (.cond 13
 (.seq (.reg [Rq 4 (.mv (Kq 1))])
 (.ret))
 (.skip)))
 (.seq (.seq (.reg [Rq 14 (.mv 0),Rq 15 (.mv 1),Rq 16 (.bin .lss 14 15)])
 (.cond 16
 (.seq (.reg [Rq 4 (.mv (.const (.int .i64 (-1))))])
 (.ret))
 (.skip)))
 (.seq (.seq (.reg [Rq 17 (.mv 0),Rq 18 (.mv 1),Rq 19 (.bin .gtr 17 18)])
 (.cond 19
 (.seq (.reg [Rq 4 (.mv (Kq 1))])
 (.ret))
 (.skip)))
 (.seq (.reg [Rq 4 (.mv (Kq 0))])
 (.ret))))))))
theorem ck_cmp_Compare_int : chkFun Try.prog 32 2 = some (rc_cmp_Compare_int, [4]) := by kernel_rfl
/-- cmp.Compare(string) -/
def rc_cmp_Compare_string : RCode :=
 .seq (.reg [Rq 4 (.mv (Kq 0))])
 (.seq (.reg [Rq 7 (.mv 0),Rq 8 (.call (.func 59) [7]),Rq 5 (.mv 8)])
 (.seq (.reg [Rq 9 (.mv 1),Rq 10 (.call (.func 59) [9]),Rq 6 (.mv 10)])
 (.seq (.seq (.reg [Rq 11 (.mv 5)])
 (.cond 11
 (.seq (.seq (.reg [Rq 12 (.mv 6)])
 (.cond 12
 (.seq (.reg [Rq 4 (.mv (Kq 0))])
 (.ret))
 (.skip)))
 (.seq (.reg [Rq 4 (.mv (.const (.int .i64 (-1))))])
 (.ret)))
 (.skip)))
 (.seq (.seq (.reg [Rq 13 (.mv 6)])
 (.cond 13
 (.seq (.reg [Rq 4 (.mv (Kq 1))])
 (.ret))
 (.skip)))
 (.seq (.seq (.reg [Rq 14 (.mv 0),Rq 15 (.mv 1),Rq 16 (.bin .lss 14 15)])
 (.cond 16
 (.seq (.reg [Rq 4 (.mv (.const (.int .i64 (-1))))])
 (.ret))
 (.skip)))
 (.seq (.seq (.reg [Rq 17 (.mv 0),Rq 18 (.mv 1),Rq 19 (.bin .gtr 17 18)])
 (.cond 19
 (.seq (.reg [Rq 4 (.mv (Kq 1))])
 (.ret))
 (.skip)))
 (.seq (.reg [Rq 4 (.mv (Kq 0))])
 (.ret))))))))
theorem ck_cmp_Compare_string : chkFun Try.prog 33 2 = some (rc_cmp_Compare_string, [4]) := by kernel_rfl
/-- hearsay/hearsayref.between -/
def rc_hearsayref_between : RCode :=
 .seq (.reg [Rq 6 (.mv (.const (.bool false)))])
 (.seq (.reg [Rq 7 (.mv 0),Rq 8 (.mv 1),Rq 9 (.bin .geq 7 8),Rq 10 (.mv 9),Gq 11 10 true (.mv 0),Gq 12 10 true (.mv 2),Gq 13 10 true (.bin .leq 11 12),Rq 14 (.pick 10 13 (.const (.bool false))),Rq 6 (.mv 14)])
 (.ret))
theorem ck_hearsayref_between : chkFun Try.prog 34 3 = some (rc_hearsayref_between, [6]) := by kernel_rfl
/-- hearsay/hearsayref.farName -/
def rc_hearsayref_farName : RCode :=
 .seq (.reg [Rq 3 (.box 23 5 0),Rq 6 (.mv (Kq 0))])
 (.seq (.seq (.reg [Rq 7 (.mv (Kq 0))])
 (.block 0
 (.loop
 (.seq (.seq (.reg [Rq 8 (.mv 7),Rq 9 (.mv 1),Rq 10 (.len false 9),Rq 11 (.bin .lss 8 10)])
 (.cond 11
 (.skip)
 (.exit 0)))
 (.seq (.block 1
 (.seq (.reg [Rq 14 (.mv 1),Rq 15 (.mv 7),Rq 16 (.idxA 6 14 15),Rq 17 (.fldA 0 16),Rq 18 (.load false 1 17),Rq 19 (.mv 2),Rq 20 (.bin .eql 18 19)])
 (.cond 20
 (.seq (.dreg [[Rq 21 (.load true 5 3),Rq 22 (.mv 1),Rq 23 (.mv 7),Rq 24 (.idxA 6 22 23),Rq 25 (.fldA 1 24),Rq 26 (.load true 5 25)],[Rq 27 (.call (.func 60) [21, 26])],[Rq 6 (.mv 27)]])
 (.ret))
 (.skip))))
 (.reg [Rq 12 (.mv 7),Rq 13 (.bin .add 12 (Kq 1)),Rq 7 (.mv 13)]))))))
 (.seq (.reg [Rq 6 (.mv (.const (.int .i64 (-1))))])
 (.ret)))
theorem ck_hearsayref_farName : chkFun Try.prog 35 3 = some (rc_hearsayref_farName, [6]) := by kernel_rfl
/-- hearsay/place.Root -/
def rc_place_Root : RCode :=
 .seq (.reg [Rq 2 (.mv (Kq 0)),Rq 3 (.mv (Kq 0))])
 (.seq (.seq (.reg [Rq 4 (.mv 0),Rq 5 (.bin .lss 4 (Kq 0))])
 (.cond 5
 (.seq (.reg [Rq 2 (.mv (Kq 0)),Rq 3 (.mv (Kq 3))])
 (.ret))
 (.skip)))
 (.seq (.reg [Rq 6 (.mv 0),Rq 7 (.call (.func 61) [6]),Rq 2 (.mv 7),Rq 3 (.mv (Kq 0))])
 (.ret)))
theorem ck_place_Root : chkFun Try.prog 36 1 = some (rc_place_Root, [2, 3]) := by kernel_rfl
/-- hearsay/place.Far -/
def rc_place_Far : RCode :=
 .seq (.reg [Rq 2 (.box 23 5 0),Rq 3 (.box 23 5 1),Rq 4 (.mv (Kq 0)),Rq 5 (.mv (Kq 0))])
 (.seq (.seq (.reg [Rq 7 (.load true 5 2),Rq 8 (.load true 5 3),Rq 9 (.mks 23 5 2 zq0 [(0, 7), (1, 8)]),Rq 10 (.call (.func 62) [9]),Rq 6 (.mv 10)])
 (.seq (.reg [Rq 11 (.mv 6),Rq 12 (.bin .neq 11 (Kq 0))])
 (.cond 12
 (.seq (.reg [Rq 13 (.mv 6),Rq 4 (.mv (Kq 0)),Rq 5 (.mv 13)])
 (.ret))
 (.skip))))
 (.seq (.reg [Rq 14 (.load true 5 2),Rq 15 (.load true 5 3),Rq 16 (.call (.func 27) [14, 15]),Rq 4 (.mv 16),Rq 5 (.mv (Kq 0))])
 (.ret)))
theorem ck_place_Far : chkFun Try.prog 37 2 = some (rc_place_Far, [4, 5]) := by kernel_rfl
/-- hearsay/member.One -/
def rc_member_One : RCode :=
 .seq (.reg [Rq 1 (.box 38 5 0),Rq 2 (.mv (Kq 0))])
 (.seq (.reg [Rq 3 (.load true 5 1),Rq 4 (.call (.func 63) [3]),Rq 2 (.mv 4)])
 (.ret))
theorem ck_member_One : chkFun Try.prog 38 1 = some (rc_member_One, [2]) := by kernel_rfl
/-- slices.Clone(()hearsay/api.Rumor,hearsay/api.Rumor) -/
def rc_slices_Clone_api_Rumor_api_Rumor : RCode :=
 .seq (.reg [Rq 2 (.mv (.const (.slice none 0 0)))])
 (.seq (.seq (.reg [Rq 3 (.mv 0),Rq 4 (.isnil false 3)])
 (.cond 4
 (.seq (.reg [Rq 2 (.mv (.const (.slice none 0 0)))])
 (.ret))
 (.skip)))
 (.seq (.reg [Rq 5 (.mks 55 6 0 zq1 []),Rq 6 (.mv 0),Rq 7 (.app 55 6 56 (.agg #[(.string ⟨#[]⟩), (.int .i64 0), (.int .i64 0), (.int .i64 0), (.bool false), (.int .i64 0)]) 5 6),Rq 2 (.mv 7)])
 (.ret)))
theorem ck_slices_Clone_api_Rumor_api_Rumor : chkFun Try.prog 39 1 = some (rc_slices_Clone_api_Rumor_api_Rumor, [2]) := by kernel_rfl
/-- slices.IndexFunc(()hearsay/api.Rumor,hearsay/api.Rumor) -/
def rc_slices_IndexFunc_api_Rumor_api_Rumor : RCode :=
 .seq (.reg [Rq 4 (.mv (Kq 0))])
 (.seq (.seq (.reg [Rq 6 (.mv 0),Rq 7 (.len false 6),Rq 8 (.mv (Kq 0))])
 (.block 0
 (.loop
 (.seq (.reg [Rq 9 (.bin .lss 8 7)])
 (.seq (.cond 9
 (.skip)
 (.exit 0))
 (.seq (.block 1
 (.seq (.reg [Rq 10 (.mv 8),Rq 5 (.mv 10)])
 (.seq (.reg [Rq 11 (.mv 1),Rq 12 (.mv 0),Rq 13 (.mv 5),Rq 14 (.idxA 6 12 13),Rq 15 (.load true 6 14),Rq 16 (.call 11 [15])])
 (.cond 16
 (.seq (.reg [Rq 17 (.mv 5),Rq 4 (.mv 17)])
 (.ret))
 (.skip)))))
 (.reg [Rq 18 (.bin .add 8 (Kq 1)),Rq 8 (.mv 18)])))))))
 (.seq (.reg [Rq 4 (.mv (.const (.int .i64 (-1))))])
 (.ret)))
theorem ck_slices_IndexFunc_api_Rumor_api_Rumor : chkFun Try.prog 40 2 = some (rc_slices_IndexFunc_api_Rumor_api_Rumor, [4]) := by kernel_rfl
/-- hearsay/rumor.Put$1 -/
def rc_rumor_Put_1 : RCode :=
 .seq (.reg [Rq 2 (.box 55 6 0),Rq 3 (.mv (.const (.bool false)))])
 (.seq (.reg [Rq 4 (.fldA 0 2),Rq 5 (.fldA 0 4),Rq 6 (.load false 1 5),Rq 7 (.fldA 0 1),Rq 8 (.load false 1 7),Rq 9 (.bin .eql 6 8),Rq 3 (.mv 9)])
 (.ret))
theorem ck_rumor_Put_1 : chkFun Try.prog 41 2 = some (rc_rumor_Put_1, [3]) := by kernel_rfl
/-- hearsay/member.Compare -/
def rc_member_Compare : RCode :=
 .seq (.reg [Rq 2 (.box 38 5 0),Rq 3 (.box 38 5 1),Rq 4 (.mv (Kq 0))])
 (.seq (.dreg [[Rq 5 (.fldA 2 2),Rq 6 (.load false 1 5),Rq 7 (.fldA 2 3),Rq 8 (.load false 1 7),Rq 9 (.call (.func 32) [6, 8]),Rq 10 (.fldA 1 2),Rq 11 (.load false 1 10),Rq 12 (.fldA 1 3),Rq 13 (.load false 1 12),Rq 14 (.call (.func 32) [11, 13]),Rq 15 (.fldA 3 2),Rq 16 (.load false 1 15),Rq 17 (.fldA 3 3),Rq 18 (.load false 1 17),Rq 19 (.call (.func 32) [16, 18]),Rq 20 (.fldA 4 2),Rq 21 (.load false 1 20),Rq 22 (.call (.func 64) [21]),Rq 23 (.fldA 4 3),Rq 24 (.load false 1 23)],[Rq 25 (.call (.func 64) [24])],[Rq 26 (.call (.func 32) [22, 25])],[Rq 27 (.mks 3 1 4 [(.int .i64 0)] [(0, 9), (1, 14), (2, 19), (3, 26)])],[Rq 28 (.call (.func 31) [27])],[Rq 4 (.mv 28)]])
 (.ret))
theorem ck_member_Compare : chkFun Try.prog 42 2 = some (rc_member_Compare, [4]) := by kernel_rfl
/-- slices.Delete(()hearsay/api.Rumor,hearsay/api.Rumor) -/
def rc_slices_Delete_api_Rumor_api_Rumor : RCode :=
 .seq (.reg [Rq 6 (.mv (.const (.slice none 0 0)))])
 (.seq (.reg [Rq 8 (.mv 0),Rq 9 (.mv 1),Rq 10 (.mv 2),Rq 11 (.mv 0),Rq 12 (.len false 11),Rq 13 (.slcL 6 8 (some 9) (some 10) (some 12))])
 (.seq (.seq (.reg [Rq 14 (.mv 1),Rq 15 (.mv 2),Rq 16 (.bin .eql 14 15)])
 (.cond 16
 (.seq (.reg [Rq 17 (.mv 0),Rq 6 (.mv 17)])
 (.ret))
 (.skip)))
 (.seq (.reg [Rq 18 (.mv 0),Rq 19 (.len false 18),Rq 7 (.mv 19)])
 (.seq (.dreg [[Rq 20 (.mv 0),Rq 21 (.mv 1),Rq 22 (.slcL 6 20 none (some 21) none),Rq 23 (.mv 0),Rq 24 (.mv 2),Rq 25 (.slcL 6 23 (some 24) none none)],[Rq 26 (.app 55 6 56 (.agg #[(.string ⟨#[]⟩), (.int .i64 0), (.int .i64 0), (.int .i64 0), (.bool false), (.int .i64 0)]) 22 25)],[Rq 0 (.mv 26)]])
 (.seq (.reg [Rq 27 (.mv 0),Rq 28 (.mv 0),Rq 29 (.len false 28),Rq 30 (.mv 7),Rq 31 (.slcL 6 27 (some 29) (some 30) none),⟨none, none, .clr 6 zq1 31⟩])
 (.seq (.reg [Rq 32 (.mv 0),Rq 6 (.mv 32)])
 (.ret)))))))
theorem ck_slices_Delete_api_Rumor_api_Rumor : chkFun Try.prog 43 3 = some (rc_slices_Delete_api_Rumor_api_Rumor, [6]) := by kernel_rfl
/-- hearsay/hearsayref.IsLabel -/
def rc_hearsayref_IsLabel : RCode :=
 .seq (.reg [Rq 2 (.mv (.const (.bool false)))])
 (.seq (.seq (.reg [Rq 3 (.mv (Kq 0))])
 (.block 0
 (.loop
 (.seq (.seq (.reg [Rq 5 (.mv 3),Rq 6 (.mv 0),Rq 7 (.len true 6),Rq 8 (.bin .lss 5 7)])
 (.cond 8
 (.skip)
 (.exit 0)))
 (.seq (.block 1
 (.seq (.reg [Rq 11 (.mv 0),Rq 12 (.mv 3),Rq 13 (.idxS 11 12),Rq 4 (.mv 13)])
 (.seq (.reg [Rq 14 (.mv 4),Rq 15 (.bin .geq 14 (.const (.int .u8 97))),Rq 16 (.mv 15),Gq 17 16 true (.mv 4),Gq 18 16 true (.bin .leq 17 (.const (.int .u8 122))),Rq 19 (.pick 16 18 (.const (.bool false))),Rq 20 (.mv 19),Gq 21 20 false (.mv 4),Gq 22 20 false (.bin .geq 21 (.const (.int .u8 48))),Gq 23 20 false (.mv 22),Gq 24 23 true (.mv 4),Gq 25 23 true (.bin .leq 24 (.const (.int .u8 57))),Gq 26 20 false (.pick 23 25 (.const (.bool false))),Rq 27 (.pick 20 (.const (.bool true)) 26),Rq 28 (.mv 27),Gq 29 28 false (.mv 4),Gq 30 28 false (.bin .eql 29 (.const (.int .u8 45))),Rq 31 (.pick 28 (.const (.bool true)) 30),Rq 32 (.mv 31),Gq 33 32 false (.mv 4),Gq 34 32 false (.bin .eql 33 (.const (.int .u8 95))),Rq 35 (.pick 32 (.const (.bool true)) 34),Rq 36 (.not 35)])
 (.cond 36
 (.seq (.reg [Rq 2 (.mv (.const (.bool false)))])
 (.ret))
 (.skip)))))
 (.reg [Rq 9 (.mv 3),Rq 10 (.bin .add 9 (Kq 1)),Rq 3 (.mv 10)]))))))
 (.seq (.reg [Rq 37 (.mv 0),Rq 38 (.len true 37),Rq 39 (.bin .geq 38 (Kq 1)),Rq 40 (.mv 39),Gq 41 40 true (.mv 0),Gq 42 40 true (.len true 41),Gq 43 40 true (.bin .leq 42 (Kq 30)),Rq 44 (.pick 40 43 (.const (.bool false))),Rq 2 (.mv 44)])
 (.ret)))
theorem ck_hearsayref_IsLabel : chkFun Try.prog 44 1 = some (rc_hearsayref_IsLabel, [2]) := by kernel_rfl
/-- hearsay/hearsayref.IsAddress -/
def rc_hearsayref_IsAddress : RCode :=
 .seq (.reg [Rq 2 (.mv (.const (.bool false)))])
 (.seq (.reg [Rq 3 (.mv 0),Rq 4 (.call (.func 34) [3, (Kq 0), (Kq 4294967295)]),Rq 2 (.mv 4)])
 (.ret))
theorem ck_hearsayref_IsAddress : chkFun Try.prog 45 1 = some (rc_hearsayref_IsAddress, [2]) := by kernel_rfl
/-- hearsay/hearsayref.NewerMember -/
def rc_hearsayref_NewerMember : RCode :=
 .seq (.reg [Rq 2 (.box 38 5 0),Rq 3 (.box 38 5 1),Rq 4 (.mv (.const (.bool false)))])
 (.seq (.seq (.reg [Rq 5 (.fldA 2 2),Rq 6 (.load false 1 5),Rq 7 (.fldA 2 3),Rq 8 (.load false 1 7),Rq 9 (.bin .neq 6 8)])
 (.cond 9
 (.seq (.reg [Rq 10 (.fldA 2 2),Rq 11 (.load false 1 10),Rq 12 (.fldA 2 3),Rq 13 (.load false 1 12),Rq 14 (.bin .gtr 11 13),Rq 4 (.mv 14)])
 (.ret))
 (.skip)))
 (.seq (.seq (.reg [Rq 15 (.fldA 1 2),Rq 16 (.load false 1 15),Rq 17 (.fldA 1 3),Rq 18 (.load false 1 17),Rq 19 (.bin .neq 16 18)])
 (.cond 19
 (.seq (.reg [Rq 20 (.fldA 1 2),Rq 21 (.load false 1 20),Rq 22 (.fldA 1 3),Rq 23 (.load false 1 22),Rq 24 (.bin .gtr 21 23),Rq 4 (.mv 24)])
 (.ret))
 (.skip)))
 (.seq (.seq (.reg [Rq 25 (.fldA 3 2),Rq 26 (.load false 1 25),Rq 27 (.fldA 3 3),Rq 28 (.load false 1 27),Rq 29 (.bin .neq 26 28)])
 (.cond 29
 (.seq (.reg [Rq 30 (.fldA 3 2),Rq 31 (.load false 1 30),Rq 32 (.fldA 3 3),Rq 33 (.load false 1 32),Rq 34 (.bin .gtr 31 33),Rq 4 (.mv 34)])
 (.ret))
 (.skip)))
 (.seq (.reg [Rq 35 (.fldA 4 2),Rq 36 (.load false 1 35),Rq 37 (.mv 36),Gq 38 37 true (.fldA 4 3),Gq 39 37 true (.load false 1 38),Gq 40 37 true (.not 39),Rq 41 (.pick 37 40 (.const (.bool false))),Rq 4 (.mv 41)])
 (.ret)))))
theorem ck_hearsayref_NewerMember : chkFun Try.prog 46 2 = some (rc_hearsayref_NewerMember, [4]) := by kernel_rfl
/-- slices.ContainsFunc(()hearsay/api.Rumor,hearsay/api.Rumor) -/
def rc_slices_ContainsFunc_api_Rumor_api_Rumor : RCode :=
 .seq (.reg [Rq 4 (.mv (.const (.bool false)))])
 (.seq (.reg [Rq 5 (.mv 0),Rq 6 (.mv 1),Rq 7 (.call (.func 40) [5, 6]),Rq 8 (.bin .geq 7 (Kq 0)),Rq 4 (.mv 8)])
 (.ret))
theorem ck_slices_ContainsFunc_api_Rumor_api_Rumor : chkFun Try.prog 47 2 = some (rc_slices_ContainsFunc_api_Rumor_api_Rumor, [4]) := by kernel_rfl
/-- hearsay/rumor.Check$1 -/
def rc_rumor_Check_1 : RCode :=
 .seq (.reg [Rq 1 (.box 55 6 0),Rq 2 (.mv (.const (.bool false)))])
 (.seq (.reg [Rq 3 (.fldA 5 1),Rq 4 (.load false 1 3),Rq 5 (.bin .lss 4 (Kq 0)),Rq 6 (.mv 5),Gq 7 6 false (.fldA 5 1),Gq 8 6 false (.load false 1 7),Gq 9 6 false (.bin .gtr 8 (Kq 100)),Rq 10 (.pick 6 (.const (.bool true)) 9),Rq 2 (.mv 10)])
 (.ret))
theorem ck_rumor_Check_1 : chkFun Try.prog 48 1 = some (rc_rumor_Check_1, [2]) := by kernel_rfl
/-- hearsay/rumor.Take$1 -/
def rc_rumor_Take_1 : RCode :=
 .seq (.reg [Rq 5 (.mv (Kq 0))])
 (.seq (.dreg [[Rq 6 (.load false 1 2),Rq 7 (.mv 0),Rq 8 (.idxA 6 6 7),Rq 9 (.fldA 5 8),Rq 10 (.load false 1 9),Rq 11 (.load false 1 2),Rq 12 (.mv 1),Rq 13 (.idxA 6 11 12),Rq 14 (.fldA 5 13),Rq 15 (.load false 1 14),Rq 16 (.call (.func 32) [10, 15]),Rq 17 (.mv 1),Rq 18 (.mv 0)],[Rq 19 (.call (.func 32) [17, 18])],[Rq 20 (.mks 3 1 2 [(.int .i64 0)] [(0, 16), (1, 19)])],[Rq 21 (.call (.func 31) [20])],[Rq 5 (.mv 21)]])
 (.ret))
theorem ck_rumor_Take_1 : chkFun Try.prog 50 3 = some (rc_rumor_Take_1, [5]) := by kernel_rfl
/-- slices.DeleteFunc(()hearsay/api.Rumor,hearsay/api.Rumor) -/
def rc_slices_DeleteFunc_api_Rumor_api_Rumor : RCode :=
 .seq (.reg [Rq 4 (.mv (.const (.slice none 0 0)))])
 (.seq (.reg [Rq 8 (.mv 0),Rq 9 (.mv 1),Rq 10 (.call (.func 40) [8, 9]),Rq 5 (.mv 10)])
 (.seq (.seq (.reg [Rq 11 (.mv 5),Rq 12 (.bin .eql 11 (.const (.int .i64 (-1))))])
 (.cond 12
 (.seq (.reg [Rq 13 (.mv 0),Rq 4 (.mv 13)])
 (.ret))
 (.skip)))
 (.seq (.seq (.reg [Rq 14 (.mv 5),Rq 15 (.bin .add 14 (Kq 1)),Rq 6 (.mv 15)])
 (.block 0
 (.loop
 (.seq (.seq (.reg [Rq 16 (.mv 6),Rq 17 (.mv 0),Rq 18 (.len false 17),Rq 19 (.bin .lss 16 18)])
 (.cond 19
 (.skip)
 (.exit 0)))
 (.seq (.block 1
 (.seq (.reg [Rq 22 (.mv 0),Rq 23 (.mv 6),Rq 24 (.idxA 6 22 23),Rq 25 (.load true 6 24),Rq 7 (.zbox 55 zq1),Sq 6 7 25])
 (.seq (.reg [Rq 26 (.mv 1),Rq 27 (.load true 6 7),Rq 28 (.call 26 [27]),Rq 29 (.not 28)])
 (.cond 29
 (.seq (.reg [Rq 30 (.mv 0),Rq 31 (.mv 5),Rq 32 (.load true 6 7),Rq 33 (.idxA 6 30 31),Sq 6 33 32])
 (.reg [Rq 34 (.mv 5),Rq 35 (.bin .add 34 (Kq 1)),Rq 5 (.mv 35)]))
 (.skip)))))
 (.reg [Rq 20 (.mv 6),Rq 21 (.bin .add 20 (Kq 1)),Rq 6 (.mv 21)]))))))
 (.seq (.reg [Rq 36 (.mv 0),Rq 37 (.mv 5),Rq 38 (.slcL 6 36 (some 37) none none),⟨none, none, .clr 6 zq1 38⟩])
 (.seq (.reg [Rq 39 (.mv 0),Rq 40 (.mv 5),Rq 41 (.slcL 6 39 none (some 40) none),Rq 4 (.mv 41)])
 (.ret))))))
theorem ck_slices_DeleteFunc_api_Rumor_api_Rumor : chkFun Try.prog 51 2 = some (rc_slices_DeleteFunc_api_Rumor_api_Rumor, [4]) := by kernel_rfl
/-- hearsay/rumor.Take$2 -/
def rc_rumor_Take_2 : RCode :=
 .seq (.reg [Rq 2 (.box 55 6 0),Rq 3 (.mv (.const (.bool false)))])
 (.seq (.reg [Rq 4 (.fldA 5 2),Rq 5 (.load false 1 4),Rq 6 (.load false 1 1),Rq 7 (.bin .geq 5 6),Rq 3 (.mv 7)])
 (.ret))
theorem ck_rumor_Take_2 : chkFun Try.prog 52 2 = some (rc_rumor_Take_2, [3]) := by kernel_rfl
/-- hearsay/place.Check$1 -/
def rc_place_Check_1 : RCode :=
 .seq (.reg [Rq 2 (.mv (.const (.bool false)))])
 (.seq (.reg [Rq 3 (.mv 0),Rq 4 (.call (.func 54) [3, (.const (.int .i64 (-10000000))), (Kq 10000000)]),Rq 2 (.mv 4)])
 (.ret))
theorem ck_place_Check_1 : chkFun Try.prog 53 1 = some (rc_place_Check_1, [2]) := by kernel_rfl
/-- hearsay/place.within -/
def rc_place_within : RCode :=
 .seq (.reg [Rq 6 (.mv (.const (.bool false)))])
 (.seq (.reg [Rq 7 (.mv 0),Rq 8 (.mv 1),Rq 9 (.bin .geq 7 8),Rq 10 (.mv 9),Gq 11 10 true (.mv 0),Gq 12 10 true (.mv 2),Gq 13 10 true (.bin .leq 11 12),Rq 14 (.pick 10 13 (.const (.bool false))),Rq 6 (.mv 14)])
 (.ret))
theorem ck_place_within : chkFun Try.prog 54 3 = some (rc_place_within, [6]) := by kernel_rfl
/-- hearsay/place.apart -/
def rc_place_apart : RCode :=
 .seq (.reg [Rq 2 (.box 23 5 0),Rq 3 (.box 23 5 1),Rq 4 (.mv (Kq 0))])
 (.seq (.dreg [[Rq 8 (.fldA 0 2),Rq 9 (.load false 1 8),Rq 10 (.fldA 0 3),Rq 11 (.load false 1 10),Rq 12 (.bin .sub 9 11),Rq 13 (.fldA 1 2),Rq 14 (.load false 1 13),Rq 15 (.fldA 1 3),Rq 16 (.load false 1 15),Rq 17 (.bin .sub 14 16),Rq 18 (.fldA 2 2),Rq 19 (.load false 1 18),Rq 20 (.fldA 2 3),Rq 21 (.load false 1 20),Rq 22 (.bin .sub 19 21),Rq 5 (.mv 12),Rq 6 (.mv 17)],[Rq 7 (.mv 22)]])
 (.seq (.reg [Rq 23 (.mv 5),Rq 24 (.mv 5),Rq 25 (.bin .mul 23 24),Rq 26 (.mv 6),Rq 27 (.mv 6),Rq 28 (.bin .mul 26 27),Rq 29 (.bin .add 25 28),Rq 30 (.mv 7),Rq 31 (.mv 7),Rq 32 (.bin .mul 30 31),Rq 33 (.bin .add 29 32),Rq 34 (.call (.func 61) [33]),Rq 4 (.mv 34)])
 (.ret)))
theorem ck_place_apart : chkFun Try.prog 55 2 = some (rc_place_apart, [4]) := by kernel_rfl
/-- cmp.isNaN(int) -/
def rc_cmp_isNaN_int : RCode :=
 .seq (.reg [Rq 2 (.mv (.const (.bool false)))])
 (.seq (.reg [Rq 3 (.mv 0),Rq 4 (.mv 0),Rq 5 (.bin .neq 3 4),Rq 2 (.mv 5)])
 (.ret))
theorem ck_cmp_isNaN_int : chkFun Try.prog 58 1 = some (rc_cmp_isNaN_int, [2]) := by kernel_rfl
/-- cmp.isNaN(string) -/
def rc_cmp_isNaN_string : RCode :=
 .seq (.reg [Rq 2 (.mv (.const (.bool false)))])
 (.seq (.reg [Rq 3 (.mv 0),Rq 4 (.mv 0),Rq 5 (.bin .neq 3 4),Rq 2 (.mv 5)])
 (.ret))
theorem ck_cmp_isNaN_string : chkFun Try.prog 59 1 = some (rc_cmp_isNaN_string, [2]) := by kernel_rfl
/-- hearsay/hearsayref.FarOf -/
def rc_hearsayref_FarOf : RCode :=
 .seq (.reg [Rq 2 (.box 23 5 0),Rq 3 (.box 23 5 1),Rq 4 (.mv (Kq 0))])
 (.seq (.dreg [[Rq 5 (.load true 5 2),Rq 6 (.load true 5 3),Rq 7 (.call (.func 76) [5, 6]),Rq 8 (.fldA 3 2),Rq 9 (.load false 1 8),Rq 10 (.bin .add 7 9),Rq 11 (.fldA 3 3),Rq 12 (.load false 1 11)],[Rq 13 (.bin .add 10 12)],[Rq 4 (.mv 13)]])
 (.ret))
theorem ck_hearsayref_FarOf : chkFun Try.prog 60 2 = some (rc_hearsayref_FarOf, [4]) := by kernel_rfl
/-- hearsay/place.root -/
def rc_place_root : RCode :=
 .seq (.reg [Rq 2 (.mv (Kq 0))])
 (.seq (.seq (.reg [Rq 5 (.mv 0),Rq 6 (.bin .lss 5 (Kq 2))])
 (.cond 6
 (.seq (.reg [Rq 7 (.mv 0),Rq 2 (.mv 7)])
 (.ret))
 (.skip)))
 (.seq (.reg [Rq 3 (.mv (Kq 1))])
 (.seq (.block 0
 (.loop
 (.seq (.seq (.reg [Rq 8 (.mv 3),Rq 9 (.mv 0),Rq 10 (.mv 3),Rq 11 (.bin .quo 9 10),Rq 12 (.bin .leq 8 11)])
 (.cond 12
 (.skip)
 (.exit 0)))
 (.block 1
 (.reg [Rq 13 (.mv 3),Rq 14 (.bin .mul 13 (Kq 2)),Rq 3 (.mv 14)])))))
 (.block 2
 (.loop
 (.block 3
 (.seq (.reg [Rq 15 (.mv 3),Rq 16 (.mv 0),Rq 17 (.mv 3),Rq 18 (.bin .quo 16 17),Rq 19 (.bin .add 15 18),Rq 20 (.bin .quo 19 (Kq 2)),Rq 4 (.mv 20)])
 (.seq (.seq (.reg [Rq 21 (.mv 4),Rq 22 (.mv 3),Rq 23 (.bin .geq 21 22)])
 (.cond 23
 (.seq (.reg [Rq 24 (.mv 3),Rq 2 (.mv 24)])
 (.ret))
 (.skip)))
 (.reg [Rq 25 (.mv 4),Rq 3 (.mv 25)])))))))))
theorem ck_place_root : chkFun Try.prog 61 1 = some (rc_place_root, [2]) := by kernel_rfl
/-- hearsay/place.check -/
def rc_place_check : RCode :=
 .seq (.reg [Rq 2 (.mv (Kq 0))])
 (.seq (.seq (.reg [Rq 6 (.mv 0),Rq 7 (.len false 6),Rq 8 (.mv (Kq 0))])
 (.block 0
 (.loop
 (.seq (.reg [Rq 9 (.bin .lss 8 7)])
 (.seq (.cond 9
 (.skip)
 (.exit 0))
 (.seq (.block 1
 (.seq (.reg [Rq 10 (.idxA 5 6 8),Rq 11 (.load true 5 10),Rq 4 (.zbox 23 zq0),Sq 5 4 11])
 (.seq (.reg [Rq 12 (.load true 5 4),Rq 13 (.call (.func 26) [12]),Rq 5 (.mv 13)])
 (.seq (.reg [Rq 14 (.mv 5),Rq 15 (.bin .neq 14 (Kq 0))])
 (.cond 15
 (.seq (.reg [Rq 16 (.mv 5),Rq 2 (.mv 16)])
 (.ret))
 (.skip))))))
 (.reg [Rq 17 (.bin .add 8 (Kq 1)),Rq 8 (.mv 17)])))))))
 (.seq (.reg [Rq 2 (.mv (Kq 0))])
 (.ret)))
theorem ck_place_check : chkFun Try.prog 62 1 = some (rc_place_check, [2]) := by kernel_rfl
/-- hearsay/member.one -/
def rc_member_one : RCode :=
 .seq (.reg [Rq 1 (.box 38 5 0),Rq 2 (.mv (Kq 0))])
 (.seq (.block 0
 (.seq (.reg [Rq 4 (.fldA 0 1),Rq 5 (.load false 1 4),Rq 6 (.call (.func 77) [5]),Rq 7 (.not 6),Rq 3 (.mv 7)])
 (.cond 3
 (.seq (.reg [Rq 2 (.mv (Kq 1))])
 (.ret))
 (.seq (.reg [Rq 9 (.fldA 1 1),Rq 10 (.load false 1 9),Rq 11 (.call (.func 78) [10, (Kq 1), (Kq 4)]),Rq 12 (.not 11),Rq 8 (.mv 12)])
 (.cond 8
 (.seq (.reg [Rq 2 (.mv (Kq 7))])
 (.ret))
 (.seq (.reg [Rq 14 (.fldA 2 1),Rq 15 (.load false 1 14),Rq 16 (.call (.func 78) [15, (Kq 1), (Kq 1000000)]),Rq 17 (.not 16),Rq 18 (.mv 17),Gq 19 18 false (.fldA 3 1),Gq 20 18 false (.load false 1 19),Gq 21 18 false (.call (.func 78) [20, (Kq 0), (Kq 4294967295)]),Gq 22 18 false (.not 21),Rq 23 (.pick 18 (.const (.bool true)) 22),Rq 13 (.mv 23)])
 (.cond 13
 (.seq (.reg [Rq 2 (.mv (Kq 3))])
 (.ret))
 (.skip))))))))
 (.seq (.reg [Rq 2 (.mv (Kq 0))])
 (.ret)))
theorem ck_member_one : chkFun Try.prog 63 1 = some (rc_member_one, [2]) := by kernel_rfl
/-- hearsay/member.number -/
def rc_member_number : RCode :=
 .seq (.reg [Rq 2 (.mv (Kq 0))])
 (.seq (.seq (.reg [Rq 3 (.mv 0)])
 (.cond 3
 (.seq (.reg [Rq 2 (.mv (Kq 1))])
 (.ret))
 (.skip)))
 (.seq (.reg [Rq 2 (.mv (Kq 0))])
 (.ret)))
theorem ck_member_number : chkFun Try.prog 64 1 = some (rc_member_number, [2]) := by kernel_rfl
/-- hearsay/hearsayref.FlatFar -/
def rc_hearsayref_FlatFar : RCode :=
 .seq (.reg [Rq 2 (.box 23 5 0),Rq 3 (.box 23 5 1),Rq 4 (.mv (Kq 0))])
 (.seq (.reg [Rq 5 (.fldA 0 2),Rq 6 (.load false 1 5),Rq 7 (.fldA 0 3),Rq 8 (.load false 1 7),Rq 9 (.bin .sub 6 8),Rq 10 (.fldA 0 2),Rq 11 (.load false 1 10),Rq 12 (.fldA 0 3),Rq 13 (.load false 1 12),Rq 14 (.bin .sub 11 13),Rq 15 (.bin .mul 9 14),Rq 16 (.fldA 1 2),Rq 17 (.load false 1 16),Rq 18 (.fldA 1 3),Rq 19 (.load false 1 18),Rq 20 (.bin .sub 17 19),Rq 21 (.fldA 1 2),Rq 22 (.load false 1 21),Rq 23 (.fldA 1 3),Rq 24 (.load false 1 23),Rq 25 (.bin .sub 22 24),Rq 26 (.bin .mul 20 25),Rq 27 (.bin .add 15 26),Rq 28 (.fldA 2 2),Rq 29 (.load false 1 28),Rq 30 (.fldA 2 3),Rq 31 (.load false 1 30),Rq 32 (.bin .sub 29 31),Rq 33 (.fldA 2 2),Rq 34 (.load false 1 33),Rq 35 (.fldA 2 3),Rq 36 (.load false 1 35),Rq 37 (.bin .sub 34 36),Rq 38 (.bin .mul 32 37),Rq 39 (.bin .add 27 38),Rq 40 (.call (.func 92) [39]),Rq 4 (.mv 40)])
 (.ret))
theorem ck_hearsayref_FlatFar : chkFun Try.prog 76 2 = some (rc_hearsayref_FlatFar, [4]) := by kernel_rfl
/-- hearsay/dns.IsLabel -/
def rc_dns_IsLabel : RCode :=
 .seq (.reg [Rq 2 (.mv (.const (.bool false)))])
 (.seq (.seq (.reg [Rq 5 (.mv 0),Rq 6 (.toB 5),Rq 7 (.len false 6),Rq 8 (.mv (Kq 0))])
 (.block 0
 (.loop
 (.seq (.reg [Rq 9 (.bin .lss 8 7)])
 (.seq (.cond 9
 (.skip)
 (.exit 0))
 (.seq (.block 1
 (.seq (.reg [Rq 10 (.idxA 1 6 8),Rq 11 (.load false 1 10),Rq 4 (.mv 11)])
 (.seq (.reg [Rq 12 (.mv 4),Rq 13 (.bin .lss 12 (.const (.int .u8 97))),Rq 14 (.mv 13),Gq 15 14 false (.mv 4),Gq 16 14 false (.bin .gtr 15 (.const (.int .u8 122))),Rq 17 (.pick 14 (.const (.bool true)) 16),Rq 18 (.mv 17),Gq 19 18 true (.mv 4),Gq 20 18 true (.bin .lss 19 (.const (.int .u8 48))),Gq 21 18 true (.mv 20),Gq 22 21 false (.mv 4),Gq 23 21 false (.bin .gtr 22 (.const (.int .u8 57))),Gq 24 18 true (.pick 21 (.const (.bool true)) 23),Rq 25 (.pick 18 24 (.const (.bool false))),Rq 26 (.mv 25),Gq 27 26 true (.mv 4),Gq 28 26 true (.bin .neq 27 (.const (.int .u8 45))),Rq 29 (.pick 26 28 (.const (.bool false))),Rq 30 (.mv 29),Gq 31 30 true (.mv 4),Gq 32 30 true (.bin .neq 31 (.const (.int .u8 95))),Rq 33 (.pick 30 32 (.const (.bool false)))])
 (.cond 33
 (.seq (.reg [Rq 2 (.mv (.const (.bool false)))])
 (.ret))
 (.skip)))))
 (.reg [Rq 34 (.bin .add 8 (Kq 1)),Rq 8 (.mv 34)])))))))
 (.seq (.reg [Rq 35 (.mv 0),Rq 36 (.bin .neq 35 (.const (.string ⟨#[]⟩))),Rq 37 (.mv 36),Gq 38 37 true (.mv 0),Gq 39 37 true (.len true 38),Gq 40 37 true (.bin .leq 39 (Kq 30)),Rq 41 (.pick 37 40 (.const (.bool false))),Rq 2 (.mv 41)])
 (.ret)))
theorem ck_dns_IsLabel : chkFun Try.prog 77 1 = some (rc_dns_IsLabel, [2]) := by kernel_rfl
/-- hearsay/member.within -/
def rc_member_within : RCode :=
 .seq (.reg [Rq 6 (.mv (.const (.bool false)))])
 (.seq (.reg [Rq 7 (.mv 0),Rq 8 (.mv 1),Rq 9 (.bin .geq 7 8),Rq 10 (.mv 9),Gq 11 10 true (.mv 0),Gq 12 10 true (.mv 2),Gq 13 10 true (.bin .leq 11 12),Rq 14 (.pick 10 13 (.const (.bool false))),Rq 6 (.mv 14)])
 (.ret))
theorem ck_member_within : chkFun Try.prog 78 3 = some (rc_member_within, [6]) := by kernel_rfl
/-- hearsay/hearsayref.RootOf -/
def rc_hearsayref_RootOf : RCode :=
 .seq (.reg [Rq 2 (.mv (Kq 0))])
 (.seq (.reg [Rq 3 (.mv (Kq 0)),Rq 4 (.mv (Kq 2147483648))])
 (.seq (.block 0
 (.loop
 (.seq (.seq (.reg [Rq 5 (.mv 4),Rq 6 (.bin .gtr 5 (Kq 0))])
 (.cond 6
 (.skip)
 (.exit 0)))
 (.block 1
 (.seq (.seq (.reg [Rq 7 (.mv 3),Rq 8 (.mv 4),Rq 9 (.bin .add 7 8),Rq 10 (.bin .leq 9 (Kq 3037000499)),Rq 11 (.mv 10),Gq 12 11 true (.mv 3),Gq 13 11 true (.mv 4),Gq 14 11 true (.bin .add 12 13),Gq 15 11 true (.mv 3),Gq 16 11 true (.mv 4),Gq 17 11 true (.bin .add 15 16),Gq 18 11 true (.bin .mul 14 17),Gq 19 11 true (.mv 0),Gq 20 11 true (.bin .leq 18 19),Rq 21 (.pick 11 20 (.const (.bool false)))])
 (.cond 21
 (.reg [Rq 22 (.mv 3),Rq 23 (.mv 4),Rq 24 (.bin .add 22 23),Rq 3 (.mv 24)])
 (.skip)))
 (.reg [Rq 25 (.mv 4),Rq 26 (.bin .quo 25 (Kq 2)),Rq 4 (.mv 26)]))))))
 (.seq (.reg [Rq 27 (.mv 3),Rq 2 (.mv 27)])
 (.ret))))
theorem ck_hearsayref_RootOf : chkFun Try.prog 92 1 = some (rc_hearsayref_RootOf, [2]) := by kernel_rfl

end Go.Proofs.Ytjhdlcmecbngkaa
/- Small words of mine for the walks. -/
namespace Go.Proofs.Ytjhdlcmecbngkaa
open Go.RowKit
set_option linter.unusedVariables false
theorem hid {p : Prop} (h : p) : Hid p := h
theorem ret_int {k : IntKind} {a b : Int} (h : a = b) : Ending.returned (.int k a) = .returned (.int k b) := by rw [h]
theorem ret_bool {a b : Bool} (h : a = b) : Ending.returned (.bool a) = .returned (.bool b) := by rw [h]
theorem bcell {W w1 : World} (hb : Below W.heap.size W w1) : (∀ b o, b < W.heap.size → w1.cell? ⟨b, o, none⟩ = W.cell? ⟨b, o, none⟩) ∧ (∀ b o, b < W.heap.size → w1.frozen? ⟨b, o, none⟩ = W.frozen? ⟨b, o, none⟩) :=
  ⟨fun b o h => hb.cell (p := ⟨b, o, none⟩) h, fun b o h => hb.frozen (p := ⟨b, o, none⟩) h⟩
theorem new_at {w : World} {o : Obj} {k : Nat} (h : k = w.heap.size) : (w.alloc o).heap[k]? = some o := by
  subst h; exact heap_alloc_new w o
theorem keep_all {W w1 : World} {g : Nat} {f : Nat → Option Value} (hb : Below W.heap.size W w1) (hlt : g < W.heap.size) (h : ∀ i, W.cell? ⟨g, i, none⟩ = f i) : ∀ i, w1.cell? ⟨g, i, none⟩ = f i :=
  fun i => (hb.cell (p := ⟨g, i, none⟩) hlt).trans (h i)
theorem keep_one {W w1 : World} {g i : Nat} {f : Option Value} (hb : Below W.heap.size W w1) (hlt : g < W.heap.size) (h : W.cell? ⟨g, i, none⟩ = f) : w1.cell? ⟨g, i, none⟩ = f :=
  (hb.cell (p := ⟨g, i, none⟩) hlt).trans h
theorem block_lt {w : World} {b : Nat} {o : Obj} (h : w.heap[b]? = some o) : b < w.heap.size := (Array.getElem?_eq_some_iff.1 h).1
theorem flat_len {α : Type} {enc : α → List Value} {sz : Nat} (hs : ∀ x, (enc x).length = sz) : ∀ l : List α, (l.flatMap enc).length = l.length * sz
  | [] => by simp
  | x :: r => by rw [List.flatMap_cons, List.length_append, hs, flat_len hs r, List.length_cons, Nat.add_mul]; omega
theorem flat_get {α : Type} {enc : α → List Value} {sz : Nat} (hs : ∀ x, (enc x).length = sz) : ∀ {l : List α} (i j : Nat) (hi : i < l.length) (hj : j < sz), (l.flatMap enc)[i * sz + j]? = (enc l[i])[j]?
  | x :: r, 0, j, _, hj => by
    rw [List.flatMap_cons, Nat.zero_mul, Nat.zero_add, List.getElem?_append_left (by rw [hs]; exact hj)]; rfl
  | x :: r, i + 1, j, hi, hj => by
    rw [List.flatMap_cons, List.getElem?_append_right (by rw [hs, Nat.add_mul]; omega), hs, show (i + 1) * sz + j - sz = i * sz + j by rw [Nat.add_mul]; omega]
    exact flat_get hs i j (by simpa using hi) hj
/-- a block that is known whole (after the guide's word) -/
def Blk (w : World) (g : Nat) (t : TypeId) (cs : Array Value) : Prop := w.heap[g]? = some (.cells cs t (0, 0))
section
variable {w w' : World} {g : Nat} {t : TypeId} {cs : Array Value}
theorem Blk.lt (h : Blk w g t cs) : g < w.heap.size := by
  rcases Nat.lt_or_ge g w.heap.size with hlt | hge
  · exact hlt
  · unfold Blk at h; rw [Array.getElem?_eq_none hge] at h; cases h
theorem Blk.cell (h : Blk w g t cs) (i : Nat) : w.cell? ⟨g, i, none⟩ = cs[i]? := by
  unfold Blk at h
  simp [World.cell?, h]
theorem Blk.frozen (h : Blk w g t cs) (i : Nat) : w.frozen? ⟨g, i, none⟩ = false := by
  unfold Blk at h
  simp [World.frozen?, h]
theorem Blk.new (w : World) (t : TypeId) (cs : Array Value) : Blk (w.alloc (.cells cs t)) w.heap.size t cs := heap_alloc_new w _
theorem Blk.new_ (w : World) (t : TypeId) (cs : Array Value) {g : Nat} (h : g = w.heap.size) : Blk (w.alloc (.cells cs t)) g t cs := h ▸ heap_alloc_new w _
theorem Blk.drew (h : Blk w g t cs) : Blk w.drew g t cs := h
theorem Blk.drewN (h : Blk w g t cs) (n : Nat) : Blk (w.drewN n) g t cs := h
theorem Blk.alloc (h : Blk w g t cs) (o : Obj) : Blk (w.alloc o) g t cs := (Below.heap_alloc w o g h.lt).trans h
theorem Blk.set_ (h : Blk w g t cs) (i : Nat) (u : Value) : Blk (w.setCell ⟨g, i, none⟩ u) g t (cs.setIfInBounds i u) := by
  unfold Blk at h ⊢
  simp [World.setCell, Array.getElem?_modify, h]
theorem Blk.far (h : Blk w g t cs) {p : Addr} (hp : g ≠ p.block) (u : Value) : Blk (w.setCell p u) g t cs := (Below.heap_setCell w p u g hp).trans h
theorem Blk.below {B : Nat} (h : Blk w g t cs) (hb : Below B w w') (hg : g < B) : Blk w' g t cs := (hb.block g hg).trans h
theorem Blk.below' (h : Blk w g t cs) (hb : Below w.heap.size w w') : Blk w' g t cs := (hb.block g h.lt).trans h
theorem Blk.grown {row : Option Nat} (h : Blk w g t cs) (hb : w.grownBy w' row) (hg : some g ≠ row) : Blk w' g t cs := (hb.block g h.lt hg).trans h
end
theorem news_at {w W : World} {T : TypeId} {cs : List Value} (hW : W.heap = (w.alloc (.cells cs.toArray T)).heap) : ∀ j u, cs[j]? = some u → W.cell? ((⟨w.heap.size, 0, none⟩ : Addr).add j) = some u := fun j u hu => by
  have e : (⟨w.heap.size, 0, none⟩ : Addr).add j = ⟨w.heap.size, j, none⟩ := by unfold Addr.add; split <;> simp_all
  have h : W.heap[w.heap.size]? = some (.cells cs.toArray T) := by rw [hW]; exact heap_alloc_new w _
  rw [e]
  unfold World.cell?
  simp only [h]
  simpa using hu
theorem own_heap {w W : World} {base : Nat} {e : TypeId} {size : Nat} {v : Value} {n : Nat} {xs : List Value} (h : w.ownsRow base e size v n xs) (hW : W.heap = w.heap) : W.ownsRow base e size v n xs := by
  unfold World.ownsRow at *
  rw [hW]
  exact h
theorem own_at {w W : World} {base : Nat} {e : TypeId} {size : Nat} {v : Value} {n : Nat} {xs : List Value} {o : Obj} (h : w.ownsRow base e size v n xs) (hW : W.heap = (w.alloc o).heap) : W.ownsRow base e size v n xs :=
  own_heap (h.alloc o) hW
theorem below_heap {B : Nat} {a w W : World} (h : Below B a w) (hW : W.heap = w.heap) (h1 : W.os = w.os) (h2 : W.tape = w.tape) (h3 : W.output = w.output) : Below B a W :=
  ⟨h1.trans h.os, h2.trans h.tape, h3.trans h.output, by rw [hW]; exact h.size, fun k hk => by rw [hW]; exact h.block k hk⟩
end Go.Proofs.Ytjhdlcmecbngkaa
/- The walk of cmp.Compare at texts. -/
namespace Go.Proofs.Ytjhdlcmecbngkaa
open Go.RowKit Pl
set_option linter.unusedVariables false
theorem isNaNs_any (a : ByteArray) (w : World) : Calls Try.prog 59 #[.string a] w fun e w' => e = .returned (.bool false) ∧ w = w' := by
  have h : (a.toList == a.toList) = true := by simp
  go_enter Try.func59, Try.ntmps59
  go_wp2
  go_ret
  exact ⟨ret_bool (by simp), rfl⟩
theorem cmps_any (a b : ByteArray) (w : World) : Calls Try.prog 33 #[.string a, .string b] w fun e w' => e = .returned (.int .i64 (scmp a b)) ∧ w = w' := by
  rcases Bool.eq_false_or_eq_true (slt a b) with h | h
  · have HE := hid (scmp_lt h)
    unfold slt at h
    go_enter Try.func33, Try.ntmps33
    go_wp2_with (go_at_call 59; refine (isNaNs_any _ _).mono ?_; rintro e w' ⟨rfl, rfl⟩)
    go_ret
    exact ⟨ret_int HE.out.symm, rfl⟩
  · rcases Bool.eq_false_or_eq_true (slt b a) with g | g
    · have HE := hid (scmp_gt g)
      have h2 : (a.toList == b.toList) = false := seq_no (fun e => by subst e; rw [slt_irrefl] at g; cases g)
      unfold slt at h
      clear g
      go_enter Try.func33, Try.ntmps33
      go_wp2_with (go_at_call 59; refine (isNaNs_any _ _).mono ?_; rintro e w' ⟨rfl, rfl⟩)
      go_ret
      exact ⟨ret_int HE.out.symm, rfl⟩
    · obtain rfl := slt_tri h g
      have HE := hid (scmp_eq a)
      have h2 : (a.toList == a.toList) = true := by simp
      unfold slt at h
      clear g
      go_enter Try.func33, Try.ntmps33
      go_wp2_with (go_at_call 59; refine (isNaNs_any _ _).mono ?_; rintro e w' ⟨rfl, rfl⟩)
      go_ret
      exact ⟨ret_int HE.out.symm, rfl⟩

/-- three ways, of numbers -/
def icmp (a b : Int) : Int := if a < b then -1 else if b < a then 1 else 0
theorem isNaNi_any (a : Int) (w : World) : Calls Try.prog 58 #[.int .i64 a] w fun e w' => e = .returned (.bool false) ∧ w = w' := by
  have h : (a == a) = true := by simp
  go_enter Try.func58, Try.ntmps58
  go_wp2
  go_ret
  exact ⟨ret_bool (by simp), rfl⟩
theorem cmpi_any (a b : Int) (w : World) : Calls Try.prog 32 #[.int .i64 a, .int .i64 b] w fun e w' => e = .returned (.int .i64 (icmp a b)) ∧ w = w' := by
  by_cases h : a < b
  · have HE : Hid (icmp a b = -1) := hid (by simp [icmp, h])
    go_enter Try.func32, Try.ntmps32
    go_wp2_with (go_at_call 58; refine (isNaNi_any _ _).mono ?_; rintro e w' ⟨rfl, rfl⟩)
    go_ret
    exact ⟨ret_int HE.out.symm, rfl⟩
  · by_cases g : b < a
    · have HE : Hid (icmp a b = 1) := hid (by simp [icmp, h, g])
      go_enter Try.func32, Try.ntmps32
      go_wp2_with (go_at_call 58; refine (isNaNi_any _ _).mono ?_; rintro e w' ⟨rfl, rfl⟩)
      go_ret
      exact ⟨ret_int HE.out.symm, rfl⟩
    · have HE : Hid (icmp a b = 0) := hid (by simp [icmp, h, g])
      go_enter Try.func32, Try.ntmps32
      go_wp2_with (go_at_call 58; refine (isNaNi_any _ _).mono ?_; rintro e w' ⟨rfl, rfl⟩)
      go_ret
      exact ⟨ret_int HE.out.symm, rfl⟩

/-- the first that is not nought -/
def firstNZ : List Int → Int
  | [] => 0
  | x :: r => if x = 0 then firstNZ r else x
theorem firstNZ_at : ∀ {l : List Int} {k : Nat} (hk : k < l.length), (∀ i, (h : i < l.length) → i < k → l[i] = 0) → l[k] ≠ 0 → firstNZ l = l[k]
  | x :: r, 0, _, _, hne => by
    simp only [List.getElem_cons_zero] at hne ⊢
    simp [firstNZ, hne]
  | x :: r, k + 1, hk, h, hne => by
    have h0 : x = 0 := h 0 (by simp) (by omega)
    subst h0
    simp only [firstNZ, if_true, List.getElem_cons_succ] at hne ⊢
    exact firstNZ_at (by simpa using hk) (fun i hi hik => h (i + 1) (by simpa using hi) (by omega)) hne
theorem firstNZ_zero : ∀ {l : List Int}, (∀ i, (h : i < l.length) → l[i] = 0) → firstNZ l = 0
  | [], _ => rfl
  | x :: r, h => by
    have h0 : x = 0 := h 0 (by simp)
    subst h0
    simp only [firstNZ, if_true]
    exact firstNZ_zero fun i hi => h (i + 1) (by simpa using hi)

def OrRel (l : List Int) (i : Value) : Prop := ∃ k : Nat, k ≤ l.length ∧ i = .int .i64 k ∧ ∀ j, (h : j < l.length) → j < k → l[j] = 0
set_option maxRecDepth 100000 in
theorem or_any (g : Nat) (vs : List Int) (w : World) (hg : Blk w g 3 (vs.map (Value.int .i64)).toArray) (hn : vs.length ≤ 1000) :
    Calls Try.prog 31 #[.slice (some ⟨g, 0, none⟩) vs.length vs.length] w fun e w' => e = .returned (.int .i64 (firstNZ vs)) ∧ w = w' := by
  have HG := hid hg
  clear hg
  go_enter Try.func31, Try.ntmps31
  go_wp2
  go_loop [8] (fun i => OrRel vs i) (fun i => vs.length - (intOf i).toNat)
  case atStart => exact ⟨0, Nat.zero_le _, rfl, fun j _ h => absurd h (by omega)⟩
  case round =>
    obtain ⟨k, hk, rfl, h0⟩ := hrel
    have H0 := hid h0
    clear h0
    by_cases hlt : k < vs.length
    · have g0 : w.cell? ⟨g, k, none⟩ = some (.int .i64 vs[k]) := by
        rw [HG.out.cell]
        simp [hlt]
      by_cases hz : vs[k] = 0
      · have hb : (vs[k] == 0) = true := by simpa using hz
        have HN : Hid (∀ j, (h : j < vs.length) → j < k + 1 → vs[j] = 0) := hid (fun j hj hjk => by
          rcases (by omega : j < k ∨ j = k) with q | rfl
          · exact H0.out j hj q
          · exact hz)
        clear hz
        generalize vs[k] = x at *
        go_wp2
        go_round
        case rel => exact ⟨k + 1, by omega, by go_num, HN.out⟩
        case measure => simp [intOf]; omega
      · have hb : (vs[k] == 0) = false := by simpa using hz
        have HE := hid (firstNZ_at hlt H0.out hz)
        clear hz
        generalize vs[k] = x at *
        go_wp2
        go_ret
        exact ⟨ret_int HE.out.symm, rfl⟩
    · have HE := hid (firstNZ_zero (l := vs) (fun j h => H0.out j h (by omega)))
      go_wp2
      go_ret
      exact ⟨ret_int HE.out.symm, rfl⟩
end Go.Proofs.Ytjhdlcmecbngkaa
/- Plain: what a label is. No program in sight. -/
namespace Go.Proofs.Ytjhdlcmecbngkaa.Pl
set_option linter.unusedVariables false

/-- may a byte stand in a label? -/
def okB (n : Int) : Bool := decide ((97 ≤ n ∧ n ≤ 122) ∨ (48 ≤ n ∧ n ≤ 57) ∨ n = 45 ∨ n = 95)
/-- is a text a label? -/
def lab (s : List UInt8) : Bool := s.all (fun c => okB c.toNat) && decide (1 ≤ s.length ∧ s.length ≤ 30)

theorem lab_yes {s : List UInt8} (h : ∀ i, (hi : i < s.length) → okB (s[i]).toNat = true) (h1 : 1 ≤ s.length) (h2 : s.length ≤ 30) : lab s = true := by
  unfold lab
  rw [Bool.and_eq_true_iff]
  refine ⟨List.all_eq_true.2 fun c hc => ?_, by simp; omega⟩
  obtain ⟨i, hi, rfl⟩ := List.getElem_of_mem hc
  exact h i hi
theorem lab_bad {s : List UInt8} {i : Nat} (hi : i < s.length) (h : okB (s[i]).toNat = false) : lab s = false := by
  unfold lab
  rw [Bool.and_eq_false_iff]
  left
  rw [List.all_eq_false]
  exact ⟨s[i], List.getElem_mem hi, by simp [h]⟩
theorem lab_long {s : List UInt8} (h : ¬ (1 ≤ s.length ∧ s.length ≤ 30)) : lab s = false := by
  unfold lab
  simp only [h, decide_false, Bool.and_false]
theorem lab_bd {s : List UInt8} (h : lab s = true) : 1 ≤ s.length ∧ s.length ≤ 30 := by
  unfold lab at h
  simp only [Bool.and_eq_true, decide_eq_true_eq] at h
  exact h.2
theorem okB_no {n : Int} (h : ¬ ((97 ≤ n ∧ n ≤ 122) ∨ (48 ≤ n ∧ n ≤ 57) ∨ n = 45 ∨ n = 95)) : okB n = false := by
  unfold okB; simpa using h
theorem okB_yes {n : Int} (h : (97 ≤ n ∧ n ≤ 122) ∨ (48 ≤ n ∧ n ≤ 57) ∨ n = 45 ∨ n = 95) : okB n = true := by
  unfold okB; simpa using h
end Go.Proofs.Ytjhdlcmecbngkaa.Pl
/- The walks of dns.IsLabel and of the reference's IsLabel. -/
namespace Go.Proofs.Ytjhdlcmecbngkaa
open Go.RowKit Pl
set_option linter.unusedVariables false

theorem lab_step {s : ByteArray} {k : Nat} (h : ∀ j, (hj : j < s.data.toList.length) → j < k → okB (s.data.toList[j]).toNat = true) (hlt : k < s.size) (hk : okB (s[k]).toNat = true) :
    ∀ j, (hj : j < s.data.toList.length) → j < k + 1 → okB (s.data.toList[j]).toNat = true := by
  intro j hj hjk
  rcases (by omega : j < k ∨ j = k) with g | rfl
  · exact h j hj g
  · exact hk
theorem isEmpty_size (s : ByteArray) : s.toList.isEmpty = decide (s.size = 0) := by
  rw [ByteArray.toList_eq, Bool.eq_iff_iff, List.isEmpty_iff_length_eq_zero, decide_eq_true_eq, Array.length_toList]
  rfl
theorem lab_endA {s : ByteArray} (h1 : 1 ≤ s.size ∧ s.size ≤ 30 → lab s.data.toList = true) (h2 : ¬ (1 ≤ s.size ∧ s.size ≤ 30) → lab s.data.toList = false) (e : s.toList.isEmpty = false) : decide ((s.size : Int) ≤ 30) = lab s.data.toList := by
  have e0 : s.size ≠ 0 := by simpa [isEmpty_size] using e
  by_cases g : s.size ≤ 30
  · rw [h1 ⟨by omega, g⟩]; simp; omega
  · rw [h2 (by omega)]; simp; omega
theorem lab_endB {s : ByteArray} (h2 : ¬ (1 ≤ s.size ∧ s.size ≤ 30) → lab s.data.toList = false) (e : s.toList.isEmpty = true) : false = lab s.data.toList := by
  have e0 : s.size = 0 := by simpa [isEmpty_size] using e
  rw [h2 (by omega)]
theorem cell_new (w : World) (C : Array Value) (t : TypeId) (fr : Nat × Nat) (k : Nat) : (w.alloc (.cells C t fr)).drew.cell? ⟨w.heap.size, k, none⟩ = C[k]? := by
  have h : (w.alloc (.cells C t fr)).drew.heap[w.heap.size]? = some (.cells C t fr) := heap_alloc_new w _
  unfold World.cell?
  rw [h]
  rfl
theorem lab_out {s : ByteArray} {k : Nat} (hlt : k < s.size) (hk : okB (s[k]).toNat = false) : false = lab s.data.toList :=
  (lab_bad (i := k) (s := s.data.toList) (by simpa using hlt) hk).symm

theorem refIsLabel_any (s : ByteArray) (w : World) (hs : s.size ≤ 9223372036854775807) :
    Calls Try.prog 44 #[.string s] w fun e w' => e = .returned (.bool (lab s.data.toList)) ∧ w = w' := by
  go_enter Try.func44, Try.ntmps44
  go_wp2
  go_loop [3] (fun i => ∃ k : Nat, k ≤ s.size ∧ i = .int .i64 k ∧ ∀ j, (hj : j < s.data.toList.length) → j < k → okB (s.data.toList[j]).toNat = true) (fun i => s.size - (intOf i).toNat)
  case atStart => exact ⟨0, Nat.zero_le _, rfl, fun j _ h => absurd h (by omega)⟩
  case round =>
    obtain ⟨k, hk, rfl, hall⟩ := hrel
    have HA := hid hall
    clear hall
    by_cases hlt : k < s.size
    · go_wp2
      all_goals first
        | (go_round
           case rel => exact ⟨k + 1, by omega, by go_num, lab_step HA.out hlt (okB_yes (by go_light; clear HA; first | omega | (simp_all; done) | (simp_all; omega)))⟩
           case measure => simp [intOf]; omega)
        | (go_ret
           exact ⟨ret_bool (lab_out hlt (okB_no (by go_light; clear HA; first | omega | (simp_all; done) | (simp_all; omega)))), rfl⟩)
    · have HL := fun (g : 1 ≤ s.size ∧ s.size ≤ 30) => lab_yes (s := s.data.toList) (fun i hi => HA.out i hi (by simp at hi; omega)) (by simpa using g.1) (by simpa using g.2)
      have HN := fun (g : ¬ (1 ≤ s.size ∧ s.size ≤ 30)) => lab_long (s := s.data.toList) (by simpa using g)
      have HL := hid HL
      have HN := hid HN
      clear HA
      go_wp2
      all_goals go_ret
      all_goals exact ⟨ret_bool (by
        go_light
        by_cases g : 1 ≤ s.size ∧ s.size ≤ 30
        · rw [HL.out g] <;> first | rfl | (simp <;> omega)
        · rw [HN.out g] <;> first | rfl | (simp <;> omega)), rfl⟩

/-- the bytes of a text in a block of the call's own, as the walk wants them -/
theorem bytes_run (s : ByteArray) (w : World) : ∃ (cap : Nat) (C : Array Value) (fr : Nat × Nat),
    (convert 9 111 (.string s)).run Try.prog w = .ok (.slice (some ⟨w.heap.size, 0, none⟩) s.size cap) (w.drew.alloc (.cells C 5 fr)) ∧
    ∀ j, (h : j < s.size) → C[j]? = some (.int .u8 ((s[j]).toNat : Int)) := by
  refine ⟨_, _, _, run_bytes_of_string w 9 111 5 s Try.underlying9 Try.underlying111 Try.underlying5, ?_⟩
  intro j h
  exact bytesRow_at s _ j h

set_option maxRecDepth 100000 in
theorem IsLabel_any (s : ByteArray) (w : World) (hs : s.size ≤ 9223372036854775807) :
    Calls Try.prog 77 #[.string s] w fun e w' => e = .returned (.bool (lab s.data.toList)) ∧ Below w.heap.size w w' ∧ w.drawn ≤ w'.drawn := by
  obtain ⟨cap, C, fr, hrun, hC⟩ := bytes_run s w
  have HC := hid hC
  clear hC
  have hB : Below w.heap.size w (w.alloc (.cells C 5 fr)).drew ∧ w.drawn ≤ (w.alloc (.cells C 5 fr)).drew.drawn := ⟨(by repeat (first | exact Below.refl _ _ | assumption | refine Below.drew ?_ | refine below_drewN ?_ _ | refine Below.alloc ?_ (by simp; try omega) _ | refine Below.setCell ?_ (by simp; try omega) _)), Nat.le_succ _⟩
  have HB := hid hB
  clear hB
  go_enter Try.func77, Try.ntmps77
  go_wp2
  go_loop [8] (fun i => ∃ k : Nat, k ≤ s.size ∧ i = .int .i64 k ∧ ∀ j, (hj : j < s.data.toList.length) → j < k → okB (s.data.toList[j]).toNat = true) (fun i => s.size - (intOf i).toNat)
  case atStart => exact ⟨0, Nat.zero_le _, rfl, fun j _ h => absurd h (by omega)⟩
  case round =>
    obtain ⟨k, hk, rfl, hall⟩ := hrel
    have HA := hid hall
    clear hall
    by_cases hlt : k < s.size
    · have hcell : (w.alloc (.cells C 5 fr)).drew.cell? ⟨w.heap.size, k, none⟩ = some (.int .u8 ((s[k]).toNat : Int)) := (cell_new w C 5 fr k).trans (HC.out k hlt)
      have hby : ((s[k]).toNat : Int) ≤ 255 := by have := (s[k]).toNat_lt; omega
      clear hrun
      go_wp2
      all_goals first
        | (go_round
           case rel => exact ⟨k + 1, by omega, by go_num, lab_step HA.out hlt (okB_yes (by go_light; clear HA; first | omega | (simp_all; done) | (simp_all; omega)))⟩
           case measure => simp [intOf]; omega)
        | (go_ret
           exact ⟨ret_bool (lab_out hlt (okB_no (by go_light; clear HA; first | omega | (simp_all; done) | (simp_all; omega)))), HB.out⟩)
    · have HL := fun (g : 1 ≤ s.size ∧ s.size ≤ 30) => lab_yes (s := s.data.toList) (fun i hi => HA.out i hi (by simp at hi; omega)) (by simpa using g.1) (by simpa using g.2)
      have HN := fun (g : ¬ (1 ≤ s.size ∧ s.size ≤ 30)) => lab_long (s := s.data.toList) (by simpa using g)
      have HL := hid HL
      have HN := hid HN
      clear HA
      go_wp2
      all_goals go_ret
      all_goals first
        | exact ⟨ret_bool (lab_endA HL.out HN.out ‹s.toList.isEmpty = false›), HB.out⟩
        | exact ⟨ret_bool (lab_endB HN.out ‹s.toList.isEmpty = true›), HB.out⟩
end Go.Proofs.Ytjhdlcmecbngkaa
/- Contracts of the two functions that know labels. -/
namespace Go.Proofs.Ytjhdlcmecbngkaa
open Go.RowKit Pl
set_option linter.unusedVariables false
theorem label_fun (s : ByteArray) (hs : s.size ≤ 9223372036854775807) : Fun Try.prog 77 [.c (.v (.string s))] [.c (.v (.bool (lab s.data.toList)))] :=
  fun_flat (xs := [.string s]) (callable Try.func77 (by kernel_rfl) (by kernel_rfl)) fun w => (IsLabel_any s w hs).mono fun e w' h => ⟨h.1, h.2.1, h.2.2⟩
theorem rlabel_fun (s : ByteArray) (hs : s.size ≤ 9223372036854775807) : Fun Try.prog 44 [.c (.v (.string s))] [.c (.v (.bool (lab s.data.toList)))] :=
  fun_flat (xs := [.string s]) (callable Try.func44 (by kernel_rfl) (by kernel_rfl)) fun w => (refIsLabel_any s w hs).mono fun e w' ⟨h1, h2⟩ => ⟨h1, h2 ▸ Below.refl _ _, h2 ▸ Nat.le_refl _⟩
end Go.Proofs.Ytjhdlcmecbngkaa
/- Contracts of small functions: labels, numbers within bounds, comparing. -/
namespace Go.Proofs.Ytjhdlcmecbngkaa
open Go.RowKit Pl
set_option linter.unusedVariables false
/-! comparing -/
theorem cmps_fun (a b : ByteArray) : Fun Try.prog 33 [.c (.v (.string a)), .c (.v (.string b))] [.c (.v (.int .i64 (scmp a b)))] :=
  fun_flat (xs := [.string a, .string b]) (callable Try.func33 (by kernel_rfl) (by kernel_rfl)) fun w => (cmps_any a b w).mono fun e w' ⟨h1, h2⟩ => ⟨h1, h2 ▸ Below.refl _ _, h2 ▸ Nat.le_refl _⟩
theorem cmpi_fun (a b : Int) : Fun Try.prog 32 [.c (.v (.int .i64 a)), .c (.v (.int .i64 b))] [.c (.v (.int .i64 (icmp a b)))] :=
  fun_flat (xs := [.int .i64 a, .int .i64 b]) (callable Try.func32 (by kernel_rfl) (by kernel_rfl)) fun w => (cmpi_any a b w).mono fun e w' ⟨h1, h2⟩ => ⟨h1, h2 ▸ Below.refl _ _, h2 ▸ Nat.le_refl _⟩
theorem between_fun (n a b : Int) : Fun Try.prog 34 [.c (.v (.int .i64 n)), .c (.v (.int .i64 a)), .c (.v (.int .i64 b))] [.c (.v (.bool (wi n a b)))] := by
  refine fun_x ck_hearsayref_between rfl ?_
  (refine goI ?_; repeat (intro gg; refine goI ?_))
  (refine bIf_of (fun h => ?_) (fun h => ?_) <;> rw [h])
  · (refine goI ?_; repeat (intro gg; refine goI ?_))
    rw [wi_t h]
    (exact ⟨[], aI⟩)
  · (refine goI ?_; repeat (intro gg; refine goI ?_))
    rw [wi_f h]
    (exact ⟨[], aI⟩)
theorem address_fun (n : Int) : Fun Try.prog 45 [.c (.v (.int .i64 n))] [.c (.v (.bool (wi n 0 4294967295)))] := by
  refine fun_x ck_hearsayref_IsAddress rfl ?_
  (refine goI ?_; repeat (intro gg; refine goI ?_))
  (refine .inl ⟨_, _, false, [], aI, between_fun _ _ _, nobor, nI, ?_⟩)
  (refine goI ?_; repeat (intro gg; refine goI ?_))
  (exact ⟨[], aI⟩)
/-- one more -/
theorem firstErr_one {α : Type} (e : α → Int) (a : α) : firstErr e [a] = e a := by
  by_cases h : e a = 0 <;> simp [firstErr, h]
theorem ckL_each {α : Type} {mx : Nat} {e : α → Int} {lt : α → α → Bool} {l : List α} (h1 : ¬ mx < l.length) (h2 : firstErr e l ≠ 0) : ckL mx e lt l = firstErr e l := by simp [ckL, h1, h2]
theorem ckL_no {α : Type} {mx : Nat} {e : α → Int} {lt : α → α → Bool} {l : List α} (h1 : ¬ mx < l.length) (h2 : firstErr e l = 0) (h3 : sorted lt l = false) : ckL mx e lt l = 4 := by simp [ckL, h1, h2, h3]
theorem ckL_yes {α : Type} {mx : Nat} {e : α → Int} {lt : α → α → Bool} {l : List α} (h1 : ¬ mx < l.length) (h2 : firstErr e l = 0) (h3 : sorted lt l = true) : ckL mx e lt l = 0 := by simp [ckL, h1, h2, h3]
theorem icmp_eq (a : Int) : icmp a a = 0 := by simp [icmp]
theorem icmp_ne {a b : Int} (h : a ≠ b) : icmp a b ≠ 0 := by
  unfold icmp; split
  · decide
  · split
    · decide
    · omega
theorem icmp_pos {a b : Int} : 0 < icmp a b ↔ b < a := by
  unfold icmp; split
  · constructor <;> intro h <;> omega
  · split <;> (constructor <;> intro h <;> omega)
theorem nz_ne {a b : Int} {r : List Int} (h : (a != b) = true) : decide (0 < firstNZ (icmp a b :: r)) = decide (b < a) := by
  have h : a ≠ b := by simpa using h
  simp [firstNZ, icmp_ne h, icmp_pos]
theorem nz_eq {a b : Int} {r : List Int} (h : (a != b) = false) : firstNZ (icmp a b :: r) = firstNZ r := by
  have h : a = b := by simpa using h
  subst h; simp [firstNZ, icmp_eq]
theorem scmp_pos {a b : ByteArray} : 0 < scmp a b ↔ slt b a = true := by
  constructor
  · intro h
    rcases Bool.eq_false_or_eq_true (slt b a) with q | q
    · exact q
    · rcases Bool.eq_false_or_eq_true (slt a b) with p | p
      · rw [scmp_lt p] at h; omega
      · have := slt_tri p q
        rw [this, scmp_eq] at h; omega
  · intro h; rw [scmp_gt h]; decide
theorem nzs_ne {a b : ByteArray} {r : List Int} (h : (!(a.toList == b.toList)) = true) : decide (0 < firstNZ (scmp a b :: r)) = slt b a := by
  have h : a ≠ b := fun e => by subst e; simp at h
  have h0 : scmp a b ≠ 0 := fun e => h (scmp_zero.1 e)
  simp [firstNZ, h0, scmp_pos]
theorem nzs_eq {a b : ByteArray} {r : List Int} (h : (!(a.toList == b.toList)) = false) : firstNZ (scmp a b :: r) = firstNZ r := by
  have h : a = b := seq_iff.1 (by simpa using h)
  subst h; simp [firstNZ, scmp_eq]
def b2i (b : Bool) : Int := if b then 1 else 0
theorem nzb_last {p q : Bool} : decide (0 < firstNZ [icmp (b2i p) (b2i q)]) = (p && !q) := by cases p <;> cases q <;> decide
def orRow (n : Int) : List V := [.v (.int .i64 n)]
instance : FlatRow orRow := ⟨fun x u hu => by simp [orRow] at hu; exact ⟨_, hu⟩⟩
theorem or_fun (c : Bool) (l : List Int) (hl : l.length ≤ 9223372036854775807) : Fun Try.prog 31 [.c (.sl c (l.map orRow))] [.c (.v (.int .i64 (firstNZ l)))] := by
  refine fun_x ck_cmp_Or_int rfl ?_
  (refine goI ?_; repeat (intro gg; refine goI ?_))
  (refine ⟨[], none, {k : Nat // k ≤ l.length ∧ ∀ j, (h : j < l.length) → j < k → l[j] = 0}, [3, 6, 7], fun ⟨k, hk, h0⟩ => [(8, .v (.int .i64 k))], [], fun ⟨k, hk, h0⟩ => [], fun ⟨k, hk, h0⟩ => l.length - k, trivial, fun _ => ⟨trivial, fun _ => ⟨⟨0, by omega, fun j _ h => by omega⟩, tI, keptE_refl _ _, tI, keptH_refl _ _⟩⟩, fun ⟨k, hk, h0⟩ => ?_⟩)
  (refine goI ?_; repeat (intro gg; refine goI ?_))
  rw [List.length_map]
  (refine bIf_of (fun h => ?_) (fun h => ?_) <;> rw [h])
  · have hlt : k < l.length := by simpa using h
    (refine goI ?_; repeat (intro gg; refine goI ?_))
    refine ⟨k, _, rfl, row_map hlt, ?_⟩
    (refine goI ?_; repeat (intro gg; refine goI ?_))
    (refine bIf_of (fun h => ?_) (fun h => ?_) <;> rw [h])
    · (refine goI ?_; repeat (intro gg; refine goI ?_))
      rw [firstNZ_at hlt h0 (by simpa using h)]
      (exact ⟨[], aI⟩)
    · (refine goI ?_; repeat (intro gg; refine goI ?_))
      (exact ⟨none, trivial, fun _ => ⟨⟨k + 1, by omega, up1 (p := fun j h => l[j] = 0) h0 (fun _ => by simpa using h)⟩, by show l.length - (k + 1) < l.length - k; omega, tI, tI, tI, tI⟩⟩)
  · have hge : ¬ k < l.length := by simpa using h
    (refine goI ?_; repeat (intro gg; refine goI ?_))
    rw [firstNZ_zero (l := l) (fun i hi => h0 i hi (by omega))]
    (exact ⟨[], aI⟩)
end Go.Proofs.Ytjhdlcmecbngkaa
/- Plain: what a sorted list of the newest stands for; so the order of joining does not matter. No program in sight. -/
namespace Go.Proofs.Ytjhdlcmecbngkaa.Pl
set_option linter.unusedVariables false
/-! comparisons -/
structure Good {α : Type} (c : α → α → Int) : Prop where
  anti : ∀ a b, c b a = - c a b
  pp : ∀ a b d, 0 < c a b → 0 < c b d → 0 < c a d
  zp : ∀ a b d, c a b = 0 → 0 < c b d → 0 < c a d
  pz : ∀ a b d, 0 < c a b → c b d = 0 → 0 < c a d
  zz : ∀ a b d, c a b = 0 → c b d = 0 → c a d = 0
theorem icmp_zero {a b : Int} : icmp a b = 0 ↔ a = b := ⟨fun h => Classical.byContradiction fun hn => icmp_ne hn h, fun h => h ▸ icmp_eq a⟩
theorem good_int {α : Type} (f : α → Int) : Good fun g x => icmp (f g) (f x) where
  anti := fun a b => by unfold icmp; split <;> (try split) <;> (try split) <;> omega
  pp := fun a b d h k => by rw [icmp_pos] at *; omega
  zp := fun a b d h k => by rw [icmp_pos] at *; rw [icmp_zero] at h; omega
  pz := fun a b d h k => by rw [icmp_pos] at *; rw [icmp_zero] at k; omega
  zz := fun a b d h k => by rw [icmp_zero] at *; omega
theorem scmp_anti (a b : ByteArray) : scmp b a = - scmp a b := by
  rcases Bool.eq_false_or_eq_true (slt a b) with h | h
  · rw [scmp_lt h, scmp_gt h]; rfl
  · rcases Bool.eq_false_or_eq_true (slt b a) with k | k
    · rw [scmp_lt k, scmp_gt k]
    · have := slt_tri h k
      rw [this, scmp_eq]; rfl
theorem good_str {α : Type} (f : α → ByteArray) : Good fun g x => scmp (f g) (f x) where
  anti := fun a b => scmp_anti _ _
  pp := fun a b d h k => by rw [scmp_pos] at *; exact slt_trans k h
  zp := fun a b d h k => by rw [scmp_pos] at *; rw [scmp_zero] at h; rw [h]; exact k
  pz := fun a b d h k => by rw [scmp_pos] at *; rw [scmp_zero] at k; rw [← k]; exact h
  zz := fun a b d h k => by rw [scmp_zero] at *; exact h.trans k
theorem nz_cons (x : Int) (r : List Int) : firstNZ (x :: r) = if x = 0 then firstNZ r else x := rfl
theorem good_list {α : Type} : ∀ (cs : List (α → α → Int)), (∀ c ∈ cs, Good c) → Good fun g x => firstNZ (cs.map fun c => c g x)
  | [], _ => ⟨fun _ _ => rfl, fun _ _ _ h => by simp [firstNZ] at h, fun _ _ _ _ h => by simp [firstNZ] at h, fun _ _ _ h => by simp [firstNZ] at h, fun _ _ _ _ _ => rfl⟩
  | c :: cs, h => by
    have hc := h c (by simp)
    have ih := good_list cs fun c hm => h c (by simp [hm])
    refine ⟨fun a b => ?_, fun a b d p q => ?_, fun a b d p q => ?_, fun a b d p q => ?_, fun a b d p q => ?_⟩ <;> simp only [List.map_cons, nz_cons] at *
    · rw [hc.anti a b]
      by_cases h0 : c a b = 0
      · rw [if_pos (by omega), if_pos h0]; exact ih.anti a b
      · rw [if_neg (by omega), if_neg h0]
    all_goals
      rcases Classical.em (c a b = 0) with h1 | h1 <;> rcases Classical.em (c b d = 0) with h2 | h2 <;> (try simp only [h1, h2, if_true, if_false] at p q)
    all_goals first
      | (have h3 := hc.zz _ _ _ h1 h2; rw [if_pos h3]; first | exact ih.pp _ _ _ p q | exact ih.zp _ _ _ p q | exact ih.pz _ _ _ p q | exact ih.zz _ _ _ p q)
      | (have h3 := hc.zp _ _ _ h1 q; rw [if_neg (by omega)]; exact h3)
      | (have h3 := hc.pz _ _ _ p h2; rw [if_neg (by omega)]; exact h3)
      | (have h3 := hc.pp _ _ _ p q; rw [if_neg (by omega)]; exact h3)
      | omega
theorem nz_zero : ∀ {l : List Int}, firstNZ l = 0 → ∀ x ∈ l, x = 0
  | [], _, x, hx => by cases hx
  | y :: l, h, x, hx => by
    rw [nz_cons] at h
    split at h
    · rename_i h0
      rcases List.mem_cons.1 hx with rfl | hx
      · exact h0
      · exact nz_zero h x hx
    · rename_i h0; exact absurd h h0
/-- what is newer, among those of one key -/
structure Newest {α : Type} (cf : α → α → Int) (nw : α → α → Bool) : Prop where
  irr : ∀ x, nw x x = false
  trans : ∀ x y z, nw x y = true → nw y z = true → nw x z = true
  tot : ∀ x y, cf x y = 0 → nw x y = false → nw y x = false → x = y
theorem newest_of {α : Type} {cf : α → α → Int} {c : α → α → Int} (hc : Good c) (ht : ∀ x y, cf x y = 0 → c x y = 0 → x = y) : Newest cf fun g x => decide (0 < c g x) where
  irr := fun x => decide_eq_false fun h => by have := hc.anti x x; omega
  trans := fun x y z h k => decide_eq_true (hc.pp _ _ _ (of_decide_eq_true h) (of_decide_eq_true k))
  tot := fun x y h1 h2 h3 => ht x y h1 (by have := of_decide_eq_false h2; have := of_decide_eq_false h3; have := hc.anti x y; omega)
section
variable {α : Type} {lt : α → α → Bool} {cf : α → α → Int} {nw : α → α → Bool}
theorem Ord.irr (o : Ord lt cf) (ho : ∀ x, cf x x = 0) (x : α) : lt x x = false := by
  cases h : lt x x with
  | false => rfl
  | true => have := (o.neg x x).2 h; rw [ho] at this; omega
theorem sorted_uniq (o : Ord lt cf) (ho : ∀ x, cf x x = 0) {l : List α} (hs : sorted lt l = true) {x y : α} (hx : x ∈ l) (hy : y ∈ l) (h : cf x y = 0) : x = y := by
  obtain ⟨i, hi, rfl⟩ := List.getElem_of_mem hx
  obtain ⟨j, hj, rfl⟩ := List.getElem_of_mem hy
  rcases Nat.lt_trichotomy i j with g | g | g
  · have := sorted_pair o.trans hs j i hj g
    have h2 := o.left _ _ l[j] h
    rw [this] at h2
    rw [o.irr ho] at h2; cases h2
  · subst g; rfl
  · have := sorted_pair o.trans hs i j hi g
    have h2 := o.right _ _ l[j] h
    rw [this, o.irr ho] at h2
    have := o.left _ _ l[j] h
    rw [o.irr ho] at this
    have h3 := o.right l[i] l[j] l[j] h
    rw [o.irr ho] at h3
    have h4 := sorted_pair o.trans hs i j hi g
    rw [h4] at h3; cases h3
theorem sorted_ext (o : Ord lt cf) (ho : ∀ x, cf x x = 0) : ∀ {a b : List α}, sorted lt a = true → sorted lt b = true → (∀ x, x ∈ a ↔ x ∈ b) → a = b := by
  intro a
  induction a with
  | nil =>
    intro b _ _ h
    cases b with
    | nil => rfl
    | cons y b => exact absurd ((h y).2 (by simp)) (by simp)
  | cons x a ih =>
    intro b ha hb h
    cases b with
    | nil => exact absurd ((h x).1 (by simp)) (by simp)
    | cons y b =>
      have pa := (sorted_iff o.trans).1 ha
      have pb := (sorted_iff o.trans).1 hb
      rw [List.pairwise_cons] at pa pb
      have e : x = y := by
        rcases List.mem_cons.1 ((h x).1 (by simp)) with e | hx
        · exact e
        · rcases List.mem_cons.1 ((h y).2 (by simp)) with e | hy
          · exact e.symm
          · have h1 := pb.1 x hx
            have h2 := pa.1 y hy
            have := o.trans _ _ _ h1 h2
            rw [o.irr ho] at this; cases this
      subst e
      have hm : ∀ z, z ∈ a ↔ z ∈ b := fun z => by
        constructor
        · intro hz
          rcases List.mem_cons.1 ((h z).1 (by simp [hz])) with e | hz'
          · subst e; have := pa.1 z hz; rw [o.irr ho] at this; cases this
          · exact hz'
        · intro hz
          rcases List.mem_cons.1 ((h z).2 (by simp [hz])) with e | hz'
          · subst e; have := pb.1 z hz; rw [o.irr ho] at this; cases this
          · exact hz'
      rw [ih ((sorted_iff o.trans).2 pa.2) ((sorted_iff o.trans).2 pb.2) hm]
/-- the list is of the newest of S, each key once -/
structure Rep (lt : α → α → Bool) (cf : α → α → Int) (nw : α → α → Bool) (l : List α) (S : α → Prop) : Prop where
  srt : sorted lt l = true
  sub : ∀ x ∈ l, S x
  top : ∀ y, S y → ∃ z ∈ l, cf z y = 0 ∧ nw y z = false
theorem rep_self (n : Newest cf nw) (ho : ∀ x, cf x x = 0) {l : List α} (hs : sorted lt l = true) : Rep lt cf nw l (· ∈ l) := ⟨hs, fun x h => h, fun y h => ⟨y, h, ho y, n.irr y⟩⟩
theorem rep_uniq (o : Ord lt cf) (n : Newest cf nw) (ho : ∀ x, cf x x = 0) (hsym : ∀ x y, cf x y = 0 → cf y x = 0) (htr : ∀ x y z, cf x y = 0 → cf y z = 0 → cf x z = 0) {a b : List α} {S : α → Prop} (ha : Rep lt cf nw a S) (hb : Rep lt cf nw b S) : a = b := by
  have key : ∀ {a b : List α}, Rep lt cf nw a S → Rep lt cf nw b S → ∀ x, x ∈ a → x ∈ b := fun {a b} ha hb x hx => by
    obtain ⟨z, hz, h1, h2⟩ := hb.top x (ha.sub x hx)
    obtain ⟨u, hu, h3, h4⟩ := ha.top z (hb.sub z hz)
    have hux : u = x := sorted_uniq o ho ha.srt hu hx (htr _ _ _ h3 h1)
    subst hux
    have := n.tot z u h1 h4 h2
    subst this; exact hz
  exact sorted_ext o ho ha.srt hb.srt fun x => ⟨key ha hb x, key hb ha x⟩
theorem hit_mem {f : α → Int} {l : List α} (h : hit f l = true) : l[low f l]'(hit_lt h) ∈ l := List.getElem_mem _
theorem rep_upd (o : Ord lt cf) (n : Newest cf nw) (ho : ∀ x, cf x x = 0) (hsym : ∀ x y, cf x y = 0 → cf y x = 0) (htr : ∀ x y z, cf x y = 0 → cf y z = 0 → cf x z = 0) {l : List α} {S : α → Prop} (h : Rep lt cf nw l S) (g : α) : Rep lt cf nw (upd cf nw l g) (fun x => S x ∨ x = g) := by
  have hs := o.upd nw h.srt g
  refine ⟨hs, fun x hx => ?_, fun y hy => ?_⟩
  · rcases upd_mem hx with rfl | hx
    · exact .inr rfl
    · exact .inl (h.sub x hx)
  · -- what of the list stays
    rcases Bool.eq_false_or_eq_true (hit (cf g) l) with q | q
    · have hz := hit_zero q
      rcases Bool.eq_false_or_eq_true (nw g (l[low (cf g) l]'(hit_lt q))) with p | p
      · rw [upd_newer q p]
        have hg : g ∈ l.set (low (cf g) l) g := List.mem_set (hit_lt q) g
        have stay : ∀ z ∈ l, z ≠ l[low (cf g) l]'(hit_lt q) → z ∈ l.set (low (cf g) l) g := fun z hz hne => by
          obtain ⟨i, hi, rfl⟩ := List.getElem_of_mem hz
          have hil : i ≠ low (cf g) l := fun e => hne (by subst e; rfl)
          rw [List.mem_iff_getElem]
          exact ⟨i, by simpa using hi, by rw [List.getElem_set_ne (fun e => hil e.symm)]⟩
        rcases hy with hy | rfl
        · obtain ⟨z, hzl, h1, h2⟩ := h.top y hy
          by_cases hzz : z = l[low (cf g) l]'(hit_lt q)
          · refine ⟨g, hg, ?_, ?_⟩
            · rw [hzz] at h1; exact htr _ _ _ hz h1
            · cases hb : nw y g with
              | false => rfl
              | true =>
                rw [hzz] at h2
                rw [n.trans _ _ _ hb p] at h2; cases h2
          · exact ⟨z, stay z hzl hzz, h1, h2⟩
        · exact ⟨y, hg, ho y, n.irr y⟩
      · rw [upd_older q p]
        rcases hy with hy | rfl
        · exact h.top y hy
        · exact ⟨_, hit_mem q, hsym _ _ hz, p⟩
    · rw [upd_miss q]
      have stay : ∀ z ∈ l, z ∈ l.take (low (cf g) l) ++ [g] ++ l.drop (low (cf g) l) := fun z hz => by
        have e := List.take_append_drop (low (cf g) l) l
        rw [← e, List.mem_append] at hz
        simp only [List.mem_append, List.mem_cons, List.not_mem_nil, or_false]
        rcases hz with h | h
        · exact .inl (.inl h)
        · exact .inr h
      rcases hy with hy | rfl
      · obtain ⟨z, hzl, h1, h2⟩ := h.top y hy
        exact ⟨z, stay z hzl, h1, h2⟩
      · exact ⟨y, by simp, ho y, n.irr y⟩
theorem Rep.congr {l : List α} {S S' : α → Prop} (h : Rep lt cf nw l S) (hS : ∀ x, S x ↔ S' x) : Rep lt cf nw l S' := ⟨h.srt, fun x hx => (hS x).1 (h.sub x hx), fun y hy => h.top y ((hS y).2 hy)⟩
theorem rep_join (o : Ord lt cf) (n : Newest cf nw) (ho : ∀ x, cf x x = 0) (hsym : ∀ x y, cf x y = 0 → cf y x = 0) (htr : ∀ x y z, cf x y = 0 → cf y z = 0 → cf x z = 0) : ∀ (b : List α) {a : List α} {S : α → Prop}, Rep lt cf nw a S → Rep lt cf nw (joinL cf nw a b) (fun x => S x ∨ x ∈ b)
  | [], a, S, h => h.congr fun x => by simp
  | g :: b, a, S, h => (rep_join o n ho hsym htr b (rep_upd o n ho hsym htr h g)).congr fun x => by simp [or_assoc]
/-- joined lists stand for their members' newest, whoever was joined first -/
theorem rep_of_join (o : Ord lt cf) (n : Newest cf nw) (ho : ∀ x, cf x x = 0) (hsym : ∀ x y, cf x y = 0 → cf y x = 0) (htr : ∀ x y z, cf x y = 0 → cf y z = 0 → cf x z = 0) {l s : List α} {S T : α → Prop} (hl : Rep lt cf nw l S) (hs : Rep lt cf nw s T) : Rep lt cf nw (joinL cf nw l s) (fun x => S x ∨ T x) := by
  have h := rep_join o n ho hsym htr s hl
  refine ⟨h.srt, fun x hx => ?_, fun y hy => ?_⟩
  · rcases h.sub x hx with q | q
    · exact .inl q
    · exact .inr (hs.sub x q)
  · rcases hy with q | q
    · exact h.top y (.inl q)
    · obtain ⟨z, hz, h1, h2⟩ := hs.top y q
      obtain ⟨u, hu, h3, h4⟩ := h.top z (.inr hz)
      refine ⟨u, hu, htr _ _ _ h3 h1, ?_⟩
      cases hb : nw y u with
      | false => rfl
      | true =>
        -- u is not older than z, z not older than y
        rcases Bool.eq_false_or_eq_true (nw u z) with p | p
        · rw [n.trans _ _ _ hb p] at h2; cases h2
        · have := n.tot u z h3 p h4
          subst this
          rw [hb] at h2; cases h2
theorem hear_old (n : Newest cf nw) (ho : ∀ x, cf x x = 0) (o : Ord lt cf) {l : List α} (hs : sorted lt l = true) {g : α} (h : upd cf nw l g = l) : hearF cf nw l g = false := by
  cases hF : hearF cf nw l g with
  | false => rfl
  | true =>
    rcases Bool.eq_false_or_eq_true (hit (cf g) l) with q | q
    · have p := (hearF_hit q).symm.trans hF
      rw [upd_newer q p] at h
      have e : (l.set (low (cf g) l) g)[low (cf g) l]'(by rw [List.length_set]; exact hit_lt q) = g := by simp
      simp only [h] at e
      rw [e, n.irr] at p; cases p
    · rw [upd_miss q] at h
      have := congrArg List.length h
      simp at this
      have hl := low_le (cf := cf g) l
      omega
theorem hit_of {f : α → Int} {l : List α} (hm : SMono f l) {x : α} (hx : x ∈ l) (h : f x = 0) : hit f l = true := by
  cases hb : hit f l with
  | true => rfl
  | false =>
    have e := List.take_append_drop (low f l) l
    rw [← e, List.mem_append] at hx
    rcases hx with q | q
    · have := low_ahead q; omega
    · have := low_behind hm hb q; omega
theorem low_put {f : α → Int} {l : List α} (hm : SMono f l) (h : hit f l = true) {g : α} (hg : f g = 0) : low f (l.set (low f l) g) = low f l ∧ hit f (l.set (low f l) g) = true := by
  have hlt := hit_lt h
  have h1 : low f l = low f (l.set (low f l) g) := low_uniq (by rw [List.length_set]; omega) (fun i hi hlo => by
      rw [List.getElem_set_ne (by omega)]; exact low_lt _ hlo) (fun i hi hlo => by
      by_cases hq : i = low f l
      · subst hq; rw [List.getElem_set_self]; omega
      · rw [List.getElem_set_ne (fun e => hq e.symm)]
        have hil : i < l.length := by simpa using hi
        have hz := hit_zero h
        rcases (by omega : f l[i] < 0 ∨ 0 ≤ f l[i]) with q | q
        · have := hm (low f l) i hil (by omega) (by omega); omega
        · exact q)
  refine ⟨h1.symm, ?_⟩
  have hl2 : low f (l.set (low f l) g) < (l.set (low f l) g).length := by rw [← h1, List.length_set]; exact hlt
  rw [hit_in hl2]
  simp only [← h1, List.getElem_set_self, hg, decide_true]
end
end Go.Proofs.Ytjhdlcmecbngkaa.Pl
/- Plain: names in the order of how far they are; whoever inserts one by one has what the library sorts. No program in sight. -/
namespace Go.Proofs.Ytjhdlcmecbngkaa.Pl
open Go.Sort Go.Shelf
set_option linter.unusedVariables false
section
variable {α : Type} {c : α → α → Int}
theorem Good.self (g : Good c) (x : α) : c x x = 0 := by have := g.anti x x; omega
theorem swo_of (g : Good c) : SWO (ltOf c) where
  irrefl x := by unfold ltOf; rw [g.self]; rfl
  trans x y z h1 h2 := by
    unfold ltOf at *
    have h1 := of_decide_eq_true h1
    have h2 := of_decide_eq_true h2
    have a1 := g.anti x y
    have a2 := g.anti y z
    have a3 := g.anti x z
    have := g.pp z y x (by omega) (by omega)
    exact decide_eq_true (by omega)
  ntrans x y z h1 h2 := by
    unfold ltOf at *
    have h1 := of_decide_eq_false h1
    have h2 := of_decide_eq_false h2
    refine decide_eq_false ?_
    by_cases p1 : c x y = 0
    · by_cases p2 : c y z = 0
      · have := g.zz x y z p1 p2; omega
      · have := g.zp x y z p1 (by omega); omega
    · by_cases p2 : c y z = 0
      · have := g.pz x y z (by omega) p2; omega
      · have := g.pp x y z (by omega) (by omega); omega
theorem tot_of (g : Good c) (h0 : ∀ x y, c x y = 0 → x = y) : ∀ x y, ltOf c x y = false → ltOf c y x = false → x = y := fun x y h1 h2 => by
  unfold ltOf at *
  have h1 := of_decide_eq_false h1
  have h2 := of_decide_eq_false h2
  have := g.anti x y
  exact h0 x y (by omega)
def leB (c : α → α → Int) (y x : α) : Bool := !(ltOf c) x y
theorem sort_uniq {r : α → α → Prop} (an : ∀ x y, r x y → r y x → x = y) : ∀ {a b : List α}, a.Perm b → a.Pairwise r → b.Pairwise r → a = b
  | [], b, h, _, _ => (List.nil_perm.1 h).symm
  | x :: a, [], h, _, _ => by have := h.length_eq; simp at this
  | x :: a, y :: b, h, ha, hb => by
    have ha' := List.pairwise_cons.1 ha
    have hb' := List.pairwise_cons.1 hb
    have e : x = y := by
      have h1 : x ∈ y :: b := h.mem_iff.1 List.mem_cons_self
      have h2 : y ∈ x :: a := h.mem_iff.2 List.mem_cons_self
      rcases List.mem_cons.1 h1 with q | q
      · exact q
      · rcases List.mem_cons.1 h2 with q2 | q2
        · exact q2.symm
        · exact an _ _ (ha'.1 _ q2) (hb'.1 _ q)
    subst e
    rw [sort_uniq an (List.Perm.cons_inv h) ha'.2 hb'.2]
/-- one more, behind those that stand ahead of it or level with it -/
def insA (c : α → α → Int) (l : List α) (x : α) : List α := l.takeWhile (fun y => leB c y x) ++ x :: l.dropWhile fun y => leB c y x
theorem insA_perm (l : List α) (x : α) : (insA c l x).Perm (x :: l) := by
  unfold insA
  refine (List.perm_middle).trans ?_
  rw [List.takeWhile_append_dropWhile]
theorem insA_cons (y x : α) (l : List α) : insA c (y :: l) x = if leB c y x = true then y :: insA c l x else x :: y :: l := by
  unfold insA
  rw [List.takeWhile_cons, List.dropWhile_cons]
  split <;> rfl
theorem insA_sorted (g : Good c) (x : α) : ∀ {l : List α}, l.Pairwise (fun u v => leB c u v = true) → (insA c l x).Pairwise fun u v => leB c u v = true
  | [], _ => List.pairwise_singleton ..
  | y :: l, h => by
    have h' := List.pairwise_cons.1 h
    rw [insA_cons]
    split
    · rename_i q
      refine List.pairwise_cons.2 ⟨fun z hz => ?_, insA_sorted g x h'.2⟩
      have := (insA_perm (c := c) l x).mem_iff.1 hz
      rcases List.mem_cons.1 this with rfl | hz
      · exact q
      · exact h'.1 z hz
    · rename_i q
      have q : ltOf c x y = true := by simpa [leB] using q
      have s := swo_of g
      have hxy : leB c x y = true := by
        unfold leB
        cases p : ltOf c y x with
        | false => rfl
        | true => have := s.trans _ _ _ p q; rw [s.irrefl] at this; cases this
      refine List.pairwise_cons.2 ⟨fun z hz => ?_, h⟩
      rcases List.mem_cons.1 hz with rfl | hz
      · exact hxy
      · have hyz := h'.1 z hz
        unfold leB at *
        rw [Bool.not_eq_true'] at *
        exact s.ntrans _ _ _ hyz hxy
theorem insA_all (g : Good c) : ∀ (d : List α) {l : List α}, l.Pairwise (fun u v => leB c u v = true) → (d.foldl (insA c) l).Pairwise (fun u v => leB c u v = true) ∧ (d.foldl (insA c) l).Perm (l ++ d)
  | [], l, h => ⟨h, by simp⟩
  | x :: d, l, h => by
    obtain ⟨h1, h2⟩ := insA_all g d (insA_sorted g x h)
    refine ⟨h1, h2.trans ?_⟩
    refine ((insA_perm l x).append_right d).trans ?_
    exact (List.perm_middle).symm
theorem insA_srt (g : Good c) (h0 : ∀ x y, c x y = 0 → x = y) (d : List α) : d.foldl (insA c) [] = srtL c d := by
  obtain ⟨h1, h2⟩ := insA_all g d (l := []) List.Pairwise.nil
  have s := swo_of g
  have hs : (srtL c d).Pairwise fun x y => (!(ltOf c) y x) = true := by
    refine List.pairwise_mergeSort (fun a b e p1 p2 => ?_) (fun a b => ?_) _
    · have p1' : ltOf c b a = false := by simpa using p1
      have p2' : ltOf c e b = false := by simpa using p2
      simpa using s.ntrans e b a p2' p1'
    · cases q : ltOf c b a with
      | false => rfl
      | true =>
        cases p : ltOf c a b with
        | false => rfl
        | true => have := s.trans _ _ _ p q; rw [s.irrefl] at this; cases this
  refine sort_uniq (r := fun u v => leB c u v = true) (fun x y p1 p2 => ?_) (h2.trans (List.mergeSort_perm _ _).symm) h1 hs
  have p1' : ltOf c y x = false := by simpa [leB] using p1
  have p2' : ltOf c x y = false := by simpa [leB] using p2
  exact tot_of g h0 x y p2' p1'
end
/-- how far a name is, if anybody tells -/
def rkN (K : ByteArray → Option Int) (a : ByteArray) : Int := if (K a).isSome then 0 else 1
def frN (K : ByteArray → Option Int) (a : ByteArray) : Int := (K a).getD 0
def cfN (K : ByteArray → Option Int) (a b : ByteArray) : Int := firstNZ [icmp (rkN K a) (rkN K b), icmp (frN K a) (frN K b), scmp a b]
theorem cfN_good (K : ByteArray → Option Int) : Good (cfN K) := good_list [fun a b => icmp (rkN K a) (rkN K b), fun a b => icmp (frN K a) (frN K b), fun a b => scmp a b] (by
  intro c hc
  simp only [List.mem_cons, List.not_mem_nil, or_false] at hc
  rcases hc with rfl | rfl | rfl
  · exact good_int (rkN K)
  · exact good_int (frN K)
  · exact good_str fun a => a)
theorem cfN_zero {K : ByteArray → Option Int} {a b : ByteArray} (h : cfN K a b = 0) : a = b := scmp_zero.1 (nz_zero h _ (by simp))
theorem cfN_sort (K : ByteArray → Option Int) (d : List ByteArray) : d.foldl (insA (cfN K)) [] = srtL (cfN K) d := insA_srt (cfN_good K) (fun _ _ => cfN_zero) d
end Go.Proofs.Ytjhdlcmecbngkaa.Pl
/- Plain arithmetic of the integer square root: no program in sight. -/
namespace Go.Proofs.Ytjhdlcmecbngkaa.Pl
set_option linter.unusedVariables false

def isqAux (n : Nat) : Nat → Nat
  | 0 => 0
  | k + 1 => if (k + 1) * (k + 1) ≤ n then k + 1 else isqAux n k

/-- the greatest number whose square is not more -/
def isq (n : Nat) : Nat := isqAux n n

theorem isqAux_sq (n k : Nat) : isqAux n k * isqAux n k ≤ n := by
  induction k with
  | zero => simp [isqAux]
  | succ k ih =>
    unfold isqAux
    split
    · assumption
    · exact ih

theorem isqAux_lt (n k : Nat) (h : n < (k + 1) * (k + 1)) : n < (isqAux n k + 1) * (isqAux n k + 1) := by
  induction k with
  | zero => simpa [isqAux] using h
  | succ k ih =>
    unfold isqAux
    split
    · exact h
    · exact ih (by omega)

theorem isq_sq (n : Nat) : isq n * isq n ≤ n := isqAux_sq n n
theorem isq_lt (n : Nat) : n < (isq n + 1) * (isq n + 1) := isqAux_lt n n (by rw [Nat.add_mul]; omega)

theorem isq_uniq (n r : Nat) (h1 : r * r ≤ n) (h2 : n < (r + 1) * (r + 1)) : isq n = r := by
  have a := isq_sq n
  have b := isq_lt n
  rcases Nat.lt_trichotomy (isq n) r with h | h | h
  · have := Nat.mul_le_mul (show isq n + 1 ≤ r from h) (show isq n + 1 ≤ r from h); omega
  · exact h
  · have := Nat.mul_le_mul (show r + 1 ≤ isq n from h) (show r + 1 ≤ isq n from h); omega

/-- the root of a number from 0 on, as an integer -/
def rt (n : Int) : Int := (isq n.toNat : Int)

theorem rt_nonneg (n : Int) : 0 ≤ rt n := Int.natCast_nonneg _
theorem rt_sq (n : Int) (h : 0 ≤ n) : rt n * rt n ≤ n := by
  have := isq_sq n.toNat
  unfold rt
  have e : ((isq n.toNat * isq n.toNat : Nat) : Int) ≤ (n.toNat : Int) := Int.ofNat_le.2 this
  rw [Int.natCast_mul] at e
  omega
theorem rt_lt (n : Int) (h : 0 ≤ n) : n < (rt n + 1) * (rt n + 1) := by
  have := isq_lt n.toNat
  unfold rt
  have e : (n.toNat : Int) < ((isq n.toNat + 1) * (isq n.toNat + 1) : Nat) := Int.ofNat_lt.2 this
  rw [Int.natCast_mul] at e
  simp only [Int.natCast_add, Int.natCast_one] at e
  omega
theorem sq_mono {a b : Int} (h0 : 0 ≤ a) (h : a ≤ b) : a * a ≤ b * b := Int.mul_le_mul h h h0 (by omega)
theorem sq_le {a b : Int} (h0 : 0 ≤ b) (h : a * a < (b + 1) * (b + 1)) : a ≤ b := by
  rcases Int.lt_or_le b a with g | g
  · have := sq_mono (show 0 ≤ b + 1 by omega) (show b + 1 ≤ a by omega); omega
  · exact g
theorem rt_le {n r : Int} (h : 0 ≤ n) (h0 : 0 ≤ r) (h2 : n < (r + 1) * (r + 1)) : rt n ≤ r := by
  have := rt_sq n h
  exact sq_le h0 (by omega)
theorem le_rt {n r : Int} (h : 0 ≤ n) (h2 : r * r ≤ n) : r ≤ rt n := by
  have := rt_lt n h
  exact sq_le (rt_nonneg n) (by omega)
theorem rt_uniq {n r : Int} (h0 : 0 ≤ r) (h1 : r * r ≤ n) (h2 : n < (r + 1) * (r + 1)) : rt n = r := by
  have hn : 0 ≤ n := Int.le_trans (Int.mul_nonneg h0 h0) h1
  have a := rt_le hn h0 h2
  have b := le_rt hn h1
  omega
theorem rt_max (n : Int) (h : 0 ≤ n) (hm : n ≤ 9223372036854775807) : rt n ≤ 3037000499 := rt_le h (by omega) (by omega)

theorem div_bounds {n x : Int} (hn : 0 ≤ n) (hx : 1 ≤ x) : 0 ≤ n / x ∧ x * (n / x) ≤ n ∧ n < x * (n / x) + x := by
  have := Int.mul_ediv_add_emod n x
  have := Int.emod_nonneg n (show x ≠ 0 by omega)
  have := Int.emod_lt_of_pos n (show 0 < x by omega)
  exact ⟨Int.ediv_nonneg hn (by omega), by omega, by omega⟩

theorem amgm {a b s : Int} (h0 : 0 ≤ a) (h1 : 0 ≤ b) (h : a + b ≤ 2 * s) : a * b ≤ s * s := by
  have h2 : (a + b) * (a + b) ≤ (2 * s) * (2 * s) := sq_mono (by omega) h
  have h3 : 0 ≤ (a - b) * (a - b) := by
    rcases Int.le_total 0 (a - b) with g | g
    · exact Int.mul_nonneg g g
    · exact Int.mul_nonneg_of_nonpos_of_nonpos g g
  have e : (a - b) * (a - b) = (a + b) * (a + b) - 4 * (a * b) := by grind
  have e2 : (2 * s) * (2 * s) = 4 * (s * s) := by grind
  omega

/-- a step of the first loop -/
theorem up_le {n x : Int} (hn : 0 ≤ n) (hm : n ≤ 9223372036854775807) (hx : 1 ≤ x) (h : x ≤ n / x) : x ≤ 3037000499 := by
  obtain ⟨a, b, c⟩ := div_bounds hn hx
  have : x * x ≤ x * (n / x) := Int.mul_le_mul_of_nonneg_left h (by omega)
  exact sq_le (by omega) (by omega)
theorem up_end {n x : Int} (hn : 0 ≤ n) (hx : 1 ≤ x) (h : n / x < x) : rt n ≤ x := by
  obtain ⟨a, b, c⟩ := div_bounds hn hx
  have : x * (n / x) ≤ x * (x - 1) := Int.mul_le_mul_of_nonneg_left (by omega) (by omega)
  have e : x * (x - 1) = x * x - x := by grind
  have e2 : (x + 1) * (x + 1) = x * x + 2 * x + 1 := by grind
  exact rt_le hn (by omega) (by omega)
/-- the quotient in the second loop -/
theorem down_q {n x : Int} (hn : 1 ≤ n) (hx : 1 ≤ x) (h : rt n ≤ x) : n / x ≤ rt n + 2 := by
  have a := rt_lt n (by omega)
  have b : 1 ≤ rt n := le_rt (by omega) (by omega)
  refine Int.ediv_le_of_le_mul (by omega) ?_
  have e : (rt n + 1) * (rt n + 1) = (rt n + 2) * rt n + 1 := by grind
  have : (rt n + 2) * rt n ≤ (rt n + 2) * x := Int.mul_le_mul_of_nonneg_left h (by omega)
  omega
theorem down_ge {n x : Int} (hn : 0 ≤ n) (hx : 1 ≤ x) : rt n ≤ (x + n / x) / 2 := by
  obtain ⟨a, b, c⟩ := div_bounds hn hx
  have s := rt_sq n hn
  rcases Int.lt_or_le ((x + n / x) / 2) (rt n) with g | g
  · have := amgm (a := x) (b := n / x + 1) (s := rt n) (by omega) (by omega) (by omega)
    have e : x * (n / x + 1) = x * (n / x) + x := by grind
    omega
  · exact g
theorem down_end {n x : Int} (hn : 0 ≤ n) (hx : 1 ≤ x) (h : rt n ≤ x) (g : x ≤ (x + n / x) / 2) : x = rt n := by
  obtain ⟨a, b, c⟩ := div_bounds hn hx
  have : x * x ≤ x * (n / x) := Int.mul_le_mul_of_nonneg_left (by omega) (by omega)
  have := le_rt (n := n) (r := x) hn (by omega)
  omega

/-- bit by bit: b is a power of two (or 0); the root lies between r and what the bits left can add -/
def RootRel (n r b : Int) : Prop :=
  0 ≤ r ∧ r * r ≤ n ∧ ((b = 0 ∧ n < (r + 1) * (r + 1)) ∨ ((∃ k : Nat, k ≤ 31 ∧ b = 2 ^ k) ∧ n < (r + 2 * b) * (r + 2 * b)))

theorem pow_half (k : Nat) : ((2 : Int) ^ (k + 1)) / 2 = 2 ^ k ∧ (2 : Int) ^ (k + 1) = 2 * 2 ^ k ∧ 1 ≤ (2 : Int) ^ k := by
  have h : (2 : Int) ^ (k + 1) = 2 ^ k * 2 := Int.pow_succ 2 k
  have p : 0 < (2 : Int) ^ k := Int.pow_pos (by omega)
  omega
theorem pow_le (k : Nat) (h : k ≤ 31) : (2 : Int) ^ k ≤ 2147483648 := by
  have e : (2147483648 : Int) = 2 ^ k * 2 ^ (31 - k) := by
    rw [← Int.pow_add, show k + (31 - k) = 31 by omega]; decide
  have p : 1 ≤ (2 : Int) ^ (31 - k) := by have : 0 < (2 : Int) ^ (31 - k) := Int.pow_pos (by omega); omega
  have q : 0 ≤ (2 : Int) ^ k := by have : 0 < (2 : Int) ^ k := Int.pow_pos (by omega); omega
  have := Int.mul_le_mul_of_nonneg_left p q
  omega
theorem rootRel_start {n : Int} (h0 : 0 ≤ n) (hm : n ≤ 9223372036854775807) : RootRel n 0 2147483648 :=
  ⟨by omega, by omega, .inr ⟨⟨31, by omega, by decide⟩, by omega⟩⟩
theorem rootRel_bounds {n r b : Int} (h0 : 0 ≤ n) (hm : n ≤ 9223372036854775807) (h : RootRel n r b) :
    0 ≤ r ∧ r ≤ 3037000499 ∧ 0 ≤ b ∧ b ≤ 2147483648 ∧ (0 < b → 0 ≤ b / 2) := by
  obtain ⟨a, c, d⟩ := h
  have hr : r ≤ 3037000499 := sq_le (by omega) (by omega)
  refine ⟨a, hr, ?_⟩
  rcases d with ⟨e, _⟩ | ⟨⟨k, hk, e⟩, _⟩
  · omega
  · have := pow_le k hk
    have : 0 < (2 : Int) ^ k := Int.pow_pos (by omega)
    omega
theorem rootRel_yes {n r b : Int} (h : RootRel n r b) (hb : 0 < b) (c : (r + b) * (r + b) ≤ n) : RootRel n (r + b) (b / 2) := by
  obtain ⟨a, _, d⟩ := h
  refine ⟨by omega, c, ?_⟩
  rcases d with ⟨e, _⟩ | ⟨⟨k, hk, e⟩, d⟩
  · omega
  · cases k with
    | zero =>
      have : b = 1 := by simpa using e
      subst this
      exact .inl ⟨by decide, by rw [show r + 1 + 1 = r + 2 * 1 by omega]; exact d⟩
    | succ k =>
      obtain ⟨p, q, s⟩ := pow_half k
      refine .inr ⟨⟨k, by omega, by rw [e, p]⟩, ?_⟩
      rw [show r + b + 2 * (b / 2) = r + 2 * b by rw [e, p, q]; omega]; exact d
theorem rootRel_no {n r b : Int} (h : RootRel n r b) (hb : 0 < b) (c : n < (r + b) * (r + b)) : RootRel n r (b / 2) := by
  obtain ⟨a, f, d⟩ := h
  refine ⟨a, f, ?_⟩
  rcases d with ⟨e, _⟩ | ⟨⟨k, hk, e⟩, d⟩
  · omega
  · cases k with
    | zero =>
      have : b = 1 := by simpa using e
      subst this
      exact .inl ⟨by decide, c⟩
    | succ k =>
      obtain ⟨p, q, s⟩ := pow_half k
      refine .inr ⟨⟨k, by omega, by rw [e, p]⟩, ?_⟩
      rw [show r + 2 * (b / 2) = r + b by rw [e, p, q]]; exact c
theorem rootRel_end {n r b : Int} (h0 : 0 ≤ n) (h : RootRel n r b) (hb : b ≤ 0) : r = rt n := by
  obtain ⟨a, f, d⟩ := h
  rcases d with ⟨e, d⟩ | ⟨⟨k, hk, e⟩, d⟩
  · exact (rt_uniq a f d).symm
  · have : 0 < (2 : Int) ^ k := Int.pow_pos (by omega)
    omega
theorem sq_small {x : Int} (h0 : 0 ≤ x) (h : x ≤ 3037000499) : x * x ≤ 9223372036854775807 := by
  have := sq_mono h0 h
  omega
theorem sq_big {n x : Int} (h0 : 0 ≤ n) (hm : n ≤ 9223372036854775807) (h : 3037000500 ≤ x) : n < x * x := by
  have := sq_mono (show (0 : Int) ≤ 3037000500 by omega) h
  omega

end Go.Proofs.Ytjhdlcmecbngkaa.Pl
/- Plain functions of how far places are: no program in sight. -/
namespace Go.Proofs.Ytjhdlcmecbngkaa.Pl
set_option linter.unusedVariables false

def sq3 (x y z x' y' z' : Int) : Int := (x - x') * (x - x') + (y - y') * (y - y') + (z - z') * (z - z')
/-- how far without heights -/
def flat (x y z x' y' z' : Int) : Int := rt (sq3 x y z x' y' z')

theorem okPl_iff {x y z h s : Int} : okPl x y z h s = true ↔ (-10000000 ≤ x ∧ x ≤ 10000000) ∧ (-10000000 ≤ y ∧ y ≤ 10000000) ∧ (-10000000 ≤ z ∧ z ≤ 10000000) ∧ (0 ≤ h ∧ h ≤ 1000000) ∧ (0 ≤ s ∧ s ≤ 1000) := by
  unfold okPl
  simp only [Bool.and_eq_true, wi_iff, and_assoc]

theorem sq_abs {x b : Int} (h1 : -b ≤ x) (h2 : x ≤ b) : 0 ≤ x * x ∧ x * x ≤ b * b := by
  rcases Int.le_total 0 x with h | h
  · exact ⟨Int.mul_nonneg h h, sq_mono h h2⟩
  · have := sq_mono (a := -x) (b := b) (by omega) (by omega)
    rw [Int.neg_mul_neg] at this
    exact ⟨Int.mul_nonneg_of_nonpos_of_nonpos h h, this⟩
theorem sq_diff {x x' : Int} (h1 : -10000000 ≤ x) (h2 : x ≤ 10000000) (h3 : -10000000 ≤ x') (h4 : x' ≤ 10000000) : 0 ≤ (x - x') * (x - x') ∧ (x - x') * (x - x') ≤ 400000000000000 :=
  sq_abs (x := x - x') (b := 20000000) (by omega) (by omega)
theorem sq3_bd {x y z x' y' z' : Int} (a1 : 0 ≤ (x - x') * (x - x') ∧ (x - x') * (x - x') ≤ 400000000000000) (a2 : 0 ≤ (y - y') * (y - y') ∧ (y - y') * (y - y') ≤ 400000000000000)
    (a3 : 0 ≤ (z - z') * (z - z') ∧ (z - z') * (z - z') ≤ 400000000000000) : 0 ≤ sq3 x y z x' y' z' ∧ sq3 x y z x' y' z' ≤ 1200000000000000 := by unfold sq3; omega
theorem flat_bd {x y z x' y' z' : Int} (h : 0 ≤ sq3 x y z x' y' z' ∧ sq3 x y z x' y' z' ≤ 1200000000000000) : 0 ≤ flat x y z x' y' z' ∧ flat x y z x' y' z' ≤ 34641017 :=
  ⟨rt_nonneg _, rt_le h.1 (by omega) (by omega)⟩
theorem flat_ok {x y z h s x' y' z' h' s' : Int} (o : okPl x y z h s = true) (o' : okPl x' y' z' h' s' = true) : 0 ≤ flat x y z x' y' z' ∧ flat x y z x' y' z' ≤ 34641017 := by
  obtain ⟨⟨a1, a2⟩, ⟨a3, a4⟩, ⟨a5, a6⟩, _, _⟩ := okPl_iff.1 o
  obtain ⟨⟨b1, b2⟩, ⟨b3, b4⟩, ⟨b5, b6⟩, _, _⟩ := okPl_iff.1 o'
  exact flat_bd (sq3_bd (sq_diff a1 a2 b1 b2) (sq_diff a3 a4 b3 b4) (sq_diff a5 a6 b5 b6))
theorem flat_comm (x y z x' y' z' : Int) : flat x y z x' y' z' = flat x' y' z' x y z := by
  unfold flat sq3
  rw [show (x - x') * (x - x') = (x' - x) * (x' - x) by grind, show (y - y') * (y - y') = (y' - y) * (y' - y) by grind, show (z - z') * (z - z') = (z' - z) * (z' - z) by grind]
/-- how far, heights too -/
def far (x y z h x' y' z' h' : Int) : Int := flat x y z x' y' z' + h + h'
end Go.Proofs.Ytjhdlcmecbngkaa.Pl
/- Plain: places, moved. No program in sight (but for the order of texts). -/
namespace Go.Proofs.Ytjhdlcmecbngkaa.Pl
set_option linter.unusedVariables false
structure Pc where
  x : Int
  y : Int
  z : Int
  h : Int
  s : Int
def Pc.row (p : Pc) : List V := [.v (.int .i64 p.x), .v (.int .i64 p.y), .v (.int .i64 p.z), .v (.int .i64 p.h), .v (.int .i64 p.s)]
instance : FlatRow Pc.row := ⟨fun x u hu => by simp [Pc.row] at hu; rcases hu with rfl | rfl | rfl | rfl | rfl <;> exact ⟨_, rfl⟩⟩
def Pc.ok (p : Pc) : Prop := True
def Pc.okb (p : Pc) : Bool := okPl p.x p.y p.z p.h p.s
def Pc.err (p : Pc) : Int := ckPl p.x p.y p.z p.h p.s
theorem Pc.err_ok {p : Pc} (h : p.okb = true) : p.err = 0 := by unfold Pc.err ckPl; unfold Pc.okb at h; rw [if_pos h]
theorem Pc.err_bad {p : Pc} (h : p.okb = false) : p.err = 3 := by unfold Pc.err ckPl; unfold Pc.okb at h; rw [if_neg (by rw [h]; decide)]
theorem Pc.err_iff {p : Pc} : p.err = 0 ↔ p.okb = true := by
  cases h : p.okb with
  | true => simp [Pc.err_ok h]
  | false => simp [Pc.err_bad h]
def Pc.flat (a b : Pc) : Int := Pl.flat a.x a.y a.z b.x b.y b.z
def Pc.far (a b : Pc) : Int := Pl.far a.x a.y a.z a.h b.x b.y b.z b.h
def farM (a b : Pc) : Int × Int := if a.okb = true then (if b.okb = true then (0, a.far b) else (3, 0)) else (3, 0)
def bnd (n least most : Int) : Int := max least (min most n)
def weight (a b : Pc) : Int := if 0 < a.s + b.s then (a.s * 1000).tdiv (a.s + b.s) else 500
def pull (a b : Pc) (round : Int) : Int := ((round - a.far b) * weight a b).tdiv 4000
def wrongP (a b : Pc) (round : Int) : Int := min 1000 ((max (round - a.far b) (a.far b - round) * 1000).tdiv round)
def alongP (s d u v : Int) : Int := bnd (u + (s * (u - v)).tdiv d) (-10000000) 10000000
/-- what Move gives, of what is right -/
def moveR (a b : Pc) (round : Int) : Pc :=
  ⟨if 0 < a.flat b then alongP (pull a b round) (a.flat b) a.x b.x else bnd (a.x + pull a b round) (-10000000) 10000000,
   if 0 < a.flat b then alongP (pull a b round) (a.flat b) a.y b.y else a.y,
   if 0 < a.flat b then alongP (pull a b round) (a.flat b) a.z b.z else a.z,
   bnd (a.h + (pull a b round).tdiv 10) 0 1000000,
   bnd (a.s + ((wrongP a b round - a.s) * weight a b).tdiv 4000) 0 1000⟩
def moveM (a b : Pc) (round : Int) : Int × Pc :=
  if a.okb = true then (if b.okb = true then (if wi round 1 5000000 = true then (0, moveR a b round) else (3, ⟨0, 0, 0, 0, 0⟩)) else (3, ⟨0, 0, 0, 0, 0⟩)) else (3, ⟨0, 0, 0, 0, 0⟩)
theorem mul_bd {x y A B : Int} (hx : -A ≤ x ∧ x ≤ A) (hy : -B ≤ y ∧ y ≤ B) : -(A * B) ≤ x * y ∧ x * y ≤ A * B := by
  have e : (x * y).natAbs ≤ (A * B).natAbs := by
    rw [Int.natAbs_mul, Int.natAbs_mul]
    exact Nat.mul_le_mul (by omega) (by omega)
  have h : 0 ≤ A * B := Int.mul_nonneg (by omega) (by omega)
  omega
theorem tdiv_bd {x y A : Int} (hx : -A ≤ x ∧ x ≤ A) : -A ≤ x.tdiv y ∧ x.tdiv y ≤ A := by
  have e : (x.tdiv y).natAbs ≤ x.natAbs := by rw [Int.natAbs_tdiv]; exact Nat.div_le_self _ _
  omega
theorem tdiv_nn {x y : Int} (hx : 0 ≤ x) (hy : 0 ≤ y) : 0 ≤ x.tdiv y := Int.tdiv_nonneg hx hy
theorem far_bd {a b : Pc} (h : a.okb = true) (h' : b.okb = true) : (0 ≤ a.flat b ∧ a.flat b ≤ 34641017) ∧ (0 ≤ a.far b ∧ a.far b ≤ 36641017) := by
  have f := flat_ok h h'
  obtain ⟨_, _, _, ⟨a7, a8⟩, _⟩ := okPl_iff.1 h
  obtain ⟨_, _, _, ⟨b7, b8⟩, _⟩ := okPl_iff.1 h'
  refine ⟨f, ?_⟩
  unfold Pc.far Pl.far
  omega
theorem weight_bd {a b : Pc} (h : a.okb = true) (h' : b.okb = true) : 0 ≤ weight a b ∧ weight a b ≤ 1000 := by
  obtain ⟨_, _, _, _, ⟨a7, a8⟩⟩ := okPl_iff.1 h
  obtain ⟨_, _, _, _, ⟨b7, b8⟩⟩ := okPl_iff.1 h'
  unfold weight
  split
  · rename_i hp
    refine ⟨tdiv_nn (by omega) (by omega), ?_⟩
    rw [Int.tdiv_eq_ediv_of_nonneg (by omega)]
    exact Int.ediv_le_of_le_mul hp (by omega)
  · omega
theorem pull_bd {a b : Pc} {r : Int} (h : a.okb = true) (h' : b.okb = true) (hr : wi r 1 5000000 = true) : (-36641017000 ≤ (r - a.far b) * weight a b ∧ (r - a.far b) * weight a b ≤ 36641017000) ∧ (-36641017000 ≤ pull a b r ∧ pull a b r ≤ 36641017000) := by
  have f := (far_bd h h').2
  have w := weight_bd h h'
  have hr' := wi_iff.1 hr
  have m := mul_bd (x := r - a.far b) (y := weight a b) (A := 36641017) (B := 1000) (by omega) (by omega)
  have e : (36641017 : Int) * 1000 = 36641017000 := by decide
  rw [e] at m
  exact ⟨m, tdiv_bd m⟩
theorem wrong_bd {a b : Pc} {r : Int} (h : a.okb = true) (h' : b.okb = true) (hr : wi r 1 5000000 = true) : 0 ≤ wrongP a b r ∧ wrongP a b r ≤ 1000 := by
  have f := (far_bd h h').2
  have hr' := wi_iff.1 hr
  unfold wrongP
  have := tdiv_nn (x := max (r - a.far b) (a.far b - r) * 1000) (y := r) (by omega) (by omega)
  omega
theorem sure_bd {a b : Pc} {r : Int} (h : a.okb = true) (h' : b.okb = true) (hr : wi r 1 5000000 = true) : (-1000000 ≤ (wrongP a b r - a.s) * weight a b ∧ (wrongP a b r - a.s) * weight a b ≤ 1000000) ∧ (-1000000 ≤ ((wrongP a b r - a.s) * weight a b).tdiv 4000 ∧ ((wrongP a b r - a.s) * weight a b).tdiv 4000 ≤ 1000000) := by
  have f := wrong_bd h h' hr
  have w := weight_bd h h'
  obtain ⟨_, _, _, _, ⟨a7, a8⟩⟩ := okPl_iff.1 h
  have m := mul_bd (x := wrongP a b r - a.s) (y := weight a b) (A := 1000) (B := 1000) (by omega) (by omega)
  have e : (1000 : Int) * 1000 = 1000000 := by decide
  rw [e] at m
  exact ⟨m, tdiv_bd m⟩
theorem step_bd {s d u v : Int} (hs : -36641017000 ≤ s ∧ s ≤ 36641017000) (hu : -10000000 ≤ u ∧ u ≤ 10000000) (hv : -10000000 ≤ v ∧ v ≤ 10000000) : (-732820340000000000 ≤ s * (u - v) ∧ s * (u - v) ≤ 732820340000000000) ∧ (-732820340000000000 ≤ (s * (u - v)).tdiv d ∧ (s * (u - v)).tdiv d ≤ 732820340000000000) := by
  have m := mul_bd (x := s) (y := u - v) (A := 36641017000) (B := 20000000) hs (by omega)
  have e : (36641017000 : Int) * 20000000 = 732820340000000000 := by decide
  rw [e] at m
  exact ⟨m, tdiv_bd m⟩
theorem bnd_if {n l m : Int} (h : l ≤ m) : bnd n l m = if n < l then l else if m < n then m else n := by
  unfold bnd; split
  · omega
  · split <;> omega
theorem bnd_in {n l m : Int} (h : l ≤ m) : l ≤ bnd n l m ∧ bnd n l m ≤ m := by unfold bnd; omega
theorem bnd_id {n l m : Int} (h1 : l ≤ n) (h2 : n ≤ m) : bnd n l m = n := by unfold bnd; omega
theorem flat_comm' (a b : Pc) : a.flat b = b.flat a := flat_comm _ _ _ _ _ _
theorem far_comm (a b : Pc) : a.far b = b.far a := by
  have := flat_comm' a b
  unfold Pc.flat at this
  unfold Pc.far Pl.far
  omega
theorem move_okb {a b : Pc} {r : Int} (h : a.okb = true) : (moveR a b r).okb = true := by
  obtain ⟨a1, a2, a3, a4, a5⟩ := okPl_iff.1 h
  refine okPl_iff.2 ⟨?_, ?_, ?_, bnd_in (by omega), bnd_in (by omega)⟩
  · show _ ≤ (if _ then _ else _) ∧ (if _ then _ else _) ≤ _
    split
    · exact bnd_in (by omega)
    · exact bnd_in (by omega)
  · show _ ≤ (if _ then _ else _) ∧ (if _ then _ else _) ≤ _
    split
    · exact bnd_in (by omega)
    · exact a2
  · show _ ≤ (if _ then _ else _) ∧ (if _ then _ else _) ≤ _
    split
    · exact bnd_in (by omega)
    · exact a3
/-- a round that took just as long as told -/
theorem move_same {a b : Pc} (h : a.okb = true) (h' : b.okb = true) (hr : wi (a.far b) 1 5000000 = true) : (moveR a b (a.far b)).x = a.x ∧ (moveR a b (a.far b)).y = a.y ∧ (moveR a b (a.far b)).z = a.z ∧ (moveR a b (a.far b)).h = a.h ∧ (moveR a b (a.far b)).s ≤ a.s := by
  obtain ⟨a1, a2, a3, a4, a5⟩ := okPl_iff.1 h
  have p0 : pull a b (a.far b) = 0 := by unfold pull; rw [Int.sub_self, Int.zero_mul]; decide
  have hr' := wi_iff.1 hr
  have w0 : wrongP a b (a.far b) = 0 := by
    unfold wrongP
    rw [Int.sub_self]
    simp
    decide
  have w := weight_bd h h'
  have al : ∀ u v : Int, -10000000 ≤ u ∧ u ≤ 10000000 → alongP 0 (a.flat b) u v = u := fun u v hu => by
    unfold alongP
    rw [Int.zero_mul, Int.zero_tdiv, Int.add_zero]
    exact bnd_id hu.1 hu.2
  refine ⟨?_, ?_, ?_, ?_, ?_⟩
  · show (if _ then _ else _) = _
    rw [p0]
    split
    · exact al _ _ a1
    · rw [Int.add_zero]; exact bnd_id a1.1 a1.2
  · show (if _ then _ else _) = _
    rw [p0]
    split
    · exact al _ _ a2
    · rfl
  · show (if _ then _ else _) = _
    rw [p0]
    split
    · exact al _ _ a3
    · rfl
  · show bnd _ _ _ = _
    rw [p0, Int.zero_tdiv, Int.add_zero]
    exact bnd_id a4.1 a4.2
  · show bnd _ _ _ ≤ _
    rw [w0]
    have m : (0 - a.s) * weight a b ≤ 0 := Int.mul_nonpos_of_nonpos_of_nonneg (by omega) w.1
    have t : ((0 - a.s) * weight a b).tdiv 4000 ≤ 0 := by
      have e : (0 - a.s) * weight a b = -(a.s * weight a b) := by rw [Int.zero_sub, Int.neg_mul]
      rw [e, Int.neg_tdiv]
      have := tdiv_nn (x := a.s * weight a b) (y := 4000) (Int.mul_nonneg a5.1 w.1) (by omega)
      omega
    unfold bnd
    omega
theorem pl_dec (row : List V) (h : Fits [.i, .i, .i, .i, .i] row) : ∃ m : Pc, row = m.row ∧ m.ok := by
  obtain ⟨u0, _, rfl, f0, h⟩ := fits_cons h
  obtain ⟨u1, _, rfl, f1, h⟩ := fits_cons h
  obtain ⟨u2, _, rfl, f2, h⟩ := fits_cons h
  obtain ⟨u3, _, rfl, f3, h⟩ := fits_cons h
  obtain ⟨u4, _, rfl, f4, h⟩ := fits_cons h
  obtain rfl := fits_nil h
  obtain ⟨a, rfl, _⟩ := fit_i f0
  obtain ⟨b, rfl, _⟩ := fit_i f1
  obtain ⟨c, rfl, _⟩ := fit_i f2
  obtain ⟨d, rfl, _⟩ := fit_i f3
  obtain ⟨e, rfl, _⟩ := fit_i f4
  exact ⟨⟨a, b, c, d, e⟩, rfl, trivial⟩
end Go.Proofs.Ytjhdlcmecbngkaa.Pl
/- Plain: maps with texts for keys, as lists. -/
namespace Go.Proofs.Ytjhdlcmecbngkaa.Pl
set_option linter.unusedVariables false
/-- the entries, as the walk has them -/
def ents (l : List (ByteArray × V)) : List (Value × V) := l.map fun p => (.string p.1, p.2)
def look (k : ByteArray) : List (ByteArray × V) → Nat → Option (Nat × V)
  | [], _ => none
  | (a, v) :: es, i => if k = a then some (i, v) else look k es (i + 1)
theorem findE_str (k : ByteArray) : ∀ (l : List (ByteArray × V)) (i : Nat), findE .string (.string k) (ents l) i = some (look k l i)
  | [], i => rfl
  | (a, v) :: es, i => by
    have ih := findE_str k es (i + 1)
    unfold ents at ih
    by_cases h : k = a
    · subst h
      have hb : (k == k) = true := (Go.MapKept.bytes_beq k k).2 rfl
      simp [ents, findE, look, Instr.sameNow, hb]
    · have hb : (k == a) = false := by
        cases q : (k == a) with
        | true => exact absurd ((Go.MapKept.bytes_beq k a).1 q) h
        | false => rfl
      simp only [ents, List.map_cons, findE, look, Instr.sameNow, hb, if_neg h]
      exact ih
def put (l : List (ByteArray × V)) (k : ByteArray) (v : V) : List (ByteArray × V) := match look k l 0 with
  | some (i, _) => l.set i (k, v)
  | none => l ++ [(k, v)]
theorem putE_str (l : List (ByteArray × V)) (k : ByteArray) (v : V) : putE (ents l) (.string k) v (look k l 0) = ents (put l k v) := by
  unfold put putE
  cases h : look k l 0 with
  | none => simp [ents]
  | some p => obtain ⟨i, u⟩ := p; simp [ents, List.map_set]
theorem ents_len (l : List (ByteArray × V)) : (ents l).length = l.length := by simp [ents]
theorem look_some {k : ByteArray} : ∀ {l : List (ByteArray × V)} {i j : Nat} {v : V}, look k l i = some (j, v) → i ≤ j ∧ l[j - i]? = some (k, v)
  | [], i, j, v, h => by simp [look] at h
  | (a, u) :: es, i, j, v, h => by
    unfold look at h
    split at h
    · rename_i e
      simp only [Option.some.injEq, Prod.mk.injEq] at h
      obtain ⟨rfl, rfl⟩ := h
      subst e
      exact ⟨Nat.le_refl _, by simp⟩
    · obtain ⟨h1, h2⟩ := look_some h
      exact ⟨by omega, by rw [show j - i = (j - (i + 1)) + 1 by omega]; simpa using h2⟩
theorem look_none {k : ByteArray} : ∀ {l : List (ByteArray × V)} {i : Nat}, look k l i = none ↔ k ∉ l.map (·.1)
  | [], i => by simp [look]
  | (a, u) :: es, i => by
    unfold look
    split
    · rename_i e; subst e; simp
    · rename_i e
      rw [look_none (l := es) (i := i + 1)]
      simp [e]
open Classical in
/-- keys stay apart -/
theorem put_keys {l : List (ByteArray × V)} {k : ByteArray} {v : V} : (put l k v).map (·.1) = if k ∈ l.map (·.1) then l.map (·.1) else l.map (·.1) ++ [k] := by
  unfold put
  cases h : look k l 0 with
  | none => rw [if_neg (look_none.1 h)]; simp
  | some p =>
    obtain ⟨i, u⟩ := p
    have hk : k ∈ l.map (·.1) := Classical.byContradiction fun q => by rw [look_none.2 q] at h; cases h
    rw [if_pos hk]
    obtain ⟨_, h2⟩ := look_some h
    simp only [Nat.sub_zero] at h2
    show (l.set i (k, v)).map (·.1) = l.map (·.1)
    rw [List.map_set]
    apply List.ext_getElem? ; intro j
    rw [List.getElem?_set]
    split
    · rename_i e; subst e
      split
      · simp [h2]
      · rename_i q; simp at q; simp [q]
    · rfl
/-- so many keys as texts: none stands twice -/
structure Names (l : List (ByteArray × V)) (ns : List ByteArray) : Prop where
  mem : ∀ n, n ∈ l.map (·.1) ↔ n ∈ ns
  le : l.length ≤ ns.length
  all : l.length = ns.length ↔ ns.Nodup
  cl : ∀ p ∈ l, Cl p.2
theorem Names.nil : Names [] [] := ⟨by simp, by simp, by simp, by simp⟩
theorem Names.put {l : List (ByteArray × V)} {ns : List ByteArray} (h : Names l ns) (k : ByteArray) (v : V) (hv : Cl v) : Names (put l k v) (ns ++ [k]) := by
  have hk := put_keys (l := l) (k := k) (v := v)
  have hlen : (Pl.put l k v).length = ((Pl.put l k v).map (·.1)).length := by simp
  have hm := h.mem k
  refine ⟨fun n => ?_, ?_, ?_, fun p hp => ?_⟩
  · rw [hk]
    split
    · rename_i q
      rw [h.mem n]; simp
      intro e; subst e; exact hm.1 q
    · simp only [List.mem_append, h.mem n]
  · rw [hlen, hk]
    have := h.le
    split <;> simp <;> omega
  · rw [hlen, hk]
    split
    · rename_i q
      have := h.le
      constructor
      · intro e; simp at e; omega
      · intro e
        have := (List.nodup_append.1 e).2.2 k (hm.1 q) k (by simp)
        exact absurd rfl this
    · rename_i q
      have hq : k ∉ ns := fun e => q (hm.2 e)
      simp only [List.length_append, List.length_map, List.length_cons, List.length_nil]
      rw [List.nodup_append]
      constructor
      · intro e
        refine ⟨h.all.1 (by omega), by simp, ?_⟩
        intro a ha b hb e'
        simp at hb; subst hb; subst e'; exact hq ha
      · intro e
        have := h.all.2 e.1
        omega
  · unfold Pl.put at hp
    split at hp
    · rcases List.mem_or_eq_of_mem_set hp with q | rfl
      · exact h.cl p q
      · exact hv
    · rcases List.mem_append.1 hp with q | q
      · exact h.cl p q
      · simp at q; subst q; exact hv
end Go.Proofs.Ytjhdlcmecbngkaa.Pl
/- Plain: where nodes are, and how far each name is. No program in sight. -/
namespace Go.Proofs.Ytjhdlcmecbngkaa.Pl
set_option linter.unusedVariables false
structure Wh where
  nd : ByteArray
  pl : Pc
def Wh.row (x : Wh) : List V := [.v (.string x.nd), .v (.int .i64 x.pl.x), .v (.int .i64 x.pl.y), .v (.int .i64 x.pl.z), .v (.int .i64 x.pl.h), .v (.int .i64 x.pl.s)]
instance : FlatRow Wh.row := ⟨fun x u hu => by simp [Wh.row] at hu; rcases hu with rfl | rfl | rfl | rfl | rfl | rfl <;> exact ⟨_, rfl⟩⟩
def Wh.ok (x : Wh) : Prop := x.nd.size ≤ 9223372036854775807
theorem wh_dec (row : List V) (h : Fits [.s, .i, .i, .i, .i, .i] row) : ∃ m : Wh, row = m.row ∧ m.ok := by
  obtain ⟨u0, _, rfl, f0, h⟩ := fits_cons h
  obtain ⟨u1, _, rfl, f1, h⟩ := fits_cons h
  obtain ⟨u2, _, rfl, f2, h⟩ := fits_cons h
  obtain ⟨u3, _, rfl, f3, h⟩ := fits_cons h
  obtain ⟨u4, _, rfl, f4, h⟩ := fits_cons h
  obtain ⟨u5, _, rfl, f5, h⟩ := fits_cons h
  obtain rfl := fits_nil h
  obtain ⟨n, rfl, hn⟩ := fit_s f0
  obtain ⟨a, rfl, _⟩ := fit_i f1
  obtain ⟨b, rfl, _⟩ := fit_i f2
  obtain ⟨c, rfl, _⟩ := fit_i f3
  obtain ⟨d, rfl, _⟩ := fit_i f4
  obtain ⟨e, rfl, _⟩ := fit_i f5
  exact ⟨⟨n, a, b, c, d, e⟩, rfl, hn⟩
def Wh.perr (w : Wh) : Int := w.pl.err
/-- how far a name is, if anybody tells -/
def farK (f : Pc) : List Wh → ByteArray → Option Int
  | [], _ => none
  | w :: l, a => if a = w.nd then some (f.far w.pl) else farK f l a
theorem farK_snoc (f : Pc) (w : Wh) (a : ByteArray) : ∀ l : List Wh, farK f (l ++ [w]) a = (farK f l a).or (if a = w.nd then some (f.far w.pl) else none)
  | [] => by simp [farK]
  | v :: l => by
    show (if a = v.nd then some (f.far v.pl) else farK f (l ++ [w]) a) = (if a = v.nd then some (f.far v.pl) else farK f l a).or _
    split
    · rfl
    · exact farK_snoc f w a l
theorem farK_pos {f : Pc} (hf : f.okb = true) {a : ByteArray} {x : Int} : ∀ {l : List Wh}, (∀ w ∈ l, w.pl.okb = true) → farK f l a = some x → 0 ≤ x
  | [], _, h => by cases h
  | w :: l, hl, h => by
    unfold farK at h
    split at h
    · injection h with h; subst h
      exact (far_bd hf (hl w (List.mem_cons_self ..))).2.1
    · exact farK_pos hf (fun v hv => hl v (List.mem_cons_of_mem _ hv)) h
def iV (n : Int) : V := .v (.int .i64 n)
theorem look_app (k : ByteArray) (v : V) (a : ByteArray) : ∀ (E : List (ByteArray × V)) (i : Nat), look a (E ++ [(k, v)]) i = (look a E i).or (if a = k then some (i + E.length, v) else none)
  | [], i => by simp [look]
  | (b, u) :: E, i => by
    show (if a = b then some (i, u) else look a (E ++ [(k, v)]) (i + 1)) = (if a = b then some (i, u) else look a E (i + 1)).or _
    split
    · rfl
    · rw [look_app k v a E (i + 1)]
      congr 2
      simp [Nat.add_assoc, Nat.add_comm 1]
/-- the map says what the list says -/
def Tells (f : Pc) (l : List Wh) (E : List (ByteArray × V)) : Prop := ∀ a, (look a E 0).map (·.2) = (farK f l a).map iV
theorem Tells.nil (f : Pc) : Tells f [] [] := fun a => rfl
theorem Tells.old {f : Pc} {l : List Wh} {E : List (ByteArray × V)} (h : Tells f l E) {w : Wh} (hw : look w.nd E 0 ≠ none) : Tells f (l ++ [w]) E := fun a => by
  rw [h a, farK_snoc]
  by_cases e : a = w.nd
  · subst e
    have := h w.nd
    cases q : look w.nd E 0 with
    | none => exact absurd q hw
    | some r =>
      rw [q] at this
      cases q2 : farK f l w.nd with
      | none => rw [q2] at this; cases this
      | some x => rfl
  · rw [if_neg e]; cases farK f l a <;> rfl
theorem Tells.new {f : Pc} {l : List Wh} {E : List (ByteArray × V)} (h : Tells f l E) {w : Wh} (hw : look w.nd E 0 = none) : Tells f (l ++ [w]) (put E w.nd (iV (f.far w.pl))) := fun a => by
  have e : put E w.nd (iV (f.far w.pl)) = E ++ [(w.nd, iV (f.far w.pl))] := by unfold put; rw [hw]
  have hn : farK f l w.nd = none := by
    have := h w.nd
    rw [hw] at this
    cases q2 : farK f l w.nd with
    | none => rfl
    | some x => rw [q2] at this; cases this
  rw [e, look_app, farK_snoc]
  by_cases q : a = w.nd
  · subst q
    rw [hw, hn]; simp
  · rw [if_neg q, if_neg q]
    have := h a
    cases q1 : look a E 0 <;> cases q2 : farK f l a <;> rw [q1, q2] at this <;> first | rfl | cases this | exact this
theorem Tells.at_none {f : Pc} {l : List Wh} {E : List (ByteArray × V)} (h : Tells f l E) {a : ByteArray} (hf : farK f l a = none) : look a E 0 = none := by
  have := h a
  rw [hf] at this
  cases q : look a E 0 with
  | none => rfl
  | some r => rw [q] at this; cases this
theorem Tells.at_some {f : Pc} {l : List Wh} {E : List (ByteArray × V)} (h : Tells f l E) {a : ByteArray} {x : Int} (hf : farK f l a = some x) : ∃ i, look a E 0 = some (i, iV x) := by
  have := h a
  rw [hf] at this
  cases q : look a E 0 with
  | none => rw [q] at this; cases this
  | some r =>
    rw [q] at this
    obtain ⟨i, u⟩ := r
    exact ⟨i, by have e : u = iV x := by simpa using this
                 rw [e]⟩
theorem Tells.val {f : Pc} {l : List Wh} {E : List (ByteArray × V)} (h : Tells f l E) {a : ByteArray} {i : Nat} {v : V} (q : look a E 0 = some (i, v)) : ∃ x, v = iV x := by
  have := h a
  rw [q] at this
  cases q2 : farK f l a with
  | none => rw [q2] at this; cases this
  | some x => rw [q2] at this; exact ⟨x, by simpa using this⟩
theorem Tells.cl {f : Pc} {l : List Wh} {E : List (ByteArray × V)} (hE : ∀ p ∈ E, Cl p.2) : ∀ p ∈ ents E, Cl p.2 := fun p hp => by
  unfold ents at hp
  obtain ⟨q, hq, rfl⟩ := List.mem_map.1 hp
  exact hE q hq
def tRow (s : ByteArray) : List V := [.v (.string s)]
instance : FlatRow tRow := ⟨fun x u hu => by simp [tRow] at hu; exact ⟨_, hu⟩⟩
instance : OneRow tRow 1 := ⟨fun _ => rfl, fun x u hu => by simp [tRow] at hu; exact ⟨_, hu, rfl⟩⟩
theorem tx_dec (row : List V) (h : Fits [.s] row) : ∃ m : ByteArray, row = tRow m ∧ m.size ≤ 9223372036854775807 := by
  obtain ⟨u0, _, rfl, f0, h⟩ := fits_cons h
  obtain rfl := fits_nil h
  obtain ⟨n, rfl, hn⟩ := fit_s f0
  exact ⟨n, rfl, hn⟩
/-- names, sorted -/
noncomputable def sortN (f : Pc) (l : List Wh) (names : List ByteArray) : List ByteArray := names.foldl (insA (cfN (farK f l))) []
noncomputable def sortErr (f : Pc) (l : List Wh) (names : List ByteArray) : Int := if 100 < l.length ∨ 100 < names.length then 2 else if f.err ≠ 0 then f.err else firstErr Wh.perr l
theorem sortN_snoc {f : Pc} {l : List Wh} {names : List ByteArray} {k : Nat} (hk : k < names.length) : sortN f l (names.take (k + 1)) = insA (cfN (farK f l)) (sortN f l (names.take k)) names[k] := by
  unfold sortN
  rw [List.take_add_one, List.getElem?_eq_getElem hk, List.foldl_append]; rfl
theorem insA_len {c : ByteArray → ByteArray → Int} (l : List ByteArray) (x : ByteArray) : (insA c l x).length = l.length + 1 := by
  have := (insA_perm (c := c) l x).length_eq
  simpa using this
theorem foldl_len {c : ByteArray → ByteArray → Int} : ∀ (d l : List ByteArray), (d.foldl (insA c) l).length = l.length + d.length
  | [], l => by simp
  | x :: d, l => by rw [List.foldl_cons, foldl_len, insA_len, List.length_cons]; omega
theorem sortN_len {f : Pc} {l : List Wh} {names : List ByteArray} : (sortN f l names).length = names.length := by
  unfold sortN; rw [foldl_len]; simp
/-- where the first stands that is not ahead -/
theorem insA_at {c : ByteArray → ByteArray → Int} {l : List ByteArray} {x : ByteArray} {n : Nat} (hn : n ≤ l.length) (h1 : ∀ j, (h : j < l.length) → j < n → leB c l[j] x = true) (h2 : n = l.length ∨ ∃ h : n < l.length, leB c l[n] x = false) :
    insA c l x = l.take n ++ (x :: l.drop n) := by
  unfold insA
  have ht : l.takeWhile (fun y => leB c y x) = l.take n ∧ l.dropWhile (fun y => leB c y x) = l.drop n := by
    clear hn
    induction l generalizing n with
    | nil => simp
    | cons y l ih =>
      cases n with
      | zero =>
        rcases h2 with h2 | ⟨hl, h2⟩
        · simp at h2
        · simp only [List.getElem_cons_zero] at h2
          simp [h2]
      | succ n =>
        have h0 := h1 0 (by simp) (by omega)
        simp only [List.getElem_cons_zero] at h0
        have := ih (n := n) (fun j h hj => by have := h1 (j + 1) (by simpa using h) (by omega); simpa using this) (by
          rcases h2 with h2 | ⟨hl, h2⟩
          · left; simpa using h2
          · right; exact ⟨by simpa using hl, by simpa using h2⟩)
        rw [List.takeWhile_cons, List.dropWhile_cons, if_pos h0, if_pos h0]
        exact ⟨by rw [this.1]; rfl, by rw [this.2]; rfl⟩
  rw [ht.1, ht.2]
/-- how far: -1 if nobody tells -/
def farN (K : ByteArray → Option Int) (a : ByteArray) : Int := (K a).getD (-1)
theorem ahead_iff {K : ByteArray → Option Int} (h0 : ∀ a x, K a = some x → 0 ≤ x) (y x : ByteArray) :
    leB (cfN K) y x = true ↔ (farN K x < 0 ∧ 0 ≤ farN K y) ∨ ((farN K x < 0 ↔ farN K y < 0) ∧ (farN K y < farN K x ∨ (farN K y = farN K x ∧ slt x y = false))) := by
  have hs : scmp x y < 0 ↔ slt x y = true := scmp_neg
  have key : leB (cfN K) y x = true ↔ ¬ cfN K x y < 0 := by unfold leB ltOf; simp
  rw [key]
  unfold cfN farN rkN frN
  have hx := h0 x
  have hy := h0 y
  rw [← Bool.not_eq_true, ← hs]
  cases q1 : K x <;> cases q2 : K y <;> simp only [Option.isSome_none, Option.isSome_some, Option.getD_none, Option.getD_some, Bool.false_eq_true, if_false, if_true, nz_cons, firstNZ]
  · simp [icmp, nz_cons, firstNZ]; omega
  · rename_i b; have := hy b q2; simp [icmp, nz_cons, firstNZ]; omega
  · rename_i b; have := hx b q1; simp [icmp, nz_cons, firstNZ]; omega
  · rename_i b d; have := hx b q1; have := hy d q2
    simp only [icmp, nz_cons, firstNZ]
    by_cases c1 : b < d
    · simp [c1]; omega
    · by_cases c2 : d < b
      · simp [c1, c2]; omega
      · have : b = d := by omega
        subst this
        simp; omega
end Go.Proofs.Ytjhdlcmecbngkaa.Pl
/- nothing of its own -/
/- Contracts of the functions of places. -/
namespace Go.Proofs.Ytjhdlcmecbngkaa
open Go.RowKit Pl
set_option linter.unusedVariables false
theorem pwithin_fun (n a b : Int) : Fun Try.prog 54 [.c (.v (.int .i64 n)), .c (.v (.int .i64 a)), .c (.v (.int .i64 b))] [.c (.v (.bool (wi n a b)))] := by
  refine fun_x ck_place_within rfl ?_
  (refine goI ?_; repeat (intro gg; refine goI ?_))
  (refine bIf_of (fun h => ?_) (fun h => ?_) <;> rw [h])
  · (refine goI ?_; repeat (intro gg; refine goI ?_))
    rw [wi_t h]
    (exact ⟨[], aI⟩)
  · (refine goI ?_; repeat (intro gg; refine goI ?_))
    rw [wi_f h]
    (exact ⟨[], aI⟩)
theorem pck1_fun (n : Int) : Fun Try.prog 53 [.c (.v (.int .i64 n))] [.c (.v (.bool (wi n (-10000000) 10000000)))] := by
  refine fun_x ck_place_Check_1 rfl ?_
  (refine goI ?_; repeat (intro gg; refine goI ?_))
  (refine .inl ⟨_, _, false, [], aI, pwithin_fun _ _ _, nobor, nI, ?_⟩)
  (refine goI ?_; repeat (intro gg; refine goI ?_))
  (exact ⟨[], aI⟩)
theorem okPl_t {x y z h s : Int} (h1 : wi x (-10000000) 10000000 = true) (h2 : wi y (-10000000) 10000000 = true) (h3 : wi z (-10000000) 10000000 = true) (h4 : wi h 0 1000000 = true) (h5 : wi s 0 1000 = true) : ckPl x y z h s = 0 := by simp [ckPl, okPl, h1, h2, h3, h4, h5]
theorem okPl_f {x y z h s : Int} (h1 : wi x (-10000000) 10000000 = false ∨ wi y (-10000000) 10000000 = false ∨ wi z (-10000000) 10000000 = false ∨ wi h 0 1000000 = false ∨ wi s 0 1000 = false) : ckPl x y z h s = 3 := by
  rcases h1 with h | h | h | h | h <;> simp [ckPl, okPl, h]
theorem pCheck_fun (p : Pc) : Fun Try.prog 26 [.c (.agg p.row)] [.c (.v (.int .i64 p.err))] := by
  refine fun_x ck_place_Check rfl ?_
  (refine goI ?_; repeat (intro gg; refine goI ?_))
  (refine .inl ⟨_, _, false, [], aI, pck1_fun _, nobor, nI, ?_⟩)
  (refine goI ?_; repeat (intro gg; refine goI ?_))
  (refine bIf_of (fun h1 => ?_) (fun h1 => ?_) <;> rw [h1])
  · (refine goI ?_; repeat (intro gg; refine goI ?_))
    rw [show p.err = 3 from okPl_f (.inl (not_t h1))]
    (exact ⟨[], aI⟩)
  · (refine goI ?_; repeat (intro gg; refine goI ?_))
    (refine .inl ⟨_, _, false, [], aI, pck1_fun _, nobor, nI, ?_⟩)
    (refine goI ?_; repeat (intro gg; refine goI ?_))
    (refine bIf_of (fun h2 => ?_) (fun h2 => ?_) <;> rw [h2])
    · (refine goI ?_; repeat (intro gg; refine goI ?_))
      rw [show p.err = 3 from okPl_f (.inr (.inl (not_t h2)))]
      (exact ⟨[], aI⟩)
    · (refine goI ?_; repeat (intro gg; refine goI ?_))
      (refine .inl ⟨_, _, false, [], aI, pck1_fun _, nobor, nI, ?_⟩)
      (refine goI ?_; repeat (intro gg; refine goI ?_))
      (refine bIf_of (fun h3 => ?_) (fun h3 => ?_) <;> rw [h3])
      · (refine goI ?_; repeat (intro gg; refine goI ?_))
        rw [show p.err = 3 from okPl_f (.inr (.inr (.inl (not_t h3))))]
        (exact ⟨[], aI⟩)
      · (refine goI ?_; repeat (intro gg; refine goI ?_))
        (refine .inl ⟨_, _, false, [], aI, pwithin_fun _ _ _, nobor, nI, ?_⟩)
        (refine goI ?_; repeat (intro gg; refine goI ?_))
        (refine bIf_of (fun h4 => ?_) (fun h4 => ?_) <;> rw [h4])
        · (refine goI ?_; repeat (intro gg; refine goI ?_))
          rw [show p.err = 3 from okPl_f (.inr (.inr (.inr (.inl (not_t h4)))))]
          (exact ⟨[], aI⟩)
        · (refine goI ?_; repeat (intro gg; refine goI ?_))
          (refine .inl ⟨_, _, false, [], aI, pwithin_fun _ _ _, nobor, nI, ?_⟩)
          (refine goI ?_; repeat (intro gg; refine goI ?_))
          (refine bIf_of (fun h5 => ?_) (fun h5 => ?_) <;> rw [h5])
          · (refine goI ?_; repeat (intro gg; refine goI ?_))
            rw [show p.err = 3 from okPl_f (.inr (.inr (.inr (.inr (not_t h5)))))]
            (exact ⟨[], aI⟩)
          · (refine goI ?_; repeat (intro gg; refine goI ?_))
            rw [show p.err = 0 from okPl_t (not_f h1) (not_f h2) (not_f h3) (not_f h4) (not_f h5)]
            (exact ⟨[], aI⟩)
theorem rcheckp_fun (p : Pc) : Fun Try.prog 9 [.c (.agg p.row)] [.c (.v (.int .i64 p.err))] := by
  refine fun_x ck_hearsayref_CheckPlace rfl ?_
  (refine goI ?_; repeat (intro gg; refine goI ?_))
  (refine .inl ⟨_, _, false, [], aI, between_fun _ _ _, nobor, nI, ?_⟩)
  (refine goI ?_; repeat (intro gg; refine goI ?_))
  (refine bIf_of (fun h1 => ?_) (fun h1 => ?_) <;> rw [h1])
  · (refine goI ?_; repeat (intro gg; refine goI ?_))
    rw [show p.err = 3 from okPl_f (.inl (not_t h1))]
    (exact ⟨[], aI⟩)
  · (refine goI ?_; repeat (intro gg; refine goI ?_))
    (refine .inl ⟨_, _, false, [], aI, between_fun _ _ _, nobor, nI, ?_⟩)
    (refine goI ?_; repeat (intro gg; refine goI ?_))
    (refine bIf_of (fun h2 => ?_) (fun h2 => ?_) <;> rw [h2])
    · (refine goI ?_; repeat (intro gg; refine goI ?_))
      rw [show p.err = 3 from okPl_f (.inr (.inl (not_t h2)))]
      (exact ⟨[], aI⟩)
    · (refine goI ?_; repeat (intro gg; refine goI ?_))
      (refine .inl ⟨_, _, false, [], aI, between_fun _ _ _, nobor, nI, ?_⟩)
      (refine goI ?_; repeat (intro gg; refine goI ?_))
      (refine bIf_of (fun h3 => ?_) (fun h3 => ?_) <;> rw [h3])
      · (refine goI ?_; repeat (intro gg; refine goI ?_))
        rw [show p.err = 3 from okPl_f (.inr (.inr (.inl (not_t h3))))]
        (exact ⟨[], aI⟩)
      · (refine goI ?_; repeat (intro gg; refine goI ?_))
        (refine .inl ⟨_, _, false, [], aI, between_fun _ _ _, nobor, nI, ?_⟩)
        (refine goI ?_; repeat (intro gg; refine goI ?_))
        (refine bIf_of (fun h4 => ?_) (fun h4 => ?_) <;> rw [h4])
        · (refine goI ?_; repeat (intro gg; refine goI ?_))
          rw [show p.err = 3 from okPl_f (.inr (.inr (.inr (.inl (not_t h4)))))]
          (exact ⟨[], aI⟩)
        · (refine goI ?_; repeat (intro gg; refine goI ?_))
          (refine .inl ⟨_, _, false, [], aI, between_fun _ _ _, nobor, nI, ?_⟩)
          (refine goI ?_; repeat (intro gg; refine goI ?_))
          (refine bIf_of (fun h5 => ?_) (fun h5 => ?_) <;> rw [h5])
          · (refine goI ?_; repeat (intro gg; refine goI ?_))
            rw [show p.err = 3 from okPl_f (.inr (.inr (.inr (.inr (not_t h5)))))]
            (exact ⟨[], aI⟩)
          · (refine goI ?_; repeat (intro gg; refine goI ?_))
            rw [show p.err = 0 from okPl_t (not_f h1) (not_f h2) (not_f h3) (not_f h4) (not_f h5)]
            (exact ⟨[], aI⟩)
theorem pcheck_fun (l : List Pc) (hl : l.length ≤ 9223372036854775807) : Fun Try.prog 62 [.c (.sl false (l.map Pc.row))] [.c (.v (.int .i64 (firstErr Pc.err l)))] := by
  refine fun_x ck_place_check rfl ?_
  (refine goI ?_; repeat (intro gg; refine goI ?_))
  rw [List.length_map]
  (refine ⟨[], none, {k : Nat // k ≤ l.length ∧ ∀ j, (h : j < l.length) → j < k → (l[j]).err = 0}, [6, 7], fun ⟨k, hk, h0⟩ => [(8, .v (.int .i64 k))], [], fun ⟨k, hk, h0⟩ => [], fun ⟨k, hk, h0⟩ => l.length - k, trivial, fun _ => ⟨trivial, fun _ => ⟨⟨0, by omega, fun j _ h => by omega⟩, tI, keptE_refl _ _, tI, keptH_refl _ _⟩⟩, fun ⟨k, hk, h0⟩ => ?_⟩)
  (refine goI ?_; repeat (intro gg; refine goI ?_))
  (refine bIf_of (fun h => ?_) (fun h => ?_) <;> rw [h])
  · have hlt : k < l.length := by simpa using h
    (refine goI ?_; repeat (intro gg; refine goI ?_))
    refine ⟨k, _, rfl, row_map hlt, ?_⟩
    (refine goI ?_; repeat (intro gg; refine goI ?_))
    (refine .inl ⟨_, _, false, [], aI, pCheck_fun _, nobor, nI, ?_⟩)
    (refine goI ?_; repeat (intro gg; refine goI ?_))
    (refine bIf_of (fun h => ?_) (fun h => ?_) <;> rw [h])
    · (refine goI ?_; repeat (intro gg; refine goI ?_))
      rw [firstErr_at hlt h0 (by simpa using h)]
      (exact ⟨[], aI⟩)
    · (refine goI ?_; repeat (intro gg; refine goI ?_))
      (exact ⟨none, trivial, fun _ => ⟨⟨k + 1, by omega, up1 (p := fun j h => (l[j]).err = 0) h0 (fun _ => by simpa using h)⟩, by show l.length - (k + 1) < l.length - k; omega, tI, tI, tI, tI⟩⟩)
  · have hge : ¬ k < l.length := by simpa using h
    (refine goI ?_; repeat (intro gg; refine goI ?_))
    rw [firstErr_zero (l := l) (fun i hi => h0 i hi (by omega))]
    (exact ⟨[], aI⟩)
theorem two_err (a b : Pc) : firstErr Pc.err [a, b] = if a.okb = true then (if b.okb = true then 0 else 3) else 3 := by
  cases h : a.okb with
  | true =>
    cases h' : b.okb with
    | true => simp [firstErr, Pc.err_ok h, Pc.err_ok h']
    | false => simp [firstErr, Pc.err_ok h, Pc.err_bad h']
  | false => simp [firstErr, Pc.err_bad h]
theorem tdiv_pos {n x : Int} (h : 0 ≤ n) : n.tdiv x = n / x := Int.tdiv_eq_ediv_of_nonneg h
theorem root_fun (n : Int) (h0 : 0 ≤ n) (hm : n ≤ 9223372036854775807) : Fun Try.prog 61 [.c (.v (.int .i64 n))] [.c (.v (.int .i64 (rt n)))] := by
  refine fun_x ck_place_root rfl ?_
  (refine goI ?_; repeat (intro gg; refine goI ?_))
  (refine bIf_of (fun h => ?_) (fun h => ?_) <;> rw [h])
  · have h2 : n < 2 := by simpa using h
    have hr : rt n = n := rt_uniq h0 (by rcases (by omega : n = 0 ∨ n = 1) with rfl | rfl <;> decide) (by rcases (by omega : n = 0 ∨ n = 1) with rfl | rfl <;> decide)
    (refine goI ?_; repeat (intro gg; refine goI ?_))
    rw [hr]
    (exact ⟨[], aI⟩)
  · have h2 : ¬ n < 2 := by simpa using h
    (refine goI ?_; repeat (intro gg; refine goI ?_))
    (refine ⟨[], none, {k : Int // 1 ≤ k ∧ k ≤ 6074000998}, [0], fun ⟨k, hk1, hk2⟩ => [(3, .v (.int .i64 k))], [], fun ⟨k, hk1, hk2⟩ => [], fun ⟨k, hk1, hk2⟩ => (12148001996 - k).toNat, trivial, fun _ => ⟨trivial, fun _ => ⟨⟨1, by omega, by omega⟩, tI, keptE_refl _ _, tI, keptH_refl _ _⟩⟩, fun ⟨k, hk1, hk2⟩ => ?_⟩)
    have hd := div_bounds h0 hk1
    have hq : n / k ≤ n := Int.ediv_le_self _ h0
    (refine goI ?_; repeat (intro gg; refine goI ?_))
    refine ⟨by omega, n / k, by rw [tdiv_pos h0]; exact wrap_ok (by omega) (by omega), ?_⟩
    (refine goI ?_; repeat (intro gg; refine goI ?_))
    (refine bIf_of (fun h3 => ?_) (fun h3 => ?_) <;> rw [h3])
    · have hc : k ≤ n / k := (by have := of_decide_eq_true h3; omega)
      have hb := up_le h0 hm hk1 hc
      (refine goI ?_; repeat (intro gg; refine goI ?_))
      (exact ⟨none, trivial, fun _ => ⟨⟨k * 2, by omega, by omega⟩, by show (12148001996 - k * 2).toNat < (12148001996 - k).toNat; omega, tI, tI, tI, tI⟩⟩)
    · have hc : ¬ k ≤ n / k := (by have := of_decide_eq_false h3; omega)
      have hb := up_end h0 hk1 (by omega)
      (refine goI ?_; repeat (intro gg; refine goI ?_))
      (refine ⟨[], none, {k : Int // 1 ≤ k ∧ k ≤ 6074000998 ∧ rt n ≤ k}, [0], fun ⟨x, hx1, hx2, hx3⟩ => [(3, .v (.int .i64 x))], [], fun ⟨x, hx1, hx2, hx3⟩ => [], fun ⟨x, hx1, hx2, hx3⟩ => x.toNat, trivial, fun _ => ⟨trivial, fun _ => ⟨⟨k, by omega, by omega, hb⟩, tI, keptE_refl _ _, tI, keptH_refl _ _⟩⟩, fun ⟨x, hx1, hx2, hx3⟩ => ?_⟩)
      have q1 := div_bounds h0 hx1
      have q2 := down_q (by omega) hx1 hx3
      have q3 := rt_max n h0 hm
      have q4 := down_ge h0 hx1
      have q5 : 1 ≤ rt n := le_rt (by omega) (by omega)
      have q6 := q1.1
      clear q1
      (refine goI ?_; repeat (intro gg; refine goI ?_))
      refine ⟨by omega, n / x, by rw [tdiv_pos h0]; exact wrap_ok (by omega) (by omega), ?_⟩
      (refine goI ?_; repeat (intro gg; refine goI ?_))
      refine ⟨by omega, (x + n / x) / 2, by rw [tdiv_pos (by omega)]; exact wrap_ok (by omega) (by omega), ?_⟩
      (refine goI ?_; repeat (intro gg; refine goI ?_))
      (refine bIf_of (fun h4 => ?_) (fun h4 => ?_) <;> rw [h4])
      · have hc : x ≤ (x + n / x) / 2 := (by have := of_decide_eq_true h4; omega)
        (refine goI ?_; repeat (intro gg; refine goI ?_))
        rw [show V.v (Value.int .i64 (rt n)) = V.v (Value.int .i64 x) by rw [← down_end h0 hx1 hx3 hc]]
        (exact ⟨[], aI⟩)
      · have hc : ¬ x ≤ (x + n / x) / 2 := (by have := of_decide_eq_false h4; omega)
        (refine goI ?_; repeat (intro gg; refine goI ?_))
        (exact ⟨none, trivial, fun _ => ⟨⟨(x + n / x) / 2, by omega, by omega, by omega⟩, by show ((x + n / x) / 2).toNat < x.toNat; omega, tI, tI, tI, tI⟩⟩)
theorem rroot_fun (n : Int) (h0 : 0 ≤ n) (hm : n ≤ 9223372036854775807) : Fun Try.prog 92 [.c (.v (.int .i64 n))] [.c (.v (.int .i64 (rt n)))] := by
  refine fun_x ck_hearsayref_RootOf rfl ?_
  (refine goI ?_; repeat (intro gg; refine goI ?_))
  (refine ⟨[], none, {p : Int × Int // RootRel n p.1 p.2}, [0], fun ⟨⟨r, b⟩, hr⟩ => [(3, .v (.int .i64 r)), (4, .v (.int .i64 b))], [], fun ⟨⟨r, b⟩, hr⟩ => [], fun ⟨⟨r, b⟩, hr⟩ => b.toNat, trivial, fun _ => ⟨trivial, fun _ => ⟨⟨(0, 2147483648), rootRel_start h0 hm⟩, tI, keptE_refl _ _, tI, keptH_refl _ _⟩⟩, fun ⟨⟨r, b⟩, hr⟩ => ?_⟩)
  dsimp only at hr
  obtain ⟨g1, g2, g3, g4, g5⟩ := rootRel_bounds h0 hm hr
  (refine goI ?_; repeat (intro gg; refine goI ?_))
  (refine bIf_of (fun h1 => ?_) (fun h1 => ?_) <;> rw [h1])
  · have hb : 0 < b := (by have := of_decide_eq_true h1; omega)
    have g6 := g5 hb
    (refine goI ?_; repeat (intro gg; refine goI ?_))
    (refine bIf_of (fun h2 => ?_) (fun h2 => ?_) <;> rw [h2])
    · have c1 : r + b ≤ 3037000499 := (by have := of_decide_eq_true h2; omega)
      have g7 := sq_small (show 0 ≤ r + b by omega) c1
      have g8 : 0 ≤ (r + b) * (r + b) := Int.mul_nonneg (by omega) (by omega)
      (refine goI ?_; repeat (intro gg; refine goI ?_))
      (refine bIf_of (fun h3 => ?_) (fun h3 => ?_) <;> rw [h3])
      · have c2 : (r + b) * (r + b) ≤ n := of_decide_eq_true h3
        (refine goI ?_; repeat (intro gg; refine goI ?_))
        refine ⟨by omega, b / 2, by rw [tdiv_pos (by omega)]; exact wrap_ok (by omega) (by omega), ?_⟩
        (refine goI ?_; repeat (intro gg; refine goI ?_))
        (exact ⟨none, trivial, fun _ => ⟨⟨(r + b, b / 2), rootRel_yes hr hb c2⟩, by show (b / 2).toNat < b.toNat; omega, tI, tI, tI, tI⟩⟩)
      · have c2 : ¬ (r + b) * (r + b) ≤ n := of_decide_eq_false h3
        (refine goI ?_; repeat (intro gg; refine goI ?_))
        refine ⟨by omega, b / 2, by rw [tdiv_pos (by omega)]; exact wrap_ok (by omega) (by omega), ?_⟩
        (refine goI ?_; repeat (intro gg; refine goI ?_))
        (exact ⟨none, trivial, fun _ => ⟨⟨(r, b / 2), show RootRel n r (b / 2) from rootRel_no hr hb (by omega)⟩, by show (b / 2).toNat < b.toNat; omega, tI, tI, tI, tI⟩⟩)
    · have c1 : ¬ r + b ≤ 3037000499 := (by have := of_decide_eq_false h2; omega)
      (refine goI ?_; repeat (intro gg; refine goI ?_))
      refine ⟨by omega, b / 2, by rw [tdiv_pos (by omega)]; exact wrap_ok (by omega) (by omega), ?_⟩
      (refine goI ?_; repeat (intro gg; refine goI ?_))
      (exact ⟨none, trivial, fun _ => ⟨⟨(r, b / 2), rootRel_no hr hb (sq_big h0 hm (by omega))⟩, by show (b / 2).toNat < b.toNat; omega, tI, tI, tI, tI⟩⟩)
  · have hb : ¬ 0 < b := (by have := of_decide_eq_false h1; omega)
    (refine goI ?_; repeat (intro gg; refine goI ?_))
    rw [show V.v (Value.int .i64 (rt n)) = V.v (Value.int .i64 r) by rw [← rootRel_end h0 hr (by omega)]]
    (exact ⟨[], aI⟩)
theorem Root_fun (n : Int) (h0 : 0 ≤ n) (hm : n ≤ 9223372036854775807) : Fun Try.prog 36 [.c (.v (.int .i64 n))] [.c (.v (.int .i64 (rt n))), .c (.v (.int .i64 0))] := by
  refine fun_x ck_place_Root rfl ?_
  (refine goI ?_; repeat (intro gg; refine goI ?_))
  (refine bIf_of (fun h => ?_) (fun h => ?_) <;> rw [h])
  · exact absurd (by have := of_decide_eq_true h; omega) (by omega)
  · (refine goI ?_; repeat (intro gg; refine goI ?_))
    (refine .inl ⟨_, _, false, [], aI, root_fun n h0 hm, nobor, nI, ?_⟩)
    (refine goI ?_; repeat (intro gg; refine goI ?_))
    (exact ⟨[], aI⟩)
end Go.Proofs.Ytjhdlcmecbngkaa
/- Contracts of the functions of places: far, move. -/
namespace Go.Proofs.Ytjhdlcmecbngkaa
open Go.RowKit Pl
set_option linter.unusedVariables false
theorem okb_iff {p : Pc} : p.okb = true ↔ (-10000000 ≤ p.x ∧ p.x ≤ 10000000) ∧ (-10000000 ≤ p.y ∧ p.y ≤ 10000000) ∧ (-10000000 ≤ p.z ∧ p.z ≤ 10000000) ∧ (0 ≤ p.h ∧ p.h ≤ 1000000) ∧ (0 ≤ p.s ∧ p.s ≤ 1000) := okPl_iff
theorem apart_fun (a b : Pc) (ha : a.okb = true) (hb : b.okb = true) : Fun Try.prog 55 [.c (.agg a.row), .c (.agg b.row)] [.c (.v (.int .i64 (a.flat b)))] := by
  obtain ⟨⟨a1, a2⟩, ⟨a3, a4⟩, ⟨a5, a6⟩, _, _⟩ := okb_iff.1 ha
  obtain ⟨⟨b1, b2⟩, ⟨b3, b4⟩, ⟨b5, b6⟩, _, _⟩ := okb_iff.1 hb
  have q1 := sq_diff a1 a2 b1 b2
  have q2 := sq_diff a3 a4 b3 b4
  have q3 := sq_diff a5 a6 b5 b6
  refine fun_x ck_place_apart rfl ?_
  (refine goI ?_; repeat (intro gg; refine goI ?_))
  (refine .inl ⟨_, _, false, [], aI, root_fun ((a.x - b.x) * (a.x - b.x) + (a.y - b.y) * (a.y - b.y) + (a.z - b.z) * (a.z - b.z)) (by omega) (by omega), nobor, nI, ?_⟩)
  (refine goI ?_; repeat (intro gg; refine goI ?_))
  (exact ⟨[], aI⟩)
theorem flatfar_fun (a b : Pc) (ha : a.okb = true) (hb : b.okb = true) : Fun Try.prog 76 [.c (.agg a.row), .c (.agg b.row)] [.c (.v (.int .i64 (a.flat b)))] := by
  obtain ⟨⟨a1, a2⟩, ⟨a3, a4⟩, ⟨a5, a6⟩, _, _⟩ := okb_iff.1 ha
  obtain ⟨⟨b1, b2⟩, ⟨b3, b4⟩, ⟨b5, b6⟩, _, _⟩ := okb_iff.1 hb
  have q1 := sq_diff a1 a2 b1 b2
  have q2 := sq_diff a3 a4 b3 b4
  have q3 := sq_diff a5 a6 b5 b6
  refine fun_x ck_hearsayref_FlatFar rfl ?_
  (refine goI ?_; repeat (intro gg; refine goI ?_))
  (refine .inl ⟨_, _, false, [], aI, rroot_fun ((a.x - b.x) * (a.x - b.x) + (a.y - b.y) * (a.y - b.y) + (a.z - b.z) * (a.z - b.z)) (by omega) (by omega), nobor, nI, ?_⟩)
  (refine goI ?_; repeat (intro gg; refine goI ?_))
  (exact ⟨[], aI⟩)
theorem rawfar_fun (a b : Pc) (ha : a.okb = true) (hb : b.okb = true) : Fun Try.prog 27 [.c (.agg a.row), .c (.agg b.row)] [.c (.v (.int .i64 (a.far b)))] := by
  obtain ⟨_, _, _, ⟨a7, a8⟩, _⟩ := okb_iff.1 ha
  obtain ⟨_, _, _, ⟨b7, b8⟩, _⟩ := okb_iff.1 hb
  obtain ⟨f1, f2⟩ := (far_bd ha hb).1
  refine fun_x ck_place_RawFar rfl ?_
  (refine goI ?_; repeat (intro gg; refine goI ?_))
  (refine ⟨_, _, false, aI, apart_fun a b ha hb, nobor, nI, ?_⟩)
  (refine goI ?_; repeat (intro gg; refine goI ?_))
  (exact ⟨[], aI⟩)
theorem farof_fun (a b : Pc) (ha : a.okb = true) (hb : b.okb = true) : Fun Try.prog 60 [.c (.agg a.row), .c (.agg b.row)] [.c (.v (.int .i64 (a.far b)))] := by
  obtain ⟨_, _, _, ⟨a7, a8⟩, _⟩ := okb_iff.1 ha
  obtain ⟨_, _, _, ⟨b7, b8⟩, _⟩ := okb_iff.1 hb
  obtain ⟨f1, f2⟩ := (far_bd ha hb).1
  refine fun_x ck_hearsayref_FarOf rfl ?_
  (refine goI ?_; repeat (intro gg; refine goI ?_))
  (refine ⟨_, _, false, aI, flatfar_fun a b ha hb, nobor, nI, ?_⟩)
  (refine goI ?_; repeat (intro gg; refine goI ?_))
  (exact ⟨[], aI⟩)
theorem Far_fun (a b : Pc) : Fun Try.prog 37 [.c (.agg a.row), .c (.agg b.row)] [.c (.v (.int .i64 (farM a b).2)), .c (.v (.int .i64 (farM a b).1))] := by
  have hE := two_err a b
  refine fun_x ck_place_Far rfl ?_
  (refine goI ?_; repeat (intro gg; refine goI ?_))
  (refine .inl ⟨_, _, true, [], aI, pcheck_fun [a, b] (by simp), (fun _ => fI), nI, ?_⟩)
  rw [hE]
  unfold farM
  cases ha : a.okb with
  | false =>
    (refine goI ?_; repeat (intro gg; refine goI ?_))
    (exact ⟨[], aI⟩)
  | true =>
    cases hb : b.okb with
    | false =>
      (refine goI ?_; repeat (intro gg; refine goI ?_))
      (exact ⟨[], aI⟩)
    | true =>
      (refine goI ?_; repeat (intro gg; refine goI ?_))
      (refine .inl ⟨_, _, false, [], aI, rawfar_fun a b ha hb, nobor, nI, ?_⟩)
      (refine goI ?_; repeat (intro gg; refine goI ?_))
      (exact ⟨[], aI⟩)
theorem pbegun_fun : Fun Try.prog 11 [] [.c (.v (.bool true))] := by
  have h1 : rt 17 = 4 := rt_uniq (by decide) (by decide) (by decide)
  have h2 : farM ⟨3, 0, 0, 1, 0⟩ ⟨0, 4, 0, 2, 0⟩ = (0, 8) := by
    unfold farM Pc.far far flat
    rw [if_pos (by decide), if_pos (by decide)]
    rw [show sq3 3 0 0 0 4 0 = 25 from by decide, show rt 25 = 5 from rt_uniq (by decide) (by decide) (by decide)]
    rfl
  have f1 := Root_fun 17 (by decide) (by decide)
  rw [h1] at f1
  have f2 := Far_fun ⟨3, 0, 0, 1, 0⟩ ⟨0, 4, 0, 2, 0⟩
  rw [h2] at f2
  refine fun_x ck_hearsaylaw_placeBegun rfl ?_
  (refine goI ?_; repeat (intro gg; refine goI ?_))
  (refine .inl ⟨_, _, false, [], aI, f1, nobor, nI, ?_⟩)
  (refine goI ?_; repeat (intro gg; refine goI ?_))
  (refine .inl ⟨_, _, false, [], aI, f2, nobor, nI, ?_⟩)
  (refine goI ?_; repeat (intro gg; refine goI ?_))
  (exact ⟨[], aI⟩)
end Go.Proofs.Ytjhdlcmecbngkaa
