/- Stores, appends, calls that are given something. No program in sight. -/
import Derived.Test.YtckkeeicngblgaaAbs8
import Derived.Maps.AppendAt
import Derived.ArgAppend
namespace Go.Proofs.Ytckkeeicngblgaa
open Go.RowKit
set_option linter.unusedVariables false
/-- the elements that an append reads -/
def srcRows (H : Nat → Option Ent) (sz : Nat) : V → List (List V) → Prop
  | .own id g, rows => ∃ e, H id = some e ∧ e.gen = g ∧ e.sz = sz ∧ e.rows = rows
  | .sl _ rows', rows => rows' = rows ∧ ∀ row ∈ rows, row.length = sz ∧ ones H row
  | .v (.slice none 0 0), rows => rows = []
  | _, _ => False
def stepE (P : Program) (r : ROp) (env : Nat → V) (H : Nat → Option Ent) (b : Nat) (K : V → List (Nat × Option Ent) → Prop) : Prop :=
  match r with
  | .store sz x y => match val env x with
    | .ptr id gen i off => ∃ e row us, H id = some e ∧ e.gen = gen ∧ e.rows[i]? = some row ∧ cellsV (val env y) = some us ∧ us.length = sz ∧ off + sz ≤ row.length ∧ ones H us ∧
        K (.v undef) [(id, some { e with rows := e.rows.set i (putV row off us) })]
    | _ => False
  | .app T sz bytes z x y => ∃ rows, srcRows H sz (val env y) rows ∧ match val env x with
    | .own id gen => ∃ e, H id = some e ∧ e.gen = gen ∧ e.T = T ∧ e.sz = sz ∧ e.rows.length + rows.length ≤ maxLen ∧ (e.rows.length + rows.length) * bytes ≤ 140737488355328 ∧ ∀ g, K (.own id g) [(id, some ⟨g, T, sz, e.rows ++ rows⟩)]
    | .v (.slice none 0 0) => rows.length ≤ maxLen ∧ rows.length * bytes ≤ 140737488355328 ∧ ∀ g, K (.own b g) [(b, some ⟨g, T, sz, rows⟩)]
    | .sl true rows0 => rows ≠ [] ∧ (∀ row ∈ rows0, row.length = sz ∧ ones H row) ∧ rows0.length + rows.length ≤ maxLen ∧ (rows0.length + rows.length) * bytes ≤ 140737488355328 ∧ ∀ g, K (.own b g) [(b, some ⟨g, T, sz, rows0 ++ rows⟩)]
    | _ => False
  | .call x args => match val env x with
    | .v (.func (.func f) ⟨[]⟩ ⟨[]⟩) => ∃ ps rs bor gone, ArgsOk H gone bor gone (args.map (val env)) ps ∧ Fun P f ps rs ∧ (bor = true → flatRes rs) ∧ rs.length ≤ 16 ∧ ∀ g : Nat → Nat, K (packU (resV g b rs)) (gone.map (fun i => (i, none)) ++ resH g b rs)
    | .clo f caps => ∃ ps rs bor gone, ArgsOk H gone bor gone (args.map (val env) ++ caps) ps ∧ Fun P f ps rs ∧ (bor = true → flatRes rs) ∧ rs.length ≤ 16 ∧ ∀ g : Nat → Nat, K (packU (resV g b rs)) (gone.map (fun i => (i, none)) ++ resH g b rs)
    | _ => False
  | _ => False
section
variable {P : Program} {c : Ctx} {st : St} {a : Act} {w w' : World} {R : Nat → Prop} {G : Nat → Option Loc} {o : Oper} {r : ROp} {Q : Exit → Act → World → Prop} {d : Nat} {u : V} {dH : List (Nat × Option Ent)}
theorem run_u {s : Sem Unit} (h : s.run P w = .ok () w') : ((do s; pure Next.skip) : Sem Next).run P w = .ok .skip w' := by
  simp [h]
theorem wp_skip_op {next : Act → World → Prop} (h : (execOp a.eval o).run P w = .ok .skip w') (hn : next (a.put o.dst undef) w') : o.wp P a w next Q := by
  unfold Oper.wp; rw [h]; exact hn
theorem e_store {t : TypeId} {x y : Operand} {i : TypeInfo} {id gen k off : Nat} {e : Ent} {row us : List V} {next : Act → World → Prop} (ho : o.op = .store t x y) (hi : P.info? t = some i) (h : RelAt c st a w R G) (hv : val st.env x = .ptr id gen k off)
    (he : st.H id = some e) (hg : e.gen = gen) (hrow : e.rows[k]? = some row) (hc : cellsV (val st.env y) = some us) (hl : us.length = i.size) (hb : off + i.size ≤ row.length) (h1 : ones st.H us)
    (hn : ∀ x w' R' G', RelAt c { st with H := upd st.H id (some { e with rows := e.rows.set k (putV row off us) }) } a w' R' G' → RV w' R' G' (.v undef) x → next (a.put o.dst x) w') : o.wp P a w next Q := by
  obtain ⟨l, xs, b, g1, g2, g3, g4, g5, g6, hbk, hax⟩ := h.objP (hv ▸ h.val x) he hg
  have g2' : l.gen = e.gen := g2.trans hg.symm
  have hcv := cells_of h hc (h.val y) h1
  have hk : k < e.rows.length := (List.getElem?_eq_some_iff.1 hrow).1
  have hrl : row.length = e.sz := g6.1 row (List.mem_of_getElem? hrow)
  have hkk : k * e.sz + e.sz ≤ e.rows.length * e.sz := by
    have : (k + 1) * e.sz ≤ e.rows.length * e.sz := Nat.mul_le_mul_right _ hk
    rw [Nat.add_mul] at this; omega
  have hvl : (a.eval y).cells.toList.length = i.size := by have := hcv.1; omega
  have hone : ∀ v ∈ (a.eval y).cells.toList, v.oneCell' = true := fun v hv => by
    obtain ⟨j, hj, rfl⟩ := List.mem_iff_getElem.1 hv
    have hju : j < us.length := by rw [hcv.1]; exact hj
    obtain ⟨z, q1, q2, _⟩ := hcv.2 j us[j] (List.getElem?_eq_getElem hju)
    rw [List.getElem?_eq_getElem hj] at q1; injection q1 with q1; rw [q1]; exact q2
  obtain ⟨hxl, hx2⟩ := g5
  rcases hx2 with ⟨q, _⟩ | ⟨g, cap, cur, q, q0, hh, hnc, hcm, hcs, htk⟩
  · rw [q] at hbk; cases hbk
  · have hgb : g = b := by rw [q] at hbk; simpa [Value.ownBlock] using hbk
    subst hgb
    have hcap : e.rows.length * e.sz ≤ cur.size := by rw [hcs]; exact Nat.mul_le_mul_right _ hnc
    have hrun := run_storeCells_at P g (k * l.sz + off) e.T (a.eval y).cells.toList 0 cur w hh (by rw [g3, hvl]; omega) hone
    simp only [Nat.add_zero, g3] at hrun
    have hst : (execOp a.eval o).run P w = .ok .skip (w.setRow g (cur.toList.take (k * e.sz + off) ++ (a.eval y).cells.toList ++ cur.toList.drop (k * e.sz + off + (a.eval y).cells.toList.length)).toArray) := by
      unfold execOp; rw [ho]
      refine run_u ?_
      rw [hax, g3]
      have hsz : (a.eval y).cells.size = i.size := by simpa using hvl
      simp only [Instr.storeAt, Instr.sureAddr, pure_bind, storeVar, sizeOf, typeInfo, Sem.run_bind, run_program, Result.andThen_ok, hi, Sem.run_pure]
      rw [if_neg (by rw [hsz]; simp)]
      exact hrun
    refine wp_skip_op hst (hn undef _ R (upd G id (some l)) ?_ (.v _))
    have hgb : w.grownBy (w.setRow g (cur.toList.take (k * e.sz + off) ++ (a.eval y).cells.toList ++ cur.toList.drop (k * e.sz + off + (a.eval y).cells.toList.length)).toArray) (some g) :=
      ⟨rfl, rfl, rfl, by simp, fun k' _ hk' => setRow_other w g k' _ (fun e => hk' (by rw [e]))⟩
    have hGle : Gle G (upd G id (some l)) := fun id' m hm => by
      by_cases hk : id' = id
      · subst hk; rw [g1] at hm; injection hm with hm; subst hm; exact ⟨l, upd_same _ _ _, .inl rfl⟩
      · exact ⟨m, by rw [upd_ne _ _ hk]; exact hm, .inl rfl⟩
    have hst2 : ∀ b, R b → R b ∧ (w.setRow g (cur.toList.take (k * e.sz + off) ++ (a.eval y).cells.toList ++ cur.toList.drop (k * e.sz + off + (a.eval y).cells.toList.length)).toArray).heap[b]? = w.heap[b]? := fun b hb =>
      ⟨hb, hgb.block b (h.lt b hb) (fun e' => by
        injection e' with e'; subst e'
        exact (h.hr.mine id e l b he g1 g2' hbk).1 hb)⟩
    have hst3 := hst2
    rw [hvl] at hst3
    refine h.set (e := { e with rows := e.rows.set k (putV row off us) }) hgb (fun b' hb' => ?_) (fun l0 hl0 => .inl ?_) (g2.trans hg.symm) g3 g4 (xs := xs.take (k * e.sz + off) ++ (a.eval y).cells.toList ++ xs.drop (k * e.sz + off + (a.eval y).cells.toList.length)) ?_ ?_ ?_
    · injection hb' with hb'; subst hb'; exact ⟨l, e, he, g1, g2', hbk⟩
    · rw [g1] at hl0; injection hl0 with hl0; exact hl0.symm
    · refine ⟨by rw [splice_len _ _ _ (by rw [hvl, hxl]; omega), hxl, List.length_set], .inr ⟨g, cap, _, by rw [q, List.length_set], q0, setRow_heap w g cur _ e.T _ hh, by rw [List.length_set]; exact hnc, hcm, ?_, ?_⟩⟩
      · rw [List.size_toArray, splice_len _ _ _ (by rw [hvl]; simp; omega)]
        simpa using hcs
      · rw [List.length_set, ← htk]
        apply List.ext_getElem?
        intro j
        by_cases hj : j < e.rows.length * e.sz
        · rw [List.getElem?_take_of_lt hj, splice_get _ _ _ _ (by rw [hvl]; simp; omega), splice_get _ _ _ _ (by rw [hvl]; simp; omega), List.getElem?_take_of_lt hj]
        · rw [List.getElem?_eq_none (by simp; omega), List.getElem?_eq_none]
          rw [splice_len _ _ _ (by rw [hvl]; simp; omega)]; simp; omega
    · refine ⟨fun r hr => ?_, fun i' j r v hi' hj => ?_⟩
      · rcases List.mem_or_eq_of_mem_set hr with q | q
        · exact g6.1 r q
        · rw [q]; unfold putV; rw [splice_len _ _ _ (by omega)]; exact hrl
      · have hrlen : r.length = e.sz := by
          rcases List.mem_or_eq_of_mem_set (List.mem_of_getElem? hi') with q | q
          · exact g6.1 r q
          · rw [q]; unfold putV; rw [splice_len _ _ _ (by omega)]; exact hrl
        have hjs : j < e.sz := by have := (List.getElem?_eq_some_iff.1 hj).1; omega
        show ∃ x, (xs.take (k * e.sz + off) ++ (a.eval y).cells.toList ++ xs.drop (k * e.sz + off + (a.eval y).cells.toList.length))[i' * e.sz + j]? = some x ∧ x.oneCell' = true ∧ _
        rw [splice_get _ _ _ _ (by rw [hvl, hxl]; omega), hvl]
        by_cases hik : i' = k
        · subst hik
          rw [List.getElem?_set_self hk] at hi'
          injection hi' with hi'; subst hi'
          unfold putV at hj
          rw [splice_get _ _ _ _ (by omega), hl] at hj
          by_cases hin : off ≤ j ∧ j < off + i.size
          · rw [if_pos hin] at hj
            rw [if_pos ⟨by omega, by omega⟩, show i' * e.sz + j - (i' * e.sz + off) = j - off by omega]
            obtain ⟨z, p1, p2, p3⟩ := hcv.2 _ v hj
            exact ⟨z, p1, p2, p3.mono hst3 hGle⟩
          · rw [if_neg hin] at hj
            rw [if_neg (by omega)]
            obtain ⟨z, p1, p2, p3⟩ := g6.2 i' j row v hrow hj
            exact ⟨z, p1, p2, p3.mono hst3 hGle⟩
        · rw [List.getElem?_set_ne (fun e => hik e.symm)] at hi'
          rw [if_neg ?_]
          · obtain ⟨z, p1, p2, p3⟩ := g6.2 i' j r v hi' hj
            exact ⟨z, p1, p2, p3.mono hst3 hGle⟩
          · rintro ⟨m1, m2⟩
            rcases Nat.lt_or_ge i' k with m | m
            · have : (i' + 1) * e.sz ≤ k * e.sz := Nat.mul_le_mul_right _ m
              rw [Nat.add_mul] at this; omega
            · have : (k + 1) * e.sz ≤ i' * e.sz := Nat.mul_le_mul_right _ (by omega)
              rw [Nat.add_mul] at this; omega
    · intro b' hb'
      exact .inl (by rw [hbk] at hb'; injection hb' with hb'; rw [hb'])
theorem src_cells (h : RelAt c st a w R G) {sz : Nat} {rows : List (List V)} {v : V} {x : Value} (hv : RV w R G v x) (hs : srcRows st.H sz v rows) :
    (rows = [] ∧ ∃ b c', x = .slice b 0 c' ∧ 0 ≤ c') ∨ ∃ b off c' xs, x = .slice (some ⟨b, off, none⟩) rows.length c' ∧ rows ≠ [] ∧ xs.length = rows.length * sz ∧ (∀ j y, xs[j]? = some y → w.cell? ⟨b, off + j, none⟩ = some y) ∧ (∀ y ∈ xs, y.oneCell' = true) ∧ RowsR w R G xs sz rows := by
  have hflat : ∀ (rows : List (List V)) (f : Nat → Nat → Value) (b off : Nat), (∀ row ∈ rows, row.length = sz) → rows ≠ [] →
      (∀ (i j : Nat) (row : List V) (u : V), rows[i]? = some row → row[j]? = some u → w.cell? ⟨b, off + (i * sz + j), none⟩ = some (f i j) ∧ (f i j).oneCell' = true ∧ RV w R G u (f i j)) →
      ∃ xs : List Value, xs.length = rows.length * sz ∧ (∀ j y, xs[j]? = some y → w.cell? ⟨b, off + j, none⟩ = some y) ∧ (∀ y ∈ xs, y.oneCell' = true) ∧ RowsR w R G xs sz rows := fun rows f b off hlen hne hc => by
    rcases Nat.eq_zero_or_pos sz with h0 | h0
    · subst h0
      refine ⟨[], by simp, by simp, by simp, hlen, fun i j row u h1 h2 => ?_⟩
      have := hlen row (List.mem_of_getElem? h1)
      have := (List.getElem?_eq_some_iff.1 h2).1
      omega
    · have hd : ∀ k, k < rows.length * sz → k / sz < rows.length ∧ k % sz < sz ∧ k / sz * sz + k % sz = k := fun k hk =>
        ⟨Nat.div_lt_of_lt_mul (by rw [Nat.mul_comm]; exact hk), Nat.mod_lt _ h0, by rw [Nat.mul_comm]; exact Nat.div_add_mod k sz⟩
      have hget : ∀ k (hk : k < rows.length * sz), ∃ row u, rows[k / sz]? = some row ∧ row[k % sz]? = some u := fun k hk => by
        obtain ⟨q1, q2, q3⟩ := hd k hk
        refine ⟨rows[k / sz], (rows[k / sz])[k % sz]'(by rw [hlen _ (List.getElem_mem q1)]; exact q2), List.getElem?_eq_getElem q1, List.getElem?_eq_getElem _⟩
      have hxs : ∀ j y, ((List.range (rows.length * sz)).map fun k => f (k / sz) (k % sz))[j]? = some y → j < rows.length * sz ∧ y = f (j / sz) (j % sz) := fun j y hj => by
        have hjl : j < rows.length * sz := by have := (List.getElem?_eq_some_iff.1 hj).1; simpa using this
        simp [hjl] at hj
        exact ⟨hjl, hj.symm⟩
      refine ⟨(List.range (rows.length * sz)).map fun k => f (k / sz) (k % sz), by simp, fun j y hj => ?_, fun y hy => ?_, hlen, fun i j row u h1 h2 => ?_⟩
      · obtain ⟨hjl, rfl⟩ := hxs j y hj
        obtain ⟨row, u, q1, q2⟩ := hget j hjl
        have := (hc _ _ row u q1 q2).1
        rwa [(hd j hjl).2.2] at this
      · obtain ⟨j, hj, rfl⟩ := List.mem_iff_getElem.1 hy
        obtain ⟨hjl, e⟩ := hxs j _ (List.getElem?_eq_getElem hj)
        rw [e]
        obtain ⟨row, u, q1, q2⟩ := hget j hjl
        exact (hc _ _ row u q1 q2).2.1
      · have hi : i < rows.length := (List.getElem?_eq_some_iff.1 h1).1
        have hj : j < sz := by have := (List.getElem?_eq_some_iff.1 h2).1; rw [hlen row (List.mem_of_getElem? h1)] at this; exact this
        have hk : i * sz + j < rows.length * sz := by
          have : (i + 1) * sz ≤ rows.length * sz := Nat.mul_le_mul_right _ hi
          rw [Nat.add_mul] at this; omega
        have e1 : (i * sz + j) / sz = i := by rw [Nat.mul_comm, Nat.mul_add_div h0, Nat.div_eq_of_lt hj, Nat.add_zero]
        have e2 : (i * sz + j) % sz = j := by rw [Nat.mul_comm, Nat.mul_add_mod]; exact Nat.mod_eq_of_lt hj
        refine ⟨f i j, by simp [hk, e1, e2], (hc i j row u h1 h2).2⟩
  unfold srcRows at hs
  split at hs
  · rename_i id g _
    obtain ⟨e, he, hg, hsz, rfl⟩ := hs
    obtain ⟨l, xs, g1, g2, g3, g4, g5, g6, hx⟩ := h.objO hv he hg
    rcases own_val g5 with ⟨q1, q2⟩ | ⟨b, cap, q1, hb⟩
    · left; exact ⟨q2, none, 0, by rw [hx, q1], Nat.le_refl _⟩
    · by_cases h0 : e.rows = []
      · left; exact ⟨h0, _, cap, by rw [hx, q1, h0]; rfl, Nat.zero_le _⟩
      · right
        obtain ⟨ys, y1, y2, y3, y4⟩ := hflat e.rows (fun i j => (xs[i * sz + j]?).getD undef) b 0 (by rw [← hsz]; exact g6.1) h0 (fun i j row u h1 h2 => by
          obtain ⟨y, p1, p2, p3⟩ := g6.2 i j row u h1 h2
          rw [hsz] at p1
          simp only [p1, Option.getD_some, Nat.zero_add]
          exact ⟨own_cell g5 hb p1, p2, p3⟩)
        exact ⟨b, 0, cap, ys, by rw [hx, q1], h0, y1, y2, y3, y4⟩
  · obtain ⟨he, hr⟩ := hs
    rw [he] at hv
    cases hv with
    | nil clip ad cap hc => left; exact ⟨rfl, ad, cap, rfl, Nat.zero_le _⟩
    | sl clip rows b off cap sz' f hR hcap hclip hs' hcell hh =>
      by_cases h0 : rows = []
      · left; exact ⟨h0, _, cap, by rw [h0]; rfl, Nat.zero_le _⟩
      · right
        have hsz : sz' = sz := by
          obtain ⟨r, hr'⟩ := List.exists_mem_of_ne_nil rows h0
          rw [← hs' r hr']; exact (hr r hr').1
        subst hsz
        obtain ⟨ys, y1, y2, y3, y4⟩ := hflat rows f b off hs' h0 (fun i j row u h1 h2 =>
          ⟨by rw [← Nat.add_assoc]; exact hcell i j row u h1 h2, one_cell h (ones_mem (hr row (List.mem_of_getElem? h1)).2 (List.mem_of_getElem? h2)) (hh i j row u h1 h2), hh i j row u h1 h2⟩)
        exact ⟨b, off, cap, ys, rfl, h0, y1, y2, y3, y4⟩
  · subst hs
    left; exact ⟨rfl, none, 0, rv_v hv, Nat.le_refl _⟩
  · exact hs.elim
theorem run_app {cl : Call} {x y : Operand} {t : TypeId} {v : Value} (ho : o.op = .call cl) (hc : cl.callee = .builtin .append) (hax : cl.args.toList = [x, y]) (hat : cl.argTypes.toList = [t, t]) (hr : (Builtin.append_ #[t, t] o.type #[a.eval x, a.eval y]).run P w = .ok v w') :
    (execOp a.eval o).run P w = .ok (.value v) w' := by
  have ha' : cl.args = #[x, y] := by apply Array.ext'; simpa using hax
  have hat' : cl.argTypes = #[t, t] := by apply Array.ext'; simpa using hat
  unfold execOp; rw [ho]
  simp [resolve, hc, ha', hat', invoke, builtin, hr]
theorem rows_append {xs ys : List Value} {sz : Nat} {rows rows' : List (List V)} (hl : xs.length = rows.length * sz) (h1 : RowsR w R G xs sz rows) (h2 : RowsR w R G ys sz rows') : RowsR w R G (xs ++ ys) sz (rows ++ rows') := by
  refine ⟨fun row hr => ?_, fun i j row u hi hj => ?_⟩
  · rcases List.mem_append.1 hr with q | q
    · exact h1.1 row q
    · exact h2.1 row q
  · have hjs : j < sz := by
      have := (List.getElem?_eq_some_iff.1 hj).1
      rcases List.mem_append.1 (List.mem_of_getElem? hi) with q | q
      · rw [h1.1 row q] at this; exact this
      · rw [h2.1 row q] at this; exact this
    by_cases hlt : i < rows.length
    · rw [List.getElem?_append_left hlt] at hi
      have : (i + 1) * sz ≤ rows.length * sz := Nat.mul_le_mul_right _ hlt
      rw [Nat.add_mul] at this
      rw [List.getElem?_append_left (by omega)]
      exact h1.2 i j row u hi hj
    · rw [List.getElem?_append_right (by omega)] at hi
      have : rows.length * sz ≤ i * sz := Nat.mul_le_mul_right _ (by omega)
      rw [List.getElem?_append_right (by omega), hl, show i * sz + j - rows.length * sz = (i - rows.length) * sz + j by rw [Nat.sub_mul]; omega]
      exact h2.2 _ j row u hi hj
/-- an append onto what is owned, or is nothing -/
theorem e_app_own {cl : Call} {x y : Operand} {t T : TypeId} {i : TypeInfo} {z : Value} {id : Nat} {v : Value} {rows0 rows : List (List V)} {xs : List Value} {next : Act → World → Prop} (ho : o.op = .call cl) (hc : cl.callee = .builtin .append) (hax : cl.args.toList = [x, y]) (hat : cl.argTypes.toList = [t, t])
    (ht : P.underlying t = some (.slice T)) (hi : P.info? T = some i) (hz : i.zero = some z) (h0 : 0 < i.size) (hzs : z.cells.size = i.size) (h : RelAt c st a w R G)
    (hv : a.eval x = v) (hown : w.ownsRow 0 T i.size v rows0.length xs) (hrows0 : RowsR w R G xs i.size rows0) (hs : srcRows st.H i.size (val st.env y) rows) (hm : rows0.length + rows.length ≤ maxLen) (hby : (rows0.length + rows.length) * i.bytes ≤ 140737488355328)
    (hold : ∀ b, v.ownBlock = some b → ∃ l0 e0, st.H id = some e0 ∧ G id = some l0 ∧ l0.gen = e0.gen ∧ l0.val.ownBlock = some b)
    (hn : ∀ g x w' R' G', RelAt c { st with H := upd st.H id (some ⟨g, T, i.size, rows0 ++ rows⟩) } a w' R' G' → RV w' R' G' (.own id g) x → next (a.put o.dst x) w') : o.wp P a w next Q := by
  have key : ∀ v' w', (Builtin.append_ #[t, t] o.type #[a.eval x, a.eval y]).run P w = .ok v' w' → ∀ ys, w'.ownsRow 0 T i.size v' (rows0.length + rows.length) (xs ++ ys) → w.grownBy w' v.ownBlock → RowsR w R G ys i.size rows → (v'.ownBlock = v.ownBlock ∨ v'.ownBlock = some w.heap.size) → o.wp P a w next Q := fun v' w' hrun ys hown' hgr hys hblk => by
    refine wp_value (run_app ho hc hax hat hrun) (hn (freshGen G id) v' w' R (upd G id (some ⟨freshGen G id, i.size, v'⟩)) ?_ (.own _ _ _ (upd_same _ _ _) (Nat.le_refl _) _ fun _ => rfl))
    have hle : Gle G (upd G id (some ⟨freshGen G id, i.size, v'⟩)) := fun k m hm => by
      by_cases hk : k = id
      · subst hk; exact ⟨_, upd_same _ _ _, .inr (freshGen_lt hm)⟩
      · exact ⟨m, by rw [upd_ne _ _ hk]; exact hm, .inl rfl⟩
    have hst : ∀ b, R b → R b ∧ w'.heap[b]? = w.heap[b]? := fun b hb => ⟨hb, hgr.block b (h.lt b hb) (fun e => by
      obtain ⟨l0, e0, q1, q2, q25, q3⟩ := hold b e.symm
      exact (h.hr.mine id e0 l0 b q1 q2 q25 q3).1 hb)⟩
    refine h.set (e := ⟨freshGen G id, T, i.size, rows0 ++ rows⟩) hgr hold (fun l0 hl0 => .inr (freshGen_lt hl0)) rfl rfl h0 (xs := xs ++ ys) ?_ ?_ ?_
    · rw [List.length_append]; exact hown'
    · exact rows_append hown.1 (hrows0.mono hst hle) (hys.mono hst hle)
    · intro b hb
      rcases hblk with q | q
      · exact .inl (by rw [← q]; exact hb)
      · have hb2 : v'.ownBlock = some b := hb
        rw [q] at hb2; injection hb2 with hb2
        exact .inr (h.newBlk (by omega) id)
  rcases src_cells h (h.val y) hs with ⟨q1, b, c', q2, _⟩ | ⟨b, off, c', ys, q1, q2, q3, q4, q5, q6⟩
  · subst q1
    have hsrc : Src P i.size t (a.eval y) 0 [] w := by
      rw [q2]
      cases b with
      | none => exact Src.ofNil w ht c'
      | some ad => exact Src.ofSlice w ht ad 0 c' [] (by simp) (by simp) (by simp)
    have hform : ∃ ad n cap, v = .slice ad n cap ∧ n ≤ cap := by
      rcases hown.2 with ⟨p, _⟩ | ⟨g, cap, cur, p, _, _, hnc, _⟩
      · exact ⟨none, 0, 0, p, Nat.le_refl _⟩
      · exact ⟨_, _, cap, p, hnc⟩
    obtain ⟨ad, n, cap, hvv, hnc⟩ := hform
    have hrun := run_append_nothing (P := P) w t t o.type T i ht hi ad n cap hnc (a.eval y) hsrc
    subst hvv
    refine key (.slice ad n cap) w (by rw [hv]; exact hrun) [] (by simpa using hown) ⟨rfl, rfl, rfl, Nat.le_refl _, fun _ _ _ => rfl⟩ ⟨by simp, fun i j row u hi => by simp at hi⟩ (.inl rfl)
  · obtain ⟨v', w', r1, r2, r3, _, r5⟩ := run_append_own_at (P := P) w 0 t o.type T i z i.size i.bytes ht hi hz rfl rfl hzs h0 v rows0.length xs hown ⟨b, off, none⟩ rows.length c' ys q3 (fun j u hu => by rw [add_row]; exact q4 j u hu) q5 hm hby (Nat.zero_le _)
    refine key v' w' (by rw [hv, q1]; exact r1) ys r2 r3 q6 r5
/-- an append onto a slice without spare room -/
theorem e_app_clip {cl : Call} {x y : Operand} {t T : TypeId} {i : TypeInfo} {z : Value} {id : Nat} {rows0 rows : List (List V)} {next : Act → World → Prop} (ho : o.op = .call cl) (hc : cl.callee = .builtin .append) (hax : cl.args.toList = [x, y]) (hat : cl.argTypes.toList = [t, t])
    (ht : P.underlying t = some (.slice T)) (hi : P.info? T = some i) (hz : i.zero = some z) (h0 : 0 < i.size) (hzs : z.cells.size = i.size) (h : RelAt c st a w R G)
    (hv : val st.env x = .sl true rows0) (hne : rows ≠ []) (hr0 : ∀ row ∈ rows0, row.length = i.size ∧ ones st.H row) (hs : srcRows st.H i.size (val st.env y) rows) (hm : rows0.length + rows.length ≤ maxLen) (hby : (rows0.length + rows.length) * i.bytes ≤ 140737488355328)
    (hn : ∀ g x w' R' G', RelAt c { st with H := upd st.H id (some ⟨g, T, i.size, rows0 ++ rows⟩) } a w' R' G' → RV w' R' G' (.own id g) x → next (a.put o.dst x) w') : o.wp P a w next Q := by
  rcases src_cells h (h.val y) hs with ⟨q1, _⟩ | ⟨b, off, c', ys, q1, q2, q3, q4, q5, q6⟩
  · exact absurd q1 hne
  · rcases src_cells (rows := rows0) h (hv ▸ h.val x) (show srcRows st.H i.size (.sl true rows0) rows0 from ⟨rfl, hr0⟩) with ⟨p1, ad, cap, p2, _⟩ | ⟨b', off', cap, xs, p1, p2, p3, p4, p5, p6⟩
    · have hcap : cap = 0 := by
        have hh := h.val x
        rw [hv, p2, p1] at hh
        cases hh with
        | nil clip a cap hc => exact hc rfl
        | sl clip rows b off cap sz f hR hcap hclip => exact hclip rfl
      subst hcap
      subst p1
      cases ad with
      | none =>
        exact e_app_own (rows0 := []) (xs := []) ho hc hax hat ht hi hz h0 hzs h p2 (World.ownsRow_nil _ _ _ _) ⟨by simp, fun i j row u hi => by simp at hi⟩ hs hm hby (fun b hb => by cases hb) hn
      | some ad =>
        obtain ⟨v', w', r1, r2, r3⟩ := run_append_arg_grows (P := P) w t o.type T i z i.size i.bytes ht hi hz rfl rfl hzs h0 ad 0 0 [] (by simp) (by simp) ⟨b, off, none⟩ rows.length c' ys q3 (fun j u hu => by rw [add_row]; exact q4 j u hu)
          (by have := List.length_pos_iff.2 hne; omega) (by simpa using hm) (by simpa using hby)
        simp only [Nat.zero_add, List.nil_append] at r2
        have hlt := fun b hb => (r2.lt b hb).1
        refine wp_value (run_app ho hc hax hat (by rw [p2, q1]; exact r1)) (hn (freshGen G id) v' w' R (upd G id (some ⟨freshGen G id, i.size, v'⟩)) ?_ (.own _ _ _ (upd_same _ _ _) (Nat.le_refl _) _ fun _ => rfl))
        refine h.set (e := ⟨freshGen G id, T, i.size, [] ++ rows⟩) r3 (by simp) (fun l0 hl0 => .inr (freshGen_lt hl0)) rfl rfl h0 (xs := ys) ?_ ?_ ?_
        · obtain ⟨e1, e2⟩ := r2
          refine ⟨by simpa using e1, ?_⟩
          rcases e2 with e2 | ⟨g, cap, cur, e2, _, e3⟩
          · exact .inl (by simpa using e2)
          · exact .inr ⟨g, cap, cur, by simpa using e2, Nat.zero_le _, by simpa using e3⟩
        · rw [List.nil_append]
          refine q6.mono (fun b hb => ⟨hb, r3.block b (h.lt b hb) (by simp)⟩) (fun k m hm => ?_)
          by_cases hk : k = id
          · subst hk; exact ⟨_, upd_same _ _ _, .inr (freshGen_lt hm)⟩
          · exact ⟨m, by rw [upd_ne _ _ hk]; exact hm, .inl rfl⟩
        · intro b hb
          exact .inr (h.newBlk (hlt b hb) id)
    · have hcap : cap = rows0.length := by
        have hh := h.val x
        rw [hv, p1] at hh
        generalize hrr : rows0 = rr at hh
        generalize hcc : cap = cc at hh
        generalize hll : rr.length = ll at hh
        cases hh with
        | nil clip a cap hc => exact absurd hrr p2
        | sl clip rows b off cap sz f hR hcap hclip => simpa using hclip rfl
      subst hcap
      obtain ⟨v', w', r1, r2, r3⟩ := run_append_arg_grows (P := P) w t o.type T i z i.size i.bytes ht hi hz rfl rfl hzs h0 ⟨b', off', none⟩ rows0.length rows0.length xs p3 (fun j u hu => by rw [add_row]; exact p4 j u hu) ⟨b, off, none⟩ rows.length c' ys q3 (fun j u hu => by rw [add_row]; exact q4 j u hu)
        (by have := List.length_pos_iff.2 hne; omega) hm hby
      have hlt := fun b hb => (r2.lt b hb).1
      have hle : Gle G (upd G id (some ⟨freshGen G id, i.size, v'⟩)) := fun k m hm => by
        by_cases hk : k = id
        · subst hk; exact ⟨_, upd_same _ _ _, .inr (freshGen_lt hm)⟩
        · exact ⟨m, by rw [upd_ne _ _ hk]; exact hm, .inl rfl⟩
      have hst : ∀ b, R b → R b ∧ w'.heap[b]? = w.heap[b]? := fun b hb => ⟨hb, r3.block b (h.lt b hb) (by simp)⟩
      refine wp_value (run_app ho hc hax hat (by rw [p1, q1]; exact r1)) (hn (freshGen G id) v' w' R (upd G id (some ⟨freshGen G id, i.size, v'⟩)) ?_ (.own _ _ _ (upd_same _ _ _) (Nat.le_refl _) _ fun _ => rfl))
      refine h.set (e := ⟨freshGen G id, T, i.size, rows0 ++ rows⟩) r3 (by simp) (fun l0 hl0 => .inr (freshGen_lt hl0)) rfl rfl h0 (xs := xs ++ ys) ?_ (rows_append p3 (p6.mono hst hle) (q6.mono hst hle)) ?_
      · obtain ⟨e1, e2⟩ := r2
        refine ⟨by simpa using e1, ?_⟩
        rcases e2 with e2 | ⟨g, cap, cur, e2, _, e3⟩
        · exact .inl (by simpa using e2)
        · exact .inr ⟨g, cap, cur, by simpa using e2, Nat.zero_le _, by simpa using e3⟩
      · intro b hb
        exact .inr (h.newBlk (hlt b hb) id)
set_option maxHeartbeats 1000000 in
theorem eff_sound (hres : resOp P o = some r) (h : RelAt c st a w R G) {K : V → List (Nat × Option Ent) → Prop} (hs : stepE P r st.env st.H (16 * d) K) {next : Act → World → Prop}
    (hK : ∀ u dH, K u dH → ∀ x w' R' G', RelAt c { st with H := addH st.H dH } a w' R' G' → RV w' R' G' u x → next (a.put o.dst x) w') : o.wp P a w next Q := by
  have hids : ∀ k, k < 16 → (16 * d + k) / 16 = d := fun k hk => by omega
  have hcall : ∀ {f : FuncId} {xs : List Value} {us : List V} {ps rs : List Par} {bor : Bool} {gone : List Nat}, (execOp a.eval o).run P w = .ok (.enter f xs.toArray) w → us.length = xs.length → (∀ (i : Nat) (u : V) (x : Value), us[i]? = some u → xs[i]? = some x → RV w R G u x) →
      ArgsOk st.H gone bor gone us ps → Fun P f ps rs → (bor = true → flatRes rs) → rs.length ≤ 16 → (∀ g : Nat → Nat, K (packU (resV g (16 * d) rs)) (gone.map (fun i => (i, none)) ++ resH g (16 * d) rs)) → o.wp P a w next Q := fun hr hl hh hA hF hfl hrs hk =>
    q_call (g := freshGen G) hids (fun id _ l0 hl0 => freshGen_lt hl0) h hr hl hh hA hF hfl hrs next (fun x w' R' G' h1 h2 _ => hK _ _ (hk _) x w' R' G' h1 h2)
  cases hop : o.op with
  | store t x y =>
    simp only [resOp, hop] at hres
    split at hres
    · rename_i i hi
      simp only [Option.some.injEq] at hres; subst hres
      simp only [stepE] at hs
      split at hs
      · rename_i id gen k off hv
        obtain ⟨e, row, us, h1, h2, h3, h4, h5, h6, h7, h8⟩ := hs
        exact e_store hop hi h hv h1 h2 h3 h4 h5 h6 h7 (fun x w' R' G' hR hV => hK _ _ h8 x w' R' G' hR hV)
      · exact hs.elim
    · cases hres
  | call cl =>
    obtain ⟨callee, args, argTypes⟩ := cl
    cases callee with
    | value f =>
      simp only [resOp, hop, Option.some.injEq] at hres; subst hres
      simp only [stepE] at hs
      obtain ⟨e1, e2⟩ := args_rel h args.toList
      split at hs
      · rename_i f' hf
        obtain ⟨ps, rs, bor, gone, h1, h2, h3, h4, h5⟩ := hs
        have hx : a.eval f = .func (.func f') #[] ([] : List Value).toArray := rv_v (hf ▸ h.val f)
        have hr := run_call (P := P) (w := w) hop rfl hx h2.1
        rw [List.append_nil] at hr
        exact hcall hr e1 e2 h1 h2 h3 h4 h5
      · rename_i f' caps hf
        obtain ⟨ps, rs, bor, gone, h1, h2, h3, h4, h5⟩ := hs
        have hv := h.val f
        rw [hf] at hv
        generalize hax : a.eval f = ax at hv
        cases hv with
        | clo f' caps xs hl hh =>
          have hr := run_call (P := P) (w := w) hop rfl hax h2.1
          refine hcall (us := args.toList.map (val st.env) ++ caps) hr (by simp [hl]) ?_ h1 h2 h3 h4 h5
          intro i u x g1 g2
          by_cases hi : i < (args.toList.map (val st.env)).length
          · rw [List.getElem?_append_left hi] at g1
            rw [List.getElem?_append_left (by simpa using hi)] at g2
            exact e2 i u x g1 g2
          · rw [List.getElem?_append_right (by omega)] at g1
            rw [List.getElem?_append_right (by simpa using hi)] at g2
            exact hh _ u x (by simpa using g1) (by simpa using g2)
      · exact hs.elim
    | invoke f m => simp [resOp, hop] at hres
    | builtin b =>
      cases b with
      | max =>
        simp only [resOp, hop] at hres
        split at hres
        · simp only [Option.some.injEq] at hres; subst hres; exact hs.elim
        · cases hres
      | min =>
        simp only [resOp, hop] at hres
        split at hres
        · simp only [Option.some.injEq] at hres; subst hres; exact hs.elim
        · cases hres
      | append =>
        simp only [resOp, hop] at hres
        split at hres
        · rename_i x y t t' hax hat
          split at hres
          · rename_i htt
            subst htt
            split at hres
            · rename_i e ht
              split at hres
              · rename_i i hi
                split at hres
                · rename_i z hz
                  split at hres
                  · rename_i h0
                    simp only [Bool.and_eq_true, decide_eq_true_eq, beq_iff_eq] at h0
                    simp only [Option.some.injEq] at hres; subst hres
                    simp only [stepE] at hs
                    obtain ⟨rows, hsrc, hs⟩ := hs
                    split at hs
                    · rename_i id gen hx
                      obtain ⟨en, h1, h2, rfl, h3, h4, h5, h6⟩ := hs
                      obtain ⟨l, xs, g1, g2, g3, g4, g5, g6, hae⟩ := h.objO (hx ▸ h.val x) h1 h2
                      rw [h3] at g5 g6
                      exact e_app_own hop rfl hax hat ht hi hz h0.1 h0.2 h hae g5 g6 hsrc h4 h5 (fun b hb => ⟨l, en, h1, g1, g2.trans h2.symm, hb⟩) (fun g x w' R' G' hR hV => hK _ _ (h6 g) x w' R' G' hR hV)
                    · rename_i hx
                      obtain ⟨h1, h2, h3⟩ := hs
                      exact e_app_own (rows0 := []) (xs := []) hop rfl hax hat ht hi hz h0.1 h0.2 h (rv_v (hx ▸ h.val x)) (World.ownsRow_nil _ _ _ _) ⟨by simp, fun i j row u hi => by simp at hi⟩ hsrc (by simpa using h1) (by simpa using h2) (fun b hb => by cases hb)
                        (fun g x w' R' G' hR hV => hK _ _ (h3 g) x w' R' G' hR hV)
                    · rename_i rows0 hx
                      obtain ⟨h1, h2, h3, h4, h5⟩ := hs
                      exact e_app_clip hop rfl hax hat ht hi hz h0.1 h0.2 h hx h1 h2 hsrc h3 h4 (fun g x w' R' G' hR hV => hK _ _ (h5 g) x w' R' G' hR hV)
                    · exact hs.elim
                  · cases hres
                · cases hres
              · cases hres
            · cases hres
          · cases hres
        · cases hres
      | len =>
        simp only [resOp, hop] at hres
        split at hres
        · split at hres
          · simp only [Option.some.injEq] at hres; subst hres; exact hs.elim
          · simp only [Option.some.injEq] at hres; subst hres; exact hs.elim
          · cases hres
        · cases hres
      | _ => simp [resOp, hop] at hres
  | move => simp only [resOp, hop, Option.some.injEq] at hres; subst hres; exact hs.elim
  | assign => simp only [resOp, hop, Option.some.injEq] at hres; subst hres; exact hs.elim
  | pick => simp only [resOp, hop, Option.some.injEq] at hres; subst hres; exact hs.elim
  | extract => simp only [resOp, hop, Option.some.injEq] at hres; subst hres; exact hs.elim
  | unOp op t x => cases op <;> simp only [resOp, hop, Option.some.injEq, reduceCtorEq] at hres <;> subst hres <;> exact hs.elim
  | makeFunc fn first caps => cases fn <;> simp only [resOp, hop, reduceCtorEq] at hres <;> split at hres <;> first | (simp only [Option.some.injEq] at hres; subst hres; exact hs.elim) | cases hres
  | _ =>
    exfalso
    simp only [resOp, hop, reduceCtorEq] at hres
    repeat' (split at hres)
    all_goals first
      | (cases hres; done)
      | (simp only [Option.some.injEq] at hres; subst hres; exact hs.elim)
      | (simp only [Option.map_eq_some_iff] at hres; obtain ⟨_, _, rfl⟩ := hres; exact hs.elim)
end
end Go.Proofs.Ytckkeeicngblgaa
