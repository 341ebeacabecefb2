/- The framework: part of this claim. -/
import Derived.Test.YtjhdlcmecbngkaaDoorXAbs8
import Derived.Test.YtjhdlcmecbngkaaDoorXAbsP
import Derived.Maps.AppendAt
import Derived.ArgAppend
set_option linter.unusedSimpArgs false
namespace Go.Proofs.YtjhdlcmecbngkaaDoor
open Go.RowKit
set_option linter.unusedVariables false
def callE (P : Program) (H : Nat → Option Ent) (D : Value → Prop) (b : Nat) (f : FuncId) (us : List V) (K : V → List (Nat × Option Ent) → Prop) : Prop :=
 (∃ ps rs bor gone, ArgsOk H gone bor gone us ps ∧ Fun P f ps rs ∧ (bor = true → flatRes rs) ∧ rs.length ≤ 16 ∧ ∀ g : Nat → Nat, K (packU (resV g b rs)) (gone.map (fun i => (i, none)) ++ resH g b rs)) ∨
 (∃ ps rs bor gone, ArgsM H gone bor gone us ps ∧ FunM P f ps rs ∧ (bor = true → ∀ p ∈ rs ++ exitsP ps, flatM p) ∧ (∀ p ∈ rs, outM p = true) ∧ (resMI b rs ++ exitI us ps).Nodup ∧ ∀ g : Nat → Nat, K (packU (resMV g b rs)) (gone.map (fun i => (i, none)) ++ (exitH g us ps ++ resMH g b rs))) ∨
 (∃ ps bor gone v, ArgsM H gone bor gone us ps ∧ FunDie P f ps v ∧ D v)
def stepE (P : Program) (r : ROp) (env : Nat → V) (H : Nat → Option Ent) (D : Value → Prop) (b : Nat) (K : V → List (Nat × Option Ent) → Prop) : Prop :=
 match r with
 | .store sz x y => match val env x with
  | .ptr id gen i off => ∃ e row us, H id = some e ∧ e.gen = gen ∧ e.rows[i]? = some row ∧ cellsV (val env y) = some us ∧ us.length = sz ∧ off + sz ≤ row.length ∧ ones H us ∧
    K (.v undef) [(id, some { e with rows := e.rows.set i (putV row off us) })]
  | _ => False
 | .app T sz bytes z x y => match val env x with
  | .osub id gen lo0 k => match val env y with
   | .osub id' gen' lo hi => ∃ e, H id = some e ∧ e.gen = gen ∧ id' = id ∧ gen' = gen ∧ lo0 = 0 ∧ e.sz = sz ∧ k ≤ lo ∧ lo ≤ hi ∧ hi ≤ e.rows.length ∧ K (.osub id gen 0 (k + (hi - lo))) [(id, some { e with rows := e.rows.take k ++ (e.rows.drop lo).take (hi - lo) ++ e.rows.drop (k + (hi - lo)) })]
   | _ => False
  | .own id gen => ∃ rows, srcRows H sz (val env y) rows ∧ ∃ e, H id = some e ∧ e.gen = gen ∧ e.T = .t T ∧ e.sz = sz ∧ e.rows.length + rows.length ≤ maxLen ∧ (e.rows.length + rows.length) * bytes ≤ 140737488355328 ∧ ∀ g, K (.own id g) [(id, some ⟨g, .t T, sz, e.rows ++ rows⟩)]
  | .v (.slice none 0 0) => ∃ rows, srcRows H sz (val env y) rows ∧ rows.length ≤ maxLen ∧ rows.length * bytes ≤ 140737488355328 ∧ ∀ g, K (.own b g) [(b, some ⟨g, .t T, sz, rows⟩)]
  | .sl true rows0 => ∃ rows, srcRows H sz (val env y) rows ∧ rows ≠ [] ∧ (∀ row ∈ rows0, row.length = sz ∧ ones H row) ∧ rows0.length + rows.length ≤ maxLen ∧ (rows0.length + rows.length) * bytes ≤ 140737488355328 ∧ ∀ g, K (.own b g) [(b, some ⟨g, .t T, sz, rows0 ++ rows⟩)]
  | .oclip id gen n => ∃ rows, srcRows H sz (val env y) rows ∧ ∃ e, H id = some e ∧ e.gen = gen ∧ rows ≠ [] ∧ e.sz = sz ∧ n ≤ e.rows.length ∧ n + rows.length ≤ maxLen ∧ (n + rows.length) * bytes ≤ 140737488355328 ∧ ∀ g, K (.own b g) [(b, some ⟨g, .t T, sz, e.rows.take n ++ rows⟩)]
  | _ => False
 | .clr sz z x => match val env x with
  | .osub id gen lo hi => ∃ e, H id = some e ∧ e.gen = gen ∧ e.sz = sz ∧ lo ≤ hi ∧ hi ≤ e.rows.length ∧ K .any [(id, some { e with rows := e.rows.take lo ++ List.replicate (hi - lo) (z.map .v) ++ e.rows.drop hi })]
  | _ => False
 | .isnil neg x => match val env x with
  | .v (.slice ad _ _) => K (.v (.bool (if neg then !ad.isNone else ad.isNone))) []
  | .sl _ rows => ∀ b : Bool, (b = true → rows = []) → K (.v (.bool (if neg then !b else b))) []
  | .own id gen => ∃ e, H id = some e ∧ e.gen = gen ∧ ∀ b : Bool, (b = true → e.rows = []) → K (.v (.bool (if neg then !b else b))) []
  | _ => False
 | .call x args => match val env x with
  | .v (.func (.func f) ⟨[]⟩ ⟨[]⟩) => callE P H D b f (args.map (val env)) K
  | .clo f caps => callE P H D b f (args.map (val env) ++ caps) K
  | _ => False
 | .slcL sz x lo hi mx => match val env x with
  | .own id gen => ∃ (e : Ent) (md l n : Nat), H id = some e ∧ e.gen = gen ∧ e.sz = sz ∧ loV env lo l ∧ hiV env e.rows.length hi n ∧ l ≤ n ∧ n ≤ e.rows.length ∧ match md with
   | 0 => l = 0 ∧ mx = none ∧ ∀ g, K (.own id g) [(id, some ⟨g, e.T, e.sz, e.rows.take n⟩)]
   | 1 => mx = none ∧ K (.osub id gen l n) []
   | 3 => l = 0 ∧ hi.isSome = true ∧ ∃ (y : Operand) (kd : IntKind), mx = some y ∧ val env y = .v (.int kd (n : Int)) ∧ K (.oclip id gen n) []
   | _ => ∃ (y : Operand) (m : Nat) (kd : IntKind), mx = some y ∧ hi.isSome = true ∧ val env y = .v (.int kd (m : Int)) ∧ n ≤ m ∧ m ≤ e.rows.length ∧ K .any []
  | .osub id gen lo0 hi0 => ∃ e : Ent, ∃ l h : Nat, H id = some e ∧ e.gen = gen ∧ e.sz = sz ∧ loV env lo l ∧ hiV env (hi0 - lo0) hi h ∧ l ≤ h ∧ lo0 + h ≤ e.rows.length ∧ mx = none ∧ lo0 ≤ hi0 ∧ K (.osub id gen (lo0 + l) (lo0 + h)) []
  | .sl clip rows => ∃ l h : Nat, loV env lo l ∧ hiV env rows.length hi h ∧ l ≤ h ∧ h ≤ rows.length ∧ (rows = [] ∨ ∃ row, rows[0]? = some row ∧ row.length = sz) ∧
    match mx with
    | none => K (.sl false ((rows.drop l).take (h - l))) []
    | some y => hi.isSome = true ∧ (∃ k, val env y = .v (.int k (h : Int))) ∧ K (.sl true ((rows.drop l).take (h - l))) []
  | _ => False
 | .die x => match val env x with
  | .v (.iface t y) => D (.iface t y)
  | _ => False
 | .mupd kind x i v => match val env x with
  | .obj id gen => ∃ e ents kv r, H id = some e ∧ e.gen = gen ∧ e.T = .q (mapI ents) ∧ val env i = .v kv ∧ Cl (val env v) ∧ findE kind kv ents 0 = some r ∧
    K (.v undef) [(id, some ⟨gen, .q (mapI (putE ents kv (val env v) r)), 0, []⟩)]
  | _ => False
 | _ => False
section
variable {P : Program} {c : Ctx} {st : St} {a : Act} {w w' : World} {R : Nat → Prop} {G : Nat → Option Loc} {o : Oper} {r : ROp} {Q : Exit → Act → World → Prop} {d : Nat} {u : V} {dH : List (Nat × Option Ent)}
theorem run_u {s : Sem Unit} (h : s.run P w = .ok () w') : ((do s; pure Next.skip) : Sem Next).run P w = .ok .skip w' := by
 simp [h]
theorem wp_skip_op {next : Act → World → Prop} (h : (execOp a.eval o).run P w = .ok .skip w') (hn : next (a.put o.dst undef) w') : o.wp P a w next Q := by
 unfold Oper.wp; rw [h]; exact hn
theorem e_store {t : TypeId} {x y : Operand} {i : TypeInfo} {id gen k off : Nat} {e : Ent} {row us : List V} {next : Act → World → Prop} (ho : o.op = .store t x y) (hi : P.info? t = some i) (h : RelAt c st a w R G) (hv : val st.env x = .ptr id gen k off)
  (he : st.H id = some e) (hg : e.gen = gen) (hrow : e.rows[k]? = some row) (hc : cellsV (val st.env y) = some us) (hl : us.length = i.size) (hb : off + i.size ≤ row.length) (h1 : ones st.H us)
  (hn : ∀ x w' R' G', RelAt c { st with H := upd st.H id (some { e with rows := e.rows.set k (putV row off us) }) } a w' R' G' → RV w' R' G' (.v undef) x → (∀ k, G' k = G k) → next (a.put o.dst x) w') : o.wp P a w next Q := by
 obtain ⟨l, xs, b, T0, g1, g2, g3, g4, g5, g6, hbk, hax, hT0, hop0⟩ := h.objP (hv ▸ h.val x) he hg hrow
 have g2' : l.gen = e.gen := g2.trans hg.symm
 have hcv := cells_of h hc (h.val y) h1
 have hk : k < e.rows.length := (List.getElem?_eq_some_iff.1 hrow).1
 have hrl : row.length = e.sz := g6.1 row (List.mem_of_getElem? hrow)
 have hkk : k * e.sz + e.sz ≤ e.rows.length * e.sz := by
  have : (k + 1) * e.sz ≤ e.rows.length * e.sz := Nat.mul_le_mul_right _ hk
  rw [Nat.add_mul] at this; omega
 have hvl : (a.eval y).cells.toList.length = i.size := by have := hcv.1; omega
 have hone : ∀ v ∈ (a.eval y).cells.toList, v.oneCell' = true := fun v hv => by
  obtain ⟨j, hj, rfl⟩ := List.mem_iff_getElem.1 hv
  have hju : j < us.length := by rw [hcv.1]; exact hj
  obtain ⟨z, q1, q2, _⟩ := hcv.2 j us[j] (List.getElem?_eq_getElem hju)
  rw [List.getElem?_eq_getElem hj] at q1; injection q1 with q1; rw [q1]; exact q2
 obtain ⟨hxl, hx2⟩ := g5
 rcases hx2 with ⟨q, _⟩ | ⟨g, cap, cur, q, q0, hh, hnc, hcm, hcs, htk⟩
 ·rw [q] at hbk; cases hbk
 ·have hgb : g = b := by rw [q] at hbk; simpa [Value.ownBlock] using hbk
  subst hgb
  have hcap : e.rows.length * e.sz ≤ cur.size := by rw [hcs]; exact Nat.mul_le_mul_right _ hnc
  have hrun := run_storeCells_at P g (k * l.sz + off) T0 (a.eval y).cells.toList 0 cur w hh (by rw [g3, hvl]; omega) hone
  simp only [Nat.add_zero, g3] at hrun
  have hst : (execOp a.eval o).run P w = .ok .skip (w.setRow g (cur.toList.take (k * e.sz + off) ++ (a.eval y).cells.toList ++ cur.toList.drop (k * e.sz + off + (a.eval y).cells.toList.length)).toArray) := by
   unfold execOp; rw [ho]
   refine run_u ?_
   rw [hax, g3]
   have hsz : (a.eval y).cells.size = i.size := by simpa using hvl
   simp only [Instr.storeAt, Instr.sureAddr, pure_bind, storeVar, sizeOf, typeInfo, Sem.run_bind, run_program, Result.andThen_ok, hi, Sem.run_pure]
   rw [if_neg (by rw [hsz]; simp)]
   exact hrun
  refine wp_skip_op hst (hn undef _ R (upd G id (some l)) ?_ (.v _) fun k => by
   by_cases hk : k = id
   ·rw [hk, upd_same]; exact g1.symm
   ·exact upd_ne _ _ hk)
  have hgb : w.grownBy (w.setRow g (cur.toList.take (k * e.sz + off) ++ (a.eval y).cells.toList ++ cur.toList.drop (k * e.sz + off + (a.eval y).cells.toList.length)).toArray) (some g) :=
   ⟨rfl, rfl, rfl, by simp, fun k' _ hk' => setRow_other w g k' _ (fun e => hk' (by rw [e]))⟩
  have hGle : Gle G (upd G id (some l)) := fun id' m hm => by
   by_cases hk : id' = id
   ·subst hk; rw [g1] at hm; injection hm with hm; subst hm; exact ⟨l, upd_same _ _ _, .inl (SameL.refl _)⟩
   ·exact ⟨m, by rw [upd_ne _ _ hk]; exact hm, .inl (SameL.refl _)⟩
  have hst2 : ∀ b, R b → R b ∧ (w.setRow g (cur.toList.take (k * e.sz + off) ++ (a.eval y).cells.toList ++ cur.toList.drop (k * e.sz + off + (a.eval y).cells.toList.length)).toArray).heap[b]? = w.heap[b]? := fun b hb =>
   ⟨hb, hgb.block b (h.lt b hb) (fun e' => by
    injection e' with e'; subst e'
    exact (h.hr.mine id e l b he g1 g2' ((Loc.ft_of hop0).2 hbk)).1 hb)⟩
  have hst3 := hst2
  rw [hvl] at hst3
  refine h.setG (e := { e with rows := e.rows.set k (putV row off us) }) hgb (fun b' hb' => ?_) (fun l0 hl0 => .inl ?_) (g2.trans hg.symm) (objOk_of (T := T0) (xs := xs.take (k * e.sz + off) ++ (a.eval y).cells.toList ++ xs.drop (k * e.sz + off + (a.eval y).cells.toList.length)) hT0 hop0 g3 g4 ?_ ?_) ?_
  ·injection hb' with hb'; subst hb'; exact ⟨l, e, he, g1, g2', (Loc.ft_of hop0).2 hbk⟩
  ·rw [g1] at hl0; injection hl0 with hl0; rw [hl0]; exact SameL.refl _
  ·refine ⟨by rw [splice_len _ _ _ (by rw [hvl, hxl]; omega), hxl, List.length_set], .inr ⟨g, cap, _, by rw [q, List.length_set], q0, setRow_heap w g cur _ T0 _ hh, by rw [List.length_set]; exact hnc, hcm, ?_, ?_⟩⟩
   ·rw [List.size_toArray, splice_len _ _ _ (by rw [hvl]; simp; omega)]
    simpa using hcs
   ·rw [List.length_set, ← htk]
    apply List.ext_getElem?
    intro j
    by_cases hj : j < e.rows.length * e.sz
    ·rw [List.getElem?_take_of_lt hj, splice_get _ _ _ _ (by rw [hvl]; simp; omega), splice_get _ _ _ _ (by rw [hvl]; simp; omega), List.getElem?_take_of_lt hj]
    ·rw [List.getElem?_eq_none (by simp; omega), List.getElem?_eq_none]
     rw [splice_len _ _ _ (by rw [hvl]; simp; omega)]; simp; omega
  ·refine ⟨fun r hr => ?_, fun i' j r v hi' hj => ?_⟩
   ·rcases List.mem_or_eq_of_mem_set hr with q | q
    ·exact g6.1 r q
    ·rw [q]; unfold putV; rw [splice_len _ _ _ (by omega)]; exact hrl
   ·have hrlen : r.length = e.sz := by
     rcases List.mem_or_eq_of_mem_set (List.mem_of_getElem? hi') with q | q
     ·exact g6.1 r q
     ·rw [q]; unfold putV; rw [splice_len _ _ _ (by omega)]; exact hrl
    have hjs : j < e.sz := by have := (List.getElem?_eq_some_iff.1 hj).1; omega
    show ∃ x, (xs.take (k * e.sz + off) ++ (a.eval y).cells.toList ++ xs.drop (k * e.sz + off + (a.eval y).cells.toList.length))[i' * e.sz + j]? = some x ∧ x.oneCell' = true ∧ _
    rw [splice_get _ _ _ _ (by rw [hvl, hxl]; omega), hvl]
    by_cases hik : i' = k
    ·subst hik
     rw [List.getElem?_set_self hk] at hi'
     injection hi' with hi'; subst hi'
     unfold putV at hj
     rw [splice_get _ _ _ _ (by omega), hl] at hj
     by_cases hin : off ≤ j ∧ j < off + i.size
     ·rw [if_pos hin] at hj
      rw [if_pos ⟨by omega, by omega⟩, show i' * e.sz + j - (i' * e.sz + off) = j - off by omega]
      obtain ⟨z, p1, p2, p3⟩ := hcv.2 _ v hj
      exact ⟨z, p1, p2, p3.mono hst3 hGle⟩
     ·rw [if_neg hin] at hj
      rw [if_neg (by omega)]
      obtain ⟨z, p1, p2, p3⟩ := g6.2 i' j row v hrow hj
      exact ⟨z, p1, p2, p3.mono hst3 hGle⟩
    ·rw [List.getElem?_set_ne (fun e => hik e.symm)] at hi'
     rw [if_neg ?_]
     ·obtain ⟨z, p1, p2, p3⟩ := g6.2 i' j r v hi' hj
      exact ⟨z, p1, p2, p3.mono hst3 hGle⟩
     ·rintro ⟨m1, m2⟩
      rcases Nat.lt_or_ge i' k with m | m
      ·have : (i' + 1) * e.sz ≤ k * e.sz := Nat.mul_le_mul_right _ m
       rw [Nat.add_mul] at this; omega
      ·have : (k + 1) * e.sz ≤ i' * e.sz := Nat.mul_le_mul_right _ (by omega)
       rw [Nat.add_mul] at this; omega
  ·intro b' hb'
   have hb' := (Loc.ft_of hop0).1 hb'
   exact .inl (by rw [hbk] at hb'; injection hb' with hb'; rw [hb'])
theorem app_grows_drawn {P : Program} (w : World) (t ty e : TypeId) (i : TypeInfo) (z : Value) (ht : P.underlying t = some (.slice e)) (hi : P.info? e = some i) (hz : i.zero = some z)
  (b : Addr) (n cap : Nat) (olds : List Value) (hlo : olds.length = n * i.size) (holds : ∀ j u, olds[j]? = some u → w.cell? (b.add j) = some u)
  (a : Addr) (m c : Nat) (news : List Value) (hl : news.length = m * i.size) (hnews : ∀ j u, news[j]? = some u → w.cell? (a.add j) = some u)
  (hg : cap < n + m) (h63 : n + m ≤ maxLen) (hbytes : (n + m) * i.bytes ≤ 140737488355328) {v' : Value} {w' : World}
  (hr : (Builtin.append_ #[t, t] ty #[.slice (some b) n cap, .slice (some a) m c]).run P w = .ok v' w') : w.drawn ≤ w'.drawn := by
 have h := run_append_grow (P := P) w t ty e i z ht hi hz b n cap olds hlo holds a m c news hl hnews hg (by simp only [maxLen] at h63; omega) (growslice_fits hg hbytes)
 rw [h] at hr
 injection hr with _ hr
 subst hr
 exact Nat.le_succ _
theorem app_own_drawn {P : Program} (w : World) (t ty e : TypeId) (i : TypeInfo) (z : Value) (ht : P.underlying t = some (.slice e)) (hi : P.info? e = some i) (hz : i.zero = some z) (h0 : 0 < i.size)
  {v : Value} {n : Nat} {xs : List Value} (hown : w.ownsRow 0 e i.size v n xs)
  (a : Addr) (m c : Nat) (news : List Value) (hl : news.length = m * i.size) (hnews : ∀ j u, news[j]? = some u → w.cell? (a.add j) = some u) (h1 : ∀ u ∈ news, u.oneCell' = true)
  (h63 : n + m ≤ maxLen) (hbytes : (n + m) * i.bytes ≤ 140737488355328) {v' : Value} {w' : World}
  (hr : (Builtin.append_ #[t, t] ty #[v, .slice (some a) m c]).run P w = .ok v' w') : w.drawn ≤ w'.drawn := by
 have hsmall : n + m ≤ 9223372036854775807 := by simp only [maxLen] at h63; omega
 rcases hown.2 with ⟨rfl, rfl⟩ | ⟨g, cap, cur, rfl, hbg, hg, hnc, hcm, hcs, htake⟩
 ·by_cases hm : m = 0
  ·subst hm
   have hn : news = [] := List.eq_nil_of_length_eq_zero (by simpa using hl)
   subst hn
   have h : (Builtin.append_ #[t, t] ty #[.slice none 0 0, .slice (some a) 0 c]).run P w = .ok (.slice none 0 0) w := by
    simp [Builtin.append_, run_underlying ht, sizeOf, typeInfo, hi, Builtin.lenOf, Builtin.firstCells, loadCells, loadCellsFrom]
   rw [h] at hr
   injection hr with _ hr
   subst hr
   exact Nat.le_refl _
  ·have h := run_append_nil (P := P) w t ty e i z ht hi hz a m c news hl hnews (by omega) (by omega) (by have hb := hbytes; simp only [Nat.zero_add] at hb; omega)
   rw [h] at hr
   injection hr with _ hr
   subst hr
   exact Nat.le_succ _
 ·by_cases hroom : n + m ≤ cap
  ·have hfit : n * i.size + news.length ≤ cur.size := by rw [hl, hcs, ← Nat.add_mul]; exact Nat.mul_le_mul_right _ hroom
   have h := run_append_room (P := P) w t ty e i ht hi g n cap cur hg a m c news hl hnews h1 hroom hfit
   rw [h] at hr
   injection hr with _ hr
   subst hr
   exact Nat.le_refl _
  ·have hk := hown.cells (g := g) rfl
   exact app_grows_drawn w t ty e i z ht hi hz ⟨g, 0, none⟩ n cap xs hown.1 hk a m c news hl hnews (by omega) h63 hbytes hr
theorem e_app_own {cl : Call} {x y : Operand} {t T : TypeId} {i : TypeInfo} {z : Value} {id : Nat} {v : Value} {rows0 rows : List (List V)} {xs : List Value} {next : Act → World → Prop} (ho : o.op = .call cl) (hc : cl.callee = .builtin .append) (hax : cl.args.toList = [x, y]) (hat : cl.argTypes.toList = [t, t])
  (ht : P.underlying t = some (.slice T)) (hi : P.info? T = some i) (hz : i.zero = some z) (h0 : 0 < i.size) (hzs : z.cells.size = i.size) (h : RelAt c st a w R G)
  (hv : a.eval x = v) (hown : w.ownsRow 0 T i.size v rows0.length xs) (hrows0 : RowsR w R G xs i.size rows0) (hs : srcRows st.H i.size (val st.env y) rows) (hm : rows0.length + rows.length ≤ maxLen) (hby : (rows0.length + rows.length) * i.bytes ≤ 140737488355328)
  (hold : ∀ b, v.ownBlock = some b → ∃ l0 e0, st.H id = some e0 ∧ G id = some l0 ∧ l0.gen = e0.gen ∧ l0.ft b)
  (hn : ∀ g x w' R' G', RelAt c { st with H := upd st.H id (some ⟨g, .t T, i.size, rows0 ++ rows⟩) } a w' R' G' → RV w' R' G' (.own id g) x → next (a.put o.dst x) w') : o.wp P a w next Q := by
 have key : ∀ v' w', (Builtin.append_ #[t, t] o.type #[a.eval x, a.eval y]).run P w = .ok v' w' → ∀ ys, w'.ownsRow 0 T i.size v' (rows0.length + rows.length) (xs ++ ys) → w.grownBy w' v.ownBlock → w.drawn ≤ w'.drawn → RowsR w R G ys i.size rows → (v'.ownBlock = v.ownBlock ∨ v'.ownBlock = some w.heap.size) → o.wp P a w next Q := fun v' w' hrun ys hown' hgr hdr hys hblk => by
  refine wp_value (run_app ho hc hax hat hrun) (hn (freshGen G id) v' w' R (upd G id (some ⟨freshGen G id, i.size, v', false, none⟩)) ?_ (.own _ _ _ (upd_same _ _ _) (Nat.le_refl _) _ fun _ => ⟨rfl, rfl⟩))
  have hle : Gle G (upd G id (some ⟨freshGen G id, i.size, v', false, none⟩)) := fun k m hm => by
   by_cases hk : k = id
   ·subst hk; exact ⟨_, upd_same _ _ _, .inr (freshGen_lt hm)⟩
   ·exact ⟨m, by rw [upd_ne _ _ hk]; exact hm, .inl (SameL.refl _)⟩
  have hst : ∀ b, R b → R b ∧ w'.heap[b]? = w.heap[b]? := fun b hb => ⟨hb, hgr.block b (h.lt b hb) (fun e => by
   obtain ⟨l0, e0, q1, q2, q25, q3⟩ := hold b e.symm
   exact (h.hr.mine id e0 l0 b q1 q2 q25 q3).1 hb)⟩
  refine h.set (hd := hdr) hgr (.inl rfl) hold (fun l0 hl0 => .inr (freshGen_lt hl0)) h0 (xs := xs ++ ys) ?_ ?_ ?_
  ·rw [List.length_append]; exact hown'
  ·exact rows_append hown.1 (hrows0.mono hst hle) (hys.mono hst hle)
  ·intro b hb
   rcases hblk with q | q
   ·exact .inl (by rw [← q]; exact hb)
   ·have hb2 : v'.ownBlock = some b := hb
    rw [q] at hb2; injection hb2 with hb2
    exact .inr (h.newBlk (by omega) id)
 rcases src_cells h (h.val y) hs with ⟨q1, b, c', q2, _⟩ | ⟨b, off, c', ys, q1, q2, q3, q4, q5, q6⟩
 ·subst q1
  have hsrc : Src P i.size t (a.eval y) 0 [] w := by
   rw [q2]
   cases b with
   | none => exact Src.ofNil w ht c'
   | some ad => exact Src.ofSlice w ht ad 0 c' [] (by simp) (by simp) (by simp)
  have hform : ∃ ad n cap, v = .slice ad n cap ∧ n ≤ cap := by
   rcases hown.2 with ⟨p, _⟩ | ⟨g, cap, cur, p, _, _, hnc, _⟩
   ·exact ⟨none, 0, 0, p, Nat.le_refl _⟩
   ·exact ⟨_, _, cap, p, hnc⟩
  obtain ⟨ad, n, cap, hvv, hnc⟩ := hform
  have hrun := run_append_nothing (P := P) w t t o.type T i ht hi ad n cap hnc (a.eval y) hsrc
  subst hvv
  refine key (.slice ad n cap) w (by rw [hv]; exact hrun) [] (by simpa using hown) ⟨rfl, rfl, rfl, Nat.le_refl _, fun _ _ _ => rfl⟩ (Nat.le_refl _) ⟨by simp, fun i j row u hi => by simp at hi⟩ (.inl rfl)
 ·obtain ⟨v', w', r1, r2, r3, _, r5⟩ := run_append_own_at (P := P) w 0 t o.type T i z i.size i.bytes ht hi hz rfl rfl hzs h0 v rows0.length xs hown ⟨b, off, none⟩ rows.length c' ys q3 (fun j u hu => by rw [add_row]; exact q4 j u hu) q5 hm hby (Nat.zero_le _)
  refine key v' w' (by rw [hv, q1]; exact r1) ys r2 r3 (app_own_drawn w t o.type T i z ht hi hz h0 hown ⟨b, off, none⟩ rows.length c' ys q3 (fun j u hu => by rw [add_row]; exact q4 j u hu) q5 hm hby r1) q6 r5
theorem own_prefix {w : World} {T : TypeId} {sz n k : Nat} {b cap : Nat} {xs : List Value} (h : w.ownsRow 0 T sz (.slice (some ⟨b, 0, none⟩) n cap) n xs) (hk : k ≤ n) : w.ownsRow 0 T sz (.slice (some ⟨b, 0, none⟩) k cap) k (xs.take (k * sz)) := by
 have hks : k * sz ≤ n * sz := Nat.mul_le_mul_right _ hk
 obtain ⟨h1, h2⟩ := h
 refine ⟨by rw [List.length_take, h1]; omega, ?_⟩
 rcases h2 with ⟨q, _⟩ | ⟨g, cap', cur, q, h0, hh, hnc, hcm, hcs, htk⟩
 ·cases q
 ·injection q with q1 q2 q3
  injection q1 with q1; injection q1 with q1
  subst q1 q3
  refine .inr ⟨b, cap, cur, rfl, h0, hh, by omega, hcm, hcs, ?_⟩
  rw [← htk, List.take_take, Nat.min_eq_left hks]
theorem e_slc {t T : TypeId} {x : Operand} {lo hi : Option Operand} {j : TypeInfo} {id gen n : Nat} {e : Ent} {next : Act → World → Prop} (ho : o.op = .slice t x lo hi none) (ht : P.underlying t = some (.slice T)) (hj : P.info? T = some j)
  (h : RelAt c st a w R G) (hv : val st.env x = .own id gen) (he : st.H id = some e) (hg : e.gen = gen) (hsz : e.sz = j.size) (hl : loV st.env lo 0) (hhi : hiV st.env e.rows.length hi n) (hn : n ≤ e.rows.length)
  (hk : ∀ g x w' R' G', RelAt c { st with H := upd st.H id (some ⟨g, e.T, e.sz, e.rows.take n⟩) } a w' R' G' → RV w' R' G' (.own id g) x → next (a.put o.dst x) w') : o.wp P a w next Q := by
 obtain ⟨l, xs, T0, g1, g2, g3, g4, g5, g6, hax, hT0, hop0, hbx0⟩ := h.objO (hv ▸ h.val x) he hg
 have hrl : (e.rows.take n).length = n := by rw [List.length_take]; omega
 have hnx : n * e.sz ≤ e.rows.length * e.sz := Nat.mul_le_mul_right _ hn
 have key : ∀ v' : Value, (execOp a.eval o).run P w = .ok (.value v') w → w.ownsRow 0 T0 e.sz v' n (xs.take (n * e.sz)) → (∀ b, v'.ownBlock = some b → l.val.ownBlock = some b) → o.wp P a w next Q := fun v' hrun hown hblk => by
  refine wp_value hrun (hk (freshGen G id) v' w R (upd G id (some ⟨freshGen G id, e.sz, v', false, none⟩)) ?_ (.own _ _ _ (upd_same _ _ _) (Nat.le_refl _) _ fun _ => ⟨rfl, rfl⟩))
  have hle : Gle G (upd G id (some ⟨freshGen G id, e.sz, v', false, none⟩)) := fun k m hm => by
   by_cases hk : k = id
   ·subst hk; exact ⟨_, upd_same _ _ _, .inr (freshGen_lt hm)⟩
   ·exact ⟨m, by rw [upd_ne _ _ hk]; exact hm, .inl (SameL.refl _)⟩
  refine h.set (row := l.val.ownBlock) ⟨rfl, rfl, rfl, Nat.le_refl _, fun _ _ _ => rfl⟩ (.inl hT0) (fun b hb => ⟨l, e, he, g1, g2.trans hg.symm, (Loc.ft_of hop0).2 hb⟩) (fun l0 hl0 => .inr (freshGen_lt hl0)) g4 (xs := xs.take (n * e.sz)) ?_ ?_ ?_
  ·rw [hrl]; exact hown
  ·refine ⟨fun row hr => g6.1 row (List.mem_of_mem_take hr), fun i k row u hi hk => ?_⟩
   have hi' : (e.rows.take n)[i]? = some row := hi
   have hi2 : i < n := by have := (List.getElem?_eq_some_iff.1 hi').1; omega
   rw [List.getElem?_take_of_lt hi2] at hi'
   have hi := hi'
   obtain ⟨y, p1, p2, p3⟩ := g6.2 i k row u hi hk
   have hks : k < e.sz := by
    have := (List.getElem?_eq_some_iff.1 hk).1
    rw [g6.1 row (List.mem_of_getElem? hi)] at this; exact this
   have hlt : i * e.sz + k < n * e.sz := by
    have : (i + 1) * e.sz ≤ n * e.sz := Nat.mul_le_mul_right _ hi2
    rw [Nat.add_mul] at this; omega
   exact ⟨y, by rw [List.getElem?_take_of_lt hlt]; exact p1, p2, p3.mono (fun b hb => ⟨hb, rfl⟩) hle⟩
  ·intro b hb
   exact .inl (hblk b hb)
 rcases own_val g5 with ⟨q1, q2⟩ | ⟨b, cap, q1, hb⟩
 ·have hn0 : n = 0 := by rw [q2] at hn; simpa using hn
  subst hn0
  refine key (.slice none 0 0) ?_ (by simpa using World.ownsRow_nil w 0 T0 e.sz) (fun b hb => by cases hb)
  unfold execOp; rw [ho]
  refine run_v _ ?_
  have hb := run_sliceBounds (P := P) (isS := true) (cap := 0) h hl hhi (.inl ⟨rfl, rfl⟩) (Nat.le_refl _) (Nat.le_refl _) (Nat.le_refl _)
  rw [hax, q1]
  rw [q2] at hb
  simp only [Option.map_none, List.length_nil] at hb
  simp [Instr.sliceAt, run_underlying ht, Instr.slice, hb, sizeOf, typeInfo, hj]
 ·rw [q1] at g5
  have hcap : e.rows.length ≤ cap := by
   rcases g5.2 with ⟨q, _⟩ | ⟨g', cap', cur, q, _, _, hnc, _⟩
   ·cases q
   ·injection q with _ _ q; omega
  refine key (.slice (some ⟨b, 0, none⟩) n cap) ?_ (own_prefix g5 hn) (fun b' hb' => by rw [hb]; exact hb')
  unfold execOp; rw [ho]
  refine run_v _ ?_
  have hbd := run_sliceBounds (P := P) (isS := true) (cap := cap) h hl hhi (.inl ⟨rfl, rfl⟩) (Nat.zero_le _) (Nat.le_trans hn hcap) (Nat.le_refl _)
  rw [hax, q1]
  simp only [Option.map_none] at hbd
  simp [Instr.sliceAt, run_underlying ht, Instr.slice, hbd, sizeOf, typeInfo, hj, add_row]
theorem e_app_clip {cl : Call} {x y : Operand} {t T : TypeId} {i : TypeInfo} {z : Value} {id : Nat} {rows0 rows : List (List V)} {next : Act → World → Prop} (ho : o.op = .call cl) (hc : cl.callee = .builtin .append) (hax : cl.args.toList = [x, y]) (hat : cl.argTypes.toList = [t, t])
  (ht : P.underlying t = some (.slice T)) (hi : P.info? T = some i) (hz : i.zero = some z) (h0 : 0 < i.size) (hzs : z.cells.size = i.size) (h : RelAt c st a w R G)
  (hv : val st.env x = .sl true rows0) (hne : rows ≠ []) (hr0 : ∀ row ∈ rows0, row.length = i.size ∧ ones st.H row) (hs : srcRows st.H i.size (val st.env y) rows) (hm : rows0.length + rows.length ≤ maxLen) (hby : (rows0.length + rows.length) * i.bytes ≤ 140737488355328)
  (hn : ∀ g x w' R' G', RelAt c { st with H := upd st.H id (some ⟨g, .t T, i.size, rows0 ++ rows⟩) } a w' R' G' → RV w' R' G' (.own id g) x → next (a.put o.dst x) w') : o.wp P a w next Q := by
 rcases src_cells h (h.val y) hs with ⟨q1, _⟩ | ⟨b, off, c', ys, q1, q2, q3, q4, q5, q6⟩
 ·exact absurd q1 hne
 ·rcases src_cells (rows := rows0) h (hv ▸ h.val x) (show srcRows st.H i.size (.sl true rows0) rows0 from ⟨rfl, hr0⟩) with ⟨p1, ad, cap, p2, _⟩ | ⟨b', off', cap, xs, p1, p2, p3, p4, p5, p6⟩
  ·have hcap : cap = 0 := by
    have hh := h.val x
    rw [hv, p2, p1] at hh
    cases hh with
    | nil clip a cap hc => exact hc rfl
    | sl clip rows b off cap sz f hR hcap hclip => exact hclip rfl
   subst hcap
   subst p1
   cases ad with
   | none =>
    exact e_app_own (rows0 := []) (xs := []) ho hc hax hat ht hi hz h0 hzs h p2 (World.ownsRow_nil _ _ _ _) ⟨by simp, fun i j row u hi => by simp at hi⟩ hs hm hby (fun b hb => by cases hb) hn
   | some ad =>
    obtain ⟨v', w', r1, r2, r3⟩ := run_append_arg_grows (P := P) w t o.type T i z i.size i.bytes ht hi hz rfl rfl hzs h0 ad 0 0 [] (by simp) (by simp) ⟨b, off, none⟩ rows.length c' ys q3 (fun j u hu => by rw [add_row]; exact q4 j u hu)
     (by have := List.length_pos_iff.2 hne; omega) (by simpa using hm) (by simpa using hby)
    simp only [Nat.zero_add, List.nil_append] at r2
    have hlt := fun b hb => (r2.lt b hb).1
    refine wp_value (run_app ho hc hax hat (by rw [p2, q1]; exact r1)) (hn (freshGen G id) v' w' R (upd G id (some ⟨freshGen G id, i.size, v', false, none⟩)) ?_ (.own _ _ _ (upd_same _ _ _) (Nat.le_refl _) _ fun _ => ⟨rfl, rfl⟩))
    refine h.set (hd := app_grows_drawn w t o.type T i z ht hi hz ad 0 0 [] (by simp) (by simp) ⟨b, off, none⟩ rows.length c' ys q3 (fun j u hu => by rw [add_row]; exact q4 j u hu) (by have := List.length_pos_iff.2 hne; omega) (by simpa using hm) (by simpa using hby) r1) r3 (.inl rfl) (by simp) (fun l0 hl0 => .inr (freshGen_lt hl0)) h0 (xs := ys) ?_ ?_ ?_
    ·obtain ⟨e1, e2⟩ := r2
     refine ⟨by simpa using e1, ?_⟩
     rcases e2 with e2 | ⟨g, cap, cur, e2, _, e3⟩
     ·exact .inl (by simpa using e2)
     ·exact .inr ⟨g, cap, cur, by simpa using e2, Nat.zero_le _, by simpa using e3⟩
    ·rw [List.nil_append]
     refine q6.mono (fun b hb => ⟨hb, r3.block b (h.lt b hb) (by simp)⟩) (fun k m hm => ?_)
     by_cases hk : k = id
     ·subst hk; exact ⟨_, upd_same _ _ _, .inr (freshGen_lt hm)⟩
     ·exact ⟨m, by rw [upd_ne _ _ hk]; exact hm, .inl (SameL.refl _)⟩
    ·intro b hb
     exact .inr (h.newBlk (hlt b hb) id)
  ·have hcap : cap = rows0.length := by
    have hh := h.val x
    rw [hv, p1] at hh
    generalize hrr : rows0 = rr at hh
    generalize hcc : cap = cc at hh
    generalize hll : rr.length = ll at hh
    cases hh with
    | nil clip a cap hc => exact absurd hrr p2
    | sl clip rows b off cap sz f hR hcap hclip => simpa using hclip rfl
   subst hcap
   obtain ⟨v', w', r1, r2, r3⟩ := run_append_arg_grows (P := P) w t o.type T i z i.size i.bytes ht hi hz rfl rfl hzs h0 ⟨b', off', none⟩ rows0.length rows0.length xs p3 (fun j u hu => by rw [add_row]; exact p4 j u hu) ⟨b, off, none⟩ rows.length c' ys q3 (fun j u hu => by rw [add_row]; exact q4 j u hu)
    (by have := List.length_pos_iff.2 hne; omega) hm hby
   have hlt := fun b hb => (r2.lt b hb).1
   have hle : Gle G (upd G id (some ⟨freshGen G id, i.size, v', false, none⟩)) := fun k m hm => by
    by_cases hk : k = id
    ·subst hk; exact ⟨_, upd_same _ _ _, .inr (freshGen_lt hm)⟩
    ·exact ⟨m, by rw [upd_ne _ _ hk]; exact hm, .inl (SameL.refl _)⟩
   have hst : ∀ b, R b → R b ∧ w'.heap[b]? = w.heap[b]? := fun b hb => ⟨hb, r3.block b (h.lt b hb) (by simp)⟩
   refine wp_value (run_app ho hc hax hat (by rw [p1, q1]; exact r1)) (hn (freshGen G id) v' w' R (upd G id (some ⟨freshGen G id, i.size, v', false, none⟩)) ?_ (.own _ _ _ (upd_same _ _ _) (Nat.le_refl _) _ fun _ => ⟨rfl, rfl⟩))
   refine h.set (hd := app_grows_drawn w t o.type T i z ht hi hz ⟨b', off', none⟩ rows0.length rows0.length xs p3 (fun j u hu => by rw [add_row]; exact p4 j u hu) ⟨b, off, none⟩ rows.length c' ys q3 (fun j u hu => by rw [add_row]; exact q4 j u hu) (by have := List.length_pos_iff.2 hne; omega) hm hby r1) r3 (.inl rfl) (by simp) (fun l0 hl0 => .inr (freshGen_lt hl0)) h0 (xs := xs ++ ys) ?_ (rows_append p3 (p6.mono hst hle) (q6.mono hst hle)) ?_
   ·obtain ⟨e1, e2⟩ := r2
    refine ⟨by simpa using e1, ?_⟩
    rcases e2 with e2 | ⟨g, cap, cur, e2, _, e3⟩
    ·exact .inl (by simpa using e2)
    ·exact .inr ⟨g, cap, cur, by simpa using e2, Nat.zero_le _, by simpa using e3⟩
   ·intro b hb
    exact .inr (h.newBlk (hlt b hb) id)
theorem e_app_oclip {cl : Call} {x y : Operand} {t T : TypeId} {i : TypeInfo} {z : Value} {id id0 gen n : Nat} {e : Ent} {rows : List (List V)} {next : Act → World → Prop} (ho : o.op = .call cl) (hc : cl.callee = .builtin .append) (hax : cl.args.toList = [x, y]) (hat : cl.argTypes.toList = [t, t])
  (ht : P.underlying t = some (.slice T)) (hi : P.info? T = some i) (hz : i.zero = some z) (h0 : 0 < i.size) (hzs : z.cells.size = i.size) (h : RelAt c st a w R G)
  (hv : val st.env x = .oclip id0 gen n) (he : st.H id0 = some e) (hg : e.gen = gen) (hsz : e.sz = i.size) (hnl : n ≤ e.rows.length) (hne : rows ≠ []) (hs : srcRows st.H i.size (val st.env y) rows) (hm : n + rows.length ≤ maxLen) (hby : (n + rows.length) * i.bytes ≤ 140737488355328)
  (hn : ∀ g x w' R' G', RelAt c { st with H := upd st.H id (some ⟨g, .t T, i.size, e.rows.take n ++ rows⟩) } a w' R' G' → RV w' R' G' (.own id g) x → next (a.put o.dst x) w') : o.wp P a w next Q := by
 obtain ⟨l, xs0, T0, g1, g2, g3, g4, g5, g6, hcl, hT0, hop0, hbx0⟩ := h.objC (hv ▸ h.val x) he hg
 have hrl : (e.rows.take n).length = n := by rw [List.length_take]; omega
 rcases hcl with ⟨q1, rfl, p2⟩ | ⟨b', m, cap, q1, p1, p2⟩
 ·exact e_app_own (rows0 := []) (xs := []) ho hc hax hat ht hi hz h0 hzs h p2 (World.ownsRow_nil _ _ _ _) ⟨by simp, fun i j row u hi => by simp at hi⟩ hs (by simpa using hm) (by simpa using hby) (fun b hb => by cases hb) (by simpa using hn)
 ·rcases src_cells h (h.val y) hs with ⟨q1, _⟩ | ⟨b, off, c', ys, k1, k2, k3, k4, k5, k6⟩
  ·exact absurd q1 hne
  ·have hb : l.val.ownBlock = some b' := by rw [q1]; rfl
   have hnx : n * i.size ≤ e.rows.length * i.size := Nat.mul_le_mul_right _ hnl
   have hxl : xs0.length = e.rows.length * i.size := by rw [← hsz]; exact g5.1
   have r0 : RowsR w R G (xs0.take (n * i.size)) i.size (e.rows.take n) := by
    refine ⟨fun row hr => by rw [← hsz]; exact g6.1 row (List.mem_of_mem_take hr), fun j k row u hj hk => ?_⟩
    have hj2 : j < n := by have := (List.getElem?_eq_some_iff.1 hj).1; omega
    rw [List.getElem?_take_of_lt hj2] at hj
    obtain ⟨y, p1, p2, p3⟩ := g6.2 j k row u hj hk
    have hks : k < i.size := by
     have := (List.getElem?_eq_some_iff.1 hk).1
     rw [g6.1 row (List.mem_of_getElem? hj), hsz] at this; exact this
    have hlt : j * i.size + k < n * i.size := by
     have : (j + 1) * i.size ≤ n * i.size := Nat.mul_le_mul_right _ hj2
     rw [Nat.add_mul] at this; omega
    rw [hsz] at p1
    exact ⟨y, by rw [List.getElem?_take_of_lt hlt]; exact p1, p2, p3⟩
   have p3' : (xs0.take (n * i.size)).length = n * i.size := by rw [List.length_take]; omega
   have p4 : ∀ j u, (xs0.take (n * i.size))[j]? = some u → w.cell? ((⟨b', 0, none⟩ : Addr).add j) = some u := fun j u hu => by
    have hj : j < n * i.size := by have := (List.getElem?_eq_some_iff.1 hu).1; omega
    rw [List.getElem?_take_of_lt hj] at hu
    rw [add_row, Nat.zero_add]
    exact own_cell g5 hb hu
   obtain ⟨v', w', r1, r2, r3⟩ := run_append_arg_grows (P := P) w t o.type T i z i.size i.bytes ht hi hz rfl rfl hzs h0 ⟨b', 0, none⟩ n n (xs0.take (n * i.size)) p3' p4 ⟨b, off, none⟩ rows.length c' ys k3 (fun j u hu => by rw [add_row]; exact k4 j u hu)
    (by have := List.length_pos_iff.2 hne; omega) hm hby
   have hlt := fun b hb => (r2.lt b hb).1
   have hle : Gle G (upd G id (some ⟨freshGen G id, i.size, v', false, none⟩)) := fun k m hm => by
    by_cases hk : k = id
    ·subst hk; exact ⟨_, upd_same _ _ _, .inr (freshGen_lt hm)⟩
    ·exact ⟨m, by rw [upd_ne _ _ hk]; exact hm, .inl (SameL.refl _)⟩
   have hst : ∀ b, R b → R b ∧ w'.heap[b]? = w.heap[b]? := fun b hb => ⟨hb, r3.block b (h.lt b hb) (by simp)⟩
   refine wp_value (run_app ho hc hax hat (by rw [p2, k1]; exact r1)) (hn (freshGen G id) v' w' R (upd G id (some ⟨freshGen G id, i.size, v', false, none⟩)) ?_ (.own _ _ _ (upd_same _ _ _) (Nat.le_refl _) _ fun _ => ⟨rfl, rfl⟩))
   refine h.set (hd := app_grows_drawn w t o.type T i z ht hi hz ⟨b', 0, none⟩ n n (xs0.take (n * i.size)) p3' p4 ⟨b, off, none⟩ rows.length c' ys k3 (fun j u hu => by rw [add_row]; exact k4 j u hu) (by have := List.length_pos_iff.2 hne; omega) hm hby r1) r3 (.inl rfl) (by simp) (fun l0 hl0 => .inr (freshGen_lt hl0)) h0 (xs := xs0.take (n * i.size) ++ ys) ?_ (rows_append (by rw [hrl]; exact p3') (r0.mono hst hle) (k6.mono hst hle)) ?_
   ·obtain ⟨e1, e2⟩ := r2
    have hll : (e.rows.take n ++ rows).length = n + rows.length := by rw [List.length_append, hrl]
    refine ⟨by rw [hll]; exact e1, ?_⟩
    rcases e2 with e2 | ⟨g, cap, cur, e2, _, e3⟩
    ·exact .inl (by rw [hll]; simpa using e2)
    ·exact .inr ⟨g, cap, cur, by rw [hll]; simpa using e2, Nat.zero_le _, by rw [hll]; simpa using e3⟩
   ·intro b hb
    exact .inr (h.newBlk (hlt b hb) id)
set_option maxHeartbeats 1000000 in
theorem eff_sound (hres : resOp P o = some r) (h : RelAt c st a w R G) {K : V → List (Nat × Option Ent) → Prop} (hs : stepE P r st.env st.H st.D (16 * d) K) {next : Act → World → Prop}
  (hK : ∀ u dH, K u dH → ∀ x w' R' G', RelAt c { st with H := addH st.H dH } a w' R' G' → RV w' R' G' u x → next (a.put o.dst x) w')
  (hdie : ∀ v, st.D v → ∀ w', Fr c.L c.w0 w' → Q (.panic [{ v := v, recovered := false }]) a w') : o.wp P a w next Q := by
 have hids : ∀ k, k < 16 → (16 * d + k) / 16 = d := fun k hk => by omega
 have hcall : ∀ {f : FuncId} {xs : List Value} {us : List V}, (Callable P f → (execOp a.eval o).run P w = .ok (.enter f xs.toArray) w) → us.length = xs.length → (∀ (i : Nat) (u : V) (x : Value), us[i]? = some u → xs[i]? = some x → RV w R G u x) → callE P st.H st.D (16 * d) f us K → o.wp P a w next Q := fun hr hl hh hc => by
  rcases hc with ⟨ps, rs, bor, gone, hA, hF, hfl, hrs, hk⟩ | ⟨ps, rs, bor, gone, hA, hF, hfl, hout, hnd, hk⟩ | ⟨ps, bor, gone, v, hA, hF, hD⟩
  ·exact q_call (g := freshGen G) hids (fun id _ l0 hl0 => freshGen_lt hl0) h (hr hF.1) hl hh hA hF hfl hrs next (fun x w' R' G' h1 h2 _ => hK _ _ (hk _) x w' R' G' h1 h2)
  ·exact q_callM (g := freshGen G) (fun id l0 hl0 => freshGen_lt hl0) h (hr hF.1) hl hh hA hF hfl hout hnd (fun x w' R' G' h1 h2 => hK _ _ (hk _) x w' R' G' h1 h2)
  ·exact q_die h (hr hF.1) hl hh hA hF (fun w' hfr => hdie v hD w' hfr)
 cases hop : o.op with
 | slice t x lo hi mx =>
  have hres0 := hres
  simp only [resOp, hop] at hres
  split at hres
  ·split at hres
   ·simp only [Option.some.injEq] at hres; subst hres; exact hs.elim
   ·cases hres
  ·rename_i T ht
   split at hres
   ·rename_i j hj
    split at hres
    ·simp only [Option.some.injEq] at hres; subst hres
     simp only [stepE] at hs
     split at hs
     ·rename_i id gen hx
      obtain ⟨e, md, l, n, h1, h2, h3, h4, h5, h6, h7, h8⟩ := hs
      split at h8
      ·obtain ⟨rfl, rfl, h8⟩ := h8
       exact e_slc hop ht hj h hx h1 h2 h3 h4 h5 h7 (fun g x w' R' G' hR hV => hK _ _ (h8 g) x w' R' G' hR hV)
      ·obtain ⟨rfl, h8⟩ := h8
       exact q_part (Q := Q) (d := d) hop ht hj h hx h1 h2 h3 h4 h5 h6 h7 next (fun x w' R' G' hR hV _ => hK _ _ h8 x w' R' G' hR hV)
      ·obtain ⟨rfl, h9, y, kd, rfl, h10, h13⟩ := h8
       exact q_clip (Q := Q) (d := d) hop ht hj h hx h1 h2 h4 h5 h9 h10 h7 next (fun x w' R' G' hR hV _ => hK _ _ h13 x w' R' G' hR hV)
      ·obtain ⟨y, m, kd, rfl, h9, h10, h11, h12, h13⟩ := h8
       exact q_slc3 (Q := Q) (d := d) hop ht hj h hx h1 h2 h4 h5 h9 h10 h6 h11 h12 next (fun x w' R' G' hR hV _ => hK _ _ h13 x w' R' G' hR hV)
     ·rename_i id gen lo0 hi0 hx
      obtain ⟨e, l, k, h1, h2, h3, h4, h5, h6, h7, rfl, h8, h9⟩ := hs
      exact q_sub (Q := Q) (d := d) hop ht hj h (hx ▸ h.val x) h1 h2 h3 h4 h5 h6 h7 h8 next (fun x w' R' G' hR hV _ => hK _ _ h9 x w' R' G' hR hV)
     ·rename_i clip rows hx
      obtain ⟨l, k, h1, h2, h3, h4, h5, h6⟩ := hs
      cases mx with
      | none => exact q_slcL (Q := Q) (d := d) hop ht hj h hx h1 h2 h3 h4 h5 (.inl ⟨rfl, rfl⟩) next (fun x w' R' G' hR hV _ => hK _ _ h6 x w' R' G' hR hV)
      | some y =>
       obtain ⟨h7, ⟨kd, hk⟩, h8⟩ := h6
       exact q_slcL (Q := Q) (d := d) hop ht hj h hx h1 h2 h3 h4 h5 (.inr ⟨y, kd, rfl, h7, hk⟩) next (fun x w' R' G' hR hV _ => hK _ _ h8 x w' R' G' hR hV)
     ·exact hs.elim
    ·cases hres
   ·cases hres
  ·cases hres
 | store t x y =>
  simp only [resOp, hop] at hres
  split at hres
  ·rename_i i hi
   simp only [Option.some.injEq] at hres; subst hres
   simp only [stepE] at hs
   split at hs
   ·rename_i id gen k off hv
    obtain ⟨e, row, us, h1, h2, h3, h4, h5, h6, h7, h8⟩ := hs
    exact e_store hop hi h hv h1 h2 h3 h4 h5 h6 h7 (fun x w' R' G' hR hV _ => hK _ _ h8 x w' R' G' hR hV)
   ·exact hs.elim
  ·cases hres
 | call cl =>
  obtain ⟨callee, args, argTypes⟩ := cl
  cases callee with
  | value f =>
   simp only [resOp, hop, Option.some.injEq] at hres; subst hres
   simp only [stepE] at hs
   obtain ⟨e1, e2⟩ := args_rel h args.toList
   split at hs
   ·rename_i f' hf
    have hx : a.eval f = .func (.func f') #[] ([] : List Value).toArray := rv_v (hf ▸ h.val f)
    refine hcall (us := args.toList.map (val st.env)) (xs := args.toList.map a.eval) (fun hcb => ?_) e1 e2 hs
    have hr := run_call (P := P) (w := w) hop rfl hx hcb
    rw [List.append_nil] at hr
    exact hr
   ·rename_i f' caps hf
    have hv := h.val f
    rw [hf] at hv
    generalize hax : a.eval f = ax at hv
    cases hv with
    | clo f' caps xs hl hh =>
     refine hcall (us := args.toList.map (val st.env) ++ caps) (xs := args.toList.map a.eval ++ xs) (fun hcb => run_call (P := P) (w := w) hop rfl hax hcb) (by simp [hl]) ?_ hs
     intro i u x g1 g2
     by_cases hi : i < (args.toList.map (val st.env)).length
     ·rw [List.getElem?_append_left hi] at g1
      rw [List.getElem?_append_left (by simpa using hi)] at g2
      exact e2 i u x g1 g2
     ·rw [List.getElem?_append_right (by omega)] at g1
      rw [List.getElem?_append_right (by simpa using hi)] at g2
      exact hh _ u x (by simpa using g1) (by simpa using g2)
   ·exact hs.elim
  | invoke f m => simp [resOp, hop] at hres
  | builtin b =>
   cases b with
   | max =>
    simp only [resOp, hop] at hres
    split at hres
    ·simp only [Option.some.injEq] at hres; subst hres; exact hs.elim
    ·cases hres
   | min =>
    simp only [resOp, hop] at hres
    split at hres
    ·simp only [Option.some.injEq] at hres; subst hres; exact hs.elim
    ·cases hres
   | append =>
    simp only [resOp, hop] at hres
    split at hres
    ·rename_i x y t t' hax hat
     split at hres
     ·rename_i htt
      subst htt
      split at hres
      ·rename_i e ht
       split at hres
       ·rename_i i hi
        split at hres
        ·rename_i z hz
         split at hres
         ·rename_i h0
          simp only [Bool.and_eq_true, decide_eq_true_eq, beq_iff_eq] at h0
          simp only [Option.some.injEq] at hres; subst hres
          simp only [stepE] at hs
          split at hs
          ·rename_i id gen lo0 k hx
           split at hs
           ·rename_i id' gen' lo hi' hy
            obtain ⟨en, h1, h2, rfl, rfl, rfl, h3, h4, h5, h6, h7⟩ := hs
            exact e_app_sub hop rfl hax hat ht hi h hx hy h1 h2 h3 h4 h5 h6 (fun x w' R' G' hR hV => hK _ _ h7 x w' R' G' hR hV)
           ·exact hs.elim
          ·rename_i id gen hx
           obtain ⟨rows, hsrc, en, h1, h2, hT, h3, h4, h5, h6⟩ := hs
           obtain ⟨l, xs, T0, g1, g2, g3, g4, g5, g6, hae, hT0, hop0, hbx0⟩ := h.objO (hx ▸ h.val x) h1 h2
           rw [h3] at g5 g6
           rw [hT] at hT0; injection hT0 with hT0; subst hT0
           exact e_app_own hop rfl hax hat ht hi hz h0.1 h0.2 h hae g5 g6 hsrc h4 h5 (fun b hb => ⟨l, en, h1, g1, g2.trans h2.symm, (Loc.ft_of hop0).2 hb⟩) (fun g x w' R' G' hR hV => hK _ _ (h6 g) x w' R' G' hR hV)
          ·rename_i hx
           obtain ⟨rows, hsrc, h1, h2, h3⟩ := hs
           exact e_app_own (rows0 := []) (xs := []) hop rfl hax hat ht hi hz h0.1 h0.2 h (rv_v (hx ▸ h.val x)) (World.ownsRow_nil _ _ _ _) ⟨by simp, fun i j row u hi => by simp at hi⟩ hsrc (by simpa using h1) (by simpa using h2) (fun b hb => by cases hb)
            (fun g x w' R' G' hR hV => hK _ _ (h3 g) x w' R' G' hR hV)
          ·rename_i rows0 hx
           obtain ⟨rows, hsrc, h1, h2, h3, h4, h5⟩ := hs
           exact e_app_clip hop rfl hax hat ht hi hz h0.1 h0.2 h hx h1 h2 hsrc h3 h4 (fun g x w' R' G' hR hV => hK _ _ (h5 g) x w' R' G' hR hV)
          ·rename_i id gen n hx
           obtain ⟨rows, hsrc, e, h1, h2, h3, h4, h5, h6, h7, h8⟩ := hs
           exact e_app_oclip hop rfl hax hat ht hi hz h0.1 h0.2 h hx h1 h2 h4 h5 h3 hsrc h6 h7 (fun g x w' R' G' hR hV => hK _ _ (h8 g) x w' R' G' hR hV)
          ·exact hs.elim
         ·cases hres
        ·cases hres
       ·cases hres
      ·cases hres
     ·cases hres
    ·cases hres
   | clear =>
    simp only [resOp, hop] at hres
    split at hres
    ·rename_i x t hax hat
     split at hres
     ·rename_i e ht
      split at hres
      ·rename_i i hi
       split at hres
       ·rename_i z hz
        split at hres
        ·rename_i h0
         simp only [Bool.and_eq_true, decide_eq_true_eq, beq_iff_eq] at h0
         simp only [Option.some.injEq] at hres; subst hres
         simp only [stepE] at hs
         split at hs
         ·rename_i id gen lo hi' hx
          obtain ⟨en, h1, h2, h3, h4, h5, h6⟩ := hs
          exact e_clr hop rfl hax hat ht hi hz h0.1.1 h0.1.2 h0.2 h hx h1 h2 h3 h4 h5 (fun x w' R' G' hR hV => hK _ _ h6 x w' R' G' hR hV)
         ·exact hs.elim
        ·cases hres
       ·cases hres
      ·cases hres
     ·cases hres
    ·cases hres
   | len =>
    simp only [resOp, hop] at hres
    split at hres
    ·split at hres
     ·simp only [Option.some.injEq] at hres; subst hres; exact hs.elim
     ·simp only [Option.some.injEq] at hres; subst hres; exact hs.elim
     ·simp only [Option.some.injEq] at hres; subst hres; exact hs.elim
     ·cases hres
    ·cases hres
   | _ => simp [resOp, hop] at hres
 | panic x =>
  simp only [resOp, hop, Option.some.injEq] at hres; subst hres
  simp only [stepE] at hs
  split at hs
  ·rename_i t y hx
   have e1 : a.eval x = .iface t y := rv_v (hx ▸ h.val x)
   have hr : (execOp a.eval o).run P w = .halt (.panic (.iface t y)) w := by
    unfold execOp; rw [hop]; simp [e1, Instr.panic, goPanic]
   unfold Oper.wp; rw [hr]
   exact hdie _ hs w h.fr
  ·exact hs.elim
 | makeInterface t x =>
  exfalso
  simp only [resOp, hop] at hres
  repeat' (split at hres)
  all_goals first | (cases hres; done) | (simp only [Option.some.injEq] at hres; subst hres; exact hs.elim)
 | makeMap t rs => cases rs <;> simp only [resOp, hop, reduceCtorEq, Option.some.injEq] at hres <;> subst hres <;> exact hs.elim
 | mapUpdate t x y z =>
  simp only [resOp, hop] at hres
  split at hres
  ·rename_i kt et ht
   split at hres
   ·rename_i kd hkt
    split at hres
    ·rename_i hkk
     simp only [Option.some.injEq] at hres; subst hres
     simp only [stepE] at hs
     split at hs
     ·rename_i id gen hx
      obtain ⟨e, ents, kv, r, h1, h2, h3, h4, h5, h6, h7⟩ := hs
      exact e_mupd (.inl hop) ht hkt hkk h hx h1 h2 h3 h4 rfl h5 h6 (fun x w' R' G' hR hV => hK _ _ h7 x w' R' G' hR hV)
     ·exact hs.elim
    ·cases hres
   ·cases hres
  ·cases hres
 | insert t x y z =>
  simp only [resOp, hop] at hres
  split at hres
  ·rename_i kt et ht
   split at hres
   ·rename_i kd hkt
    split at hres
    ·rename_i hkk
     simp only [Option.some.injEq] at hres; subst hres
     simp only [stepE] at hs
     split at hs
     ·rename_i id gen hx
      obtain ⟨e, ents, kv, r, h1, h2, h3, h4, h5, h6, h7⟩ := hs
      exact e_mupd (.inr hop) ht hkt hkk h hx h1 h2 h3 h4 rfl h5 h6 (fun x w' R' G' hR hV => hK _ _ h7 x w' R' G' hR hV)
     ·exact hs.elim
    ·cases hres
   ·cases hres
  ·cases hres
 | move => simp only [resOp, hop, Option.some.injEq] at hres; subst hres; exact hs.elim
 | assign => simp only [resOp, hop, Option.some.injEq] at hres; subst hres; exact hs.elim
 | pick => simp only [resOp, hop, Option.some.injEq] at hres; subst hres; exact hs.elim
 | extract => simp only [resOp, hop, Option.some.injEq] at hres; subst hres; exact hs.elim
 | unOp op t x => cases op <;> simp only [resOp, hop, Option.some.injEq, reduceCtorEq] at hres <;> subst hres <;> exact hs.elim
 | binOp op t x y t' =>
  have kn : ∀ (neg : Bool) (e : TypeId), op = (if neg then .neq else .eql) → P.underlying t = some (.slice e) → y = .const (.slice none 0 0) → r = .isnil neg x → o.wp P a w next Q := fun neg e hn ht hy hr => by
   subst hr hy
   simp only [stepE] at hs
   split at hs
   ·rename_i ad n cap hx
    have hax := rv_v (hx ▸ h.val x)
    refine e_isnil hop hn ht h (fun b hb => ?_) ⟨ad, n, cap, hax⟩
    rw [hb ad n cap hax]
    exact hK _ _ hs _ w R G h (.v _)
   ·rename_i cl rows hx
    have hv := h.val x
    rw [hx] at hv
    generalize hax : a.eval x = ax at hv
    cases hv with
    | nil c ad cap hc =>
     refine e_isnil hop hn ht h (fun b hb => hK _ _ (hs b (fun _ => rfl)) _ w R G h (.v _)) ⟨ad, 0, cap, hax⟩
    | sl c rows b off cap sz f hR hcap hclip hss hcell hh =>
     refine e_isnil hop hn ht h (fun b' hb => hK _ _ (hs b' (fun q => ?_)) _ w R G h (.v _)) ⟨_, _, _, hax⟩
     rw [hb _ _ _ hax] at q; cases q
   ·rename_i id gen hx
    obtain ⟨e', h1, h2, h3⟩ := hs
    obtain ⟨l, xs, T0, g1, g2, g3, g4, g5, g6, hax, hT0, hop0, hbx0⟩ := h.objO (hx ▸ h.val x) h1 h2
    rcases own_val g5 with ⟨q1, q2⟩ | ⟨b, cap, q1, _⟩
    ·refine e_isnil hop hn ht h (fun b hb => hK _ _ (h3 b (fun _ => q2)) _ w R G h (.v _)) ⟨_, _, _, hax.trans q1⟩
    ·refine e_isnil hop hn ht h (fun b' hb => hK _ _ (h3 b' (fun q => ?_)) _ w R G h (.v _)) ⟨_, _, _, hax.trans q1⟩
     rw [hb _ _ _ (hax.trans q1)] at q; cases q
   ·exact hs.elim
  simp only [resOp, hop] at hres
  split at hres
  ·rename_i e ht
   split at hres
   ·simp only [Option.some.injEq] at hres; exact kn false e rfl ht rfl hres.symm
   ·cases hres
  ·rename_i e ht
   split at hres
   ·simp only [Option.some.injEq] at hres; exact kn true e rfl ht rfl hres.symm
   ·cases hres
  all_goals first
   | (simp only [Option.some.injEq] at hres; subst hres; exact hs.elim)
   | (simp only [Option.map_eq_some_iff] at hres; obtain ⟨_, _, rfl⟩ := hres; exact hs.elim)
   | cases hres
 | makeFunc fn first caps => cases fn <;> simp only [resOp, hop, reduceCtorEq] at hres <;> split at hres <;> first | (simp only [Option.some.injEq] at hres; subst hres; exact hs.elim) | cases hres
 | _ =>
  exfalso
  simp only [resOp, hop, reduceCtorEq] at hres
  repeat' (split at hres)
  all_goals first
   | (cases hres; done)
   | (simp only [Option.some.injEq] at hres; subst hres; exact hs.elim)
   | (simp only [Option.map_eq_some_iff] at hres; obtain ⟨_, _, rfl⟩ := hres; exact hs.elim)
end
end Go.Proofs.YtjhdlcmecbngkaaDoor
