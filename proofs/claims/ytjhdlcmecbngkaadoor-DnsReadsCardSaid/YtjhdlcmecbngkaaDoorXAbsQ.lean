/- The framework: part of this claim. -/
import Derived.Test.YtjhdlcmecbngkaaDoorXAbsH
set_option linter.unusedSimpArgs false
namespace Go.Proofs.YtjhdlcmecbngkaaDoor
open Go.RowKit
set_option linter.unusedVariables false
def inP : ParM → ParM
 | .ms T sz rows _ => .p (.o T sz rows)
 | .mn T cells _ => .pn T cells
 | .mo I _ => .po I
 | p => p
def entMV (i : Nat) (ps : List ParM) : List V := match ps with
 | [] => []
 | p :: ps => jobV (16 * i) 0 (inP p) :: entMV (i + 1) ps
def entMH (i : Nat) : List ParM → List (Nat × Option Ent)
 | [] => []
 | p :: ps => jobH (fun _ => 0) (16 * i) 0 (inP p) ++ entMH (i + 1) ps
def entMI (i : Nat) : List ParM → List Nat
 | [] => []
 | p :: ps => jobIds (16 * i) (inP p) ++ entMI (i + 1) ps
def atV : List V → Nat → V
 | [], _ => .v undef
 | v :: _, 0 => v
 | _ :: vs, i + 1 => atV vs i
theorem atV_get : ∀ (l : List V) (i : Nat), atV l i = (l[i]?).getD (.v undef)
 | [], i => by simp [atV]
 | v :: l, 0 => rfl
 | v :: l, i + 1 => by rw [atV, atV_get l i]; simp
def noH : Hp := fun _ => none
def exitV (i : Nat) : List ParM → List V
 | [] => []
 | .ms T sz rows rows' :: ps => .own (16 * i) 0 :: exitV (i + 1) ps
 | .mn T cells cells' :: ps => .ptr (16 * i) 0 0 0 :: exitV (i + 1) ps
 | .mo I I' :: ps => .ptr (16 * i) 0 0 0 :: exitV (i + 1) ps
 | _ :: ps => exitV (i + 1) ps
section
variable {P : Program} {c : Ctx} {st : St} {a : Act} {w w' : World} {R : Nat → Prop} {G : Nat → Option Loc}
theorem parM_in {p : ParM} {x : Value} {F : Nat → Prop} (h : ParMOk w R p x F) : ParMOk w R (inP p) x F := by
 cases p <;> exact h
theorem locFor_in {p : ParM} {y : Value} {F : Nat → Prop} (hp : ParMOk w R p y F) (gn : Nat) : ∃ l, LocFor gn (inP p) y F l := by
 cases p with
 | p p => cases p with
  | c u => exact ⟨⟨gn, 0, y, false, none⟩, rfl, trivial⟩
  | o T sz rows => exact ⟨⟨gn, sz, y, false, none⟩, rfl, rfl, rfl, rfl, rfl⟩
 | ms T sz rows rows' => exact ⟨⟨gn, sz, y, false, none⟩, rfl, rfl, rfl, rfl, rfl⟩
 | mn T cells cells' =>
  obtain ⟨b, xs, p1, _⟩ := hp
  exact ⟨⟨gn, cells.length, .slice (some ⟨b, 0, none⟩) 1 1, true, none⟩, rfl, rfl, ⟨b, p1, rfl⟩, rfl, rfl⟩
 | pn T cells =>
  obtain ⟨b, xs, p1, _⟩ := hp
  exact ⟨⟨gn, cells.length, .slice (some ⟨b, 0, none⟩) 1 1, true, none⟩, rfl, rfl, ⟨b, p1, rfl⟩, rfl, rfl⟩
 | mo I I' =>
  obtain ⟨⟨b, hb⟩, _⟩ := hp
  exact ⟨⟨gn, 0, .slice (some ⟨b, 0, none⟩) 1 1, true, some F⟩, rfl, ⟨b, hb, rfl⟩, rfl, rfl⟩
 | po I =>
  obtain ⟨⟨b, hb⟩, _⟩ := hp
  exact ⟨⟨gn, 0, .slice (some ⟨b, 0, none⟩) 1 1, true, some F⟩, rfl, ⟨b, hb, rfl⟩, rfl, rfl⟩
theorem set_args : ∀ (ps : List ParM) (xs : List Value) (i : Nat) {st : St} {G : Nat → Option Loc} {F : Nat → Prop}, RelAt c st a w R G → ParsM w R ps xs F → (entMI i ps).Nodup →
  (∀ k ∈ entMI i ps, G k = none) → (∀ b, F b → ¬ R b ∧ (c.L b ∨ c.w0.heap.size ≤ b) ∧ ∀ k ek lk, st.H k = some ek → G k = some lk → lk.gen = ek.gen → ¬ lk.ft b) →
  ∃ G', RelAt c { st with H := addH st.H (entMH i ps) } a w R G' ∧ Gle G G' ∧ (entMV i ps).length = xs.length ∧ ∀ (j : Nat) (u : V) (x : Value), (entMV i ps)[j]? = some u → xs[j]? = some x → RV w R G' u x
 | [], [], i, st, G, F, h, _, _, _, _ => ⟨G, h, Gle.refl _, rfl, fun i u y hu => by simp [entMV] at hu⟩
 | p :: ps, y :: ys, k, st, G, F, h, hP, hnd, hgen, hfree => by
  obtain ⟨F1, F2, h1, h2, h3, h4⟩ := hP
  obtain ⟨l, hl⟩ := locFor_in h1 0
  have hnd' := List.nodup_append.1 hnd
  obtain ⟨G1, k1, k2, k3, k4, k5⟩ := set_job (g := fun _ => 0) h (parM_in h1) hl (fun l0 h0 => by rw [hgen _ (List.mem_append_left _ (List.mem_cons_self ..))] at h0; cases h0)
   (fun j hj l0 h0 => by rw [hgen _ (List.mem_append_left _ (List.mem_cons_of_mem _ (List.mem_map.2 ⟨j, List.mem_range.2 hj, rfl⟩)))] at h0; cases h0) (fun b hb => hfree b ((h4 b).2 (.inl hb)))
  obtain ⟨G2, m1, m2, m4, m5⟩ := set_args ps ys (k + 1) k1 h2 hnd'.2.1
   (fun i hi => by rw [k3 i (fun q => hnd'.2.2 i q i hi rfl)]; exact hgen i (List.mem_append_right _ hi)) (fun b hb => by
    obtain ⟨q1, q2, q3⟩ := hfree b ((h4 b).2 (.inr hb))
    refine ⟨q1, q2, fun i ei li r1 r2 r3 r4 => ?_⟩
    rcases k5 i ei li b r1 r2 r3 r4 with r | ⟨r5, r6⟩
    ·exact (h3 b r).1 hb
    ·exact q3 i ei li r5 r6 r3 r4)
  refine ⟨G2, ?_, k2.trans m2, by simp [entMV, m4], fun i u z q1 q2 => ?_⟩
  ·show RelAt c { st with H := addH st.H (jobH (fun _ => 0) (16 * k) 0 (inP p) ++ entMH (k + 1) ps) } a w R G2
   rw [addH_append]; exact m1
  ·cases i with
   | zero => simp [entMV] at q1 q2; subst q1 q2; exact k4.mono (fun b hb => ⟨hb, rfl⟩) m2
   | succ i => exact m5 i u z (by simpa [entMV] using q1) (by simpa using q2)
theorem ParsM.len : ∀ {ps : List ParM} {xs : List Value} {F : Nat → Prop}, ParsM w R ps xs F → ps.length = xs.length
 | [], [], F, h => rfl
 | p :: ps, x :: xs, F, h => by obtain ⟨F1, F2, h1, h2, _⟩ := h; simp [ParsM.len h2]
theorem exitV_rel : ∀ (ps : List ParM) (xs : List Value) (i : Nat), ps.length = xs.length → (∀ (j : Nat) (u : V) (x : Value), (entMV i ps)[j]? = some u → xs[j]? = some x → RV w R G u x) →
  (exitV i ps).length = (exitsX ps xs).length ∧ ∀ (j : Nat) (u : V) (x : Value), (exitV i ps)[j]? = some u → (exitsX ps xs)[j]? = some x → RV w R G u x
 | [], [], i, _, _ => ⟨rfl, fun j u x h => by simp [exitV] at h⟩
 | p :: ps, x :: xs, i, hl, h => by
  obtain ⟨h1, h2⟩ := exitV_rel ps xs (i + 1) (by simpa using hl) (fun j u y q1 q2 => h (j + 1) u y (by simpa [entMV] using q1) (by simpa using q2))
  have h0 := h 0 (jobV (16 * i) 0 (inP p)) x rfl rfl
  have step : ∀ u0, RV w R G u0 x → (u0 :: exitV (i + 1) ps).length = (x :: exitsX ps xs).length ∧ ∀ (j : Nat) (u : V) (y : Value), (u0 :: exitV (i + 1) ps)[j]? = some u → (x :: exitsX ps xs)[j]? = some y → RV w R G u y := fun u0 hu0 => ⟨by simp [h1], fun j u y q1 q2 => by
   cases j with
   | zero => simp at q1 q2; subst q1 q2; exact hu0
   | succ j => exact h2 j u y (by simpa using q1) (by simpa using q2)⟩
  cases p with
  | p p => exact ⟨h1, h2⟩
  | ms T sz rows rows' => exact step _ h0
  | mn T cells cells' => exact step _ h0
  | mo I I' => exact step _ h0
  | pn T cells => exact ⟨h1, h2⟩
  | po I => exact ⟨h1, h2⟩
end
def RetM (ts : List Nat) (ps rs : List ParM) (st : St) : Prop := ∃ gone, ArgsM st.H gone true gone (ts.map st.env ++ exitV 0 ps) (rs ++ exitsP ps)
def retMQ (ts : List Nat) (ps rs : List ParM) : Ex → St → Prop
 | .exit _, _ => False
 | _, st => RetM ts ps rs st
def entryM (D : Value → Prop) (ps : List ParM) : St := ⟨atV (entMV 0 ps), addH noH (entMH 0 ps), D⟩
theorem entryM_rel {w : World} {R : Nat → Prop} {D : Value → Prop} {ps : List ParM} {xs : List Value} {F : Nat → Prop} {n : Nat} (hlt : ∀ b, R b → b < w.heap.size) (hp : ParsM w R ps xs F) (hn : ps.length ≤ n) (hnd : (entMI 0 ps).Nodup) :
  ∃ G0, RelAt ⟨w, R, F, n, D, G0⟩ (entryM D ps) { tmps := xs.toArray ++ Array.replicate (n - xs.toArray.size) undef, defers := [] } w R G0 ∧ ∀ (j : Nat) (u : V) (x : Value), (entMV 0 ps)[j]? = some u → xs[j]? = some x → RV w R G0 u x := by
 have hlen := hp.len
 have hget : ∀ i, (xs.toArray ++ Array.replicate (n - xs.toArray.size) undef).getD i undef = (xs[i]?).getD undef := fun i => by
  rw [Array.getD_eq_getD_getElem?, Array.getElem?_append]
  split
  ·simp
  ·rename_i h
   rw [List.getElem?_eq_none (by simpa using h)]
   rw [Array.getElem?_replicate]
   split <;> rfl
 have h0 : RelAt ⟨w, R, F, n, D, noG⟩ ⟨fun _ => .any, noH, D⟩ { tmps := xs.toArray ++ Array.replicate (n - xs.toArray.size) undef, defers := [] } w R noG := by
  refine ⟨fun i => .any _, ⟨fun k e l h => (by cases h), fun k e l h => (by cases h), fun k k' e e' l l' b h => (by cases h), fun k e l b h => (by cases h)⟩, hlt, fun b hb => .inl hb, fun b hb => hb, Fr.refl _ _, ?_, rfl, rfl, Gle.refl _⟩
  simp; omega
 obtain ⟨G0, h1, h2, h3, h4⟩ := set_args ps xs 0 h0 hp hnd (fun k _ => rfl) (fun b hb => ⟨hp.free b hb, .inl hb, fun k ek lk h => by cases h⟩)
 refine ⟨G0, ⟨fun i => ?_, h1.hr, h1.lt, h1.src, h1.old, h1.fr, h1.n, h1.defers, h1.die, Gle.refl _⟩, h4⟩
 show RV w R G0 (atV (entMV 0 ps) i) ((xs.toArray ++ Array.replicate (n - xs.toArray.size) undef).getD i undef)
 rw [hget, atV_get]
 by_cases hi : i < xs.length
 ·have hi' : i < (entMV 0 ps).length := by omega
  rw [List.getElem?_eq_getElem hi, List.getElem?_eq_getElem hi']
  exact h4 i _ _ (List.getElem?_eq_getElem hi') (List.getElem?_eq_getElem hi)
 ·rw [List.getElem?_eq_none (by omega), List.getElem?_eq_none (by omega)]
  exact .v _
theorem funM_intro {P : Program} {f : FuncId} {fn : Func} {code : Code} {rc : RCode} {ps rs : List ParM} {ts : List Nat} (hf : P.funcs[f]? = some fn) (hb : fn.body = some code) (hname : (fn.name == "runtime.NumGoroutine") = false) (hres : resCode P fn.ntmps code = some rc)
  (hlen : ps.length ≤ fn.ntmps) (hts : fn.results.toList = ts.map .tmp) (hrl : rs.length = ts.length) (hnd : (entMI 0 ps).Nodup) (h : wpv P rc (retMQ ts ps rs) (entryM noD ps)) : FunM P f ps rs := by
 refine ⟨⟨fn, hf, hname, by rw [hb]; rfl⟩, fun w R xs F hlt hp => ?_⟩
 refine calls_of_wp hf hb ?_
 obtain ⟨G0, hrel, hV0⟩ := entryM_rel (n := fn.ntmps) (D := noD) hlt hp hlen hnd
 refine wp_mono (code_sound (c := ⟨w, R, F, fn.ntmps, noD, G0⟩) rfl code hres h ⟨R, G0, hrel⟩) fun e a' w' he => ?_
 have fin : ∀ st, RetM ts ps rs st → Rel ⟨w, R, F, fn.ntmps, noD, G0⟩ st a' w' → a'.defers = [] ∧ ∃ v, (results fn a'.tmps).run P w' = .ok v w' ∧ ∃ (ys : List Value) (R' F' : Nat → Prop), Ending.returned v = .returned (packV ys) ∧ rs.length = ys.length ∧ Fr F w w' ∧ (∀ b, R b → R' b) ∧
   (∀ b, R' b → R b ∨ (b < w'.heap.size ∧ (F b ∨ w.heap.size ≤ b))) ∧ ParsM w' R' (rs ++ exitsP ps) (ys ++ exitsX ps xs) F' ∧ (∀ b, F' b → F b ∨ w.heap.size ≤ b) := fun st ⟨gone, hA⟩ ⟨R2, G, hR⟩ => by
  have hRR : ∀ b, R b → R2 b ∧ w'.heap[b]? = w.heap[b]? := fun b hb => ⟨hR.old b hb, hR.fr.block b (hlt b hb) (fun hl => hp.free b hl hb)⟩
  obtain ⟨x1, x2⟩ := exitV_rel ps xs 0 hp.len (fun j u x q1 q2 => (hV0 j u x q1 q2).mono hRR hR.gle)
  obtain ⟨F', h1, h2, h3⟩ := argsM_pars hR (bor0 := true) (xs := (ts.map fun t => a'.tmps.getD t undef) ++ exitsX ps xs) hA (fun e => e) (by simp [x1]) (fun i u x q1 q2 => by
   by_cases hi : i < ts.length
   ·rw [List.getElem?_append_left (by simpa using hi)] at q1 q2
    simp only [List.getElem?_map, List.getElem?_eq_getElem hi, Option.map_some, Option.some.injEq] at q1 q2
    subst q1 q2; exact hR.env _
   ·rw [List.getElem?_append_right (by simpa using hi)] at q1 q2
    simp only [List.length_map] at q1 q2
    exact x2 _ u x q1 q2)
  refine ⟨hR.defers, _, run_results hts _ _, (ts.map fun t => a'.tmps.getD t undef), RB R2 G st.H gone true, F', rfl, by simp [hrl], hR.fr, fun b hb => .inl (hR.old b hb), ?_, h1, fun b hb => ?_⟩
  ·rintro b (hb | ⟨_, id, e, l, _, q1, q2, q3, q4⟩)
   ·rcases hR.src b hb with q | q
    ·exact .inl q
    ·exact .inr ⟨hR.lt b hb, q⟩
   ·exact .inr ⟨hR.hr.lt q1 q2 q3 q4, (hR.hr.mine id e l b q1 q2 q3 q4).2⟩
  ·obtain ⟨id, _, e, l, q1, q2, q3, q4⟩ := h2 b hb
   exact (hR.hr.mine id e l b q1 q2 q3 q4).2
 cases e with
 | normal => obtain ⟨st, h1, h2⟩ := he; exact fin st h1 h2
 | ret => obtain ⟨st, h1, h2⟩ := he; exact fin st h1 h2
 | exit id => obtain ⟨st, h1, h2⟩ := he; exact h1.elim
 | goto l => exact he.elim
 | panic ch => obtain ⟨v, _, h2, _⟩ := he; exact h2.elim
 | outgrown => exact he.elim
def dieQ : Ex → St → Prop := fun _ _ => False
theorem funDie_intro {P : Program} {f : FuncId} {fn : Func} {code : Code} {rc : RCode} {ps : List ParM} {v : Value} (hf : P.funcs[f]? = some fn) (hb : fn.body = some code) (hname : (fn.name == "runtime.NumGoroutine") = false) (hres : resCode P fn.ntmps code = some rc)
  (hlen : ps.length ≤ fn.ntmps) (hnd : (entMI 0 ps).Nodup) (h : wpv P rc dieQ (entryM (fun x => x = v) ps)) : FunDie P f ps v := by
 refine ⟨⟨fn, hf, hname, by rw [hb]; rfl⟩, fun w R xs F hlt hp => ?_⟩
 refine calls_of_wp hf hb ?_
 obtain ⟨G0, hrel, hV0⟩ := entryM_rel (n := fn.ntmps) (D := fun x => x = v) hlt hp hlen hnd
 refine wp_mono (code_sound (c := ⟨w, R, F, fn.ntmps, fun x => x = v, G0⟩) rfl code hres h ⟨R, G0, hrel⟩) fun e a' w' he => ?_
 cases e with
 | normal => obtain ⟨st, h1, h2⟩ := he; exact h1.elim
 | ret => obtain ⟨st, h1, h2⟩ := he; exact h1.elim
 | exit id => obtain ⟨st, h1, h2⟩ := he; exact h1.elim
 | goto l => exact he.elim
 | panic ch => obtain ⟨v', rfl, rfl, h3, h4⟩ := he; exact ⟨h4, rfl, h3⟩
 | outgrown => exact he.elim
def retMX (ts : List Nat) (ps rs : List ParM) : Ex → Env → Hp → Prop
 | .exit _ => fun _ _ => False
 | .normal => fun env H => ∃ gone, ArgsM H gone true gone (ts.map env ++ exitV 0 ps) (rs ++ exitsP ps)
 | .ret => fun env H => ∃ gone, ArgsM H gone true gone (ts.map env ++ exitV 0 ps) (rs ++ exitsP ps)
def dieX : Ex → Env → Hp → Prop := fun _ _ _ => False
theorem chkFun_to {P : Program} {f : FuncId} {np : Nat} {rc : RCode} {ts : List Nat} (hc : chkFun P f np = some (rc, ts)) : ∃ fn code, P.funcs[f]? = some fn ∧ fn.body = some code ∧ (fn.name == "runtime.NumGoroutine") = false ∧ resCode P fn.ntmps code = some rc ∧ np ≤ fn.ntmps ∧ fn.results.toList = ts.map .tmp := by
 unfold chkFun at hc
 split at hc
 ·cases hc
 ·rename_i fn hf
  split at hc
  ·cases hc
  ·rename_i code hb
   split at hc
   ·cases hc
   ·rename_i hk
    simp only [Bool.or_eq_true, not_or, Bool.not_eq_true', Bool.not_eq_true, decide_eq_false_iff_not, Classical.not_not] at hk
    split at hc
    ·rename_i rc' ts' h1 h2
     simp only [Option.some.injEq, Prod.mk.injEq] at hc
     obtain ⟨rfl, rfl⟩ := hc
     exact ⟨fn, code, hf, hb, hk.1, h1, by simpa using hk.2, tmpsOfRes_spec _ h2⟩
    ·cases hc
theorem funM_x {P : Program} {f : FuncId} {np : Nat} {rc : RCode} {ts : List Nat} {ps rs : List ParM} (hc : chkFun P f np = some (rc, ts)) (hn : ps.length = np) (hrl : rs.length = ts.length) (hnd : (entMI 0 ps).Nodup)
  (h : wpx P noD rc (retMX ts ps rs) (atV (entMV 0 ps)) (addH noH (entMH 0 ps))) : FunM P f ps rs := by
 obtain ⟨fn, code, h1, h2, h3, h4, h5, h6⟩ := chkFun_to hc
 refine funM_intro h1 h2 h3 h4 (by omega) h6 hrl hnd (wpx_sound rc (fun e env H h => ?_) h)
 cases e with
 | normal => exact h
 | exit j => exact h
 | ret => exact h
theorem funDie_x {P : Program} {f : FuncId} {np : Nat} {rc : RCode} {ts : List Nat} {ps : List ParM} {v : Value} (hc : chkFun P f np = some (rc, ts)) (hn : ps.length = np) (hnd : (entMI 0 ps).Nodup)
  (h : wpx P (fun x => x = v) rc dieX (atV (entMV 0 ps)) (addH noH (entMH 0 ps))) : FunDie P f ps v := by
 obtain ⟨fn, code, h1, h2, h3, h4, h5, h6⟩ := chkFun_to hc
 exact funDie_intro h1 h2 h3 h4 (by omega) hnd (wpx_sound rc (fun e env H h => h.elim) h)
section
variable {H : Nat → Option Ent} {all : List Nat} {bor : Bool} {gone : List Nat} {us : List V} {ps : List ParM}
theorem aM_same {u : V} (hu : Cl u) (h : ArgsM H all bor gone us ps) : ArgsM H all bor gone (u :: us) (.p (.c u) :: ps) := .old (gone1 := []) (.same hu (.nil _)) (by simp) h
theorem aM_nilsl (c : Bool) (h : ArgsM H all bor gone us ps) : ArgsM H all bor gone (.v (.slice none 0 0) :: us) (.p (.c (.sl c [])) :: ps) := .old (gone1 := []) (.nilsl c (.nil _)) (by simp) h
theorem aM_nilown (T : TypeId) (sz : Nat) (hz : 0 < sz) (h : ArgsM H all bor gone us ps) : ArgsM H all bor gone (.v (.slice none 0 0) :: us) (.p (.o T sz []) :: ps) := .old (gone1 := []) (.nilown T sz hz (.nil _)) (by simp) h
theorem aM_bor {id g : Nat} {e : Ent} {rows' : List (List V)} (he : H id = some e) (hg : e.gen = g) (hr : Deref (fun k => if k ∈ id :: all then none else H k) e.rows rows') (hn : id ∉ all) (h : ArgsM H all true gone us ps) : ArgsM H all true gone (.own id g :: us) (.p (.c (.sl false rows')) :: ps) := .old (gone1 := []) (.bor he hg hr hn (.nil _)) (by simp) h
theorem aM_borp {id g i off : Nat} {e : Ent} {row : List V} (he : H id = some e) (hg : e.gen = g) (hi : e.rows[i]? = some row) (hr : ∀ u ∈ row, Cl u) (hn : id ∉ all) (h : ArgsM H all true gone us ps) : ArgsM H all true gone (.ptr id g i off :: us) (.p (.c (.rptr row off)) :: ps) := .old (gone1 := []) (.borp he hg hi hr hn (.nil _)) (by simp) h
theorem aM_give {id g : Nat} {T : TypeId} {sz : Nat} {rows : List (List V)} (he : H id = some ⟨g, .t T, sz, rows⟩) (hr : ∀ row ∈ rows, ∀ u ∈ row, Cl u) (hn : id ∉ gone) (ha : id ∈ all) (h : ArgsM H all bor gone us ps) : ArgsM H all bor (id :: gone) (.own id g :: us) (.p (.o T sz rows) :: ps) :=
 .old (gone1 := [id]) (.give (e := ⟨g, .t T, sz, rows⟩) he rfl rfl hr (by simp) ha (.nil _)) (fun k hk => by simp at hk; rw [hk]; exact ⟨hn, ha⟩) h
theorem aM_ms {id g : Nat} {T : TypeId} {sz : Nat} {rows rows' : List (List V)} (he : H id = some ⟨g, .t T, sz, rows⟩) (hr : ∀ row ∈ rows, ∀ u ∈ row, Cl u) (hn : id ∉ gone) (ha : id ∈ all) (hl : rows'.length = rows.length) (h : ArgsM H all bor gone us ps) : ArgsM H all bor (id :: gone) (.own id g :: us) (.ms T sz rows rows' :: ps) :=
 .ms (e := ⟨g, .t T, sz, rows⟩) he rfl rfl hr hn ha hl h
theorem argsOk_cells : ∀ {row : List V}, (∀ u ∈ row, Cl u) → ArgsOk H all false [] row (row.map .c)
 | [], _ => .nil _
 | u :: row, h => .same (h u (List.mem_cons_self ..)) (argsOk_cells fun v hv => h v (List.mem_cons_of_mem _ hv))
theorem aM_mf {id g : Nat} {T : TypeId} {n : Nat} {row : List V} {cells' : List Par} (he : H id = some ⟨g, .b T, n, [row]⟩) (hr : ∀ u ∈ row, Cl u) (hn : id ∉ gone) (ha : id ∈ all) (hl : cells'.length = row.length) (h : ArgsM H all bor gone us ps) : ArgsM H all bor (id :: gone) (.ptr id g 0 0 :: us) (.mn T (row.map .c) cells' :: ps) :=
 .mn (e := ⟨g, .b T, n, [row]⟩) (gone1 := []) he rfl rfl rfl (argsOk_cells hr) (by simp) hn ha (by simpa using hl) h
theorem aM_pf {id g : Nat} {T : TypeId} {n : Nat} {row : List V} (he : H id = some ⟨g, .b T, n, [row]⟩) (hr : ∀ u ∈ row, Cl u) (hn : id ∉ gone) (ha : id ∈ all) (h : ArgsM H all bor gone us ps) : ArgsM H all bor (id :: gone) (.ptr id g 0 0 :: us) (.pn T (row.map .c) :: ps) :=
 .pn (e := ⟨g, .b T, n, [row]⟩) (gone1 := []) he rfl rfl rfl (argsOk_cells hr) (by simp) hn ha h
theorem aM_mo {id g n : Nat} {I I' : Opq} {rows : List (List V)} (he : H id = some ⟨g, .q I, n, rows⟩) (hn : id ∉ gone) (ha : id ∈ all) (h : ArgsM H all bor gone us ps) : ArgsM H all bor (id :: gone) (.ptr id g 0 0 :: us) (.mo I I' :: ps) :=
 .mo (e := ⟨g, .q I, n, rows⟩) he rfl rfl hn ha h
theorem aM_po {id g n : Nat} {I : Opq} {rows : List (List V)} (he : H id = some ⟨g, .q I, n, rows⟩) (hn : id ∉ gone) (ha : id ∈ all) (h : ArgsM H all bor gone us ps) : ArgsM H all bor (id :: gone) (.ptr id g 0 0 :: us) (.po I :: ps) :=
 .po (e := ⟨g, .q I, n, rows⟩) he rfl rfl hn ha h
theorem aM_fo {id g n : Nat} {T : TypeId} {row : List V} {I I' : Opq} (he : H id = some ⟨g, .b T, n, [row]⟩) (hr : ∀ u ∈ row, Cl u) (hf : Folds T row I) (hn : id ∉ gone) (ha : id ∈ all) (h : ArgsM H all bor gone us ps) : ArgsM H all bor (id :: gone) (.ptr id g 0 0 :: us) (.mo I I' :: ps) :=
 .fo (e := ⟨g, .b T, n, [row]⟩) he rfl rfl rfl hr hf hn ha h
end
theorem cap_p {H : Nat → Option Ent} {all : List Nat} {id g i off : Nat} {e : Ent} {row : List V} {us us' : List V} (he : H id = some e) (hg : e.gen = g) (hi : e.rows[i]? = some row) (hr : ∀ v ∈ row, Cl v) (hn : id ∉ all) (h : CapsOk H all us us') : CapsOk H all (.ptr id g i off :: us) (.rptr row off :: us') :=
 ⟨.inr (.inl ⟨id, g, i, off, e, row, row, rfl, he, hg, hi, capRow_cl hr, hn, rfl⟩), h⟩
theorem cap_m {H : Nat → Option Ent} {all : List Nat} {id g n : Nat} {rows : List (List V)} {ents : List (Value × V)} {us us' : List V} (he : H id = some ⟨g, .q (mapI ents), n, rows⟩) (hn : id ∉ all) (h : CapsOk H all us us') : CapsOk H all (.obj id g :: us) (.rmap ents :: us') :=
 ⟨.inr (.inr ⟨id, g, _, ents, rfl, he, rfl, rfl, hn, rfl⟩), h⟩
theorem cap_c {H : Nat → Option Ent} {all : List Nat} {u : V} {us us' : List V} (hu : Cl u) (h : CapsOk H all us us') : CapsOk H all (u :: us) (u :: us') := ⟨.inl ⟨rfl, hu⟩, h⟩
theorem cap_n {H : Nat → Option Ent} {all : List Nat} : CapsOk H all [] [] := trivial
theorem aM_borc {H : Nat → Option Ent} {all gone : List Nat} {f : FuncId} {caps caps' us : List V} {ps : List ParM} (hc : CapsOk H all caps caps') (h : ArgsM H all true gone us ps) : ArgsM H all true gone (.clo f caps :: us) (.p (.c (.clo f caps')) :: ps) := .old (gone1 := []) (.borc hc (.nil _)) (by simp) h
theorem clcs_nil : ∀ u ∈ ([] : List V), Cl u := fun u hu => by simp at hu
theorem clcs_cons {u : V} {us : List V} (h : Cl u) (hs : ∀ v ∈ us, Cl v) : ∀ v ∈ u :: us, Cl v := fun v hv => by
 rcases List.mem_cons.1 hv with e | e
 ·rw [e]; exact h
 ·exact hs v e
theorem cl_agg' {cs : List V} (h : ∀ u ∈ cs, Cl u) : Cl (.agg cs) := fun w R G G' x hx => by
 cases hx with
 | agg cs xs hl hc => exact .agg cs xs hl fun i u y h1 h2 => h u (List.mem_of_getElem? h1) w R G G' y (hc i u y h1 h2)
theorem aM_bora {H : Nat → Option Ent} {all gone : List Nat} {cs cs' us : List V} {ps : List ParM} (hc : CellsB H all cs cs') (h : ArgsM H all true gone us ps) : ArgsM H all true gone (.agg cs :: us) (.p (.c (.agg cs')) :: ps) := .old (gone1 := []) (.bora hc (.nil _)) (by simp) h
theorem aM_mn {H : Nat → Option Ent} {all gone gone1 : List Nat} {bor : Bool} {id g n : Nat} {T : TypeId} {row : List V} {cells cells' : List Par} {us : List V} {ps : List ParM} (he : H id = some ⟨g, .b T, n, [row]⟩) (hc : ArgsOk H all false gone1 row cells) (hd : ∀ k ∈ gone1, k ∉ gone ∧ k ∈ all ∧ k ≠ id) (hn : id ∉ gone) (ha : id ∈ all) (hl : cells'.length = cells.length) (h : ArgsM H all bor gone us ps) :
  ArgsM H all bor (id :: (gone1 ++ gone)) (.ptr id g 0 0 :: us) (.mn T cells cells' :: ps) := .mn he rfl rfl rfl hc hd hn ha hl h
theorem aM_pn {H : Nat → Option Ent} {all gone gone1 : List Nat} {bor : Bool} {id g n : Nat} {T : TypeId} {row : List V} {cells : List Par} {us : List V} {ps : List ParM} (he : H id = some ⟨g, .b T, n, [row]⟩) (hc : ArgsOk H all false gone1 row cells) (hd : ∀ k ∈ gone1, k ∉ gone ∧ k ∈ all ∧ k ≠ id) (hn : id ∉ gone) (ha : id ∈ all) (h : ArgsM H all bor gone us ps) :
  ArgsM H all bor (id :: (gone1 ++ gone)) (.ptr id g 0 0 :: us) (.pn T cells :: ps) := .pn he rfl rfl rfl hc hd hn ha h
theorem cB_own {H : Nat → Option Ent} {all : List Nat} {id g sz : Nat} {T : TO} {rows rows' : List (List V)} {us us' : List V} (he : H id = some ⟨g, T, sz, rows⟩) (hrr : rows = rows') (hr : ∀ row ∈ rows', ∀ u ∈ row, Cl u) (hn : id ∉ all) (h : CellsB H all us us') : CellsB H all (.own id g :: us) (.sl false rows' :: us') := by
 subst hrr
 exact .own he rfl hr hn h
def ndB : List Nat → Bool
 | [] => true
 | x :: l => l.all (fun y => !(Nat.beq x y)) && ndB l
theorem nd_b : ∀ {l : List Nat}, ndB l = true → l.Nodup
 | [], _ => List.nodup_nil
 | x :: l, h => by
  simp only [ndB, Bool.and_eq_true, List.all_eq_true] at h
  rw [List.nodup_cons]
  refine ⟨fun hm => ?_, nd_b h.2⟩
  have := h.1 x hm
  simp at this
abbrev Rq (d : Nat) (o : ROp) : ROper := ⟨some d, none, o⟩
abbrev Gq (d s : Nat) (w : Bool) (o : ROp) : ROper := ⟨some d, some (s, w), o⟩
abbrev Sq (n : Nat) (x y : Operand) : ROper := ⟨none, none, .store n x y⟩
abbrev Kq (n : Int) : Operand := .const (.int .i64 n)
instance (n : Nat) : OfNat Operand n := ⟨.tmp n⟩
end Go.Proofs.YtjhdlcmecbngkaaDoor
