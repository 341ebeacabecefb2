/- The framework: part of this claim. -/
import Derived.Test.YtjhdlcmecbngkaaDoorXAbsQ
set_option linter.unusedSimpArgs false
namespace Go.Proofs.YtjhdlcmecbngkaaDoor
open Go.RowKit
set_option linter.unusedVariables false
theorem argsM_len {H : Nat → Option Ent} {all : List Nat} {bor : Bool} {gone : List Nat} {us : List V} {ps : List ParM} (h : ArgsM H all bor gone us ps) : us.length = ps.length := by
 induction h <;> simp_all
theorem exitV_len : ∀ (ps : List ParM) (i : Nat), (exitV i ps).length = (exitsP ps).length
 | [], _ => rfl
 | p :: ps, i => by cases p <;> simp [exitV, exitsP, exitV_len ps]
def RetMC (rts : List RT) (ps rs : List ParM) (st : St) : Prop := ∃ us gone, GetR st.env st.H rts us ∧ ArgsM st.H gone true gone (us ++ exitV 0 ps) (rs ++ exitsP ps)
def retMCQ (rts : List RT) (ps rs : List ParM) : Ex → St → Prop
 | .exit _, _ => False
 | _, st => RetMC rts ps rs st
theorem funMC_intro {P : Program} {f : FuncId} {fn : Func} {code : Code} {rc : RCode} {ps rs : List ParM} {rts : List RT} (hf : P.funcs[f]? = some fn) (hb : fn.body = some code) (hname : (fn.name == "runtime.NumGoroutine") = false) (hres : resCode P fn.ntmps code = some rc)
  (hlen : ps.length ≤ fn.ntmps) (hts : rtsOf P fn.results.toList = some rts) (hnd : (entMI 0 ps).Nodup) (h : wpv P rc (retMCQ rts ps rs) (entryM noD ps)) : FunM P f ps rs := by
 refine ⟨⟨fn, hf, hname, by rw [hb]; rfl⟩, fun w R xs F hlt hp => ?_⟩
 refine calls_of_wp hf hb ?_
 obtain ⟨G0, hrel, hV0⟩ := entryM_rel (n := fn.ntmps) (D := noD) hlt hp hlen hnd
 refine wp_mono (code_sound (c := ⟨w, R, F, fn.ntmps, noD, G0⟩) rfl code hres h ⟨R, G0, hrel⟩) fun e a' w' he => ?_
 have fin : ∀ st, RetMC rts ps rs st → Rel ⟨w, R, F, fn.ntmps, noD, G0⟩ st a' w' → a'.defers = [] ∧ ∃ v, (results fn a'.tmps).run P w' = .ok v w' ∧ ∃ (ys : List Value) (R' F' : Nat → Prop), Ending.returned v = .returned (packV ys) ∧ rs.length = ys.length ∧ Fr F w w' ∧ (∀ b, R b → R' b) ∧
   (∀ b, R' b → R b ∨ (b < w'.heap.size ∧ (F b ∨ w.heap.size ≤ b))) ∧ ParsM w' R' (rs ++ exitsP ps) (ys ++ exitsX ps xs) F' ∧ (∀ b, F' b → F b ∨ w.heap.size ≤ b) := fun st ⟨us, gone, hG, hA⟩ ⟨R2, G, hR⟩ => by
  obtain ⟨zs, z1, z2, z3⟩ := results_rel hR _ hts hG
  have hRR : ∀ b, R b → R2 b ∧ w'.heap[b]? = w.heap[b]? := fun b hb => ⟨hR.old b hb, hR.fr.block b (hlt b hb) (fun hl => hp.free b hl hb)⟩
  obtain ⟨x1, x2⟩ := exitV_rel ps xs 0 hp.len (fun j u x q1 q2 => (hV0 j u x q1 q2).mono hRR hR.gle)
  obtain ⟨F', h1, h2, h3⟩ := argsM_pars hR (bor0 := true) (xs := zs ++ exitsX ps xs) hA (fun e => e) (by simp [x1, z2]) (fun i u x q1 q2 => by
   by_cases hi : i < us.length
   ·rw [List.getElem?_append_left hi] at q1
    rw [List.getElem?_append_left (by omega)] at q2
    exact z3 i u x q1 q2
   ·rw [List.getElem?_append_right (by omega)] at q1 q2
    rw [z2] at q2
    exact x2 _ u x q1 q2)
  have hrl : rs.length = zs.length := by
   have e1 := argsM_len hA
   have e2 : (exitV 0 ps).length = (exitsP ps).length := exitV_len ps 0
   simp only [List.length_append] at e1
   omega
  refine ⟨hR.defers, _, run_results_of z1, zs, RB R2 G st.H gone true, F', rfl, hrl, hR.fr, fun b hb => .inl (hR.old b hb), ?_, h1, fun b hb => ?_⟩
  ·rintro b (hb | ⟨_, id, e, l, _, q1, q2, q3, q4⟩)
   ·rcases hR.src b hb with q | q
    ·exact .inl q
    ·exact .inr ⟨hR.lt b hb, q⟩
   ·exact .inr ⟨hR.hr.lt q1 q2 q3 q4, (hR.hr.mine id e l b q1 q2 q3 q4).2⟩
  ·obtain ⟨id, _, e, l, q1, q2, q3, q4⟩ := h2 b hb
   exact (hR.hr.mine id e l b q1 q2 q3 q4).2
 cases e with
 | normal => obtain ⟨st, h1, h2⟩ := he; exact fin st h1 h2
 | ret => obtain ⟨st, h1, h2⟩ := he; exact fin st h1 h2
 | exit id => obtain ⟨st, h1, h2⟩ := he; exact h1.elim
 | goto l => exact he.elim
 | panic ch => obtain ⟨v, _, h2, _⟩ := he; exact h2.elim
 | outgrown => exact he.elim
def retMXC (rts : List RT) (ps rs : List ParM) : Ex → Env → Hp → Prop
 | .exit _ => fun _ _ => False
 | .normal => fun env H => ∃ us gone, GetR env H rts us ∧ ArgsM H gone true gone (us ++ exitV 0 ps) (rs ++ exitsP ps)
 | .ret => fun env H => ∃ us gone, GetR env H rts us ∧ ArgsM H gone true gone (us ++ exitV 0 ps) (rs ++ exitsP ps)
theorem funM_xc {P : Program} {f : FuncId} {np : Nat} {rc : RCode} {ts : List RT} {ps rs : List ParM} (hc : chkFunC P f np = some (rc, ts)) (hn : ps.length = np) (hnd : (entMI 0 ps).Nodup)
  (h : wpx P noD rc (retMXC ts ps rs) (atV (entMV 0 ps)) (addH noH (entMH 0 ps))) : FunM P f ps rs := by
 unfold chkFunC at hc
 split at hc
 ·cases hc
 ·rename_i fn hf
  split at hc
  ·cases hc
  ·rename_i code hb
   split at hc
   ·cases hc
   ·rename_i hk
    simp only [Bool.or_eq_true, not_or, Bool.not_eq_true', Bool.not_eq_true, decide_eq_false_iff_not, Classical.not_not] at hk
    split at hc
    ·rename_i rc' ts' h1 h2
     simp only [Option.some.injEq, Prod.mk.injEq] at hc
     obtain ⟨rfl, rfl⟩ := hc
     have hk2 : np ≤ fn.ntmps := by simpa using hk.2
     refine funMC_intro hf hb hk.1 h1 (by omega) h2 hnd (wpx_sound _ (fun e env H h => ?_) h)
     cases e with
     | normal => exact h
     | exit j => exact h
     | ret => exact h
    ·cases hc
theorem funDie_xc {P : Program} {f : FuncId} {np : Nat} {rc : RCode} {ts : List RT} {ps : List ParM} {v : Value} (hc : chkFunC P f np = some (rc, ts)) (hn : ps.length = np) (hnd : (entMI 0 ps).Nodup)
  (h : wpx P (fun x => x = v) rc dieX (atV (entMV 0 ps)) (addH noH (entMH 0 ps))) : FunDie P f ps v := by
 unfold chkFunC at hc
 split at hc
 ·cases hc
 ·rename_i fn hf
  split at hc
  ·cases hc
  ·rename_i code hb
   split at hc
   ·cases hc
   ·rename_i hk
    simp only [Bool.or_eq_true, not_or, Bool.not_eq_true', Bool.not_eq_true, decide_eq_false_iff_not, Classical.not_not] at hk
    split at hc
    ·rename_i rc' ts' h1 h2
     simp only [Option.some.injEq, Prod.mk.injEq] at hc
     obtain ⟨rfl, rfl⟩ := hc
     have hk2 : np ≤ fn.ntmps := by simpa using hk.2
     exact funDie_intro hf hb hk.1 h1 (by omega) hnd (wpx_sound _ (fun e env H h => h.elim) h)
    ·cases hc
end Go.Proofs.YtjhdlcmecbngkaaDoor
