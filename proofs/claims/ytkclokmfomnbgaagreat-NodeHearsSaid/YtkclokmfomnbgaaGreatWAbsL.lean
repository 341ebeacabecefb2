/- The framework: part of this claim. -/
import Derived.Test.YtkclokmfomnbgaaGreatWAbsR
set_option linter.unusedSimpArgs false
namespace Go.Proofs.YtkclokmfomnbgaaGreat
open Go.RowKit
set_option linter.unusedVariables false
def isLate : ROp → Bool
 | .call _ _ => true
 | .app _ _ _ _ _ _ => true
 | _ => false
def isMv : ROper → Bool
 | ⟨_, none, .mv _⟩ => true
 | _ => false
theorem isMv_spec {q : ROper} (h : isMv q = true) : ∃ x, q.op = .mv x ∧ q.guard = none := by
 obtain ⟨d, g, op⟩ := q
 unfold isMv at h
 split at h
 ·rename_i heq
  cases heq
  exact ⟨_, rfl, rfl⟩
 ·cases h
section
variable {P : Program} {env env' : Nat → V} {H : Nat → Option Ent} {D : Value → Prop} {b : Nat} {K : V → List (Nat × Option Ent) → Prop}
theorem stepE_late {r : ROp} (hl : isLate r = true) (hv : ∀ x ∈ r.looks, val env' x = val env x) (h : stepE P r env H D b K) : stepE P r env' H D b K := by
 cases r with
 | call x args =>
  have h1 := hv x (by simp [ROp.looks])
  have h2 : args.map (val env') = args.map (val env) := List.map_congr_left fun a ha => hv a (by simp [ROp.looks, ha])
  simp only [stepE] at h ⊢
  rw [h1, h2]; exact h
 | app T sz bytes z x y =>
  have h1 := hv x (by simp [ROp.looks])
  have h2 := hv y (by simp [ROp.looks])
  simp only [stepE] at h ⊢
  rw [h1, h2]; exact h
 | _ => cases hl
end
theorem late_isE {r : ROp} (h : isLate r = true) : r.isE = true := by cases r <;> first | rfl | cases h
def lateOk (ops : Array Oper) (ms : List Nat) (s : Nat) (seg : List ROper) (r : ROper) : Bool :=
 segOk ops s seg && decide (s + seg.length < ops.size) && cutAt ms (s + seg.length + 1) && isLate r.op &&
 (List.range seg.length).all fun i => match seg[i]? with
  | some q => (ms.getD (s + seg.length) 0).testBit (s + i) || (isMv q && !(r.reads.contains q.d) && !(r.d == q.d) && !(q.reads.contains r.d) && seg.all fun q' => !(q.reads.contains q'.d))
  | none => false
structure LFacts (ops : Array Oper) (seg : List ROper) (r : ROper) (s : Nat) : Prop where
 F : SFacts ops seg s
 lt : s + seg.length < ops.size
 cut : cutAt (masksOf ops) (s + seg.length + 1) = true
 late : isLate r.op = true
 each : ∀ (i : Nat) (q : ROper), seg[i]? = some q → Anc ops (s + seg.length) (s + i) ∨ (∃ x, q.op = .mv x ∧ q.guard = none ∧ q.d ∉ r.reads ∧ r.d ≠ q.d ∧ r.d ∉ q.reads ∧ ∀ q' ∈ seg, q'.d ∉ q.reads)
theorem lateOk_facts {ops : Array Oper} {seg : List ROper} {r : ROper} {s : Nat} (h : lateOk ops (masksOf ops) s seg r = true) : LFacts ops seg r s := by
 unfold lateOk at h
 simp only [Bool.and_eq_true, decide_eq_true_eq, List.all_eq_true, List.mem_range] at h
 obtain ⟨⟨⟨⟨h1, h2⟩, h3⟩, h4⟩, h5⟩ := h
 refine ⟨segOk_facts (by omega) h1, h2, h3, h4, fun i q hq => ?_⟩
 have := h5 i (List.getElem?_eq_some_iff.1 hq).1
 rw [hq] at this
 simp only [Bool.or_eq_true, Bool.and_eq_true, Bool.not_eq_true', List.all_eq_true] at this
 rcases this with q1 | ⟨⟨⟨⟨q1, q2⟩, q3⟩, q4⟩, q5⟩
 ·exact .inl (bit_anc q1)
 ·obtain ⟨x, e1, e2⟩ := isMv_spec q1
  refine .inr ⟨x, e1, e2, fun hm => ?_, fun e => ?_, fun hm => ?_, fun q' hq' hm => ?_⟩
  ·rw [List.contains_iff_mem.2 hm] at q2; cases q2
  ·rw [e] at q3; simp at q3
  ·rw [List.contains_iff_mem.2 hm] at q4; cases q4
  ·have := q5 q' hq'
   rw [List.contains_iff_mem.2 hm] at this; cases this
section
variable {P : Program} {c : Ctx} {Q : Exit → Act → World → Prop} {ops : Array Oper} {n : Nat} {g : Nat → Nat}
theorem late_rest (hn : c.n = n) (D : Down ops) {seg : List ROper} {r : ROper} {s : Nat} {K : St → Prop} (L : LFacts ops seg r s) (hres : ∀ (i : Nat) (o : Oper) (q : ROper), ops[s + i]? = some o → seg[i]? = some q → resOper P ops n o = some q)
  (hnext : From P c ops Q (s + seg.length + 1) K) {stF : St} (hF : K stF) :
  ∀ (fuel : Nat) (listed : Array Bool) {st : St} {a : Act} {w : World} {R : Nat → Prop} {G : Nat → Option Loc}, unl ops listed = fuel → listed.size = ops.size → Closed ops listed → (∀ i, i < s → listed.getD i true = true) → listed.getD (s + seg.length) true = true → (∀ i, s + seg.length + 1 ≤ i → i < ops.size → listed.getD i true = false) →
   st.H = stF.H → st.D = stF.D → (∀ t, (∀ (i : Nat) (q : ROper), seg[i]? = some q → listed.getD (s + i) true = false → q.d ≠ t) → st.env t = stF.env t) →
   (∀ (i : Nat) (q : ROper), seg[i]? = some q → listed.getD (s + i) true = false → ∃ x, q.op = .mv x ∧ q.guard = none ∧ val st.env x = stF.env q.d ∧ ∀ q' ∈ seg, q'.d ∉ q.reads) →
   RelAt c st a w R G → wpAny P .any ops Q fuel listed a w := by
 have hle := L.lt
 have done : ∀ (fuel : Nat) (listed : Array Bool) {st : St} {a : Act} {w : World} {R : Nat → Prop} {G : Nat → Option Loc}, unl ops listed = fuel → listed.size = ops.size → Closed ops listed → (∀ i, i < s → listed.getD i true = true) → listed.getD (s + seg.length) true = true → (∀ i, s + seg.length + 1 ≤ i → i < ops.size → listed.getD i true = false) → (∀ i, i < seg.length → listed.getD (s + i) true = true) →
   st.H = stF.H → st.D = stF.D → (∀ t, (∀ (i : Nat) (q : ROper), seg[i]? = some q → listed.getD (s + i) true = false → q.d ≠ t) → st.env t = stF.env t) → RelAt c st a w R G → wpAny P .any ops Q fuel listed a w := by
  intro fuel listed st a w R G hf hs hc hb hr ht hall eH eD eE hR
  have hst : st = stF := by
   have e1 : st.env = stF.env := by
    funext t
    refine eE t fun i q hq hl => ?_
    rw [hall i (List.getElem?_eq_some_iff.1 hq).1] at hl; cases hl
   obtain ⟨env, H, D⟩ := st
   simp only at e1 eH eD
   rw [e1, eH, eD]
  subst hst
  refine hnext fuel listed _ a w hf ⟨hs, hc, fun i hi hi2 => ?_, ht⟩ hF ⟨R, G, hR⟩
  by_cases hlt : i < s
  ·exact hb i hlt
  ·by_cases he : i = s + seg.length
   ·rw [he]; exact hr
   ·have := hall (i - s) (by omega)
    rwa [show s + (i - s) = i by omega] at this
 intro fuel
 induction fuel with
 | zero =>
  intro listed st a w R G hf hs hc hb hr ht eH eD eE hP hR
  exact done 0 listed hf hs hc hb hr ht (fun i hi => unl_zero hf (by omega)) eH eD eE hR
 | succ fuel ih =>
  intro listed st a w R G hf hs hc hb hr ht eH eD eE hP hR
  by_cases hall : ∀ i, i < seg.length → listed.getD (s + i) true = true
  ·exact done (fuel + 1) listed hf hs hc hb hr ht hall eH eD eE hR
  ·have hex : ∃ i, i < seg.length ∧ listed.getD (s + i) true = false := by
    apply Classical.byContradiction
    intro hn
    exact hall fun i hi => by
     cases hq : listed.getD (s + i) true with
     | true => rfl
     | false => exact absurd ⟨i, hi, hq⟩ hn
   obtain ⟨i0, hi0, hu0⟩ := hex
   obtain ⟨m, hm1, hm2, hm3⟩ := exists_min hu0
   have hready := ready_of_min D hs (by omega : m < ops.size) hm2 hm3
   refine ⟨fun h => (by rw [h] at hready; simp at hready), fun x hx => ?_⟩
   obtain ⟨h1, h2, o, h3, h4⟩ := mem_ready_iff.1 hx
   have hxlo : s ≤ x := by
    apply Nat.le_of_not_lt
    intro q
    rw [hb x q] at h2; cases h2
   have hxne : x ≠ s + seg.length := fun e => by
    rw [e] at h2
    rw [Array.getD_eq_getD_getElem?] at h2 hr
    simp [show s + seg.length < listed.size by omega] at h2 hr
    rw [hr] at h2; cases h2
   have hxhi : x < s + seg.length := by
    apply Nat.lt_of_not_le
    intro q
    have := ready_anc D hs hc hx (cut_anc L.cut (i := x) (j := s + i0) (by omega) h1 (by omega))
    rw [hu0] at this; cases this
   obtain ⟨i, rfl⟩ : ∃ i, x = s + i := ⟨x - s, by omega⟩
   have hrl : i < seg.length := by omega
   have hq : seg[i]? = some seg[i] := List.getElem?_eq_getElem hrl
   have hro := hres i o _ h3 hq
   obtain ⟨hop, hdst, hdlt, _⟩ := resOper_spec hro
   have hdn := dst_lt hro hn
   have h2' : listed.getD (s + i) true = false := by
    rw [Array.getD_eq_getD_getElem?] at h2 ⊢
    simpa [show s + i < listed.size by omega] using h2
   obtain ⟨y, p1, p2, p3, p4⟩ := hP i _ hq h2'
   obtain ⟨d, hd⟩ := Option.isSome_iff_exists.1 (L.F.some_ i _ hq)
   have hdd : (seg[i]).d = d := by simp [ROper.d, hd]
   have hinj : ∀ (j : Nat) (q : ROper), seg[j]? = some q → q.d = (seg[i]).d → j = i := fun j q hj e => nodup_inj L.F.nodup hj hq e
   unfold wpOp
   simp only [h3]
   rw [if_pos (wanted_of hro hR (by rw [p2]; rfl))]
   left
   have hstep : stepQ P (seg[i]).op st.env st.H (freshGen G) (16 * (seg[i]).d) (fun u dh => u = stF.env (seg[i]).d ∧ dh = []) := by
    rw [p1]; exact ⟨p3, rfl⟩
   refine quiet_sound hop (fun id _ l0 hl0 => freshGen_lt hl0) hR hstep _ (fun x w' R' G' hR' hV hG' => ?_)
   have hput := hR'.put hdn hV
   rw [← hdst, hd] at hput
   have hcnt := unl_set hs h1 h2
   rw [← hdst, hd]
   refine ih _ (by omega) (by simpa using hs) (closed_set D hs hc hx) (fun j hj => ?_) ?_ (fun j hj1 hj2 => ?_) ?_ ?_ (fun t ht' => ?_) (fun j q hj hl => ?_) hput
   ·rw [getD_set_iff (by omega), if_neg (by omega)]; exact hb j hj
   ·rw [getD_set_iff (by omega), if_neg (by omega)]; exact hr
   ·rw [getD_set_iff (by omega), if_neg (by omega)]; exact ht j hj1 hj2
   ·exact eH
   ·exact eD
   ·show upd st.env d _ t = _
    by_cases htd : t = d
    ·subst htd; rw [upd_same, hdd]
    ·rw [upd_ne _ _ htd]
     refine eE t fun j q hj hl => ?_
     by_cases hji : j = i
     ·subst hji; rw [hq] at hj; injection hj with hj; subst hj
      rw [hdd]; exact fun e => htd e.symm
     ·exact ht' j q hj (by rw [getD_set_iff (by omega), if_neg (by omega)]; exact hl)
   ·rw [getD_set_iff (by omega)] at hl
    by_cases hji : s + j = s + i
    ·rw [if_pos hji] at hl; cases hl
    ·rw [if_neg hji] at hl
     obtain ⟨y', e1, e2, e3, e4⟩ := hP j q hj hl
     refine ⟨y', e1, e2, ?_, e4⟩
     rw [← e3]
     refine val_same (l := q.op.looks) (fun t htm => ?_) y' (by rw [e1]; simp [ROp.looks])
     show upd st.env d _ t = st.env t
     refine upd_ne _ _ fun e => ?_
     refine e4 seg[i] (List.getElem_mem hrl) ?_
     rw [hdd, ← e]
     unfold ROper.reads; simp [htm]
theorem late_mid (hn : c.n = n) (hdie : DieOk c Q) (D : Down ops) {seg : List ROper} {r : ROper} {s : Nat} {K : St → Prop} (L : LFacts ops seg r s) (hres : ∀ (i : Nat) (o : Oper) (q : ROper), ops[s + i]? = some o → seg[i]? = some q → resOper P ops n o = some q) (hresr : ∀ o, ops[s + seg.length]? = some o → resOper P ops n o = some r)
  (hnext : From P c ops Q (s + seg.length + 1) K) {st0 : St} {sts : Nat → St} {vs : Nat → V} {ds : Nat → List (Nat × Option Ent)} (T : TraceOk P g seg st0 sts vs ds) (hend : wpR P [r] (sts seg.length) K) :
  ∀ (fuel : Nat) (listed : Array Bool) {st : St} {a : Act} {w : World} {R : Nat → Prop} {G : Nat → Option Loc}, unl ops listed = fuel → listed.size = ops.size → Closed ops listed → (∀ i, i < s → listed.getD i true = true) → (∀ i, s + seg.length ≤ i → i < ops.size → listed.getD i true = false) →
   Mid c seg s st0 vs (sts seg.length).H g listed st G → RelAt c st a w R G → wpAny P .any ops Q fuel listed a w := by
 have hle := L.lt
 have F := L.F
 have hone := from_one hn hdie D L.lt L.cut hresr hnext
 have done : ∀ (fuel : Nat) (listed : Array Bool) {st : St} {a : Act} {w : World} {R : Nat → Prop} {G : Nat → Option Loc}, unl ops listed = fuel → listed.size = ops.size → Closed ops listed → (∀ i, i < s → listed.getD i true = true) → (∀ i, s + seg.length ≤ i → i < ops.size → listed.getD i true = false) → (∀ i, i < seg.length → listed.getD (s + i) true = true) →
   Mid c seg s st0 vs (sts seg.length).H g listed st G → RelAt c st a w R G → wpAny P .any ops Q fuel listed a w := by
  intro fuel listed st a w R G hf hs hc hb ht hall M hR
  have hst : st = sts seg.length := by
   have e1 : st.env = (sts seg.length).env := by
    funext t
    by_cases hex : ∃ (i : Nat) (r : ROper), seg[i]? = some r ∧ r.d = t
    ·obtain ⟨i, r, h2, rfl⟩ := hex
     have h1 : i < seg.length := (List.getElem?_eq_some_iff.1 h2).1
     rw [M.at_ i r h2 (hall i h1)]
     exact (T.env_at seg.length (Nat.le_refl _) i r h1 h2).symm
    ·rw [M.other t (fun i r h2 _ h3 => hex ⟨i, r, h2, h3⟩)]
     exact (T.env_other seg.length (Nat.le_refl _) t fun j r _ h2 h3 => hex ⟨j, r, h2, h3⟩).symm
   have e3 : st.D = (sts seg.length).D := by rw [hR.die, T.D_at _ (Nat.le_refl _), M.D0]
   obtain ⟨env, H, D⟩ := st
   simp only at e1 e3
   have e2 : H = (sts seg.length).H := M.H
   rw [e1, e2, e3]
  subst hst
  refine hone fuel listed _ a w hf ⟨hs, hc, fun i hi hi2 => ?_, ht⟩ hend ⟨R, G, hR⟩
  by_cases hlt : i < s
  ·exact hb i hlt
  ·have := hall (i - s) (by omega)
   rwa [show s + (i - s) = i by omega] at this
 intro fuel
 induction fuel with
 | zero =>
  intro listed st a w R G hf hs hc hb ht M hR
  exact done 0 listed hf hs hc hb ht (fun i hi => unl_zero hf (by omega)) M hR
 | succ fuel ih =>
  intro listed st a w R G hf hs hc hb ht M hR
  by_cases hall : ∀ i, i < seg.length → listed.getD (s + i) true = true
  ·exact done (fuel + 1) listed hf hs hc hb ht hall M hR
  ·have hex : ∃ i, i < seg.length ∧ listed.getD (s + i) true = false := by
    apply Classical.byContradiction
    intro hn
    exact hall fun i hi => by
     cases hq : listed.getD (s + i) true with
     | true => rfl
     | false => exact absurd ⟨i, hi, hq⟩ hn
   obtain ⟨i0, hi0, hu0⟩ := hex
   obtain ⟨m, hm1, hm2, hm3⟩ := exists_min hu0
   have hready := ready_of_min D hs (by omega : m < ops.size) hm2 hm3
   refine ⟨fun h => (by rw [h] at hready; simp at hready), fun x hx => ?_⟩
   obtain ⟨h1, h2, o, h3, h4⟩ := mem_ready_iff.1 hx
   have hedge := ready_edges D hs hx
   have hxlo : s ≤ x := by
    apply Nat.le_of_not_lt
    intro q
    rw [hb x q] at h2; cases h2
   have hxle : x ≤ s + seg.length := by
    apply Nat.le_of_not_lt
    intro q
    have := ready_anc D hs hc hx (cut_anc L.cut (i := x) (j := s + i0) (by omega) h1 (by omega))
    rw [hu0] at this; cases this
   obtain ⟨i, rfl⟩ : ∃ i, x = s + i := ⟨x - s, by omega⟩
   by_cases hie : i = seg.length
   ·
    subst hie
    have hro := hresr o h3
    obtain ⟨hop, hdst, hdlt, _⟩ := resOper_spec hro
    have hdn := dst_lt hro hn
    have hun : ∀ (j : Nat) (q : ROper), seg[j]? = some q → listed.getD (s + j) true = false → ∃ x, q.op = .mv x ∧ q.guard = none ∧ q.d ∉ r.reads ∧ r.d ≠ q.d ∧ r.d ∉ q.reads ∧ ∀ q' ∈ seg, q'.d ∉ q.reads := fun j q hj hl => by
     rcases L.each j q hj with e | e
     ·rw [ready_anc D hs hc hx e] at hl; cases hl
     ·exact e
    have hsee : ∀ t ∈ r.reads, st.env t = (sts seg.length).env t := fun t htr => by
     by_cases hex : ∃ (j : Nat) (q : ROper), seg[j]? = some q ∧ q.d = t
     ·obtain ⟨j, q, p2, p3⟩ := hex
      subst p3
      have hjl : j < seg.length := (List.getElem?_eq_some_iff.1 p2).1
      have hl : listed.getD (s + j) true = true := by
       cases hq : listed.getD (s + j) true with
       | true => rfl
       | false => exact absurd htr (hun j q p2 hq).choose_spec.2.2.1
      rw [M.at_ j q p2 hl]
      exact (T.env_at seg.length (Nat.le_refl _) j q hjl p2).symm
     ·rw [M.other t (fun j q p2 _ p3 => hex ⟨j, q, p2, p3⟩)]
      exact (T.env_other seg.length (Nat.le_refl _) t fun j q _ p2 p3 => hex ⟨j, q, p2, p3⟩).symm
    have hgv : gv st.env r.guard = gv (sts seg.length).env r.guard := by
     cases hgd : r.guard with
     | none => rfl
     | some p =>
      obtain ⟨s', want⟩ := p
      simp only [gv]
      rw [hsee s' (by unfold ROper.reads; rw [hgd]; simp)]
    have hcnt := unl_set hs h1 h2
    have eD : st.D = (sts seg.length).D := by rw [hR.die, T.D_at _ (Nat.le_refl _), M.D0]
    have henv : ∀ t, (∀ (j : Nat) (q : ROper), seg[j]? = some q → listed.getD (s + j) true = false → q.d ≠ t) → st.env t = (sts seg.length).env t := fun t ht' => by
     by_cases hex : ∃ (j : Nat) (q : ROper), seg[j]? = some q ∧ q.d = t
     ·obtain ⟨j, q, p2, p3⟩ := hex
      subst p3
      have hjl : j < seg.length := (List.getElem?_eq_some_iff.1 p2).1
      have hl : listed.getD (s + j) true = true := by
       cases hq : listed.getD (s + j) true with
       | true => rfl
       | false => exact absurd rfl (ht' j q p2 hq)
      rw [M.at_ j q p2 hl]
      exact (T.env_at seg.length (Nat.le_refl _) j q hjl p2).symm
     ·rw [M.other t (fun j q p2 _ p3 => hex ⟨j, q, p2, p3⟩)]
      exact (T.env_other seg.length (Nat.le_refl _) t fun j q _ p2 p3 => hex ⟨j, q, p2, p3⟩).symm
    have hval : ∀ (j : Nat) (q : ROper), seg[j]? = some q → listed.getD (s + j) true = false → ∀ x, q.op = .mv x → q.guard = none → (∀ q' ∈ seg, q'.d ∉ q.reads) → val st.env x = (sts seg.length).env q.d := fun j q p2 hl x p3 p4 p5 => by
     have hjl : j < seg.length := (List.getElem?_eq_some_iff.1 p2).1
     rw [T.env_at seg.length (Nat.le_refl _) j q hjl p2]
     have hrun := T.step j _ p2
     have hv : vs j = val (sts j).env x := by
      rcases hrun.go with ⟨q1, _, _⟩ | ⟨_, q2⟩
      ·rw [p4] at q1; simp [gv] at q1
      ·rw [p3] at q2; exact q2.1.symm
     rw [hv]
     refine val_same (l := q.op.looks) (fun t htm => ?_) x (by rw [p3]; simp [ROp.looks])
     have hno : ∀ (k : Nat) (q' : ROper), seg[k]? = some q' → q'.d ≠ t := fun k q' hk e => by
      refine p5 q' (List.mem_of_getElem? hk) ?_
      rw [e]; unfold ROper.reads; simp [htm]
     rw [M.other t (fun k q' hk _ => hno k q' hk)]
     exact (T.env_other j (by omega) t fun k q' _ hk => hno k q' hk).symm
    have fin : ∀ {u : V} {dH : List (Nat × Option Ent)} {a' : Act} {w' : World} {R' : Nat → Prop} {G' : Nat → Option Loc}, K (St.put { sts seg.length with H := addH (sts seg.length).H dH } r.dst u) → RelAt c (St.put { st with H := addH st.H dH } r.dst u) a' w' R' G' → wpAny P .any ops Q fuel (listed.setIfInBounds (s + seg.length) true) a' w' := by
     intro u dH a' w' R' G' hK hR'
     have hpe : ∀ (e0 : Nat → V) (H0 : Nat → Option Ent) (D0 : Value → Prop) t, t ≠ r.d → (St.put ⟨e0, H0, D0⟩ r.dst u).env t = e0 t := fun e0 H0 D0 t ht' => by
      cases hd : r.dst with
      | none => rfl
      | some d =>
       show upd e0 d u t = e0 t
       exact upd_ne _ _ (fun e => ht' (by rw [e]; simp [ROper.d, hd]))
     have hpH : ∀ (e0 : Nat → V) (H0 : Nat → Option Ent) (D0 : Value → Prop), (St.put ⟨e0, H0, D0⟩ r.dst u).H = H0 := fun e0 H0 D0 => by cases r.dst <;> rfl
     have hpD : ∀ (e0 : Nat → V) (H0 : Nat → Option Ent) (D0 : Value → Prop), (St.put ⟨e0, H0, D0⟩ r.dst u).D = D0 := fun e0 H0 D0 => by cases r.dst <;> rfl
     refine late_rest hn D L hres hnext hK fuel _ (by omega) (by simpa using hs) (closed_set D hs hc hx) (fun j hj => ?_) ?_ (fun j hj1 hj2 => ?_) ?_ ?_ (fun t ht' => ?_) (fun j q hj hl => ?_) hR'
     ·rw [getD_set_iff (by omega), if_neg (by omega)]; exact hb j hj
     ·rw [getD_set_iff (by omega), if_pos rfl]
     ·rw [getD_set_iff (by omega), if_neg (by omega)]; exact ht j (by omega) hj2
     ·rw [hpH, hpH, M.H]
     ·rw [hpD, hpD, eD]
     ·by_cases htr : t = r.d
      ·cases hd : r.dst with
       | none =>
        show st.env t = (sts seg.length).env t
        exact henv t fun j q hj hl => ht' j q hj (by
         have := (List.getElem?_eq_some_iff.1 hj).1
         rw [getD_set_iff (by omega), if_neg (by omega)]; exact hl)
       | some d =>
        have : t = d := by rw [htr]; simp [ROper.d, hd]
        subst this
        show upd st.env t u t = upd (sts seg.length).env t u t
        rw [upd_same, upd_same]
      ·rw [hpe _ _ _ t htr, hpe _ _ _ t htr]
       exact henv t fun j q hj hl => ht' j q hj (by
        have := (List.getElem?_eq_some_iff.1 hj).1
        rw [getD_set_iff (by omega), if_neg (by omega)]; exact hl)
     ·have hjl := (List.getElem?_eq_some_iff.1 hj).1
      rw [getD_set_iff (by omega), if_neg (by omega)] at hl
      obtain ⟨x, e1, e2, e3, e4, e5, e6⟩ := hun j q hj hl
      refine ⟨x, e1, e2, ?_, e6⟩
      rw [hpe _ _ _ q.d (fun e => e4 e.symm), ← hval j q hj hl x e1 e2 e6]
      refine val_same (l := q.op.looks) (fun t htm => ?_) x (by rw [e1]; simp [ROp.looks])
      refine hpe _ _ _ t fun e => e5 ?_
      rw [← e]; unfold ROper.reads; simp [htm]
    unfold wpOp
    simp only [h3]
    have hw := hend
    simp only [wpR] at hw
    rcases guarded_gv hw with ⟨hg, hw⟩ | ⟨hg, hw⟩
    ·rw [if_pos (wanted_of hro hR (hgv.trans hg))]
     left
     unfold opR at hw
     rw [if_pos (late_isE L.late)] at hw
     have hw2 := stepE_late (env' := st.env) L.late (val_same fun t htm => hsee t (by unfold ROper.reads; simp [htm])) hw
     rw [← M.H, ← eD] at hw2
     refine eff_sound (d := r.d) hop hR hw2 (fun u dH hk x w' R' G' hR' hV => ?_) (fun v hv w' hfr => hdie v _ w' (hR.die ▸ hv) hfr hR.defers)
     have := hR'.put hdn hV
     rw [← hdst] at *
     exact fin hk this
    ·rw [if_neg (by rw [wanted_of hro hR (hgv.trans hg)]; simp)]
     have := hR.put hdn (u := .v undef) (.v undef)
     rw [← hdst] at *
     exact fin (dH := []) hw this
   ·have hrl : i < seg.length := by omega
    have hr : seg[i]? = some seg[i] := List.getElem?_eq_getElem hrl
    have hro := hres i o _ h3 hr
    obtain ⟨hop, hdst, hdlt, _⟩ := resOper_spec hro
    have hdn := dst_lt hro hn
    have hrun := T.step i _ hr
    have hsome := T.some_ i _ hr
    have hsee : ∀ t ∈ (seg[i]).reads, st.env t = (sts i).env t := fun t htr => by
     by_cases hex : ∃ (j : Nat) (q : ROper), seg[j]? = some q ∧ q.d = t
     ·obtain ⟨j, q, p2, p3⟩ := hex
      subst p3
      obtain ⟨p4, p5⟩ := F.reads i j _ q hr p2 htr
      rw [M.at_ j q p2 (hedge _ p5)]
      exact (T.env_at i (by omega) j q p4 p2).symm
     ·rw [M.other t (fun j q p2 _ p3 => hex ⟨j, q, p2, p3⟩)]
      exact (T.env_other i (by omega) t fun j q _ p2 p3 => hex ⟨j, q, p2, p3⟩).symm
    have hgv : gv st.env (seg[i]).guard = gv (sts i).env (seg[i]).guard := by
     cases hgd : (seg[i]).guard with
     | none => rfl
     | some p =>
      obtain ⟨s', want⟩ := p
      simp only [gv]
      rw [hsee s' (by unfold ROper.reads; rw [hgd]; simp)]
    have hHsub : ∀ id e, (sts i).H id = some e → st.H id = some e := fun id e he => by
     rw [M.H]
     exact T.H_mono (i := i) (by omega) (Nat.le_refl _) he
    have hnext' : ∀ {st' : St} {a' : Act} {w' : World} {R' : Nat → Prop} {G' : Nat → Option Loc}, st'.H = (sts seg.length).H → st'.env = upd st.env (seg[i]).d (vs i) → (∀ id, id / 16 ≠ (seg[i]).d → G' id = G id) → RelAt c st' a' w' R' G' → wpAny P .any ops Q fuel (listed.setIfInBounds (s + i) true) a' w' := by
     intro st' a' w' R' G' e1 e2 e3 hR'
     have hcnt := unl_set hs h1 h2
     refine ih _ (by omega) (by simpa using hs) (closed_set D hs hc hx) (fun j hj => ?_) (fun j hj1 hj2 => ?_) ⟨M.D0, e1, fun j q p2 p3 => ?_, fun t p => ?_, fun j q p2 p3 id p4 l p5 => ?_⟩ hR'
     ·rw [getD_set_iff (by omega), if_neg (by omega)]; exact hb j hj
     ·rw [getD_set_iff (by omega), if_neg (by omega)]; exact ht j hj1 hj2
     ·rw [e2]
      by_cases hji : j = i
      ·subst hji; rw [hr] at p2; injection p2 with p2; subst p2; rw [upd_same]
      ·rw [upd_ne _ _ (fun e => hji (T.inj p2 hr e))]
       rw [getD_set_iff (by omega), if_neg (by omega)] at p3
       exact M.at_ j q p2 p3
     ·rw [e2, upd_ne _ _ (fun e => p i _ hr (by rw [getD_set_iff (by omega), if_pos rfl]) e.symm)]
      refine M.other t fun j q p2 p3 => p j q p2 ?_
      rw [getD_set_iff (by omega)]
      split
      ·rfl
      ·exact p3
     ·rw [getD_set_iff (by omega)] at p3
      by_cases hji : s + j = s + i
      ·rw [if_pos hji] at p3; cases p3
      ·rw [if_neg hji] at p3
       rw [e3 id (fun e => hji (by rw [T.inj p2 hr (by omega)]))] at p5
       exact M.fresh j q p2 p3 id p4 l p5
    unfold wpOp
    simp only [h3]
    rcases hrun.go with ⟨q1, q2, q3⟩ | ⟨q1, q2⟩
    ·rw [if_neg (by rw [wanted_of hro hR (hgv.trans q1)]; simp)]
     have := hR.put hdn (u := .v undef) (.v undef)
     refine hnext' (st' := st.put o.dst (.v undef)) ?_ ?_ (fun _ _ => rfl) this
     ·rw [← hdst, hsome]; exact M.H
     ·rw [← hdst, hsome, q2]; rfl
    ·rw [if_pos (wanted_of hro hR (hgv.trans q1))]
     left
     have hq := stepQ_mono (env' := st.env) (H' := st.H) (val_same fun t htm => hsee t (by unfold ROper.reads; simp [htm])) hHsub q2
     refine quiet_sound hop (fun id hid l0 hl0 => M.fresh i _ hr h2 id hid l0 hl0) hR hq _ (fun x w' R' G' hR' hV hG' => ?_)
     have hHeq : addH st.H (ds i) = st.H := by
      rw [M.H]
      exact T.H_fin hr
     rw [hHeq] at hR'
     have := hR'.put hdn hV
     refine hnext' (st' := St.put st o.dst (vs i)) ?_ ?_ hG' this
     ·rw [← hdst, hsome]; exact M.H
     ·rw [← hdst, hsome]; rfl
theorem from_late (hn : c.n = n) (hdie : DieOk c Q) (D : Down ops) {seg : List ROper} {r : ROper} {s : Nat} {K : St → Prop} (L : LFacts ops seg r s) (hres : ∀ (i : Nat) (o : Oper) (q : ROper), ops[s + i]? = some o → seg[i]? = some q → resOper P ops n o = some q) (hresr : ∀ o, ops[s + seg.length]? = some o → resOper P ops n o = some r)
  (hnext : From P c ops Q (s + seg.length + 1) K) : From P c ops Q s (fun st => wpD P seg st fun st' => wpR P [r] st' K) := by
 intro fuel listed st a w hf hA hw hR
 have hle := L.lt
 have F := L.F
 obtain ⟨R, G, hR⟩ := hR
 have h' : wpDl P seg { st with H := dropH (allocDs seg) st.H } (fun st' => wpR P [r] st' K) := hw
 obtain ⟨sts, vs, ds, t1, t2, t3⟩ := trace (freshGen G) _ h'
 have T : TraceOk P (freshGen G) seg { st with H := dropH (allocDs seg) st.H } sts vs ds := by
  refine ⟨t1, t3, F.nodup, fun i r hr => ?_, fun id e he i r hr hal e2 => ?_⟩
  ·obtain ⟨d, hd⟩ := Option.isSome_iff_exists.1 (F.some_ i r hr)
   rw [hd]; simp [ROper.d, hd]
  ·obtain ⟨d, hd⟩ := Option.isSome_iff_exists.1 (F.some_ i r hr)
   refine (dropH_sub he).2 ?_
   unfold allocDs
   rw [List.mem_filterMap]
   refine ⟨r, List.mem_of_getElem? hr, ?_⟩
   rw [if_pos hal, e2, hd]; simp [ROper.d, hd]
 have hMid : RelAt c { st with H := (sts seg.length).H } a w R G := by
  refine hR.more fun id e he => ?_
  rcases T.H_from seg.length (Nat.le_refl _) id e he with q | ⟨j, r, q1, q2, q3, q4, q5⟩
  ·exact .inl (dropH_sub q).1
  ·exact .inr fun l hl => by rw [q4]; exact freshGen_lt hl
 refine late_mid (st := { st with H := (sts seg.length).H }) hn hdie D L hres hresr hnext T t2 fuel listed hf hA.size hA.closed (fun i hi => hA.yes i hi (by omega)) (fun i hi hi2 => hA.no i (by omega) hi2) ⟨hR.die, rfl, fun i r hr hl => ?_, fun t _ => rfl, fun i r hr hl id hid l hl' => freshGen_lt hl'⟩ hMid
 have hi : i < seg.length := (List.getElem?_eq_some_iff.1 hr).1
 rw [hA.no (s + i) (by omega) (by omega)] at hl; cases hl
end
end Go.Proofs.YtkclokmfomnbgaaGreat
