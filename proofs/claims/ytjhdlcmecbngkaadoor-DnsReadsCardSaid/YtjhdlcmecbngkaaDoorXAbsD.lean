/- The framework: part of this claim. -/
import Derived.Test.YtjhdlcmecbngkaaDoorXAbsT
set_option linter.unusedSimpArgs false
namespace Go.Proofs.YtjhdlcmecbngkaaDoor
open Go.RowKit
set_option linter.unusedVariables false
section
variable {P : Program} {c : Ctx} {Q : Exit → Act → World → Prop} {ops : Array Oper} {n : Nat} {g : Nat → Nat}
def lateOf : List ROper → Option ROper
 | r :: _ => bif isLate r.op then some r else none
 | [] => none
def wpS (P : Program) : List (List ROper) → St → (St → Prop) → Prop
 | [], st, K => K st
 | [] :: fl :: seg :: ss, st, K => match lateOf fl with
  | some r => wpD P seg st fun st' => wpR P [r] st' fun st'' => staysK fl.tail st'.env st'.H st''.H seg (wpS P ss st'' K)
  | none => match twoOf fl with
   | true => wpTwo P 5 (seg.take 2) (seg.drop 2) st fun st' => wpS P ss st' K
   | false => wpM P fl seg st fun st' => wpS P ss st' K
 | [r] :: ss, st, K => wpR P [r] st fun st' => wpS P ss st' K
 | seg :: ss, st, K => wpD P seg st fun st' => wpS P ss st' K
def flatS : List (List ROper) → List ROper
 | [] => []
 | [] :: fl :: seg :: ss => match lateOf fl with
  | some r => seg ++ ([r] ++ flatS ss)
  | none => seg ++ flatS ss
 | seg :: ss => seg ++ flatS ss
def segsOkM (ops : Array Oper) (ms : List Nat) : Nat → List (List ROper) → Bool
 | s, [] => decide (s = ops.size)
 | s, [] :: fl :: seg :: ss => match lateOf fl with
  | some r => lateOk ops ms s seg r fl.tail && segsOkM ops ms (s + seg.length + 1) ss
  | none => match twoOf fl with
   | true => twoOk ms s seg && cutAt ms (s + seg.length) && segsOkM ops ms (s + seg.length) ss
   | false => decide (0 < seg.length) && segOkM ops ms s seg fl && cutAt ms (s + seg.length) && segsOkM ops ms (s + seg.length) ss
 | s, seg :: ss => decide (0 < seg.length) && (decide (seg.length = 1) || segOk ops s seg) && cutAt ms (s + seg.length) && segsOkM ops ms (s + seg.length) ss
def flagsOf (ms : List Nat) (s m : Nat) : Nat → List ROper → List ROper
 | _, [] => []
 | i, r :: rs => if i == m || decide (i < m ∧ (ms.getD (s + m) 0).testBit (s + i) = true) || decide (m < i ∧ (ms.getD (s + i) 0).testBit (s + m) = true) then flagsOf ms s m (i + 1) rs else ⟨r.dst, none, .mkm⟩ :: flagsOf ms s m (i + 1) rs
def lateP (ms : List Nat) (s : Nat) (r : ROper) (seg : List ROper) : Bool :=
 isLate r.op && ((List.range seg.length).any fun i => !((ms.getD (s + seg.length) 0).testBit (s + i))) &&
 (List.range seg.length).all fun i => match seg[i]? with
  | some q => (ms.getD (s + seg.length) 0).testBit (s + i) || (isMv q && !(r.reads.contains q.d) && !(r.d == q.d) && !(q.reads.contains r.d) && seg.all fun q' => !(q.reads.contains q'.d))
  | none => false
def lateM (ms : List Nat) (s : Nat) (r : ROper) (seg : List ROper) : List ROper :=
 (List.range seg.length).filterMap fun i => match seg[i]? with
  | some q => if !((ms.getD (s + seg.length) 0).testBit (s + i)) && !(isMv q) then some ⟨q.dst, none, .mkm⟩ else none
  | none => none
def isApp : ROp → Bool
 | .app _ _ _ _ _ _ => true
 | _ => false
def isFldA : ROp → Bool
 | .fldA _ _ => true
 | _ => false
def lateP2 (ms : List Nat) (s : Nat) (r : ROper) (seg : List ROper) : Bool :=
  isLate r.op && (isApp r.op || (List.range seg.length).any fun i => match seg[i]? with
    | some q => !((ms.getD (s + seg.length) 0).testBit (s + i)) && isFldA q.op
    | none => false) &&
  ((List.range seg.length).all fun i => match seg[i]? with
    | some q => (ms.getD (s + seg.length) 0).testBit (s + i) || (isLF q && !(r.reads.contains q.d) && !(r.d == q.d) && !(q.reads.contains r.d))
    | none => false)
def oneStore : List ROper → Bool
 | [r] => isStore r.op
 | _ => false
def markM (ms : List Nat) : Nat → List (List ROper) → List (List ROper)
 | _, [] => []
 | s, seg :: ss => if isTwoP seg && twoOk ms s seg then [] :: [⟨none, none, .mkm⟩] :: seg :: markM ms (s + seg.length) ss else if decide (1 < seg.length) && seg.any (fun r => isStore r.op) then [] :: flagsOf ms s (storeIx seg) 0 seg :: seg :: markM ms (s + seg.length) ss else match seg.getLast? with
  | some r => if decide (1 < seg.length) && lateP ms s r seg.dropLast && ss.any oneStore then [] :: [r] :: seg.dropLast :: markM ms (s + seg.length) ss else if decide (1 < seg.length) && lateP2 ms s r seg.dropLast then [] :: (r :: lateM ms s r seg.dropLast) :: seg.dropLast :: markM ms (s + seg.length) ss else seg :: markM ms (s + seg.length) ss
  | none => seg :: markM ms (s + seg.length) ss
def segsM (ops : Array Oper) (rs : List ROper) : List (List ROper) := markM (masksOf ops) 0 (segsOf ops rs)
def dOkM (ops : Array Oper) (rs : List ROper) (segs : List (List ROper)) : Bool :=
 decide ((flatS segs).length = rs.length) && decide (rs.length = ops.size) && downOk ops && segsOkM ops (masksOf ops) 0 segs
theorem from_segs (hn : c.n = n) (hdie : DieOk c Q) (D : Down ops) {K : St → Prop} (hK : ∀ st' a' w', K st' → Rel c st' a' w' → Q .normal a' w') : ∀ (segs : List (List ROper)) (s : Nat), segsOkM ops (masksOf ops) s segs = true → s + (flatS segs).length = ops.size →
    (∀ (i : Nat) (o : Oper) (r : ROper), ops[s + i]? = some o → (flatS segs)[i]? = some r → resOper P ops n o = some r) → From P c ops Q s (fun st => wpS P segs st K)
  | [], s, h, hl, hres => by
    have hs : s = ops.size := by simpa [flatS] using hl
    subst hs
    exact from_end hK
  | [] :: fl :: seg :: ss, s, h, hl, hres => by
    cases hlt : lateOf fl with
    | some r =>
      simp only [segsOkM, hlt, Bool.and_eq_true] at h
      obtain ⟨h1, h3⟩ := h
      simp only [flatS, hlt] at hl hres
      rw [List.length_append, List.length_append, List.length_singleton] at hl
      have L := lateOk_facts h1
      have hrest := from_segs hn hdie D hK ss (s + seg.length + 1) h3 (by omega) (fun i o q ho hr => by
        refine hres (seg.length + 1 + i) o q (by rw [show s + (seg.length + 1 + i) = s + seg.length + 1 + i by omega]; exact ho) ?_
        rw [List.getElem?_append_right (by omega), List.getElem?_append_right (by simp; omega)]
        rw [List.length_singleton, show seg.length + 1 + i - seg.length - 1 = i by omega]; exact hr)
      have hres' : ∀ (i : Nat) (o : Oper) (q : ROper), ops[s + i]? = some o → seg[i]? = some q → resOper P ops n o = some q := fun i o q ho hr => by
        refine hres i o q ho ?_
        rw [List.getElem?_append_left (List.getElem?_eq_some_iff.1 hr).1]; exact hr
      have hresr : ∀ o, ops[s + seg.length]? = some o → resOper P ops n o = some r := fun o ho => by
        refine hres seg.length o r ho ?_
        rw [List.getElem?_append_right (Nat.le_refl _), Nat.sub_self]; rfl
      have := from_late hn hdie D L hres' hresr hrest
      intro fuel listed st a w q1 q2 q3 q4
      exact this fuel listed st a w q1 q2 (by simpa only [wpS, hlt] using q3) q4
    | none =>
      cases htw : twoOf fl with
      | true =>
        simp only [segsOkM, hlt, htw, Bool.and_eq_true] at h
        obtain ⟨⟨h1, h2⟩, h3⟩ := h
        simp only [flatS, hlt] at hl hres
        rw [List.length_append] at hl
        have h5 := twoOk_len h1
        have hrest := from_segs hn hdie D hK ss (s + seg.length) h3 (by omega) (fun i o r ho hr => by
          refine hres (seg.length + i) o r (by rw [← Nat.add_assoc]; exact ho) ?_
          rw [List.getElem?_append_right (by omega), show seg.length + i - seg.length = i by omega]; exact hr)
        have hres' : ∀ (i : Nat) (o : Oper) (r : ROper), ops[s + i]? = some o → seg[i]? = some r → resOper P ops n o = some r := fun i o r ho hr => by
          refine hres i o r ho ?_
          rw [List.getElem?_append_left (List.getElem?_eq_some_iff.1 hr).1]; exact hr
        have e1 : (seg.take 2).length = 2 := by rw [List.length_take]; omega
        have e2 : (seg.drop 2).length = 3 := by rw [List.length_drop]; omega
        have := from_two hn hdie D (s := s) (A := seg.take 2) (B := seg.drop 2) (by omega) (twoOk_facts h1) (by rw [e1, e2]; rw [h5] at h2; exact h2)
          (fun k o r ho hr => hres' k o r ho (by
            have hk : k < 2 := by have := (List.getElem?_eq_some_iff.1 hr).1; omega
            rwa [List.getElem?_take_of_lt hk] at hr))
          (fun k o r ho hr => hres' (2 + k) o r (by rw [e1] at ho; rwa [← Nat.add_assoc]) (by rwa [List.getElem?_drop] at hr))
          (by rw [e1, e2]; rw [h5] at hrest; exact hrest)
        rw [e1, e2] at this
        intro fuel listed st a w q1 q2 q3 q4
        exact this fuel listed st a w q1 q2 (by simpa only [wpS, hlt, htw] using q3) q4
      | false =>
        simp only [segsOkM, hlt, htw, Bool.and_eq_true, decide_eq_true_eq] at h
        obtain ⟨⟨⟨h0, h1⟩, h2⟩, h3⟩ := h
        simp only [flatS, hlt] at hl hres
        rw [List.length_append] at hl
        have hrest := from_segs hn hdie D hK ss (s + seg.length) h3 (by omega) (fun i o r ho hr => by
          refine hres (seg.length + i) o r (by rw [← Nat.add_assoc]; exact ho) ?_
          rw [List.getElem?_append_right (by omega), show seg.length + i - seg.length = i by omega]; exact hr)
        have hres' : ∀ (i : Nat) (o : Oper) (r : ROper), ops[s + i]? = some o → seg[i]? = some r → resOper P ops n o = some r := fun i o r ho hr => by
          refine hres i o r ho ?_
          rw [List.getElem?_append_left (List.getElem?_eq_some_iff.1 hr).1]; exact hr
        have := from_mix (fl := fl) hn D (segOkM_facts (by omega) h1) h2 hres' hrest
        intro fuel listed st a w q1 q2 q3 q4
        exact this fuel listed st a w q1 q2 (by simpa only [wpS, hlt, htw] using q3) q4
  | [r] :: ss, s, h, hl, hres => by
    simp only [segsOkM, Bool.and_eq_true, Bool.or_eq_true, decide_eq_true_eq] at h
    obtain ⟨⟨⟨h0, h1⟩, h2⟩, h3⟩ := h
    simp only [flatS] at hl hres
    rw [List.length_append] at hl
    have hrest := from_segs hn hdie D hK ss (s + [r].length) h3 (by omega) (fun i o r' ho hr => by
      refine hres ([r].length + i) o r' (by rw [← Nat.add_assoc]; exact ho) ?_
      rw [List.getElem?_append_right (by omega), show [r].length + i - [r].length = i by omega]; exact hr)
    have := from_one hn hdie D (s := s) (r := r) (by simp at hl; omega) h2 (fun o ho => hres 0 o r (by simpa using ho) rfl) hrest
    intro fuel listed st a w q1 q2 q3 q4
    exact this fuel listed st a w q1 q2 (by simpa only [wpS] using q3) q4
  | (r1 :: r2 :: seg) :: ss, s, h, hl, hres => by
    simp only [segsOkM, Bool.and_eq_true, Bool.or_eq_true, decide_eq_true_eq] at h
    obtain ⟨⟨⟨h0, h1⟩, h2⟩, h3⟩ := h
    simp only [flatS] at hl hres
    rw [List.length_append] at hl
    have hrest := from_segs hn hdie D hK ss (s + (r1 :: r2 :: seg).length) h3 (by omega) (fun i o r ho hr => by
      refine hres ((r1 :: r2 :: seg).length + i) o r (by rw [← Nat.add_assoc]; exact ho) ?_
      rw [List.getElem?_append_right (by omega), show (r1 :: r2 :: seg).length + i - (r1 :: r2 :: seg).length = i by omega]; exact hr)
    have hres' : ∀ (i : Nat) (o : Oper) (r : ROper), ops[s + i]? = some o → (r1 :: r2 :: seg)[i]? = some r → resOper P ops n o = some r := fun i o r ho hr => by
      refine hres i o r ho ?_
      rw [List.getElem?_append_left (List.getElem?_eq_some_iff.1 hr).1]; exact hr
    have h1' : segOk ops s (r1 :: r2 :: seg) = true := by
      rcases h1 with q | q
      · simp at q
      · exact q
    have := from_seg hn D (segOk_facts (by omega) h1') h2 hres' hrest
    intro fuel listed st a w q1 q2 q3 q4
    exact this fuel listed st a w q1 q2 (by simpa only [wpS] using q3) q4
  | [] :: [], s, h, hl, hres => by
    simp [segsOkM] at h
  | [] :: [fl], s, h, hl, hres => by
    simp [segsOkM] at h
theorem dreg_sound (hn : c.n = n) (hdie : DieOk c Q) (hm : P.follows .mixedOrders = true) {rs : List ROper} {segs : List (List ROper)} {id : Nat} {K : St → Prop} {st : St} {a : Act} {w : World} (hd : dOkM ops rs segs = true) (hfl : flatS segs = rs) (hmap : ops.toList.mapM (resOper P ops n) = some rs)
  (h : wpS P segs st K) (hR : Rel c st a w) (hK : ∀ st' a' w', K st' → Rel c st' a' w' → Q .normal a' w') : (Code.region id ops true).wp P Q a w := by
 unfold dOkM at hd
 simp only [Bool.and_eq_true, decide_eq_true_eq] at hd
 obtain ⟨⟨⟨d1, d2⟩, d3⟩, d4⟩ := hd
 have hres : ∀ (i : Nat) (o : Oper) (r : ROper), ops[i]? = some o → rs[i]? = some r → resOper P ops n o = some r := by
  have key : ∀ (l : List Oper) (rl : List ROper), l.mapM (resOper P ops n) = some rl → ∀ (i : Nat) (o : Oper) (r : ROper), l[i]? = some o → rl[i]? = some r → resOper P ops n o = some r := by
   intro l
   induction l with
   | nil => intro rl _ i o r ho; simp at ho
   | cons o l ih =>
    intro rl hm i o' r' ho hr
    rw [List.mapM_cons] at hm
    simp only [Option.bind_eq_bind, Option.bind_eq_some_iff, Option.pure_def, Option.some.injEq] at hm
    obtain ⟨r, h1, rs, h2, rfl⟩ := hm
    cases i with
    | zero => simp at ho hr; subst ho hr; exact h1
    | succ i => exact ih rs h2 i o' r' (by simpa using ho) (by simpa using hr)
  intro i o r ho hr
  exact key _ _ hmap i o r (by simpa using ho) hr
 have hfrom := from_segs (P := P) (c := c) (Q := Q) hn hdie (downOk_spec d3) hK segs 0 d4 (by omega) (fun i o r ho hr => hres i o r (by simpa using ho) (by rw [← hfl]; exact hr))
 obtain ⟨R, G, hR⟩ := hR
 have hR0 : Rel c st a { w with drawn := w.drawn + 1 } := ⟨R, G, hR.quiet ⟨rfl, rfl, rfl, Nat.le_refl _, fun _ _ _ => rfl⟩⟩
 refine wp_region_any hm ?_
 have hfalse : ∀ i, i < ops.size → (Array.replicate ops.size false).getD i true = false := fun i hi => by simp [Array.getD_eq_getD_getElem?, hi]
 have hu : unl ops (Array.replicate ops.size false) = ops.size := by
  unfold unl
  have : (List.range ops.size).countP (fun i => !(Array.replicate ops.size false).getD i true) = (List.range ops.size).length := by
   rw [List.countP_eq_length]
   intro i hi
   rw [hfalse i (List.mem_range.1 hi)]; rfl
  rw [this]; simp
 exact hfrom ops.size _ st a _ hu ⟨by simp, fun i j hi hl => (by rw [hfalse i hi] at hl; cases hl), fun i hi => by omega, fun i _ hi => hfalse i hi⟩ h hR0
end
end Go.Proofs.YtjhdlcmecbngkaaDoor
