/- Texts of this claim, joined. -/
import Derived.Maps.AppendAt
import Derived.ArgAppend
import Derived.Tactics
import Derived.LoopN
import Derived.Scope
import Derived.IntWalk
import Derived.Test.YtjhdlcmecbngkaaZa
/- Functions that turn what they are lent. No program in sight. -/
namespace Go.Proofs.Ytjhdlcmecbngkaa
open Go.RowKit
set_option linter.unusedVariables false
/-- what is handed over or back: as ever; a slice of our own that is turned in place; a pointer to a struct of our own that is turned; a pointer to a thing known by what holds of it alone, turned; such pointers handed over or back -/
inductive ParM where
  | p (p : Par)
  | ms (T : TypeId) (sz : Nat) (rows rows' : List (List V))
  | mn (T : TypeId) (cells cells' : List Par)
  | mo (I I' : Opq)
  | pn (T : TypeId) (cells : List Par)
  | po (I : Opq)
def NestOk (w : World) (R : Nat → Prop) (T : TypeId) (cells : List Par) (x : Value) (F : Nat → Prop) : Prop :=
  ∃ b xs, x = .pointer (some ⟨b, 0, none⟩) ∧ 0 < cells.length ∧ w.ownsRow 0 T cells.length (.slice (some ⟨b, 0, none⟩) 1 1) 1 xs ∧ Pars w R cells xs ∧ (∀ v ∈ xs, v.oneCell' = true) ∧ ¬ ParBlk cells xs b ∧ ∀ k, F k ↔ (k = b ∨ ParBlk cells xs k)
def OpqOk (w : World) (R : Nat → Prop) (I : Opq) (x : Value) (F : Nat → Prop) : Prop := (∃ b, x = .pointer (some ⟨b, 0, none⟩)) ∧ I.inv w R x F
def ParMOk (w : World) (R : Nat → Prop) : ParM → Value → (Nat → Prop) → Prop
  | .p p, x, F => ParOk w R p x ∧ ∀ k, F k ↔ ParBlk [p] [x] k
  | .ms T sz rows _, x, F => ParOk w R (.o T sz rows) x ∧ ∀ k, F k ↔ ParBlk [.o T sz rows] [x] k
  | .mn T cells _, x, F => NestOk w R T cells x F
  | .mo I _, x, F => OpqOk w R I x F
  | .pn T cells, x, F => NestOk w R T cells x F
  | .po I, x, F => OpqOk w R I x F
def ParsM (w : World) (R : Nat → Prop) : List ParM → List Value → (Nat → Prop) → Prop
  | [], [], F => ∀ b, ¬ F b
  | p :: ps, x :: xs, F => ∃ F1 F2, ParMOk w R p x F1 ∧ ParsM w R ps xs F2 ∧ (∀ b, F1 b → ¬ F2 b ∧ ¬ R b) ∧ ∀ b, F b ↔ F1 b ∨ F2 b
  | _, _, _ => False
def exitsP : List ParM → List ParM
  | [] => []
  | .ms T sz _ rows' :: ps => .p (.o T sz rows') :: exitsP ps
  | .mn T _ cells' :: ps => .pn T cells' :: exitsP ps
  | .mo _ I' :: ps => .po I' :: exitsP ps
  | _ :: ps => exitsP ps
def exitsX : List ParM → List Value → List Value
  | .ms _ _ _ _ :: ps, x :: xs => x :: exitsX ps xs
  | .mn _ _ _ :: ps, x :: xs => x :: exitsX ps xs
  | .mo _ _ :: ps, x :: xs => x :: exitsX ps xs
  | _ :: ps, _ :: xs => exitsX ps xs
  | _, _ => []
def FunM (P : Program) (f : FuncId) (ps rs : List ParM) : Prop :=
  Callable P f ∧ ∀ (w : World) (R : Nat → Prop) (xs : List Value) (F : Nat → Prop), (∀ b, R b → b < w.heap.size) → ParsM w R ps xs F →
    Calls P f xs.toArray w fun e w' => ∃ (ys : List Value) (R' F' : Nat → Prop), e = .returned (packV ys) ∧ rs.length = ys.length ∧ Fr F w w' ∧ (∀ b, R b → R' b) ∧
      (∀ b, R' b → R b ∨ (b < w'.heap.size ∧ (F b ∨ w.heap.size ≤ b))) ∧ ParsM w' R' (rs ++ exitsP ps) (ys ++ exitsX ps xs) F' ∧ (∀ b, F' b → F b ∨ w.heap.size ≤ b)
/-- the function gives up by a panic -/
def FunDie (P : Program) (f : FuncId) (ps : List ParM) (v : Value) : Prop :=
  Callable P f ∧ ∀ (w : World) (R : Nat → Prop) (xs : List Value) (F : Nat → Prop), (∀ b, R b → b < w.heap.size) → ParsM w R ps xs F →
    Calls P f xs.toArray w fun e w' => e = .panicked [{ v := v, recovered := false }] ∧ Fr F w w'
/-- a struct known by its cells is a thing of that kind -/
def Folds (T : TypeId) (row : List V) (I : Opq) : Prop :=
  ∀ (w : World) (R : Nat → Prop) (b : Nat) (xs : List Value), w.ownsRow 0 T row.length (.slice (some ⟨b, 0, none⟩) 1 1) 1 xs → (∀ (j : Nat) (u : V) (y : Value), row[j]? = some u → xs[j]? = some y → RV w R noG u y) → I.inv w R (.pointer (some ⟨b, 0, none⟩)) fun k => k = b
inductive ArgsM (H : Nat → Option Ent) (all : List Nat) : Bool → List Nat → List V → List ParM → Prop where
  | nil (bor : Bool) : ArgsM H all bor [] [] []
  | old {bor gone1 gone u p us ps} (h1 : ArgsOk H all bor gone1 [u] [p]) (hd : ∀ id ∈ gone1, id ∉ gone ∧ id ∈ all) (h : ArgsM H all bor gone us ps) : ArgsM H all bor (gone1 ++ gone) (u :: us) (.p p :: ps)
  | ms {bor gone id g e T rows' us ps} (he : H id = some e) (hg : e.gen = g) (hT : e.T = .t T) (hr : ∀ row ∈ e.rows, ∀ u ∈ row, Cl u) (hn : id ∉ gone) (ha : id ∈ all) (hl : rows'.length = e.rows.length) (h : ArgsM H all bor gone us ps) : ArgsM H all bor (id :: gone) (.own id g :: us) (.ms T e.sz e.rows rows' :: ps)
  | mn {bor gone gone1 id g e T row cells cells' us ps} (he : H id = some e) (hg : e.gen = g) (hT : e.T = .b T) (hrow : e.rows = [row]) (hc : ArgsOk H all false gone1 row cells) (hd : ∀ k ∈ gone1, k ∉ gone ∧ k ∈ all ∧ k ≠ id) (hn : id ∉ gone) (ha : id ∈ all) (hl : cells'.length = cells.length) (h : ArgsM H all bor gone us ps) : ArgsM H all bor (id :: (gone1 ++ gone)) (.ptr id g 0 0 :: us) (.mn T cells cells' :: ps)
  | pn {bor gone gone1 id g e T row cells us ps} (he : H id = some e) (hg : e.gen = g) (hT : e.T = .b T) (hrow : e.rows = [row]) (hc : ArgsOk H all false gone1 row cells) (hd : ∀ k ∈ gone1, k ∉ gone ∧ k ∈ all ∧ k ≠ id) (hn : id ∉ gone) (ha : id ∈ all) (h : ArgsM H all bor gone us ps) : ArgsM H all bor (id :: (gone1 ++ gone)) (.ptr id g 0 0 :: us) (.pn T cells :: ps)
  | mo {bor gone id g e I I' us ps} (he : H id = some e) (hg : e.gen = g) (hT : e.T = .q I) (hn : id ∉ gone) (ha : id ∈ all) (h : ArgsM H all bor gone us ps) : ArgsM H all bor (id :: gone) (.ptr id g 0 0 :: us) (.mo I I' :: ps)
  | fo {bor gone id g e T row I I' us ps} (he : H id = some e) (hg : e.gen = g) (hT : e.T = .b T) (hrow : e.rows = [row]) (hcl : ∀ u ∈ row, Cl u) (hf : Folds T row I) (hn : id ∉ gone) (ha : id ∈ all) (h : ArgsM H all bor gone us ps) : ArgsM H all bor (id :: gone) (.ptr id g 0 0 :: us) (.mo I I' :: ps)
  | po {bor gone id g e I us ps} (he : H id = some e) (hg : e.gen = g) (hT : e.T = .q I) (hn : id ∉ gone) (ha : id ∈ all) (h : ArgsM H all bor gone us ps) : ArgsM H all bor (id :: gone) (.ptr id g 0 0 :: us) (.po I :: ps)
  | pf {bor gone id g e T row I us ps} (he : H id = some e) (hg : e.gen = g) (hT : e.T = .b T) (hrow : e.rows = [row]) (hcl : ∀ u ∈ row, Cl u) (hf : Folds T row I) (hn : id ∉ gone) (ha : id ∈ all) (h : ArgsM H all bor gone us ps) : ArgsM H all bor (id :: gone) (.ptr id g 0 0 :: us) (.po I :: ps)
section
variable {P : Program} {c : Ctx} {st : St} {a : Act} {w w' : World} {R : Nat → Prop} {G : Nat → Option Loc} {o : Oper} {Q : Exit → Act → World → Prop} {d : Nat} {u : V} {dH : List (Nat × Option Ent)}
theorem pv_own {v : Value} {b : Nat} (h : v.ownBlock = some b) : pv v = .pointer (some ⟨b, 0, none⟩) := by
  cases v with
  | slice ad n cap => cases ad with
    | none => cases h
    | some ad => simp only [Value.ownBlock] at h; injection h with h; simp [pv, h]
  | _ => cases h
/-- a nest, out of what is known of it -/
theorem nest_of (h : RelAt c st a w R G) {all gone1 : List Nat} {bor0 : Bool} {id g : Nat} {e : Ent} {T : TypeId} {row : List V} {cells : List Par} {x : Value} (hx : RV w R G (.ptr id g 0 0) x) (he : st.H id = some e) (hg : e.gen = g) (hT : e.T = .b T) (hrow : e.rows = [row])
    (hc : ArgsOk st.H all false gone1 row cells) (hd : ∀ k ∈ gone1, k ∈ all ∧ k ≠ id) (ha : id ∈ all) :
    ∃ F, NestOk w (RB R G st.H all bor0) T cells x F ∧ (∀ b, F b → ∃ k ∈ id :: gone1, ∃ ek l, st.H k = some ek ∧ G k = some l ∧ l.gen = ek.gen ∧ l.ft b) := by
  obtain ⟨l, xs, b, T0, g1, g2, g3, g4, g5, g6, hbk, hax, hT0, hop0⟩ := h.objP hx he hg (k := 0) (row := row) (by rw [hrow]; rfl)
  have g2' : l.gen = e.gen := g2.trans hg.symm
  rcases hT0 with hT0 | ⟨hT0, hb0, b', hv⟩
  · rw [hT] at hT0; cases hT0
  rw [hT] at hT0; injection hT0 with hT0; subst hT0
  have hbb : b' = b := by rw [hv] at hbk; simpa [Value.ownBlock] using hbk
  subst hbb
  rw [hrow] at g5 g6
  have hrl : row.length = e.sz := g6.1 row (by simp)
  have hxl : xs.length = e.sz := by have := g5.1; simpa using this
  have hcell : ∀ (i : Nat) (u : V) (y : Value), row[i]? = some u → xs[i]? = some y → y.oneCell' = true ∧ RV w R G u y := fun i u y h1 h2 => by
    obtain ⟨z, q1, q2, q3⟩ := g6.2 0 i row u rfl h1
    rw [Nat.zero_mul, Nat.zero_add, h2] at q1; injection q1 with q1; subst q1
    exact ⟨q2, q3⟩
  obtain ⟨h1, h2⟩ := args_pars h (bor0 := bor0) hc (fun e => by cases e) (by omega) (fun i u y q1 q2 => (hcell i u y q1 q2).2) (fun k hk => (hd k hk).1)
  have hcl : cells.length = e.sz := by rw [h1.len]; exact hxl
  have hft : l.ft b' := (Loc.ft_of hop0).2 hbk
  have hnb : ¬ ParBlk cells xs b' := fun q => by
    obtain ⟨k, hk, ek, lk, q1, q2, q3, q4⟩ := h2 b' q
    exact h.hr.apart k id ek e lk l b' q1 he (hd k hk).2 q2 g1 q3 g2' q4 hft
  refine ⟨fun k => k = b' ∨ ParBlk cells xs k, ⟨b', xs, ?_, by omega, ?_, h1, ?_, hnb, fun k => Iff.rfl⟩, ?_⟩
  · rw [hax]; simp
  · rw [hcl, ← hv]; exact g5
  · intro v hv
    obtain ⟨i, hi, rfl⟩ := List.mem_iff_getElem.1 hv
    exact (hcell i (row[i]'(by omega)) _ (List.getElem?_eq_getElem (by omega)) (List.getElem?_eq_getElem hi)).1
  · rintro k (rfl | hk)
    · exact ⟨id, List.mem_cons_self .., e, l, he, g1, g2', hft⟩
    · obtain ⟨j, hj, q⟩ := h2 k hk
      exact ⟨j, List.mem_cons_of_mem _ hj, q⟩
theorem rel_RB (R : Nat → Prop) (G : Nat → Option Loc) (H : Nat → Option Ent) (all : List Nat) (bor : Bool) : ∀ b, R b → RB R G H all bor b := fun b hb => .inl hb
theorem opq_of (h : RelAt c st a w R G) {all : List Nat} {bor0 : Bool} {id g : Nat} {e : Ent} {I : Opq} {x : Value} (hx : RV w R G (.ptr id g 0 0) x) (he : st.H id = some e) (hg : e.gen = g) (hT : e.T = .q I) :
    ∃ F, OpqOk w (RB R G st.H all bor0) I x F ∧ (∀ b, F b → ∃ ek l, st.H id = some ek ∧ G id = some l ∧ l.gen = ek.gen ∧ l.ft b) := by
  obtain ⟨l, b, g1, g2, g3, hbk, hax⟩ := h.objB hx he hg
  have g2' : l.gen = e.gen := g2.trans hg.symm
  obtain ⟨g0, To, sz, rows⟩ := e
  have hT : To = .q I := hT
  subst hT
  obtain ⟨F, k1, k2, k3, k4⟩ := g3
  refine ⟨F, ⟨⟨b, by rw [hax]; simp⟩, ?_⟩, fun k hk => ⟨_, l, he, g1, g2', by simp only [Loc.ft, k1]; exact hk⟩⟩
  have e1 : x = pv l.val := by rw [hax, pv_own hbk]; simp
  rw [e1]
  exact I.mono k4 (fun b hb => ⟨rel_RB _ _ _ _ _ b hb, rfl⟩) (fun _ _ => rfl)
theorem fold_of (h : RelAt c st a w R G) {all : List Nat} {bor0 : Bool} {id g : Nat} {e : Ent} {T : TypeId} {row : List V} {I : Opq} {x : Value} (hx : RV w R G (.ptr id g 0 0) x) (he : st.H id = some e) (hg : e.gen = g) (hT : e.T = .b T) (hrow : e.rows = [row]) (hcl : ∀ u ∈ row, Cl u) (hf : Folds T row I) :
    ∃ F, OpqOk w (RB R G st.H all bor0) I x F ∧ (∀ b, F b → ∃ ek l, st.H id = some ek ∧ G id = some l ∧ l.gen = ek.gen ∧ l.ft b) := by
  obtain ⟨l, xs, b, T0, g1, g2, g3, g4, g5, g6, hbk, hax, hT0, hop0⟩ := h.objP hx he hg (k := 0) (row := row) (by rw [hrow]; rfl)
  have g2' : l.gen = e.gen := g2.trans hg.symm
  rcases hT0 with hT0 | ⟨hT0, hb0, b', hv⟩
  · rw [hT] at hT0; cases hT0
  rw [hT] at hT0; injection hT0 with hT0; subst hT0
  have hbb : b' = b := by rw [hv] at hbk; simpa [Value.ownBlock] using hbk
  subst hbb
  rw [hrow] at g5 g6
  have hrl : row.length = e.sz := g6.1 row (by simp)
  have hax' : x = .pointer (some ⟨b', 0, none⟩) := by rw [hax]; simp
  refine ⟨fun k => k = b', ⟨⟨b', hax'⟩, ?_⟩, fun k hk => ⟨e, l, he, g1, g2', by have hk : k = b' := hk; subst hk; exact (Loc.ft_of hop0).2 hbk⟩⟩
  rw [hax']
  refine hf w _ b' xs (by rw [hrl, ← hv]; exact g5) fun j u y h1 h2 => ?_
  obtain ⟨z, q1, q2, q3⟩ := g6.2 0 j row u rfl h1
  rw [Nat.zero_mul, Nat.zero_add, h2] at q1; injection q1 with q1; subst q1
  exact (hcl u (List.mem_of_getElem? h1) _ _ _ noG _ q3).mono (fun b hb => ⟨rel_RB _ _ _ _ _ b hb, rfl⟩) (Gle.refl _)
/-- arguments, as a callee has them -/
theorem argsM_pars (h : RelAt c st a w R G) {all : List Nat} {bor0 : Bool} : ∀ {bor : Bool} {gone : List Nat} {us : List V} {ps : List ParM} {xs : List Value}, ArgsM st.H all bor gone us ps → (bor = true → bor0 = true) → us.length = xs.length →
    (∀ (i : Nat) (u : V) (x : Value), us[i]? = some u → xs[i]? = some x → RV w R G u x) →
    ∃ F, ParsM w (RB R G st.H all bor0) ps xs F ∧ (∀ b, F b → ∃ id ∈ gone, ∃ e l, st.H id = some e ∧ G id = some l ∧ l.gen = e.gen ∧ l.ft b) ∧ ∀ id ∈ gone, id ∈ all := by
  intro bor gone us ps xs hA
  have notR : ∀ {id : Nat} {e : Ent} {l : Loc} {b : Nat}, st.H id = some e → G id = some l → l.gen = e.gen → l.ft b → id ∈ all → ¬ RB R G st.H all bor0 b := fun {id e l b} h1 h2 h3 h4 ha hRB => by
    rcases hRB with hR | ⟨_, id', e', l', q0, q1, q2, q25, q3⟩
    · exact (h.hr.mine id e l b h1 h2 h3 h4).1 hR
    · exact h.hr.apart id id' e e' l l' b h1 q1 (fun e => q0 (e ▸ ha)) h2 q2 h3 q25 h4 q3
  -- one more, over what is known of the rest
  have step : ∀ {p : ParM} {ps : List ParM} {x : Value} {xs : List Value} {F1 F2 : Nat → Prop} {mine gone : List Nat}, ParMOk w (RB R G st.H all bor0) p x F1 → ParsM w (RB R G st.H all bor0) ps xs F2 →
      (∀ b, F1 b → ∃ id ∈ mine, ∃ e l, st.H id = some e ∧ G id = some l ∧ l.gen = e.gen ∧ l.ft b) → (∀ b, F2 b → ∃ id ∈ gone, ∃ e l, st.H id = some e ∧ G id = some l ∧ l.gen = e.gen ∧ l.ft b) → (∀ id ∈ mine, id ∉ gone ∧ id ∈ all) → (∀ id ∈ gone, id ∈ all) →
      ∃ F, ParsM w (RB R G st.H all bor0) (p :: ps) (x :: xs) F ∧ (∀ b, F b → ∃ id ∈ mine ++ gone, ∃ e l, st.H id = some e ∧ G id = some l ∧ l.gen = e.gen ∧ l.ft b) ∧ ∀ id ∈ mine ++ gone, id ∈ all := fun h1 h2 h3 h4 h5 h6 => by
    refine ⟨_, ⟨_, _, h1, h2, fun b hb => ?_, fun b => Iff.rfl⟩, ?_, fun id hid => ?_⟩
    · obtain ⟨id, hid, e, l, q1, q2, q3, q4⟩ := h3 b hb
      refine ⟨fun hb2 => ?_, notR q1 q2 q3 q4 (h5 id hid).2⟩
      obtain ⟨id', hid', e', l', r1, r2, r3, r4⟩ := h4 b hb2
      exact h.hr.apart id id' e e' l l' b q1 r1 (fun e => (h5 id hid).1 (e ▸ hid')) q2 r2 q3 r3 q4 r4
    · rintro b (hb | hb)
      · obtain ⟨id, hid, q⟩ := h3 b hb; exact ⟨id, List.mem_append_left _ hid, q⟩
      · obtain ⟨id, hid, q⟩ := h4 b hb; exact ⟨id, List.mem_append_right _ hid, q⟩
    · rcases List.mem_append.1 hid with q | q
      · exact (h5 id q).2
      · exact h6 id q
  induction hA generalizing xs with
  | nil =>
    intro hbor hl _
    match xs, hl with
    | [], _ => exact ⟨fun _ => False, fun b hb => hb, fun b hb => hb.elim, fun id hid => by simp at hid⟩
  | @old gone1 gone u p us ps h1 hd hA ih =>
    intro hbor hl hh
    match xs, hl with
    | x :: xs, hl =>
      obtain ⟨F, f1, f2, f3⟩ := ih hbor (by simpa using hl) (fun i u x h1 h2 => hh (i + 1) u x (by simpa using h1) (by simpa using h2))
      obtain ⟨k1, k2⟩ := args_pars h (bor0 := bor0) h1 hbor (xs := [x]) rfl (fun i u y q1 q2 => by
        cases i with
        | zero => simp at q1 q2; subst q1 q2; exact hh 0 _ x rfl rfl
        | succ i => simp at q1) (fun k hk => (hd k hk).2)
      exact step (p := .p p) (F1 := ParBlk [p] [x]) ⟨k1.ok 0 p x rfl rfl, fun k => Iff.rfl⟩ f1 k2 f2 (fun k hk => hd k hk) f3
  | @ms gone id g e T rows' us ps he hg hT hr hn ha hlr hA ih =>
    intro hbor hl hh
    match xs, hl with
    | x :: xs, hl =>
      obtain ⟨F, f1, f2, f3⟩ := ih hbor (by simpa using hl) (fun i u x h1 h2 => hh (i + 1) u x (by simpa using h1) (by simpa using h2))
      obtain ⟨k1, k2⟩ := args_pars h (bor0 := bor0) (all := all) (ArgsOk.give (bor := false) (gone := []) he hg hT hr (by simp) ha (.nil _)) (fun e => by cases e) (xs := [x]) rfl (fun i u y q1 q2 => by
        cases i with
        | zero => simp at q1 q2; subst q1 q2; exact hh 0 _ x rfl rfl
        | succ i => simp at q1) (fun k hk => by simp at hk; rw [hk]; exact ha)
      exact step (p := .ms T e.sz e.rows rows') (F1 := ParBlk [.o T e.sz e.rows] [x]) (mine := [id]) ⟨k1.ok 0 _ x rfl rfl, fun k => Iff.rfl⟩ f1 k2 f2 (fun k hk => by simp at hk; rw [hk]; exact ⟨hn, ha⟩) f3
  | @mn gone gone1 id g e T row cells cells' us ps he hg hT hrow hc hd hn ha hlc hA ih =>
    intro hbor hl hh
    match xs, hl with
    | x :: xs, hl =>
      obtain ⟨F, f1, f2, f3⟩ := ih hbor (by simpa using hl) (fun i u x h1 h2 => hh (i + 1) u x (by simpa using h1) (by simpa using h2))
      obtain ⟨F1, k1, k2⟩ := nest_of h (bor0 := bor0) (hh 0 _ x rfl rfl) he hg hT hrow hc (fun k hk => (hd k hk).2) ha
      exact step (p := .mn T cells cells') (mine := id :: gone1) k1 f1 k2 f2 (fun k hk => by
        rcases List.mem_cons.1 hk with rfl | hk
        · exact ⟨hn, ha⟩
        · exact ⟨(hd k hk).1, (hd k hk).2.1⟩) f3
  | @pn gone gone1 id g e T row cells us ps he hg hT hrow hc hd hn ha hA ih =>
    intro hbor hl hh
    match xs, hl with
    | x :: xs, hl =>
      obtain ⟨F, f1, f2, f3⟩ := ih hbor (by simpa using hl) (fun i u x h1 h2 => hh (i + 1) u x (by simpa using h1) (by simpa using h2))
      obtain ⟨F1, k1, k2⟩ := nest_of h (bor0 := bor0) (hh 0 _ x rfl rfl) he hg hT hrow hc (fun k hk => (hd k hk).2) ha
      exact step (p := .pn T cells) (mine := id :: gone1) k1 f1 k2 f2 (fun k hk => by
        rcases List.mem_cons.1 hk with rfl | hk
        · exact ⟨hn, ha⟩
        · exact ⟨(hd k hk).1, (hd k hk).2.1⟩) f3
  | @mo gone id g e I I' us ps he hg hT hn ha hA ih =>
    intro hbor hl hh
    match xs, hl with
    | x :: xs, hl =>
      obtain ⟨F, f1, f2, f3⟩ := ih hbor (by simpa using hl) (fun i u x h1 h2 => hh (i + 1) u x (by simpa using h1) (by simpa using h2))
      obtain ⟨F1, k1, k2⟩ := opq_of h (all := all) (bor0 := bor0) (hh 0 _ x rfl rfl) he hg hT
      exact step (p := .mo I I') (mine := [id]) k1 f1 (fun b hb => ⟨id, by simp, k2 b hb⟩) f2 (fun k hk => by simp at hk; rw [hk]; exact ⟨hn, ha⟩) f3
  | @fo gone id g e T row I I' us ps he hg hT hrow hcl hf hn ha hA ih =>
    intro hbor hl hh
    match xs, hl with
    | x :: xs, hl =>
      obtain ⟨F, f1, f2, f3⟩ := ih hbor (by simpa using hl) (fun i u x h1 h2 => hh (i + 1) u x (by simpa using h1) (by simpa using h2))
      obtain ⟨F1, k1, k2⟩ := fold_of h (all := all) (bor0 := bor0) (hh 0 _ x rfl rfl) he hg hT hrow hcl hf
      exact step (p := .mo I I') (mine := [id]) k1 f1 (fun b hb => ⟨id, by simp, k2 b hb⟩) f2 (fun k hk => by simp at hk; rw [hk]; exact ⟨hn, ha⟩) f3
  | @po gone id g e I us ps he hg hT hn ha hA ih =>
    intro hbor hl hh
    match xs, hl with
    | x :: xs, hl =>
      obtain ⟨F, f1, f2, f3⟩ := ih hbor (by simpa using hl) (fun i u x h1 h2 => hh (i + 1) u x (by simpa using h1) (by simpa using h2))
      obtain ⟨F1, k1, k2⟩ := opq_of h (all := all) (bor0 := bor0) (hh 0 _ x rfl rfl) he hg hT
      exact step (p := .po I) (mine := [id]) k1 f1 (fun b hb => ⟨id, by simp, k2 b hb⟩) f2 (fun k hk => by simp at hk; rw [hk]; exact ⟨hn, ha⟩) f3
  | @pf gone id g e T row I us ps he hg hT hrow hcl hf hn ha hA ih =>
    intro hbor hl hh
    match xs, hl with
    | x :: xs, hl =>
      obtain ⟨F, f1, f2, f3⟩ := ih hbor (by simpa using hl) (fun i u x h1 h2 => hh (i + 1) u x (by simpa using h1) (by simpa using h2))
      obtain ⟨F1, k1, k2⟩ := fold_of h (all := all) (bor0 := bor0) (hh 0 _ x rfl rfl) he hg hT hrow hcl hf
      exact step (p := .po I) (mine := [id]) k1 f1 (fun b hb => ⟨id, by simp, k2 b hb⟩) f2 (fun k hk => by simp at hk; rw [hk]; exact ⟨hn, ha⟩) f3
end
end Go.Proofs.Ytjhdlcmecbngkaa
/- What comes back of a call, put in its places. No program in sight. -/
namespace Go.Proofs.Ytjhdlcmecbngkaa
open Go.RowKit
set_option linter.unusedVariables false
def kx (id : Nat) : Nat := 100000000 + 64 * id
def jobH (g : Nat → Nat) (id gn : Nat) : ParM → List (Nat × Option Ent)
  | .p (.o T sz rows) => [(id, some ⟨gn, .t T, sz, rows⟩)]
  | .pn T cells => resH g (kx id) cells ++ [(id, some ⟨gn, .b T, cells.length, [resV g (kx id) cells]⟩)]
  | .po I => [(id, some ⟨gn, .q I, 0, []⟩)]
  | _ => []
def jobV (id gn : Nat) : ParM → V
  | .p (.c u) => u
  | .p (.o _ _ _) => .own id gn
  | .pn _ _ => .ptr id gn 0 0
  | .po _ => .ptr id gn 0 0
  | _ => .any
def nC : ParM → Nat
  | .pn _ cells => cells.length
  | _ => 0
def jobIds (id : Nat) (p : ParM) : List Nat := id :: (List.range (nC p)).map fun j => kx id + j
def LocFor (gn : Nat) (p : ParM) (y : Value) (F : Nat → Prop) (l : Loc) : Prop := l.gen = gn ∧ match p with
  | .p (.c _) => True
  | .p (.o _ sz _) => l.sz = sz ∧ l.val = y ∧ l.box = false ∧ l.op = none
  | .pn _ cells => l.sz = cells.length ∧ (∃ b, y = .pointer (some ⟨b, 0, none⟩) ∧ l.val = .slice (some ⟨b, 0, none⟩) 1 1) ∧ l.box = true ∧ l.op = none
  | .po _ => (∃ b, y = .pointer (some ⟨b, 0, none⟩) ∧ l.val.ownBlock = some b) ∧ l.box = true ∧ l.op = some F
  | _ => False
def flatM : ParM → Prop
  | .p p => flatRes [p]
  | .pn _ cells => flatRes cells
  | .po I => ∀ (w : World) (R R' : Nat → Prop) (x : Value) (F : Nat → Prop), I.inv w R x F → I.inv w R' x F
  | _ => True
section
variable {P : Program} {c : Ctx} {st : St} {a : Act} {w w' : World} {R : Nat → Prop} {G : Nat → Option Loc} {o : Oper} {Q : Exit → Act → World → Prop} {d : Nat} {u : V} {dH : List (Nat × Option Ent)}
theorem parOk_move {R' : Nat → Prop} {p : Par} {x : Value} (h : ParOk w R p x) (hm : (∀ b, R b → R' b) ∨ flatRes [p]) : ParOk w R' p x := by
  have key : ∀ u y, ((∀ b, R b → R' b) ∨ Fl u) → RV w R noG u y → RV w R' noG u y := fun u y q hy => by
    rcases q with q | q
    · exact hy.mono (fun b hb => ⟨q b hb, rfl⟩) (Gle.refl _)
    · exact q _ _ _ _ _ _ _ hy
  cases p with
  | c u => exact key u x (hm.imp id fun q => q _ (List.mem_singleton.2 rfl)) h
  | o T sz rows =>
    obtain ⟨h1, zs, h2, h3, h4⟩ := h
    refine ⟨h1, zs, h2, h3, fun i j row u q1 q2 => ?_⟩
    obtain ⟨x, r3, r4, r5⟩ := h4 i j row u q1 q2
    exact ⟨x, r3, r4, key u x (hm.imp id fun q => q _ (List.mem_singleton.2 rfl) row (List.mem_of_getElem? q1) u (List.mem_of_getElem? q2)) r5⟩
theorem parM_move {R' : Nat → Prop} {p : ParM} {x : Value} {F : Nat → Prop} (h : ParMOk w R p x F) (hm : (∀ b, R b → R' b) ∨ flatM p) (hout : ∀ q q', p ≠ .mo q q') (hout2 : ∀ T q q', p ≠ .mn T q q') (hout3 : ∀ T sz q q', p ≠ .ms T sz q q') (hF : ∀ b, F b → ¬ R' b) : ParMOk w R' p x F := by
  cases p with
  | p p => exact ⟨parOk_move h.1 hm, h.2⟩
  | ms T sz q q' => exact absurd rfl (hout3 T sz q q')
  | mn T q q' => exact absurd rfl (hout2 T q q')
  | mo q q' => exact absurd rfl (hout q q')
  | pn T cells =>
    obtain ⟨b, xs, h1, h2, h3, h4, h5, h6, h7⟩ := h
    refine ⟨b, xs, h1, h2, h3, ⟨h4.len, fun i p y q1 q2 => parOk_move (h4.ok i p y q1 q2) (hm.imp id fun q => ?_), h4.apart, fun k hk => hF k ((h7 k).2 (.inr hk))⟩, h5, h6, h7⟩
    intro r hr
    rw [List.mem_singleton.1 hr]
    exact q p (List.mem_of_getElem? q1)
  | po I =>
    refine ⟨h.1, ?_⟩
    rcases hm with hm | hm
    · exact I.mono h.2 (fun b hb => ⟨hm b hb, rfl⟩) (fun _ _ => rfl)
    · exact hm _ _ _ _ _ h.2
/-- what has come into its place owns no more than it brought -/
theorem res_owns {g : Nat → Nat} {G' : Nat → Option Loc} : ∀ (rs : List Par) (ys : List Value) (k : Nat) {st : St} {H0 : Nat → Option Ent} {G0 : Nat → Option Loc}, rs.length = ys.length → (∀ id, (id < k ∨ k + nO rs ≤ id) → G' id = G0 id) → (∀ (i : Nat) (u : V) (y : Value), (resV g k rs)[i]? = some u → ys[i]? = some y → RV w R G' u y) → (resV g k rs).length = ys.length →
    RelAt c { st with H := addH H0 (resH g k rs) } a w R G' →
    ∀ id e l b, addH H0 (resH g k rs) id = some e → G' id = some l → l.gen = e.gen → l.ft b → ParBlk rs ys b ∨ (H0 id = some e ∧ G0 id = some l)
  | [], ys, k, st, H0, G0, _, hG, _, _, h, id, e, l, b, h1, h2, h3, h4 => .inr ⟨h1, by rw [← hG id (Nat.lt_or_ge id k)]; exact h2⟩
  | .c v :: rs, y :: ys, k, st, H0, G0, hl, hG, hV, hlv, h, id, e, l, b, h1, h2, h3, h4 => by
    rcases res_owns rs ys k (by simpa using hl) (fun id hid => hG id hid) (fun i u z q1 q2 => hV (i + 1) u z (by simpa [resV] using q1) (by simpa using q2)) (by simpa [resV] using hlv) h id e l b h1 h2 h3 h4 with q | q
    · exact .inl (parBlk_cons.2 (.inr q))
    · exact .inr q
  | .o T sz rows :: rs, y :: ys, k, st, H0, G0, hl, hG, hV, hlv, h, id, e, l, b, h1, h2, h3, h4 => by
    rcases res_owns (st := st) (H0 := upd H0 k (some ⟨g k, .t T, sz, rows⟩)) (G0 := fun i => if i = k then G' k else G0 i) rs ys (k + 1) (by simpa using hl) (fun id hid => by
      by_cases hk : id = k
      · simp only [hk, if_true]
      · simp only [hk, if_false]; exact hG id (by simp [nO]; omega)) (fun i u z q1 q2 => hV (i + 1) u z (by simpa [resV] using q1) (by simpa using q2)) (by simpa [resV] using hlv) h id e l b h1 h2 h3 h4 with q | ⟨q1, q2⟩
    · exact .inl (parBlk_cons.2 (.inr q))
    · by_cases hk : id = k
      · subst hk
        have hx := hV 0 (.own id (g id)) y rfl rfl
        obtain ⟨l', xs, T0, g1, g2, g3, g4, g5, g6, g7, g8, g9, g10⟩ := h.objO hx h1 (by
          rw [upd_same] at q1; injection q1 with q1; rw [← q1])
        rw [h2] at g1; injection g1 with g1; subst g1
        rw [Loc.ft_of g9, ← g7] at h4
        exact .inl (parBlk_cons.2 (.inl ⟨T, sz, rows, rfl, h4⟩))
      · rw [upd_ne _ _ hk] at q1
        simp only [hk, if_false] at q2
        exact .inr ⟨q1, q2⟩
/-- one thing put in its place -/
theorem set_job {g : Nat → Nat} {p : ParM} {y : Value} {F : Nat → Prop} {id gn : Nat} {l : Loc} (h : RelAt c st a w R G) (hp : ParMOk w R p y F) (hl : LocFor gn p y F l) (hgen : ∀ l0, G id = some l0 → SameL l0 l ∨ l0.gen < gn)
    (hcell : ∀ j, j < nC p → ∀ l0, G (kx id + j) = some l0 → l0.gen < g (kx id + j)) (hfree : ∀ b, F b → ¬ R b ∧ (c.L b ∨ c.w0.heap.size ≤ b) ∧ ∀ k ek lk, st.H k = some ek → G k = some lk → lk.gen = ek.gen → ¬ lk.ft b) :
    ∃ G', RelAt c { st with H := addH st.H (jobH g id gn p) } a w R G' ∧ Gle G G' ∧ (∀ k, k ∉ jobIds id p → G' k = G k) ∧ RV w R G' (jobV id gn p) y ∧
      (∀ k ek lk b, addH st.H (jobH g id gn p) k = some ek → G' k = some lk → lk.gen = ek.gen → lk.ft b → F b ∨ (st.H k = some ek ∧ G k = some lk)) := by
  have hle : Gle G (upd G id (some l)) := fun k m hm => by
    by_cases hk : k = id
    · subst hk; exact ⟨_, upd_same _ _ _, (hgen m hm).imp (fun e => e) (fun e => by rw [hl.1]; exact e)⟩
    · exact ⟨m, by rw [upd_ne _ _ hk]; exact hm, .inl (SameL.refl _)⟩
  have hgb : w.grownBy w none := ⟨rfl, rfl, rfl, Nat.le_refl _, fun _ _ _ => rfl⟩
  cases p with
  | p p =>
    cases p with
    | c u =>
      exact ⟨G, h, Gle.refl _, fun _ _ => rfl, rv_noG hp.1, fun k ek lk b q1 q2 _ _ => .inr ⟨q1, q2⟩⟩
    | o T sz rows =>
      obtain ⟨l1, l2, l3, l4, l5⟩ := hl
      obtain ⟨⟨hz, xs, hown, hrows⟩, hF⟩ := hp
      have hft : ∀ b, l.ft b → F b := fun b hb => by
        rw [Loc.ft_of l5, l3] at hb
        exact (hF b).2 ⟨0, T, sz, rows, y, rfl, rfl, hb⟩
      have hR := h.setG (row := none) (id := id) (l := l) (e := ⟨gn, .t T, sz, rows⟩) hgb (by simp) (fun l0 h0 => (hgen l0 h0).imp (fun e => e) (fun e => by rw [l1]; exact e)) l1
        ⟨l5, xs, l2, hz, by rw [l3]; exact hown, hrows.mono (fun b hb => ⟨hb, rfl⟩) (noG_le _)⟩ (fun b hb => .inr ⟨(hfree b (hft b hb)).1, (hfree b (hft b hb)).2.1, fun k ek lk _ => (hfree b (hft b hb)).2.2 k ek lk⟩)
      refine ⟨_, hR, hle, fun k hk => upd_ne _ _ (fun e => hk (by rw [e]; exact List.mem_cons_self ..)), .own id gn l (upd_same _ _ _) (Nat.le_of_eq l1.symm) _ fun _ => ⟨l3.symm, l4⟩, fun k ek lk b q1 q2 _ q4 => ?_⟩
      by_cases hk : k = id
      · subst hk; rw [upd_same] at q2; injection q2 with q2; subst q2; exact .inl (hft b q4)
      · have q1 : upd st.H id (some _) k = some ek := q1
        rw [upd_ne _ _ hk] at q1 q2; exact .inr ⟨q1, q2⟩
  | ms T sz rows rows' => exact hl.2.elim
  | mn T cells cells' => exact hl.2.elim
  | mo I I' => exact hl.2.elim
  | po I =>
    obtain ⟨l1, ⟨b, l2, l3⟩, l4, l5⟩ := hl
    have hft : ∀ b, l.ft b → F b := fun b hb => by simp only [Loc.ft, l5] at hb; exact hb
    have hR := h.setG (row := none) (id := id) (l := l) (e := ⟨gn, .q I, 0, []⟩) hgb (by simp) (fun l0 h0 => (hgen l0 h0).imp (fun e => e) (fun e => by rw [l1]; exact e)) l1
      ⟨F, l5, l4, rfl, by rw [pv_own l3, ← l2]; exact hp.2⟩ (fun b hb => .inr ⟨(hfree b (hft b hb)).1, (hfree b (hft b hb)).2.1, fun k ek lk _ => (hfree b (hft b hb)).2.2 k ek lk⟩)
    refine ⟨_, hR, hle, fun k hk => upd_ne _ _ (fun e => hk (by rw [e]; exact List.mem_cons_self ..)), .ptr id gn 0 0 l (upd_same _ _ _) (Nat.le_of_eq l1.symm) _ fun _ => ⟨b, l3, by rw [l2]; simp⟩, fun k ek lk b q1 q2 _ q4 => ?_⟩
    by_cases hk : k = id
    · subst hk; rw [upd_same] at q2; injection q2 with q2; subst q2; exact .inl (hft b q4)
    · have q1 : upd st.H id (some _) k = some ek := q1
      rw [upd_ne _ _ hk] at q1 q2; exact .inr ⟨q1, q2⟩
  | pn T cells =>
    obtain ⟨l1, l2, ⟨b, l3, l4⟩, l5, l6⟩ := hl
    obtain ⟨b', xs, p1, p2, p3, p4, p5, p6, p7⟩ := hp
    have hbb : b' = b := by rw [l3] at p1; simp at p1; exact p1.symm
    subst hbb
    obtain ⟨G1, g1, g2, g3, g4, g5⟩ := res_set (g := g) cells xs (kx id) h p4.len p4.ok p4.apart (fun k hk => by
      obtain ⟨q1, q2, q3⟩ := hfree k ((p7 k).2 (.inr hk))
      exact ⟨q1, q2, q3⟩) (fun k q1 q2 l0 h0 => by
        have := hcell (k - kx id) (by simp only [nC]; omega) l0 (by rw [show kx id + (k - kx id) = k by omega]; exact h0)
        rwa [show kx id + (k - kx id) = k by omega] at this)
    have hlt : id < kx id := by unfold kx; omega
    have hG1 : G1 id = G id := g3 id (.inl hlt)
    have hle1 : Gle G1 (upd G1 id (some l)) := fun k m hm => by
      by_cases hk : k = id
      · subst hk
        rw [hG1] at hm
        exact ⟨_, upd_same _ _ _, (hgen m hm).imp (fun e => e) (fun e => by rw [l1]; exact e)⟩
      · exact ⟨m, by rw [upd_ne _ _ hk]; exact hm, .inl (SameL.refl _)⟩
    have hFb : F b' := (p7 b').2 (.inl rfl)
    have hft : ∀ k, l.ft k → k = b' := fun k hk => by
      rw [Loc.ft_of l6, l4] at hk
      simp [Value.ownBlock] at hk; exact hk.symm
    -- what the cells own is theirs
    have hown : ∀ k ek lk q, addH st.H (resH g (kx id) cells) k = some ek → G1 k = some lk → lk.gen = ek.gen → lk.ft q → ParBlk cells xs q ∨ (st.H k = some ek ∧ G k = some lk) := by
      exact res_owns (st := st) cells xs (kx id) p4.len g3 g5 g4 g1
    have hR := g1.setG (row := none) (id := id) (l := l) (e := ⟨gn, .b T, cells.length, [resV g (kx id) cells]⟩) hgb (by simp) (fun l0 h0 => by rw [hG1] at h0; exact (hgen l0 h0).imp (fun e => e) (fun e => by rw [l1]; exact e)) l1
      ⟨⟨l6, xs, l2, p2, by rw [l4]; exact p3, by
          intro row hrow
          simp only [List.mem_singleton] at hrow; subst hrow
          rw [g4, ← p4.len], fun i j row u q1 q2 => by
          cases i with
          | zero =>
            simp at q1; subst q1
            have hj : j < xs.length := by rw [← g4]; exact (List.getElem?_eq_some_iff.1 q2).1
            refine ⟨xs[j], by simp [hj], p5 _ (List.getElem_mem hj), (g5 j u _ q2 (List.getElem?_eq_getElem hj)).mono (fun b hb => ⟨hb, rfl⟩) hle1⟩
          | succ i => simp at q1⟩, l5, b', l4⟩
      (fun k hk => by
        rw [hft k hk]
        obtain ⟨q1, q2, q3⟩ := hfree b' hFb
        refine .inr ⟨q1, q2, fun k ek lk hk h1 h2 h3 h4 => ?_⟩
        rcases hown k ek lk b' h1 h2 h3 h4 with q | ⟨q5, q6⟩
        · exact p6 q
        · exact q3 k ek lk q5 q6 h3 h4)
    refine ⟨upd G1 id (some l), ?_, g2.trans hle1, fun k hk => ?_, .ptr id gn 0 0 l (upd_same _ _ _) (Nat.le_of_eq l1.symm) _ fun _ => ⟨b', by rw [l4]; rfl, by rw [l3]; simp⟩, fun k ek lk q q1 q2 q3 q4 => ?_⟩
    · show RelAt c { st with H := addH st.H (resH g (kx id) cells ++ [_]) } a w R _
      rw [addH_append]; exact hR
    · have hk1 : k ≠ id := fun e => hk (by rw [e]; exact List.mem_cons_self ..)
      rw [upd_ne _ _ hk1]
      refine g3 k ?_
      have hnO := nO_le cells
      by_cases q : k < kx id ∨ kx id + nO cells ≤ k
      · exact q
      · exact absurd (List.mem_cons_of_mem _ (List.mem_map.2 ⟨k - kx id, List.mem_range.2 (by simp only [nC]; omega), by omega⟩)) hk
    · have q1 : addH st.H (resH g (kx id) cells ++ [(id, some ⟨gn, .b T, cells.length, [resV g (kx id) cells]⟩)]) k = some ek := q1
      rw [addH_append] at q1
      by_cases hk : k = id
      · subst hk; rw [upd_same] at q2; injection q2 with q2; subst q2
        exact .inl (by rw [hft q q4]; exact hFb)
      · have q1 : upd (addH st.H (resH g (kx id) cells)) id (some _) k = some ek := q1
        rw [upd_ne _ _ hk] at q1 q2
        rcases hown k ek lk q q1 q2 q3 q4 with r | r
        · exact .inl ((p7 q).2 (.inr r))
        · exact .inr r
/-! ### What is handed back -/
def resMV (g : Nat → Nat) : Nat → List ParM → List V
  | _, [] => []
  | k, p :: rs => jobV k (g k) p :: resMV g (k + 1) rs
def resMH (g : Nat → Nat) : Nat → List ParM → List (Nat × Option Ent)
  | _, [] => []
  | k, p :: rs => jobH g k (g k) p ++ resMH g (k + 1) rs
def resMI : Nat → List ParM → List Nat
  | _, [] => []
  | k, p :: rs => jobIds k p ++ resMI (k + 1) rs
/-- what may be handed back by itself -/
def outM : ParM → Bool
  | .p _ => true
  | .pn _ _ => true
  | _ => false
theorem ParsM.split {w : World} {R : Nat → Prop} : ∀ {ps qs : List ParM} {xs ys : List Value} {F : Nat → Prop}, ps.length = xs.length → ParsM w R (ps ++ qs) (xs ++ ys) F → ∃ F1 F2, ParsM w R ps xs F1 ∧ ParsM w R qs ys F2 ∧ (∀ b, F1 b → ¬ F2 b) ∧ ∀ b, F b ↔ F1 b ∨ F2 b
  | [], qs, [], ys, F, _, h => ⟨fun _ => False, F, fun _ hb => hb, h, fun _ hb => hb.elim, fun b => by simp⟩
  | p :: ps, qs, x :: xs, ys, F, hl, h => by
    obtain ⟨F1, F2, h1, h2, h3, h4⟩ := h
    obtain ⟨G1, G2, g1, g2, g3, g4⟩ := ParsM.split (by simpa using hl) h2
    refine ⟨fun b => F1 b ∨ G1 b, G2, ⟨F1, G1, h1, g1, fun b hb => ⟨fun q => (h3 b hb).1 ((g4 b).2 (.inl q)), (h3 b hb).2⟩, fun _ => Iff.rfl⟩, g2, ?_, fun b => ?_⟩
    · rintro b (q | q) r
      · exact (h3 b q).1 ((g4 b).2 (.inr r))
      · exact g3 b q r
    · rw [h4, g4]; constructor
      · rintro (q | q | q)
        · exact .inl (.inl q)
        · exact .inl (.inr q)
        · exact .inr q
      · rintro ((q | q) | q)
        · exact .inl q
        · exact .inr (.inl q)
        · exact .inr (.inr q)
theorem ParsM.free {w : World} {R : Nat → Prop} : ∀ {ps : List ParM} {xs : List Value} {F : Nat → Prop}, ParsM w R ps xs F → ∀ b, F b → ¬ R b
  | [], [], F, h, b, hb => (h b hb).elim
  | p :: ps, x :: xs, F, h, b, hb => by
    obtain ⟨F1, F2, h1, h2, h3, h4⟩ := h
    rcases (h4 b).1 hb with q | q
    · exact (h3 b q).2
    · exact ParsM.free h2 b q
def goodM : ParM → Bool
  | .p _ => true
  | .pn _ _ => true
  | .po _ => true
  | _ => false
theorem ParsM.move {w : World} {R R' : Nat → Prop} : ∀ {ps : List ParM} {xs : List Value} {F : Nat → Prop}, ParsM w R ps xs F → (∀ p ∈ ps, goodM p = true) → (∀ p ∈ ps, (∀ b, R b → R' b) ∨ flatM p) → (∀ b, F b → ¬ R' b) → ParsM w R' ps xs F
  | [], [], F, h, _, _, _ => h
  | p :: ps, x :: xs, F, h, hg, hm, hF => by
    obtain ⟨F1, F2, h1, h2, h3, h4⟩ := h
    have hp := hg p (List.mem_cons_self ..)
    refine ⟨F1, F2, parM_move h1 (hm p (List.mem_cons_self ..)) (fun q q' e => by subst e; cases hp) (fun T q q' e => by subst e; cases hp) (fun T sz q q' e => by subst e; cases hp) (fun b hb => hF b ((h4 b).2 (.inl hb))),
      ParsM.move h2 (fun q hq => hg q (List.mem_cons_of_mem _ hq)) (fun q hq => hm q (List.mem_cons_of_mem _ hq)) (fun b hb => hF b ((h4 b).2 (.inr hb))), fun b hb => ⟨(h3 b hb).1, hF b ((h4 b).2 (.inl hb))⟩, h4⟩
theorem locFor_out {p : ParM} {y : Value} {F : Nat → Prop} (hp : ParMOk w R p y F) (ho : outM p = true) (gn : Nat) : ∃ l, LocFor gn p y F l := by
  cases p with
  | p p => cases p with
    | c u => exact ⟨⟨gn, 0, y, false, none⟩, rfl, trivial⟩
    | o T sz rows => exact ⟨⟨gn, sz, y, false, none⟩, rfl, rfl, rfl, rfl, rfl⟩
  | pn T cells =>
    obtain ⟨b, xs, p1, _⟩ := hp
    exact ⟨⟨gn, cells.length, .slice (some ⟨b, 0, none⟩) 1 1, true, none⟩, rfl, rfl, ⟨b, p1, rfl⟩, rfl, rfl⟩
  | _ => cases ho
/-- results in their places -/
theorem set_res {g : Nat → Nat} : ∀ (rs : List ParM) (ys : List Value) (k : Nat) {st : St} {G : Nat → Option Loc} {F : Nat → Prop}, RelAt c st a w R G → ParsM w R rs ys F → (∀ p ∈ rs, outM p = true) → (resMI k rs).Nodup →
    (∀ i ∈ resMI k rs, ∀ l0, G i = some l0 → l0.gen < g i) → (∀ b, F b → ¬ R b ∧ (c.L b ∨ c.w0.heap.size ≤ b) ∧ ∀ k ek lk, st.H k = some ek → G k = some lk → lk.gen = ek.gen → ¬ lk.ft b) →
    ∃ G', RelAt c { st with H := addH st.H (resMH g k rs) } a w R G' ∧ Gle G G' ∧ (∀ i, i ∉ resMI k rs → G' i = G i) ∧ (resMV g k rs).length = ys.length ∧ ∀ (i : Nat) (u : V) (y : Value), (resMV g k rs)[i]? = some u → ys[i]? = some y → RV w R G' u y
  | [], [], k, st, G, F, h, _, _, _, _, _ => ⟨G, h, Gle.refl _, fun _ _ => rfl, rfl, fun i u y hu => by simp [resMV] at hu⟩
  | p :: rs, y :: ys, k, st, G, F, h, hP, ho, hnd, hgen, hfree => by
    obtain ⟨F1, F2, h1, h2, h3, h4⟩ := hP
    obtain ⟨l, hl⟩ := locFor_out h1 (ho p (List.mem_cons_self ..)) (g k)
    have hnd' := List.nodup_append.1 hnd
    obtain ⟨G1, k1, k2, k3, k4, k5⟩ := set_job (g := g) h h1 hl (fun l0 h0 => .inr (hgen k (List.mem_append_left _ (List.mem_cons_self ..)) l0 h0))
      (fun j hj l0 h0 => hgen _ (List.mem_append_left _ (List.mem_cons_of_mem _ (List.mem_map.2 ⟨j, List.mem_range.2 hj, rfl⟩))) l0 h0) (fun b hb => hfree b ((h4 b).2 (.inl hb)))
    obtain ⟨G2, m1, m2, m3, m4, m5⟩ := set_res rs ys (k + 1) k1 h2 (fun q hq => ho q (List.mem_cons_of_mem _ hq)) hnd'.2.1
      (fun i hi l0 h0 => hgen i (List.mem_append_right _ hi) l0 (by rw [← k3 i (fun q => hnd'.2.2 i q i hi rfl)]; exact h0)) (fun b hb => by
        obtain ⟨q1, q2, q3⟩ := hfree b ((h4 b).2 (.inr hb))
        refine ⟨q1, q2, fun i ei li r1 r2 r3 r4 => ?_⟩
        rcases k5 i ei li b r1 r2 r3 r4 with r | ⟨r5, r6⟩
        · exact (h3 b r).1 hb
        · exact q3 i ei li r5 r6 r3 r4)
    refine ⟨G2, ?_, k2.trans m2, fun i hi => ?_, by simp [resMV, m4], fun i u z q1 q2 => ?_⟩
    · show RelAt c { st with H := addH st.H (jobH g k (g k) p ++ resMH g (k + 1) rs) } a w R G2
      rw [addH_append]; exact m1
    · rw [m3 i (fun q => hi (List.mem_append_right _ q)), k3 i (fun q => hi (List.mem_append_left _ q))]
    · cases i with
      | zero => simp [resMV] at q1 q2; subst q1 q2; exact k4.mono (fun b hb => ⟨hb, rfl⟩) m2
      | succ i => exact m5 i u z (by simpa [resMV] using q1) (by simpa using q2)
/-! ### What comes back turned -/
def exit1 (g : Nat → Nat) (u : V) : ParM → List (Nat × Option Ent)
  | .ms T sz _ rows' => match u with | .own id gn => jobH g id gn (.p (.o T sz rows')) | _ => []
  | .mn T _ cells' => match u with | .ptr id gn _ _ => jobH g id gn (.pn T cells') | _ => []
  | .mo _ I' => match u with | .ptr id gn _ _ => jobH g id gn (.po I') | _ => []
  | _ => []
def exitI1 (u : V) : ParM → List Nat
  | .ms T sz _ rows' => match u with | .own id gn => jobIds id (.p (.o T sz rows')) | _ => []
  | .mn T _ cells' => match u with | .ptr id gn _ _ => jobIds id (.pn T cells') | _ => []
  | .mo _ I' => match u with | .ptr id gn _ _ => jobIds id (.po I') | _ => []
  | _ => []
def exitH (g : Nat → Nat) : List V → List ParM → List (Nat × Option Ent)
  | u :: us, p :: ps => exit1 g u p ++ exitH g us ps
  | _, _ => []
def exitI : List V → List ParM → List Nat
  | u :: us, p :: ps => exitI1 u p ++ exitI us ps
  | _, _ => []
theorem exitsP_good : ∀ ps : List ParM, ∀ p ∈ exitsP ps, goodM p = true
  | [], p, h => by simp [exitsP] at h
  | q :: ps, p, h => by
    cases q <;> simp only [exitsP] at h <;> first
      | exact exitsP_good ps p h
      | (rcases List.mem_cons.1 h with rfl | h
         · rfl
         · exact exitsP_good ps p h)
end
end Go.Proofs.Ytjhdlcmecbngkaa
/- A call that turns what it is lent. No program in sight. -/
namespace Go.Proofs.Ytjhdlcmecbngkaa
open Go.RowKit
set_option linter.unusedVariables false
section
variable {P : Program} {c : Ctx} {st : St} {a : Act} {w w' : World} {R : Nat → Prop} {G : Nat → Option Loc} {o : Oper} {Q : Exit → Act → World → Prop} {d : Nat} {u : V} {dH : List (Nat × Option Ent)}
theorem exits_set {st0 : St} {w0 : World} {R0 : Nat → Prop} {G0 : Nat → Option Loc} (h0 : RelAt c st0 a w0 R0 G0) {g : Nat → Nat} (hgf : ∀ i l0, G0 i = some l0 → l0.gen < g i) {all : List Nat} :
    ∀ {bor : Bool} {gone : List Nat} {us : List V} {ps : List ParM}, ArgsM st0.H all bor gone us ps → ∀ {xs : List Value}, us.length = xs.length → (∀ (i : Nat) (u : V) (x : Value), us[i]? = some u → xs[i]? = some x → RV w0 R0 G0 u x) →
    ∀ {st : St} {G : Nat → Option Loc} {F : Nat → Prop}, RelAt c st a w R G → (∀ i ∈ exitI us ps, G i = G0 i) → ParsM w R (exitsP ps) (exitsX ps xs) F → (exitI us ps).Nodup →
    (∀ b, F b → ¬ R b ∧ (c.L b ∨ c.w0.heap.size ≤ b) ∧ ∀ k ek lk, st.H k = some ek → G k = some lk → lk.gen = ek.gen → ¬ lk.ft b) →
    ∃ G', RelAt c { st with H := addH st.H (exitH g us ps) } a w R G' ∧ Gle G G' ∧ (∀ i, i ∉ exitI us ps → G' i = G i) ∧
      (∀ k ek lk b, addH st.H (exitH g us ps) k = some ek → G' k = some lk → lk.gen = ek.gen → lk.ft b → F b ∨ (st.H k = some ek ∧ G k = some lk)) := by
  intro bor gone us ps hA
  -- one, and the rest
  have step : ∀ {u : V} {us : List V} {p q : ParM} {ps : List ParM} {x : Value} {xs : List Value} {id gn : Nat} {l : Loc},
      exit1 g u p = jobH g id gn q → exitI1 u p = jobIds id q → exitsP (p :: ps) = q :: exitsP ps → exitsX (p :: ps) (x :: xs) = x :: exitsX ps xs →
      (∀ F, ParMOk w R q x F → ∃ l', LocFor gn q x F l' ∧ SameL l l') → G0 id = some l →
      (∀ {st : St} {G : Nat → Option Loc} {F : Nat → Prop}, RelAt c st a w R G → (∀ i ∈ exitI us ps, G i = G0 i) → ParsM w R (exitsP ps) (exitsX ps xs) F → (exitI us ps).Nodup →
        (∀ b, F b → ¬ R b ∧ (c.L b ∨ c.w0.heap.size ≤ b) ∧ ∀ k ek lk, st.H k = some ek → G k = some lk → lk.gen = ek.gen → ¬ lk.ft b) →
        ∃ G', RelAt c { st with H := addH st.H (exitH g us ps) } a w R G' ∧ Gle G G' ∧ (∀ i, i ∉ exitI us ps → G' i = G i) ∧
          (∀ k ek lk b, addH st.H (exitH g us ps) k = some ek → G' k = some lk → lk.gen = ek.gen → lk.ft b → F b ∨ (st.H k = some ek ∧ G k = some lk))) →
      ∀ {st : St} {G : Nat → Option Loc} {F : Nat → Prop}, RelAt c st a w R G → (∀ i ∈ exitI (u :: us) (p :: ps), G i = G0 i) → ParsM w R (exitsP (p :: ps)) (exitsX (p :: ps) (x :: xs)) F → (exitI (u :: us) (p :: ps)).Nodup →
        (∀ b, F b → ¬ R b ∧ (c.L b ∨ c.w0.heap.size ≤ b) ∧ ∀ k ek lk, st.H k = some ek → G k = some lk → lk.gen = ek.gen → ¬ lk.ft b) →
        ∃ G', RelAt c { st with H := addH st.H (exitH g (u :: us) (p :: ps)) } a w R G' ∧ Gle G G' ∧ (∀ i, i ∉ exitI (u :: us) (p :: ps) → G' i = G i) ∧
          (∀ k ek lk b, addH st.H (exitH g (u :: us) (p :: ps)) k = some ek → G' k = some lk → lk.gen = ek.gen → lk.ft b → F b ∨ (st.H k = some ek ∧ G k = some lk)) := by
    intro u us p q ps x xs id gn l e1 e2 e3 e4 hloc hG0 ih st G F h hG hP hnd hfree
    rw [e3, e4] at hP
    obtain ⟨F1, F2, h1, h2, h3, h4⟩ := hP
    simp only [exitI, e2] at hG hnd
    simp only [exitH, exitI, e1, e2]
    have hnd' := List.nodup_append.1 hnd
    obtain ⟨l', hl', hs⟩ := hloc F1 h1
    obtain ⟨G1, k1, k2, k3, k4, k5⟩ := set_job (g := g) (id := id) h h1 hl' (fun l0 hl0 => by
        rw [hG id (List.mem_append_left _ (List.mem_cons_self ..)), hG0] at hl0; injection hl0 with hl0; subst hl0; exact .inl hs)
      (fun j hj l0 hl0 => by
        rw [hG _ (List.mem_append_left _ (List.mem_cons_of_mem _ (List.mem_map.2 ⟨j, List.mem_range.2 hj, rfl⟩)))] at hl0
        exact hgf _ _ hl0) (fun b hb => hfree b ((h4 b).2 (.inl hb)))
    obtain ⟨G2, m1, m2, m3, m5⟩ := ih k1 (fun i hi => by rw [k3 i (fun q => hnd'.2.2 i q i hi rfl)]; exact hG i (List.mem_append_right _ hi)) h2 hnd'.2.1 (fun b hb => by
      obtain ⟨q1, q2, q3⟩ := hfree b ((h4 b).2 (.inr hb))
      refine ⟨q1, q2, fun i ei li r1 r2 r3 r4 => ?_⟩
      rcases k5 i ei li b r1 r2 r3 r4 with r | ⟨r5, r6⟩
      · exact (h3 b r).1 hb
      · exact q3 i ei li r5 r6 r3 r4)
    refine ⟨G2, ?_, k2.trans m2, fun i hi => ?_, fun k ek lk b q1 q2 q3 q4 => ?_⟩
    · rw [addH_append]; exact m1
    · rw [m3 i (fun q => hi (List.mem_append_right _ q)), k3 i (fun q => hi (List.mem_append_left _ q))]
    · rw [addH_append] at q1
      rcases m5 k ek lk b q1 q2 q3 q4 with r | ⟨r1, r2⟩
      · exact .inl ((h4 b).2 (.inr r))
      · rcases k5 k ek lk b r1 r2 q3 q4 with r | r
        · exact .inl ((h4 b).2 (.inl r))
        · exact .inr r
  induction hA with
  | nil =>
    intro xs hl hh st G F h hG hP hnd hfree
    exact ⟨G, h, Gle.refl _, fun _ _ => rfl, fun k ek lk b q1 q2 _ _ => .inr ⟨q1, q2⟩⟩
  | @old gone1 gone u p us ps h1 hd hA ih =>
    intro xs hl hh st G F h hG hP hnd hfree
    match xs, hl with
    | x :: xs, hl => exact ih (by simpa using hl) (fun i u x h1 h2 => hh (i + 1) u x (by simpa using h1) (by simpa using h2)) h hG hP hnd hfree
  | @pn gone gone1 id gg e T row cells us ps he hg hT hrow hc hd hn ha hA ih =>
    intro xs hl hh st G F h hG hP hnd hfree
    match xs, hl with
    | x :: xs, hl => exact ih (by simpa using hl) (fun i u x h1 h2 => hh (i + 1) u x (by simpa using h1) (by simpa using h2)) h hG hP hnd hfree
  | @po gone id gg e I us ps he hg hT hn ha hA ih =>
    intro xs hl hh st G F h hG hP hnd hfree
    match xs, hl with
    | x :: xs, hl => exact ih (by simpa using hl) (fun i u x h1 h2 => hh (i + 1) u x (by simpa using h1) (by simpa using h2)) h hG hP hnd hfree
  | @pf gone id gg e T row I us ps he hg hT hrow hcl hf hn ha hA ih =>
    intro xs hl hh st G F h hG hP hnd hfree
    match xs, hl with
    | x :: xs, hl => exact ih (by simpa using hl) (fun i u x h1 h2 => hh (i + 1) u x (by simpa using h1) (by simpa using h2)) h hG hP hnd hfree
  | @ms gone id gg e T rows' us ps he hg hT hr hn ha hlr hA ih =>
    intro xs hl hh
    match xs, hl with
    | x :: xs, hl =>
      obtain ⟨l, ys, T0, g1, g2, g3, g4, g5, g6, hx, hT0, hop0, hbx0⟩ := h0.objO (hh 0 _ x rfl rfl) he hg
      intro st G F h hG hP hnd hfree
      exact step (u := .own id gg) (p := .ms T e.sz e.rows rows') (x := x) (q := .p (.o T e.sz rows')) (id := id) (gn := gg) (l := l) rfl rfl rfl rfl (fun F1 hp => ⟨l, ⟨g2, g3, hx.symm, hbx0, hop0⟩, SameL.refl _⟩) g1
        (ih (by simpa using hl) (fun i u x h1 h2 => hh (i + 1) u x (by simpa using h1) (by simpa using h2))) h hG hP hnd hfree
  | @mn gone gone1 id gg e T row cells cells' us ps he hg hT hrow hc hd hn ha hlc hA ih =>
    intro xs hl hh
    match xs, hl with
    | x :: xs, hl =>
      obtain ⟨l, ys, b, T0, g1, g2, g3, g4, g5, g6, hbk, hax, hT0, hop0⟩ := h0.objP (hh 0 _ x rfl rfl) he hg (k := 0) (row := row) (by rw [hrow]; rfl)
      rcases hT0 with hT0 | ⟨hT0, hb0, b', hv⟩
      · rw [hT] at hT0; cases hT0
      have hbb : b' = b := by rw [hv] at hbk; simpa [Value.ownBlock] using hbk
      subst hbb
      have hrl : row.length = e.sz := by rw [hrow] at g6; exact g6.1 row (by simp)
      have hyl : ys.length = e.sz := by rw [hrow] at g5; have := g5.1; simpa using this
      have hcl : cells.length = e.sz := by
        have := (args_pars h0 (bor0 := false) hc (fun e => e) (xs := ys) (by omega) (fun i u y q1 q2 => by
          obtain ⟨z, r1, r2, r3⟩ := g6.2 0 i row u (by rw [hrow]; rfl) q1
          rw [Nat.zero_mul, Nat.zero_add, q2] at r1; injection r1 with r1; subst r1; exact r3) (fun k hk => (hd k hk).2.1)).1.len
        omega
      intro st G F h hG hP hnd hfree
      exact step (u := .ptr id gg 0 0) (p := .mn T cells cells') (x := x) (q := .pn T cells') (id := id) (gn := gg) (l := l) rfl rfl rfl rfl (fun F1 hp => ⟨l, ⟨g2, by rw [g3, hlc, hcl], ⟨b', by rw [hax]; simp, hv⟩, hb0, hop0⟩, SameL.refl _⟩) g1
        (ih (by simpa using hl) (fun i u x h1 h2 => hh (i + 1) u x (by simpa using h1) (by simpa using h2))) h hG hP hnd hfree
  | @mo gone id gg e I I' us ps he hg hT hn ha hA ih =>
    intro xs hl hh
    match xs, hl with
    | x :: xs, hl =>
      obtain ⟨l, b, g1, g2, g3, hbk, hax⟩ := h0.objB (hh 0 _ x rfl rfl) he hg
      have hbx : l.box = true := by
        unfold ObjOk at g3; rw [hT] at g3; obtain ⟨F, _, q, _⟩ := g3; exact q
      intro st G F h hG hP hnd hfree
      exact step (u := .ptr id gg 0 0) (p := .mo I I') (x := x) (q := .po I') (id := id) (gn := gg) (l := l) rfl rfl rfl rfl (fun F1 hp => ⟨⟨l.gen, l.sz, l.val, l.box, some F1⟩, ⟨g2, ⟨b, by rw [hax]; simp, hbk⟩, hbx, rfl⟩, ⟨rfl, rfl, rfl, rfl⟩⟩) g1
        (ih (by simpa using hl) (fun i u x h1 h2 => hh (i + 1) u x (by simpa using h1) (by simpa using h2))) h hG hP hnd hfree
  | @fo gone id gg e T row I I' us ps he hg hT hrow hcl hf hn ha hA ih =>
    intro xs hl hh
    match xs, hl with
    | x :: xs, hl =>
      obtain ⟨l, b, g1, g2, g3, hbk, hax⟩ := h0.objB (hh 0 _ x rfl rfl) he hg
      have hbx : l.box = true := by
        unfold ObjOk at g3; rw [hT] at g3; exact g3.2.1
      intro st G F h hG hP hnd hfree
      exact step (u := .ptr id gg 0 0) (p := .mo I I') (x := x) (q := .po I') (id := id) (gn := gg) (l := l) rfl rfl rfl rfl (fun F1 hp => ⟨⟨l.gen, l.sz, l.val, l.box, some F1⟩, ⟨g2, ⟨b, by rw [hax]; simp, hbk⟩, hbx, rfl⟩, ⟨rfl, rfl, rfl, rfl⟩⟩) g1
        (ih (by simpa using hl) (fun i u x h1 h2 => hh (i + 1) u x (by simpa using h1) (by simpa using h2))) h hG hP hnd hfree
theorem flatM_of {l : List ParM} (h : ∀ p ∈ l, flatM p) : ∀ p ∈ l, (∀ b : Nat, R b → R b) ∨ flatM p := fun p hp => .inr (h p hp)
/-- a call that turns what it is lent -/
theorem q_callM {g : Nat → Nat} {b0 : Nat} {f : FuncId} {xs : List Value} {us : List V} {ps rs : List ParM} {bor : Bool} {gone : List Nat} (hgen : ∀ id l0, G id = some l0 → l0.gen < g id)
    (h : RelAt c st a w R G) (hr : (execOp a.eval o).run P w = .ok (.enter f xs.toArray) w) (hl : us.length = xs.length) (hh : ∀ (i : Nat) (u : V) (x : Value), us[i]? = some u → xs[i]? = some x → RV w R G u x)
    (hA : ArgsM st.H gone bor gone us ps) (hF : FunM P f ps rs) (hfl : bor = true → ∀ p ∈ rs ++ exitsP ps, flatM p) (hout : ∀ p ∈ rs, outM p = true) (hnd : (resMI b0 rs ++ exitI us ps).Nodup)
    {next : Act → World → Prop} (hn : ∀ x w' R' G', RelAt c { st with H := addH st.H (gone.map (fun i => (i, none)) ++ (exitH g us ps ++ resMH g b0 rs)) } a w' R' G' → RV w' R' G' (packU (resMV g b0 rs)) x → next (a.put o.dst x) w') : o.wp P a w next Q := by
  obtain ⟨F, hP, hblk, hall⟩ := argsM_pars h (bor0 := bor) hA (fun e => e) hl hh
  unfold Oper.wp
  rw [hr]
  simp only [Oper.upon]
  refine (hF.2 w (RB R G st.H gone bor) xs F ?_ hP).mono ?_
  · rintro b (hb | ⟨_, id, e, l, _, q1, q2, q25, q3⟩)
    · exact h.lt b hb
    · exact h.hr.lt q1 q2 q25 q3
  · rintro e w' ⟨ys, R', F', rfl, hlen, hfr, hsub, hR', hpars, hres⟩
    simp only
    have hL : ∀ b, F b → ¬ R b ∧ (c.L b ∨ c.w0.heap.size ≤ b) ∧ ∀ k ek lk, addH st.H (gone.map fun i => (i, none)) k = some ek → G k = some lk → lk.gen = ek.gen → ¬ lk.ft b := fun b hb => by
      obtain ⟨id, hid, e, l, q1, q2, q25, q3⟩ := hblk b hb
      obtain ⟨m1, m2⟩ := h.hr.mine id e l b q1 q2 q25 q3
      refine ⟨m1, m2, fun k ek lk p1 p2 p25 p3 => ?_⟩
      obtain ⟨p4, p5⟩ := addH_gone gone st.H p1
      exact h.hr.apart k id ek e lk l b p5 q1 (fun e => p4 (e ▸ hid)) p2 q2 p25 q25 p3 q3
    have h1 := RelAt.drops gone h
    have hR2 : ∀ b, (R b ∨ (R' b ∧ (F b ∨ w.heap.size ≤ b))) → R b ∨ (b < w'.heap.size ∧ (c.L b ∨ c.w0.heap.size ≤ b) ∧ (F b ∨ w.heap.size ≤ b)) := by
      rintro b (hb | ⟨hb, h2⟩)
      · exact .inl hb
      · right
        have hlt : b < w'.heap.size := by
          rcases hR' b hb with (hb | ⟨_, id, e, l, _, q1, q2, q25, q3⟩) | ⟨q, _⟩
          · exact Nat.lt_of_lt_of_le (h.lt b hb) hfr.size
          · exact Nat.lt_of_lt_of_le (h.hr.lt q1 q2 q25 q3) hfr.size
          · exact q
        refine ⟨hlt, ?_, h2⟩
        rcases h2 with h2 | h2
        · exact (hL b h2).2.1
        · exact .inr (Nat.le_trans h.fr.size h2)
    have h2 := h1.world (R' := fun b => R b ∨ (R' b ∧ (F b ∨ w.heap.size ≤ b))) hfr (fun b hb => .inl hb) hL hR2
    have hfree : ∀ b, F' b → ¬ (R b ∨ (R' b ∧ (F b ∨ w.heap.size ≤ b))) ∧ (c.L b ∨ c.w0.heap.size ≤ b) ∧ ∀ k ek lk, addH st.H (gone.map fun i => (i, none)) k = some ek → G k = some lk → lk.gen = ek.gen → ¬ lk.ft b := fun b hb => by
      have q1 := hpars.free b hb
      have q0 : ¬ (R b ∨ (R' b ∧ (F b ∨ w.heap.size ≤ b))) := by
        rintro (q | q)
        · exact q1 (hsub b (.inl q))
        · exact q1 q.1
      rcases hres b hb with q2 | q2
      · exact ⟨q0, (hL b q2).2.1, (hL b q2).2.2⟩
      · exact ⟨q0, .inr (Nat.le_trans h.fr.size q2), fun k ek lk p1 p2 p25 p3 => by have := h1.hr.lt p1 p2 p25 p3; omega⟩
    have hgood : ∀ p ∈ rs ++ exitsP ps, goodM p = true := fun p hp => by
      rcases List.mem_append.1 hp with q | q
      · have := hout p q; cases p <;> first | rfl | cases this
      · exact exitsP_good ps p q
    have hpars' := hpars.move (R' := fun b => R b ∨ (R' b ∧ (F b ∨ w.heap.size ≤ b))) hgood (fun p hp => by
      cases bor with
      | true => exact .inr (hfl rfl p hp)
      | false =>
        left
        intro b hb
        rcases hR' b hb with (hb' | ⟨e, _⟩) | ⟨_, q⟩
        · exact .inl hb'
        · cases e
        · exact .inr ⟨hb, q⟩) (fun b hb => (hfree b hb).1)
    obtain ⟨F1, F2, p1, p2, p3, p4⟩ := ParsM.split hlen hpars'
    have hnd' := List.nodup_append.1 hnd
    obtain ⟨G1, k1, k2, k3, k5⟩ := exits_set h hgen hA hl hh h2 (fun i _ => rfl) p2 hnd'.2.1 (fun b hb => hfree b ((p4 b).2 (.inr hb)))
    obtain ⟨G2, m1, m2, m3, m4, m5⟩ := set_res (g := g) rs ys b0 k1 p1 hout hnd'.1 (fun i hi l0 hl0 => by
      rw [k3 i (fun q => hnd'.2.2 i hi i q rfl)] at hl0; exact hgen i l0 hl0) (fun b hb => by
        obtain ⟨q1, q2, q3⟩ := hfree b ((p4 b).2 (.inl hb))
        refine ⟨q1, q2, fun i ei li r1 r2 r3 r4 => ?_⟩
        rcases k5 i ei li b r1 r2 r3 r4 with r | ⟨r5, r6⟩
        · exact p3 b hb r
        · exact q3 i ei li r5 r6 r3 r4)
    refine hn (packV ys) w' _ G2 ?_ (pack_rel m4 m5)
    rw [addH_append, addH_append]; exact m1
/-- a call that gives up -/
theorem q_die {f : FuncId} {xs : List Value} {us : List V} {ps : List ParM} {bor : Bool} {gone : List Nat} {v : Value}
    (h : RelAt c st a w R G) (hr : (execOp a.eval o).run P w = .ok (.enter f xs.toArray) w) (hl : us.length = xs.length) (hh : ∀ (i : Nat) (u : V) (x : Value), us[i]? = some u → xs[i]? = some x → RV w R G u x)
    (hA : ArgsM st.H gone bor gone us ps) (hF : FunDie P f ps v) {next : Act → World → Prop} (hn : ∀ w', Fr c.L c.w0 w' → Q (.panic [{ v := v, recovered := false }]) a w') : o.wp P a w next Q := by
  obtain ⟨F, hP, hblk, hall⟩ := argsM_pars h (bor0 := bor) hA (fun e => e) hl hh
  unfold Oper.wp
  rw [hr]
  simp only [Oper.upon]
  refine (hF.2 w (RB R G st.H gone bor) xs F ?_ hP).mono ?_
  · rintro b (hb | ⟨_, id, e, l, _, q1, q2, q25, q3⟩)
    · exact h.lt b hb
    · exact h.hr.lt q1 q2 q25 q3
  · rintro e w' ⟨rfl, hfr⟩
    refine hn w' ⟨hfr.os.trans h.fr.os, hfr.tape.trans h.fr.tape, hfr.output.trans h.fr.output, Nat.le_trans h.fr.size hfr.size, fun k hk hkl => ?_, Nat.le_trans h.fr.drawn hfr.drawn⟩
    refine (hfr.block k (Nat.lt_of_lt_of_le hk h.fr.size) (fun hl' => ?_)).trans (h.fr.block k hk hkl)
    obtain ⟨id, hid, e, l, q1, q2, q25, q3⟩ := hblk k hl'
    rcases (h.hr.mine id e l k q1 q2 q25 q3).2 with h5 | h5
    · exact hkl h5
    · omega
end
end Go.Proofs.Ytjhdlcmecbngkaa
/- Stores, appends, calls that are given something. No program in sight. -/
namespace Go.Proofs.Ytjhdlcmecbngkaa
open Go.RowKit
set_option linter.unusedVariables false
def callE (P : Program) (H : Nat → Option Ent) (D : Value → Prop) (b : Nat) (f : FuncId) (us : List V) (K : V → List (Nat × Option Ent) → Prop) : Prop :=
  (∃ ps rs bor gone, ArgsOk H gone bor gone us ps ∧ Fun P f ps rs ∧ (bor = true → flatRes rs) ∧ rs.length ≤ 16 ∧ ∀ g : Nat → Nat, K (packU (resV g b rs)) (gone.map (fun i => (i, none)) ++ resH g b rs)) ∨
  (∃ ps rs bor gone, ArgsM H gone bor gone us ps ∧ FunM P f ps rs ∧ (bor = true → ∀ p ∈ rs ++ exitsP ps, flatM p) ∧ (∀ p ∈ rs, outM p = true) ∧ (resMI b rs ++ exitI us ps).Nodup ∧ ∀ g : Nat → Nat, K (packU (resMV g b rs)) (gone.map (fun i => (i, none)) ++ (exitH g us ps ++ resMH g b rs))) ∨
  (∃ ps bor gone v, ArgsM H gone bor gone us ps ∧ FunDie P f ps v ∧ D v)
def stepE (P : Program) (r : ROp) (env : Nat → V) (H : Nat → Option Ent) (D : Value → Prop) (b : Nat) (K : V → List (Nat × Option Ent) → Prop) : Prop :=
  match r with
  | .store sz x y => match val env x with
    | .ptr id gen i off => ∃ e row us, H id = some e ∧ e.gen = gen ∧ e.rows[i]? = some row ∧ cellsV (val env y) = some us ∧ us.length = sz ∧ off + sz ≤ row.length ∧ ones H us ∧
        K (.v undef) [(id, some { e with rows := e.rows.set i (putV row off us) })]
    | _ => False
  | .app T sz bytes z x y => match val env x with
    | .osub id gen lo0 k => match val env y with
      | .osub id' gen' lo hi => ∃ e, H id = some e ∧ e.gen = gen ∧ id' = id ∧ gen' = gen ∧ lo0 = 0 ∧ e.sz = sz ∧ k ≤ lo ∧ lo ≤ hi ∧ hi ≤ e.rows.length ∧ K (.osub id gen 0 (k + (hi - lo))) [(id, some { e with rows := e.rows.take k ++ (e.rows.drop lo).take (hi - lo) ++ e.rows.drop (k + (hi - lo)) })]
      | _ => False
    | .own id gen => ∃ rows, srcRows H sz (val env y) rows ∧ ∃ e, H id = some e ∧ e.gen = gen ∧ e.T = .t T ∧ e.sz = sz ∧ e.rows.length + rows.length ≤ maxLen ∧ (e.rows.length + rows.length) * bytes ≤ 140737488355328 ∧ ∀ g, K (.own id g) [(id, some ⟨g, .t T, sz, e.rows ++ rows⟩)]
    | .v (.slice none 0 0) => ∃ rows, srcRows H sz (val env y) rows ∧ rows.length ≤ maxLen ∧ rows.length * bytes ≤ 140737488355328 ∧ ∀ g, K (.own b g) [(b, some ⟨g, .t T, sz, rows⟩)]
    | .sl true rows0 => ∃ rows, srcRows H sz (val env y) rows ∧ rows ≠ [] ∧ (∀ row ∈ rows0, row.length = sz ∧ ones H row) ∧ rows0.length + rows.length ≤ maxLen ∧ (rows0.length + rows.length) * bytes ≤ 140737488355328 ∧ ∀ g, K (.own b g) [(b, some ⟨g, .t T, sz, rows0 ++ rows⟩)]
    | _ => False
  | .clr sz z x => match val env x with
    | .osub id gen lo hi => ∃ e, H id = some e ∧ e.gen = gen ∧ e.sz = sz ∧ lo ≤ hi ∧ hi ≤ e.rows.length ∧ K .any [(id, some { e with rows := e.rows.take lo ++ List.replicate (hi - lo) (z.map .v) ++ e.rows.drop hi })]
    | _ => False
  | .isnil neg x => match val env x with
    | .v (.slice ad _ _) => K (.v (.bool (if neg then !ad.isNone else ad.isNone))) []
    | .sl _ rows => ∀ b : Bool, (b = true → rows = []) → K (.v (.bool (if neg then !b else b))) []
    | .own id gen => ∃ e, H id = some e ∧ e.gen = gen ∧ ∀ b : Bool, (b = true → e.rows = []) → K (.v (.bool (if neg then !b else b))) []
    | _ => False
  | .call x args => match val env x with
    | .v (.func (.func f) ⟨[]⟩ ⟨[]⟩) => callE P H D b f (args.map (val env)) K
    | .clo f caps => callE P H D b f (args.map (val env) ++ caps) K
    | _ => False
  | .slcL sz x lo hi mx => match val env x with
    | .own id gen => ∃ (e : Ent) (md l n : Nat), H id = some e ∧ e.gen = gen ∧ e.sz = sz ∧ loV env lo l ∧ hiV env e.rows.length hi n ∧ l ≤ n ∧ n ≤ e.rows.length ∧ match md with
      | 0 => l = 0 ∧ mx = none ∧ ∀ g, K (.own id g) [(id, some ⟨g, e.T, e.sz, e.rows.take n⟩)]
      | 1 => mx = none ∧ K (.osub id gen l n) []
      | _ => ∃ (y : Operand) (m : Nat) (kd : IntKind), mx = some y ∧ hi.isSome = true ∧ val env y = .v (.int kd (m : Int)) ∧ n ≤ m ∧ m ≤ e.rows.length ∧ K .any []
    | .osub id gen lo0 hi0 => ∃ e : Ent, ∃ l h : Nat, H id = some e ∧ e.gen = gen ∧ e.sz = sz ∧ loV env lo l ∧ hiV env (hi0 - lo0) hi h ∧ l ≤ h ∧ lo0 + h ≤ e.rows.length ∧ mx = none ∧ lo0 ≤ hi0 ∧ K (.osub id gen (lo0 + l) (lo0 + h)) []
    | .sl clip rows => ∃ l h : Nat, loV env lo l ∧ hiV env rows.length hi h ∧ l ≤ h ∧ h ≤ rows.length ∧ (rows = [] ∨ ∃ row, rows[0]? = some row ∧ row.length = sz) ∧
        match mx with
        | none => K (.sl false ((rows.drop l).take (h - l))) []
        | some y => hi.isSome = true ∧ (∃ k, val env y = .v (.int k (h : Int))) ∧ K (.sl true ((rows.drop l).take (h - l))) []
    | _ => False
  | .die x => match val env x with
    | .v (.iface t y) => D (.iface t y)
    | _ => False
  | .mupd kind x i v => match val env x with
    | .obj id gen => ∃ e ents kv r, H id = some e ∧ e.gen = gen ∧ e.T = .q (mapI ents) ∧ val env i = .v kv ∧ Cl (val env v) ∧ findE kind kv ents 0 = some r ∧
        K (.v undef) [(id, some ⟨gen, .q (mapI (putE ents kv (val env v) r)), 0, []⟩)]
    | _ => False
  | _ => False
section
variable {P : Program} {c : Ctx} {st : St} {a : Act} {w w' : World} {R : Nat → Prop} {G : Nat → Option Loc} {o : Oper} {r : ROp} {Q : Exit → Act → World → Prop} {d : Nat} {u : V} {dH : List (Nat × Option Ent)}
theorem run_u {s : Sem Unit} (h : s.run P w = .ok () w') : ((do s; pure Next.skip) : Sem Next).run P w = .ok .skip w' := by
  simp [h]
theorem wp_skip_op {next : Act → World → Prop} (h : (execOp a.eval o).run P w = .ok .skip w') (hn : next (a.put o.dst undef) w') : o.wp P a w next Q := by
  unfold Oper.wp; rw [h]; exact hn
theorem e_store {t : TypeId} {x y : Operand} {i : TypeInfo} {id gen k off : Nat} {e : Ent} {row us : List V} {next : Act → World → Prop} (ho : o.op = .store t x y) (hi : P.info? t = some i) (h : RelAt c st a w R G) (hv : val st.env x = .ptr id gen k off)
    (he : st.H id = some e) (hg : e.gen = gen) (hrow : e.rows[k]? = some row) (hc : cellsV (val st.env y) = some us) (hl : us.length = i.size) (hb : off + i.size ≤ row.length) (h1 : ones st.H us)
    (hn : ∀ x w' R' G', RelAt c { st with H := upd st.H id (some { e with rows := e.rows.set k (putV row off us) }) } a w' R' G' → RV w' R' G' (.v undef) x → next (a.put o.dst x) w') : o.wp P a w next Q := by
  obtain ⟨l, xs, b, T0, g1, g2, g3, g4, g5, g6, hbk, hax, hT0, hop0⟩ := h.objP (hv ▸ h.val x) he hg hrow
  have g2' : l.gen = e.gen := g2.trans hg.symm
  have hcv := cells_of h hc (h.val y) h1
  have hk : k < e.rows.length := (List.getElem?_eq_some_iff.1 hrow).1
  have hrl : row.length = e.sz := g6.1 row (List.mem_of_getElem? hrow)
  have hkk : k * e.sz + e.sz ≤ e.rows.length * e.sz := by
    have : (k + 1) * e.sz ≤ e.rows.length * e.sz := Nat.mul_le_mul_right _ hk
    rw [Nat.add_mul] at this; omega
  have hvl : (a.eval y).cells.toList.length = i.size := by have := hcv.1; omega
  have hone : ∀ v ∈ (a.eval y).cells.toList, v.oneCell' = true := fun v hv => by
    obtain ⟨j, hj, rfl⟩ := List.mem_iff_getElem.1 hv
    have hju : j < us.length := by rw [hcv.1]; exact hj
    obtain ⟨z, q1, q2, _⟩ := hcv.2 j us[j] (List.getElem?_eq_getElem hju)
    rw [List.getElem?_eq_getElem hj] at q1; injection q1 with q1; rw [q1]; exact q2
  obtain ⟨hxl, hx2⟩ := g5
  rcases hx2 with ⟨q, _⟩ | ⟨g, cap, cur, q, q0, hh, hnc, hcm, hcs, htk⟩
  · rw [q] at hbk; cases hbk
  · have hgb : g = b := by rw [q] at hbk; simpa [Value.ownBlock] using hbk
    subst hgb
    have hcap : e.rows.length * e.sz ≤ cur.size := by rw [hcs]; exact Nat.mul_le_mul_right _ hnc
    have hrun := run_storeCells_at P g (k * l.sz + off) T0 (a.eval y).cells.toList 0 cur w hh (by rw [g3, hvl]; omega) hone
    simp only [Nat.add_zero, g3] at hrun
    have hst : (execOp a.eval o).run P w = .ok .skip (w.setRow g (cur.toList.take (k * e.sz + off) ++ (a.eval y).cells.toList ++ cur.toList.drop (k * e.sz + off + (a.eval y).cells.toList.length)).toArray) := by
      unfold execOp; rw [ho]
      refine run_u ?_
      rw [hax, g3]
      have hsz : (a.eval y).cells.size = i.size := by simpa using hvl
      simp only [Instr.storeAt, Instr.sureAddr, pure_bind, storeVar, sizeOf, typeInfo, Sem.run_bind, run_program, Result.andThen_ok, hi, Sem.run_pure]
      rw [if_neg (by rw [hsz]; simp)]
      exact hrun
    refine wp_skip_op hst (hn undef _ R (upd G id (some l)) ?_ (.v _))
    have hgb : w.grownBy (w.setRow g (cur.toList.take (k * e.sz + off) ++ (a.eval y).cells.toList ++ cur.toList.drop (k * e.sz + off + (a.eval y).cells.toList.length)).toArray) (some g) :=
      ⟨rfl, rfl, rfl, by simp, fun k' _ hk' => setRow_other w g k' _ (fun e => hk' (by rw [e]))⟩
    have hGle : Gle G (upd G id (some l)) := fun id' m hm => by
      by_cases hk : id' = id
      · subst hk; rw [g1] at hm; injection hm with hm; subst hm; exact ⟨l, upd_same _ _ _, .inl (SameL.refl _)⟩
      · exact ⟨m, by rw [upd_ne _ _ hk]; exact hm, .inl (SameL.refl _)⟩
    have hst2 : ∀ b, R b → R b ∧ (w.setRow g (cur.toList.take (k * e.sz + off) ++ (a.eval y).cells.toList ++ cur.toList.drop (k * e.sz + off + (a.eval y).cells.toList.length)).toArray).heap[b]? = w.heap[b]? := fun b hb =>
      ⟨hb, hgb.block b (h.lt b hb) (fun e' => by
        injection e' with e'; subst e'
        exact (h.hr.mine id e l b he g1 g2' ((Loc.ft_of hop0).2 hbk)).1 hb)⟩
    have hst3 := hst2
    rw [hvl] at hst3
    refine h.setG (e := { e with rows := e.rows.set k (putV row off us) }) hgb (fun b' hb' => ?_) (fun l0 hl0 => .inl ?_) (g2.trans hg.symm) (objOk_of (T := T0) (xs := xs.take (k * e.sz + off) ++ (a.eval y).cells.toList ++ xs.drop (k * e.sz + off + (a.eval y).cells.toList.length)) hT0 hop0 g3 g4 ?_ ?_) ?_
    · injection hb' with hb'; subst hb'; exact ⟨l, e, he, g1, g2', (Loc.ft_of hop0).2 hbk⟩
    · rw [g1] at hl0; injection hl0 with hl0; rw [hl0]; exact SameL.refl _
    · refine ⟨by rw [splice_len _ _ _ (by rw [hvl, hxl]; omega), hxl, List.length_set], .inr ⟨g, cap, _, by rw [q, List.length_set], q0, setRow_heap w g cur _ T0 _ hh, by rw [List.length_set]; exact hnc, hcm, ?_, ?_⟩⟩
      · rw [List.size_toArray, splice_len _ _ _ (by rw [hvl]; simp; omega)]
        simpa using hcs
      · rw [List.length_set, ← htk]
        apply List.ext_getElem?
        intro j
        by_cases hj : j < e.rows.length * e.sz
        · rw [List.getElem?_take_of_lt hj, splice_get _ _ _ _ (by rw [hvl]; simp; omega), splice_get _ _ _ _ (by rw [hvl]; simp; omega), List.getElem?_take_of_lt hj]
        · rw [List.getElem?_eq_none (by simp; omega), List.getElem?_eq_none]
          rw [splice_len _ _ _ (by rw [hvl]; simp; omega)]; simp; omega
    · refine ⟨fun r hr => ?_, fun i' j r v hi' hj => ?_⟩
      · rcases List.mem_or_eq_of_mem_set hr with q | q
        · exact g6.1 r q
        · rw [q]; unfold putV; rw [splice_len _ _ _ (by omega)]; exact hrl
      · have hrlen : r.length = e.sz := by
          rcases List.mem_or_eq_of_mem_set (List.mem_of_getElem? hi') with q | q
          · exact g6.1 r q
          · rw [q]; unfold putV; rw [splice_len _ _ _ (by omega)]; exact hrl
        have hjs : j < e.sz := by have := (List.getElem?_eq_some_iff.1 hj).1; omega
        show ∃ x, (xs.take (k * e.sz + off) ++ (a.eval y).cells.toList ++ xs.drop (k * e.sz + off + (a.eval y).cells.toList.length))[i' * e.sz + j]? = some x ∧ x.oneCell' = true ∧ _
        rw [splice_get _ _ _ _ (by rw [hvl, hxl]; omega), hvl]
        by_cases hik : i' = k
        · subst hik
          rw [List.getElem?_set_self hk] at hi'
          injection hi' with hi'; subst hi'
          unfold putV at hj
          rw [splice_get _ _ _ _ (by omega), hl] at hj
          by_cases hin : off ≤ j ∧ j < off + i.size
          · rw [if_pos hin] at hj
            rw [if_pos ⟨by omega, by omega⟩, show i' * e.sz + j - (i' * e.sz + off) = j - off by omega]
            obtain ⟨z, p1, p2, p3⟩ := hcv.2 _ v hj
            exact ⟨z, p1, p2, p3.mono hst3 hGle⟩
          · rw [if_neg hin] at hj
            rw [if_neg (by omega)]
            obtain ⟨z, p1, p2, p3⟩ := g6.2 i' j row v hrow hj
            exact ⟨z, p1, p2, p3.mono hst3 hGle⟩
        · rw [List.getElem?_set_ne (fun e => hik e.symm)] at hi'
          rw [if_neg ?_]
          · obtain ⟨z, p1, p2, p3⟩ := g6.2 i' j r v hi' hj
            exact ⟨z, p1, p2, p3.mono hst3 hGle⟩
          · rintro ⟨m1, m2⟩
            rcases Nat.lt_or_ge i' k with m | m
            · have : (i' + 1) * e.sz ≤ k * e.sz := Nat.mul_le_mul_right _ m
              rw [Nat.add_mul] at this; omega
            · have : (k + 1) * e.sz ≤ i' * e.sz := Nat.mul_le_mul_right _ (by omega)
              rw [Nat.add_mul] at this; omega
    · intro b' hb'
      have hb' := (Loc.ft_of hop0).1 hb'
      exact .inl (by rw [hbk] at hb'; injection hb' with hb'; rw [hb'])
theorem app_grows_drawn {P : Program} (w : World) (t ty e : TypeId) (i : TypeInfo) (z : Value) (ht : P.underlying t = some (.slice e)) (hi : P.info? e = some i) (hz : i.zero = some z)
    (b : Addr) (n cap : Nat) (olds : List Value) (hlo : olds.length = n * i.size) (holds : ∀ j u, olds[j]? = some u → w.cell? (b.add j) = some u)
    (a : Addr) (m c : Nat) (news : List Value) (hl : news.length = m * i.size) (hnews : ∀ j u, news[j]? = some u → w.cell? (a.add j) = some u)
    (hg : cap < n + m) (h63 : n + m ≤ maxLen) (hbytes : (n + m) * i.bytes ≤ 140737488355328) {v' : Value} {w' : World}
    (hr : (Builtin.append_ #[t, t] ty #[.slice (some b) n cap, .slice (some a) m c]).run P w = .ok v' w') : w.drawn ≤ w'.drawn := by
  have h := run_append_grow (P := P) w t ty e i z ht hi hz b n cap olds hlo holds a m c news hl hnews hg (by simp only [maxLen] at h63; omega) (growslice_fits hg hbytes)
  rw [h] at hr
  injection hr with _ hr
  subst hr
  exact Nat.le_succ _
theorem app_own_drawn {P : Program} (w : World) (t ty e : TypeId) (i : TypeInfo) (z : Value) (ht : P.underlying t = some (.slice e)) (hi : P.info? e = some i) (hz : i.zero = some z) (h0 : 0 < i.size)
    {v : Value} {n : Nat} {xs : List Value} (hown : w.ownsRow 0 e i.size v n xs)
    (a : Addr) (m c : Nat) (news : List Value) (hl : news.length = m * i.size) (hnews : ∀ j u, news[j]? = some u → w.cell? (a.add j) = some u) (h1 : ∀ u ∈ news, u.oneCell' = true)
    (h63 : n + m ≤ maxLen) (hbytes : (n + m) * i.bytes ≤ 140737488355328) {v' : Value} {w' : World}
    (hr : (Builtin.append_ #[t, t] ty #[v, .slice (some a) m c]).run P w = .ok v' w') : w.drawn ≤ w'.drawn := by
  have hsmall : n + m ≤ 9223372036854775807 := by simp only [maxLen] at h63; omega
  rcases hown.2 with ⟨rfl, rfl⟩ | ⟨g, cap, cur, rfl, hbg, hg, hnc, hcm, hcs, htake⟩
  · by_cases hm : m = 0
    · subst hm
      have hn : news = [] := List.eq_nil_of_length_eq_zero (by simpa using hl)
      subst hn
      have h : (Builtin.append_ #[t, t] ty #[.slice none 0 0, .slice (some a) 0 c]).run P w = .ok (.slice none 0 0) w := by
        simp [Builtin.append_, run_underlying ht, sizeOf, typeInfo, hi, Builtin.lenOf, Builtin.firstCells, loadCells, loadCellsFrom]
      rw [h] at hr
      injection hr with _ hr
      subst hr
      exact Nat.le_refl _
    · have h := run_append_nil (P := P) w t ty e i z ht hi hz a m c news hl hnews (by omega) (by omega) (by have hb := hbytes; simp only [Nat.zero_add] at hb; omega)
      rw [h] at hr
      injection hr with _ hr
      subst hr
      exact Nat.le_succ _
  · by_cases hroom : n + m ≤ cap
    · have hfit : n * i.size + news.length ≤ cur.size := by rw [hl, hcs, ← Nat.add_mul]; exact Nat.mul_le_mul_right _ hroom
      have h := run_append_room (P := P) w t ty e i ht hi g n cap cur hg a m c news hl hnews h1 hroom hfit
      rw [h] at hr
      injection hr with _ hr
      subst hr
      exact Nat.le_refl _
    · have hk := hown.cells (g := g) rfl
      exact app_grows_drawn w t ty e i z ht hi hz ⟨g, 0, none⟩ n cap xs hown.1 hk a m c news hl hnews (by omega) h63 hbytes hr
/-- an append onto what is owned, or is nothing -/
theorem e_app_own {cl : Call} {x y : Operand} {t T : TypeId} {i : TypeInfo} {z : Value} {id : Nat} {v : Value} {rows0 rows : List (List V)} {xs : List Value} {next : Act → World → Prop} (ho : o.op = .call cl) (hc : cl.callee = .builtin .append) (hax : cl.args.toList = [x, y]) (hat : cl.argTypes.toList = [t, t])
    (ht : P.underlying t = some (.slice T)) (hi : P.info? T = some i) (hz : i.zero = some z) (h0 : 0 < i.size) (hzs : z.cells.size = i.size) (h : RelAt c st a w R G)
    (hv : a.eval x = v) (hown : w.ownsRow 0 T i.size v rows0.length xs) (hrows0 : RowsR w R G xs i.size rows0) (hs : srcRows st.H i.size (val st.env y) rows) (hm : rows0.length + rows.length ≤ maxLen) (hby : (rows0.length + rows.length) * i.bytes ≤ 140737488355328)
    (hold : ∀ b, v.ownBlock = some b → ∃ l0 e0, st.H id = some e0 ∧ G id = some l0 ∧ l0.gen = e0.gen ∧ l0.ft b)
    (hn : ∀ g x w' R' G', RelAt c { st with H := upd st.H id (some ⟨g, .t T, i.size, rows0 ++ rows⟩) } a w' R' G' → RV w' R' G' (.own id g) x → next (a.put o.dst x) w') : o.wp P a w next Q := by
  have key : ∀ v' w', (Builtin.append_ #[t, t] o.type #[a.eval x, a.eval y]).run P w = .ok v' w' → ∀ ys, w'.ownsRow 0 T i.size v' (rows0.length + rows.length) (xs ++ ys) → w.grownBy w' v.ownBlock → w.drawn ≤ w'.drawn → RowsR w R G ys i.size rows → (v'.ownBlock = v.ownBlock ∨ v'.ownBlock = some w.heap.size) → o.wp P a w next Q := fun v' w' hrun ys hown' hgr hdr hys hblk => by
    refine wp_value (run_app ho hc hax hat hrun) (hn (freshGen G id) v' w' R (upd G id (some ⟨freshGen G id, i.size, v', false, none⟩)) ?_ (.own _ _ _ (upd_same _ _ _) (Nat.le_refl _) _ fun _ => ⟨rfl, rfl⟩))
    have hle : Gle G (upd G id (some ⟨freshGen G id, i.size, v', false, none⟩)) := fun k m hm => by
      by_cases hk : k = id
      · subst hk; exact ⟨_, upd_same _ _ _, .inr (freshGen_lt hm)⟩
      · exact ⟨m, by rw [upd_ne _ _ hk]; exact hm, .inl (SameL.refl _)⟩
    have hst : ∀ b, R b → R b ∧ w'.heap[b]? = w.heap[b]? := fun b hb => ⟨hb, hgr.block b (h.lt b hb) (fun e => by
      obtain ⟨l0, e0, q1, q2, q25, q3⟩ := hold b e.symm
      exact (h.hr.mine id e0 l0 b q1 q2 q25 q3).1 hb)⟩
    refine h.set (hd := hdr) hgr (.inl rfl) hold (fun l0 hl0 => .inr (freshGen_lt hl0)) h0 (xs := xs ++ ys) ?_ ?_ ?_
    · rw [List.length_append]; exact hown'
    · exact rows_append hown.1 (hrows0.mono hst hle) (hys.mono hst hle)
    · intro b hb
      rcases hblk with q | q
      · exact .inl (by rw [← q]; exact hb)
      · have hb2 : v'.ownBlock = some b := hb
        rw [q] at hb2; injection hb2 with hb2
        exact .inr (h.newBlk (by omega) id)
  rcases src_cells h (h.val y) hs with ⟨q1, b, c', q2, _⟩ | ⟨b, off, c', ys, q1, q2, q3, q4, q5, q6⟩
  · subst q1
    have hsrc : Src P i.size t (a.eval y) 0 [] w := by
      rw [q2]
      cases b with
      | none => exact Src.ofNil w ht c'
      | some ad => exact Src.ofSlice w ht ad 0 c' [] (by simp) (by simp) (by simp)
    have hform : ∃ ad n cap, v = .slice ad n cap ∧ n ≤ cap := by
      rcases hown.2 with ⟨p, _⟩ | ⟨g, cap, cur, p, _, _, hnc, _⟩
      · exact ⟨none, 0, 0, p, Nat.le_refl _⟩
      · exact ⟨_, _, cap, p, hnc⟩
    obtain ⟨ad, n, cap, hvv, hnc⟩ := hform
    have hrun := run_append_nothing (P := P) w t t o.type T i ht hi ad n cap hnc (a.eval y) hsrc
    subst hvv
    refine key (.slice ad n cap) w (by rw [hv]; exact hrun) [] (by simpa using hown) ⟨rfl, rfl, rfl, Nat.le_refl _, fun _ _ _ => rfl⟩ (Nat.le_refl _) ⟨by simp, fun i j row u hi => by simp at hi⟩ (.inl rfl)
  · obtain ⟨v', w', r1, r2, r3, _, r5⟩ := run_append_own_at (P := P) w 0 t o.type T i z i.size i.bytes ht hi hz rfl rfl hzs h0 v rows0.length xs hown ⟨b, off, none⟩ rows.length c' ys q3 (fun j u hu => by rw [add_row]; exact q4 j u hu) q5 hm hby (Nat.zero_le _)
    refine key v' w' (by rw [hv, q1]; exact r1) ys r2 r3 (app_own_drawn w t o.type T i z ht hi hz h0 hown ⟨b, off, none⟩ rows.length c' ys q3 (fun j u hu => by rw [add_row]; exact q4 j u hu) q5 hm hby r1) q6 r5
theorem own_prefix {w : World} {T : TypeId} {sz n k : Nat} {b cap : Nat} {xs : List Value} (h : w.ownsRow 0 T sz (.slice (some ⟨b, 0, none⟩) n cap) n xs) (hk : k ≤ n) : w.ownsRow 0 T sz (.slice (some ⟨b, 0, none⟩) k cap) k (xs.take (k * sz)) := by
  have hks : k * sz ≤ n * sz := Nat.mul_le_mul_right _ hk
  obtain ⟨h1, h2⟩ := h
  refine ⟨by rw [List.length_take, h1]; omega, ?_⟩
  rcases h2 with ⟨q, _⟩ | ⟨g, cap', cur, q, h0, hh, hnc, hcm, hcs, htk⟩
  · cases q
  · injection q with q1 q2 q3
    injection q1 with q1; injection q1 with q1
    subst q1 q3
    refine .inr ⟨b, cap, cur, rfl, h0, hh, by omega, hcm, hcs, ?_⟩
    rw [← htk, List.take_take, Nat.min_eq_left hks]
/-- the first part of what is owned -/
theorem e_slc {t T : TypeId} {x : Operand} {lo hi : Option Operand} {j : TypeInfo} {id gen n : Nat} {e : Ent} {next : Act → World → Prop} (ho : o.op = .slice t x lo hi none) (ht : P.underlying t = some (.slice T)) (hj : P.info? T = some j)
    (h : RelAt c st a w R G) (hv : val st.env x = .own id gen) (he : st.H id = some e) (hg : e.gen = gen) (hsz : e.sz = j.size) (hl : loV st.env lo 0) (hhi : hiV st.env e.rows.length hi n) (hn : n ≤ e.rows.length)
    (hk : ∀ g x w' R' G', RelAt c { st with H := upd st.H id (some ⟨g, e.T, e.sz, e.rows.take n⟩) } a w' R' G' → RV w' R' G' (.own id g) x → next (a.put o.dst x) w') : o.wp P a w next Q := by
  obtain ⟨l, xs, T0, g1, g2, g3, g4, g5, g6, hax, hT0, hop0, hbx0⟩ := h.objO (hv ▸ h.val x) he hg
  have hrl : (e.rows.take n).length = n := by rw [List.length_take]; omega
  have hnx : n * e.sz ≤ e.rows.length * e.sz := Nat.mul_le_mul_right _ hn
  have key : ∀ v' : Value, (execOp a.eval o).run P w = .ok (.value v') w → w.ownsRow 0 T0 e.sz v' n (xs.take (n * e.sz)) → (∀ b, v'.ownBlock = some b → l.val.ownBlock = some b) → o.wp P a w next Q := fun v' hrun hown hblk => by
    refine wp_value hrun (hk (freshGen G id) v' w R (upd G id (some ⟨freshGen G id, e.sz, v', false, none⟩)) ?_ (.own _ _ _ (upd_same _ _ _) (Nat.le_refl _) _ fun _ => ⟨rfl, rfl⟩))
    have hle : Gle G (upd G id (some ⟨freshGen G id, e.sz, v', false, none⟩)) := fun k m hm => by
      by_cases hk : k = id
      · subst hk; exact ⟨_, upd_same _ _ _, .inr (freshGen_lt hm)⟩
      · exact ⟨m, by rw [upd_ne _ _ hk]; exact hm, .inl (SameL.refl _)⟩
    refine h.set (row := l.val.ownBlock) ⟨rfl, rfl, rfl, Nat.le_refl _, fun _ _ _ => rfl⟩ (.inl hT0) (fun b hb => ⟨l, e, he, g1, g2.trans hg.symm, (Loc.ft_of hop0).2 hb⟩) (fun l0 hl0 => .inr (freshGen_lt hl0)) g4 (xs := xs.take (n * e.sz)) ?_ ?_ ?_
    · rw [hrl]; exact hown
    · refine ⟨fun row hr => g6.1 row (List.mem_of_mem_take hr), fun i k row u hi hk => ?_⟩
      have hi' : (e.rows.take n)[i]? = some row := hi
      have hi2 : i < n := by have := (List.getElem?_eq_some_iff.1 hi').1; omega
      rw [List.getElem?_take_of_lt hi2] at hi'
      have hi := hi'
      obtain ⟨y, p1, p2, p3⟩ := g6.2 i k row u hi hk
      have hks : k < e.sz := by
        have := (List.getElem?_eq_some_iff.1 hk).1
        rw [g6.1 row (List.mem_of_getElem? hi)] at this; exact this
      have hlt : i * e.sz + k < n * e.sz := by
        have : (i + 1) * e.sz ≤ n * e.sz := Nat.mul_le_mul_right _ hi2
        rw [Nat.add_mul] at this; omega
      exact ⟨y, by rw [List.getElem?_take_of_lt hlt]; exact p1, p2, p3.mono (fun b hb => ⟨hb, rfl⟩) hle⟩
    · intro b hb
      exact .inl (hblk b hb)
  rcases own_val g5 with ⟨q1, q2⟩ | ⟨b, cap, q1, hb⟩
  · have hn0 : n = 0 := by rw [q2] at hn; simpa using hn
    subst hn0
    refine key (.slice none 0 0) ?_ (by simpa using World.ownsRow_nil w 0 T0 e.sz) (fun b hb => by cases hb)
    unfold execOp; rw [ho]
    refine run_v _ ?_
    have hb := run_sliceBounds (P := P) (isS := true) (cap := 0) h hl hhi (.inl ⟨rfl, rfl⟩) (Nat.le_refl _) (Nat.le_refl _) (Nat.le_refl _)
    rw [hax, q1]
    rw [q2] at hb
    simp only [Option.map_none, List.length_nil] at hb
    simp [Instr.sliceAt, run_underlying ht, Instr.slice, hb, sizeOf, typeInfo, hj]
  · rw [q1] at g5
    have hcap : e.rows.length ≤ cap := by
      rcases g5.2 with ⟨q, _⟩ | ⟨g', cap', cur, q, _, _, hnc, _⟩
      · cases q
      · injection q with _ _ q; omega
    refine key (.slice (some ⟨b, 0, none⟩) n cap) ?_ (own_prefix g5 hn) (fun b' hb' => by rw [hb]; exact hb')
    unfold execOp; rw [ho]
    refine run_v _ ?_
    have hbd := run_sliceBounds (P := P) (isS := true) (cap := cap) h hl hhi (.inl ⟨rfl, rfl⟩) (Nat.zero_le _) (Nat.le_trans hn hcap) (Nat.le_refl _)
    rw [hax, q1]
    simp only [Option.map_none] at hbd
    simp [Instr.sliceAt, run_underlying ht, Instr.slice, hbd, sizeOf, typeInfo, hj, add_row]
/-- an append onto a slice without spare room -/
theorem e_app_clip {cl : Call} {x y : Operand} {t T : TypeId} {i : TypeInfo} {z : Value} {id : Nat} {rows0 rows : List (List V)} {next : Act → World → Prop} (ho : o.op = .call cl) (hc : cl.callee = .builtin .append) (hax : cl.args.toList = [x, y]) (hat : cl.argTypes.toList = [t, t])
    (ht : P.underlying t = some (.slice T)) (hi : P.info? T = some i) (hz : i.zero = some z) (h0 : 0 < i.size) (hzs : z.cells.size = i.size) (h : RelAt c st a w R G)
    (hv : val st.env x = .sl true rows0) (hne : rows ≠ []) (hr0 : ∀ row ∈ rows0, row.length = i.size ∧ ones st.H row) (hs : srcRows st.H i.size (val st.env y) rows) (hm : rows0.length + rows.length ≤ maxLen) (hby : (rows0.length + rows.length) * i.bytes ≤ 140737488355328)
    (hn : ∀ g x w' R' G', RelAt c { st with H := upd st.H id (some ⟨g, .t T, i.size, rows0 ++ rows⟩) } a w' R' G' → RV w' R' G' (.own id g) x → next (a.put o.dst x) w') : o.wp P a w next Q := by
  rcases src_cells h (h.val y) hs with ⟨q1, _⟩ | ⟨b, off, c', ys, q1, q2, q3, q4, q5, q6⟩
  · exact absurd q1 hne
  · rcases src_cells (rows := rows0) h (hv ▸ h.val x) (show srcRows st.H i.size (.sl true rows0) rows0 from ⟨rfl, hr0⟩) with ⟨p1, ad, cap, p2, _⟩ | ⟨b', off', cap, xs, p1, p2, p3, p4, p5, p6⟩
    · have hcap : cap = 0 := by
        have hh := h.val x
        rw [hv, p2, p1] at hh
        cases hh with
        | nil clip a cap hc => exact hc rfl
        | sl clip rows b off cap sz f hR hcap hclip => exact hclip rfl
      subst hcap
      subst p1
      cases ad with
      | none =>
        exact e_app_own (rows0 := []) (xs := []) ho hc hax hat ht hi hz h0 hzs h p2 (World.ownsRow_nil _ _ _ _) ⟨by simp, fun i j row u hi => by simp at hi⟩ hs hm hby (fun b hb => by cases hb) hn
      | some ad =>
        obtain ⟨v', w', r1, r2, r3⟩ := run_append_arg_grows (P := P) w t o.type T i z i.size i.bytes ht hi hz rfl rfl hzs h0 ad 0 0 [] (by simp) (by simp) ⟨b, off, none⟩ rows.length c' ys q3 (fun j u hu => by rw [add_row]; exact q4 j u hu)
          (by have := List.length_pos_iff.2 hne; omega) (by simpa using hm) (by simpa using hby)
        simp only [Nat.zero_add, List.nil_append] at r2
        have hlt := fun b hb => (r2.lt b hb).1
        refine wp_value (run_app ho hc hax hat (by rw [p2, q1]; exact r1)) (hn (freshGen G id) v' w' R (upd G id (some ⟨freshGen G id, i.size, v', false, none⟩)) ?_ (.own _ _ _ (upd_same _ _ _) (Nat.le_refl _) _ fun _ => ⟨rfl, rfl⟩))
        refine h.set (hd := app_grows_drawn w t o.type T i z ht hi hz ad 0 0 [] (by simp) (by simp) ⟨b, off, none⟩ rows.length c' ys q3 (fun j u hu => by rw [add_row]; exact q4 j u hu) (by have := List.length_pos_iff.2 hne; omega) (by simpa using hm) (by simpa using hby) r1) r3 (.inl rfl) (by simp) (fun l0 hl0 => .inr (freshGen_lt hl0)) h0 (xs := ys) ?_ ?_ ?_
        · obtain ⟨e1, e2⟩ := r2
          refine ⟨by simpa using e1, ?_⟩
          rcases e2 with e2 | ⟨g, cap, cur, e2, _, e3⟩
          · exact .inl (by simpa using e2)
          · exact .inr ⟨g, cap, cur, by simpa using e2, Nat.zero_le _, by simpa using e3⟩
        · rw [List.nil_append]
          refine q6.mono (fun b hb => ⟨hb, r3.block b (h.lt b hb) (by simp)⟩) (fun k m hm => ?_)
          by_cases hk : k = id
          · subst hk; exact ⟨_, upd_same _ _ _, .inr (freshGen_lt hm)⟩
          · exact ⟨m, by rw [upd_ne _ _ hk]; exact hm, .inl (SameL.refl _)⟩
        · intro b hb
          exact .inr (h.newBlk (hlt b hb) id)
    · have hcap : cap = rows0.length := by
        have hh := h.val x
        rw [hv, p1] at hh
        generalize hrr : rows0 = rr at hh
        generalize hcc : cap = cc at hh
        generalize hll : rr.length = ll at hh
        cases hh with
        | nil clip a cap hc => exact absurd hrr p2
        | sl clip rows b off cap sz f hR hcap hclip => simpa using hclip rfl
      subst hcap
      obtain ⟨v', w', r1, r2, r3⟩ := run_append_arg_grows (P := P) w t o.type T i z i.size i.bytes ht hi hz rfl rfl hzs h0 ⟨b', off', none⟩ rows0.length rows0.length xs p3 (fun j u hu => by rw [add_row]; exact p4 j u hu) ⟨b, off, none⟩ rows.length c' ys q3 (fun j u hu => by rw [add_row]; exact q4 j u hu)
        (by have := List.length_pos_iff.2 hne; omega) hm hby
      have hlt := fun b hb => (r2.lt b hb).1
      have hle : Gle G (upd G id (some ⟨freshGen G id, i.size, v', false, none⟩)) := fun k m hm => by
        by_cases hk : k = id
        · subst hk; exact ⟨_, upd_same _ _ _, .inr (freshGen_lt hm)⟩
        · exact ⟨m, by rw [upd_ne _ _ hk]; exact hm, .inl (SameL.refl _)⟩
      have hst : ∀ b, R b → R b ∧ w'.heap[b]? = w.heap[b]? := fun b hb => ⟨hb, r3.block b (h.lt b hb) (by simp)⟩
      refine wp_value (run_app ho hc hax hat (by rw [p1, q1]; exact r1)) (hn (freshGen G id) v' w' R (upd G id (some ⟨freshGen G id, i.size, v', false, none⟩)) ?_ (.own _ _ _ (upd_same _ _ _) (Nat.le_refl _) _ fun _ => ⟨rfl, rfl⟩))
      refine h.set (hd := app_grows_drawn w t o.type T i z ht hi hz ⟨b', off', none⟩ rows0.length rows0.length xs p3 (fun j u hu => by rw [add_row]; exact p4 j u hu) ⟨b, off, none⟩ rows.length c' ys q3 (fun j u hu => by rw [add_row]; exact q4 j u hu) (by have := List.length_pos_iff.2 hne; omega) hm hby r1) r3 (.inl rfl) (by simp) (fun l0 hl0 => .inr (freshGen_lt hl0)) h0 (xs := xs ++ ys) ?_ (rows_append p3 (p6.mono hst hle) (q6.mono hst hle)) ?_
      · obtain ⟨e1, e2⟩ := r2
        refine ⟨by simpa using e1, ?_⟩
        rcases e2 with e2 | ⟨g, cap, cur, e2, _, e3⟩
        · exact .inl (by simpa using e2)
        · exact .inr ⟨g, cap, cur, by simpa using e2, Nat.zero_le _, by simpa using e3⟩
      · intro b hb
        exact .inr (h.newBlk (hlt b hb) id)
set_option maxHeartbeats 1000000 in
theorem eff_sound (hres : resOp P o = some r) (h : RelAt c st a w R G) {K : V → List (Nat × Option Ent) → Prop} (hs : stepE P r st.env st.H st.D (16 * d) K) {next : Act → World → Prop}
    (hK : ∀ u dH, K u dH → ∀ x w' R' G', RelAt c { st with H := addH st.H dH } a w' R' G' → RV w' R' G' u x → next (a.put o.dst x) w')
    (hdie : ∀ v, st.D v → ∀ w', Fr c.L c.w0 w' → Q (.panic [{ v := v, recovered := false }]) a w') : o.wp P a w next Q := by
  have hids : ∀ k, k < 16 → (16 * d + k) / 16 = d := fun k hk => by omega
  have hcall : ∀ {f : FuncId} {xs : List Value} {us : List V}, (Callable P f → (execOp a.eval o).run P w = .ok (.enter f xs.toArray) w) → us.length = xs.length → (∀ (i : Nat) (u : V) (x : Value), us[i]? = some u → xs[i]? = some x → RV w R G u x) → callE P st.H st.D (16 * d) f us K → o.wp P a w next Q := fun hr hl hh hc => by
    rcases hc with ⟨ps, rs, bor, gone, hA, hF, hfl, hrs, hk⟩ | ⟨ps, rs, bor, gone, hA, hF, hfl, hout, hnd, hk⟩ | ⟨ps, bor, gone, v, hA, hF, hD⟩
    · exact q_call (g := freshGen G) hids (fun id _ l0 hl0 => freshGen_lt hl0) h (hr hF.1) hl hh hA hF hfl hrs next (fun x w' R' G' h1 h2 _ => hK _ _ (hk _) x w' R' G' h1 h2)
    · exact q_callM (g := freshGen G) (fun id l0 hl0 => freshGen_lt hl0) h (hr hF.1) hl hh hA hF hfl hout hnd (fun x w' R' G' h1 h2 => hK _ _ (hk _) x w' R' G' h1 h2)
    · exact q_die h (hr hF.1) hl hh hA hF (fun w' hfr => hdie v hD w' hfr)
  cases hop : o.op with
  | slice t x lo hi mx =>
    have hres0 := hres
    simp only [resOp, hop] at hres
    split at hres
    · split at hres
      · simp only [Option.some.injEq] at hres; subst hres; exact hs.elim
      · cases hres
    · rename_i T ht
      split at hres
      · rename_i j hj
        split at hres
        · simp only [Option.some.injEq] at hres; subst hres
          simp only [stepE] at hs
          split at hs
          · rename_i id gen hx
            obtain ⟨e, md, l, n, h1, h2, h3, h4, h5, h6, h7, h8⟩ := hs
            split at h8
            · obtain ⟨rfl, rfl, h8⟩ := h8
              exact e_slc hop ht hj h hx h1 h2 h3 h4 h5 h7 (fun g x w' R' G' hR hV => hK _ _ (h8 g) x w' R' G' hR hV)
            · obtain ⟨rfl, h8⟩ := h8
              exact q_part (Q := Q) (d := d) hop ht hj h hx h1 h2 h3 h4 h5 h6 h7 next (fun x w' R' G' hR hV _ => hK _ _ h8 x w' R' G' hR hV)
            · obtain ⟨y, m, kd, rfl, h9, h10, h11, h12, h13⟩ := h8
              exact q_slc3 (Q := Q) (d := d) hop ht hj h hx h1 h2 h4 h5 h9 h10 h6 h11 h12 next (fun x w' R' G' hR hV _ => hK _ _ h13 x w' R' G' hR hV)
          · rename_i id gen lo0 hi0 hx
            obtain ⟨e, l, k, h1, h2, h3, h4, h5, h6, h7, rfl, h8, h9⟩ := hs
            exact q_sub (Q := Q) (d := d) hop ht hj h (hx ▸ h.val x) h1 h2 h3 h4 h5 h6 h7 h8 next (fun x w' R' G' hR hV _ => hK _ _ h9 x w' R' G' hR hV)
          · rename_i clip rows hx
            obtain ⟨l, k, h1, h2, h3, h4, h5, h6⟩ := hs
            cases mx with
            | none => exact q_slcL (Q := Q) (d := d) hop ht hj h hx h1 h2 h3 h4 h5 (.inl ⟨rfl, rfl⟩) next (fun x w' R' G' hR hV _ => hK _ _ h6 x w' R' G' hR hV)
            | some y =>
              obtain ⟨h7, ⟨kd, hk⟩, h8⟩ := h6
              exact q_slcL (Q := Q) (d := d) hop ht hj h hx h1 h2 h3 h4 h5 (.inr ⟨y, kd, rfl, h7, hk⟩) next (fun x w' R' G' hR hV _ => hK _ _ h8 x w' R' G' hR hV)
          · exact hs.elim
        · cases hres
      · cases hres
    · cases hres
  | store t x y =>
    simp only [resOp, hop] at hres
    split at hres
    · rename_i i hi
      simp only [Option.some.injEq] at hres; subst hres
      simp only [stepE] at hs
      split at hs
      · rename_i id gen k off hv
        obtain ⟨e, row, us, h1, h2, h3, h4, h5, h6, h7, h8⟩ := hs
        exact e_store hop hi h hv h1 h2 h3 h4 h5 h6 h7 (fun x w' R' G' hR hV => hK _ _ h8 x w' R' G' hR hV)
      · exact hs.elim
    · cases hres
  | call cl =>
    obtain ⟨callee, args, argTypes⟩ := cl
    cases callee with
    | value f =>
      simp only [resOp, hop, Option.some.injEq] at hres; subst hres
      simp only [stepE] at hs
      obtain ⟨e1, e2⟩ := args_rel h args.toList
      split at hs
      · rename_i f' hf
        have hx : a.eval f = .func (.func f') #[] ([] : List Value).toArray := rv_v (hf ▸ h.val f)
        refine hcall (us := args.toList.map (val st.env)) (xs := args.toList.map a.eval) (fun hcb => ?_) e1 e2 hs
        have hr := run_call (P := P) (w := w) hop rfl hx hcb
        rw [List.append_nil] at hr
        exact hr
      · rename_i f' caps hf
        have hv := h.val f
        rw [hf] at hv
        generalize hax : a.eval f = ax at hv
        cases hv with
        | clo f' caps xs hl hh =>
          refine hcall (us := args.toList.map (val st.env) ++ caps) (xs := args.toList.map a.eval ++ xs) (fun hcb => run_call (P := P) (w := w) hop rfl hax hcb) (by simp [hl]) ?_ hs
          intro i u x g1 g2
          by_cases hi : i < (args.toList.map (val st.env)).length
          · rw [List.getElem?_append_left hi] at g1
            rw [List.getElem?_append_left (by simpa using hi)] at g2
            exact e2 i u x g1 g2
          · rw [List.getElem?_append_right (by omega)] at g1
            rw [List.getElem?_append_right (by simpa using hi)] at g2
            exact hh _ u x (by simpa using g1) (by simpa using g2)
      · exact hs.elim
    | invoke f m => simp [resOp, hop] at hres
    | builtin b =>
      cases b with
      | max =>
        simp only [resOp, hop] at hres
        split at hres
        · simp only [Option.some.injEq] at hres; subst hres; exact hs.elim
        · cases hres
      | min =>
        simp only [resOp, hop] at hres
        split at hres
        · simp only [Option.some.injEq] at hres; subst hres; exact hs.elim
        · cases hres
      | append =>
        simp only [resOp, hop] at hres
        split at hres
        · rename_i x y t t' hax hat
          split at hres
          · rename_i htt
            subst htt
            split at hres
            · rename_i e ht
              split at hres
              · rename_i i hi
                split at hres
                · rename_i z hz
                  split at hres
                  · rename_i h0
                    simp only [Bool.and_eq_true, decide_eq_true_eq, beq_iff_eq] at h0
                    simp only [Option.some.injEq] at hres; subst hres
                    simp only [stepE] at hs
                    split at hs
                    · rename_i id gen lo0 k hx
                      split at hs
                      · rename_i id' gen' lo hi' hy
                        obtain ⟨en, h1, h2, rfl, rfl, rfl, h3, h4, h5, h6, h7⟩ := hs
                        exact e_app_sub hop rfl hax hat ht hi h hx hy h1 h2 h3 h4 h5 h6 (fun x w' R' G' hR hV => hK _ _ h7 x w' R' G' hR hV)
                      · exact hs.elim
                    · rename_i id gen hx
                      obtain ⟨rows, hsrc, en, h1, h2, hT, h3, h4, h5, h6⟩ := hs
                      obtain ⟨l, xs, T0, g1, g2, g3, g4, g5, g6, hae, hT0, hop0, hbx0⟩ := h.objO (hx ▸ h.val x) h1 h2
                      rw [h3] at g5 g6
                      rw [hT] at hT0; injection hT0 with hT0; subst hT0
                      exact e_app_own hop rfl hax hat ht hi hz h0.1 h0.2 h hae g5 g6 hsrc h4 h5 (fun b hb => ⟨l, en, h1, g1, g2.trans h2.symm, (Loc.ft_of hop0).2 hb⟩) (fun g x w' R' G' hR hV => hK _ _ (h6 g) x w' R' G' hR hV)
                    · rename_i hx
                      obtain ⟨rows, hsrc, h1, h2, h3⟩ := hs
                      exact e_app_own (rows0 := []) (xs := []) hop rfl hax hat ht hi hz h0.1 h0.2 h (rv_v (hx ▸ h.val x)) (World.ownsRow_nil _ _ _ _) ⟨by simp, fun i j row u hi => by simp at hi⟩ hsrc (by simpa using h1) (by simpa using h2) (fun b hb => by cases hb)
                        (fun g x w' R' G' hR hV => hK _ _ (h3 g) x w' R' G' hR hV)
                    · rename_i rows0 hx
                      obtain ⟨rows, hsrc, h1, h2, h3, h4, h5⟩ := hs
                      exact e_app_clip hop rfl hax hat ht hi hz h0.1 h0.2 h hx h1 h2 hsrc h3 h4 (fun g x w' R' G' hR hV => hK _ _ (h5 g) x w' R' G' hR hV)
                    · exact hs.elim
                  · cases hres
                · cases hres
              · cases hres
            · cases hres
          · cases hres
        · cases hres
      | clear =>
        simp only [resOp, hop] at hres
        split at hres
        · rename_i x t hax hat
          split at hres
          · rename_i e ht
            split at hres
            · rename_i i hi
              split at hres
              · rename_i z hz
                split at hres
                · rename_i h0
                  simp only [Bool.and_eq_true, decide_eq_true_eq, beq_iff_eq] at h0
                  simp only [Option.some.injEq] at hres; subst hres
                  simp only [stepE] at hs
                  split at hs
                  · rename_i id gen lo hi' hx
                    obtain ⟨en, h1, h2, h3, h4, h5, h6⟩ := hs
                    exact e_clr hop rfl hax hat ht hi hz h0.1.1 h0.1.2 h0.2 h hx h1 h2 h3 h4 h5 (fun x w' R' G' hR hV => hK _ _ h6 x w' R' G' hR hV)
                  · exact hs.elim
                · cases hres
              · cases hres
            · cases hres
          · cases hres
        · cases hres
      | len =>
        simp only [resOp, hop] at hres
        split at hres
        · split at hres
          · simp only [Option.some.injEq] at hres; subst hres; exact hs.elim
          · simp only [Option.some.injEq] at hres; subst hres; exact hs.elim
          · simp only [Option.some.injEq] at hres; subst hres; exact hs.elim
          · cases hres
        · cases hres
      | _ => simp [resOp, hop] at hres
  | panic x =>
    simp only [resOp, hop, Option.some.injEq] at hres; subst hres
    simp only [stepE] at hs
    split at hs
    · rename_i t y hx
      have e1 : a.eval x = .iface t y := rv_v (hx ▸ h.val x)
      have hr : (execOp a.eval o).run P w = .halt (.panic (.iface t y)) w := by
        unfold execOp; rw [hop]; simp [e1, Instr.panic, goPanic]
      unfold Oper.wp; rw [hr]
      exact hdie _ hs w h.fr
    · exact hs.elim
  | makeInterface t x =>
    exfalso
    simp only [resOp, hop] at hres
    repeat' (split at hres)
    all_goals first | (cases hres; done) | (simp only [Option.some.injEq] at hres; subst hres; exact hs.elim)
  | makeMap t rs => cases rs <;> simp only [resOp, hop, reduceCtorEq, Option.some.injEq] at hres <;> subst hres <;> exact hs.elim
  | mapUpdate t x y z =>
    simp only [resOp, hop] at hres
    split at hres
    · rename_i kt et ht
      split at hres
      · rename_i kd hkt
        split at hres
        · rename_i hkk
          simp only [Option.some.injEq] at hres; subst hres
          simp only [stepE] at hs
          split at hs
          · rename_i id gen hx
            obtain ⟨e, ents, kv, r, h1, h2, h3, h4, h5, h6, h7⟩ := hs
            exact e_mupd (.inl hop) ht hkt hkk h hx h1 h2 h3 h4 rfl h5 h6 (fun x w' R' G' hR hV => hK _ _ h7 x w' R' G' hR hV)
          · exact hs.elim
        · cases hres
      · cases hres
    · cases hres
  | insert t x y z =>
    simp only [resOp, hop] at hres
    split at hres
    · rename_i kt et ht
      split at hres
      · rename_i kd hkt
        split at hres
        · rename_i hkk
          simp only [Option.some.injEq] at hres; subst hres
          simp only [stepE] at hs
          split at hs
          · rename_i id gen hx
            obtain ⟨e, ents, kv, r, h1, h2, h3, h4, h5, h6, h7⟩ := hs
            exact e_mupd (.inr hop) ht hkt hkk h hx h1 h2 h3 h4 rfl h5 h6 (fun x w' R' G' hR hV => hK _ _ h7 x w' R' G' hR hV)
          · exact hs.elim
        · cases hres
      · cases hres
    · cases hres
  | move => simp only [resOp, hop, Option.some.injEq] at hres; subst hres; exact hs.elim
  | assign => simp only [resOp, hop, Option.some.injEq] at hres; subst hres; exact hs.elim
  | pick => simp only [resOp, hop, Option.some.injEq] at hres; subst hres; exact hs.elim
  | extract => simp only [resOp, hop, Option.some.injEq] at hres; subst hres; exact hs.elim
  | unOp op t x => cases op <;> simp only [resOp, hop, Option.some.injEq, reduceCtorEq] at hres <;> subst hres <;> exact hs.elim
  | binOp op t x y t' =>
    have kn : ∀ (neg : Bool) (e : TypeId), op = (if neg then .neq else .eql) → P.underlying t = some (.slice e) → y = .const (.slice none 0 0) → r = .isnil neg x → o.wp P a w next Q := fun neg e hn ht hy hr => by
      subst hr hy
      simp only [stepE] at hs
      split at hs
      · rename_i ad n cap hx
        have hax := rv_v (hx ▸ h.val x)
        refine e_isnil hop hn ht h (fun b hb => ?_) ⟨ad, n, cap, hax⟩
        rw [hb ad n cap hax]
        exact hK _ _ hs _ w R G h (.v _)
      · rename_i cl rows hx
        have hv := h.val x
        rw [hx] at hv
        generalize hax : a.eval x = ax at hv
        cases hv with
        | nil c ad cap hc =>
          refine e_isnil hop hn ht h (fun b hb => hK _ _ (hs b (fun _ => rfl)) _ w R G h (.v _)) ⟨ad, 0, cap, hax⟩
        | sl c rows b off cap sz f hR hcap hclip hss hcell hh =>
          refine e_isnil hop hn ht h (fun b' hb => hK _ _ (hs b' (fun q => ?_)) _ w R G h (.v _)) ⟨_, _, _, hax⟩
          rw [hb _ _ _ hax] at q; cases q
      · rename_i id gen hx
        obtain ⟨e', h1, h2, h3⟩ := hs
        obtain ⟨l, xs, T0, g1, g2, g3, g4, g5, g6, hax, hT0, hop0, hbx0⟩ := h.objO (hx ▸ h.val x) h1 h2
        rcases own_val g5 with ⟨q1, q2⟩ | ⟨b, cap, q1, _⟩
        · refine e_isnil hop hn ht h (fun b hb => hK _ _ (h3 b (fun _ => q2)) _ w R G h (.v _)) ⟨_, _, _, hax.trans q1⟩
        · refine e_isnil hop hn ht h (fun b' hb => hK _ _ (h3 b' (fun q => ?_)) _ w R G h (.v _)) ⟨_, _, _, hax.trans q1⟩
          rw [hb _ _ _ (hax.trans q1)] at q; cases q
      · exact hs.elim
    simp only [resOp, hop] at hres
    split at hres
    · rename_i e ht
      split at hres
      · simp only [Option.some.injEq] at hres; exact kn false e rfl ht rfl hres.symm
      · cases hres
    · rename_i e ht
      split at hres
      · simp only [Option.some.injEq] at hres; exact kn true e rfl ht rfl hres.symm
      · cases hres
    all_goals first
      | (simp only [Option.some.injEq] at hres; subst hres; exact hs.elim)
      | (simp only [Option.map_eq_some_iff] at hres; obtain ⟨_, _, rfl⟩ := hres; exact hs.elim)
      | cases hres
  | makeFunc fn first caps => cases fn <;> simp only [resOp, hop, reduceCtorEq] at hres <;> split at hres <;> first | (simp only [Option.some.injEq] at hres; subst hres; exact hs.elim) | cases hres
  | _ =>
    exfalso
    simp only [resOp, hop, reduceCtorEq] at hres
    repeat' (split at hres)
    all_goals first
      | (cases hres; done)
      | (simp only [Option.some.injEq] at hres; subst hres; exact hs.elim)
      | (simp only [Option.map_eq_some_iff] at hres; obtain ⟨_, _, rfl⟩ := hres; exact hs.elim)
end
end Go.Proofs.Ytjhdlcmecbngkaa
/- What an operation yields hangs on what it looks at alone. No program in sight. -/
namespace Go.Proofs.Ytjhdlcmecbngkaa
open Go.RowKit
set_option linter.unusedVariables false
def ROp.quiet : ROp → Bool
  | .store _ _ _ => false
  | .app _ _ _ _ _ _ => false
  | .mupd _ _ _ _ => false
  | .die _ => false
  | .clr _ _ _ => false
  | .isnil _ _ => false
  | _ => true
def ROp.allocs : ROp → Bool
  | .box _ _ _ => true
  | .zbox _ _ => true
  | .mks _ _ _ _ _ => true
  | .mkn _ _ _ _ _ _ => true
  | .call _ _ => true
  | .mkm => true
  | _ => false
def ROp.looks : ROp → List Operand
  | .mv x => [x]
  | .pick a b c => [a, b, c]
  | .box _ _ x => [x]
  | .zbox _ _ => []
  | .build _ ps => ps.map fun p => p.2.2
  | .mks _ _ _ _ ps => ps.map fun p => p.2
  | .mkn _ _ _ _ x y => [x, y]
  | .load _ _ x => [x]
  | .bin _ x y => [x, y]
  | .mm _ x y => [x, y]
  | .eqb _ x y => [x, y]
  | .eqS _ _ x y => [x, y]
  | .not x => [x]
  | .neg x => [x]
  | .conv _ x => [x]
  | .convS x => [x]
  | .fld _ _ _ x => [x]
  | .fldA _ x => [x]
  | .idxA _ x i => [x, i]
  | .idxS x i => [x, i]
  | .slcS x lo hi => [x] ++ lo.toList ++ hi.toList
  | .slcL _ x lo hi mx => [x] ++ lo.toList ++ hi.toList ++ mx.toList
  | .ext x _ => [x]
  | .len _ x => [x]
  | .call x args => x :: args
  | .mkfn _ caps => caps
  | .store _ x y => [x, y]
  | .app _ _ _ _ x y => [x, y]
  | .mkm => []
  | .mlook _ _ _ x i => [x, i]
  | .mlen x => [x]
  | .mupd _ x i v => [x, i, v]
  | .die x => [x]
  | .mki _ x => [x]
  | .ofB x => [x]
  | .toB x => [x]
  | .clr _ _ x => [x]
  | .isnil _ x => [x]
section
variable {P : Program} {env env' : Nat → V} {H H' : Nat → Option Ent} {g g' : Nat → Nat} {b : Nat} {K : V → List (Nat × Option Ent) → Prop}
theorem one_mono (hH : ∀ id e, H id = some e → H' id = some e) {u : V} (h : one H u) : one H' u := by
  cases u <;> simp only [one] at h ⊢ <;> first | exact h | (obtain ⟨e, h1, h2⟩ := h; exact ⟨e, hH _ _ h1, h2⟩)
theorem ones_mono (hH : ∀ id e, H id = some e → H' id = some e) : ∀ {us : List V}, ones H us → ones H' us
  | [], _ => trivial
  | u :: us, h => ⟨one_mono hH h.1, ones_mono hH h.2⟩
theorem deref_mono (hH : ∀ id e, H id = some e → H' id = some e) {rows rows' : List (List V)} (h : Deref H rows rows') : Deref H' rows rows' :=
  ⟨h.1, fun i row row' h1 h2 => by
    obtain ⟨h3, h4⟩ := h.2 i row row' h1 h2
    refine ⟨h3, fun j u u' h5 h6 => ?_⟩
    rcases h4 j u u' h5 h6 with q | ⟨id, g, e, q1, q2, q3⟩ | q
    · exact .inl q
    · exact .inr (.inl ⟨id, g, e, q1, hH _ _ q2, q3⟩)
    · exact .inr (.inr q)⟩
theorem capsOk_mono (hH : ∀ id e, H id = some e → H' id = some e) {all : List Nat} : ∀ (us us' : List V), CapsOk H all us us' → CapsOk H' all us us'
  | [], [], h => trivial
  | u :: us, u' :: us', h => by
    refine ⟨?_, capsOk_mono hH us us' h.2⟩
    rcases h.1 with q | ⟨id, g, i, off, e, row, h1, h2, h3⟩ | ⟨id, g, e, ents, h1, h2, h3⟩
    · exact .inl q
    · exact .inr (.inl ⟨id, g, i, off, e, row, h1, hH _ _ h2, h3⟩)
    · exact .inr (.inr ⟨id, g, e, ents, h1, hH _ _ h2, h3⟩)
theorem argsOk_mono (hH : ∀ id e, H id = some e → H' id = some e) {all : List Nat} {bor : Bool} {gone : List Nat} {us : List V} {ps : List Par} (h : ArgsOk H all bor gone us ps) : ArgsOk H' all bor gone us ps := by
  induction h with
  | nil bor => exact .nil bor
  | same hu h ih => exact .same hu ih
  | nilsl c h ih => exact .nilsl c ih
  | nilown T sz hz h ih => exact .nilown T sz hz ih
  | @bor gone id g e rows' us ps he hg hr hn h ih =>
    refine .bor (hH _ _ he) hg (deref_mono (fun k e hk => ?_) hr) hn ih
    by_cases hm : k ∈ id :: all
    · simp only [hm, if_true] at hk; cases hk
    · simp only [hm, if_false] at hk ⊢; exact hH _ _ hk
  | borp he hg hi hr hn h ih => exact .borp (hH _ _ he) hg hi hr hn ih
  | borc hc h ih => exact .borc (capsOk_mono hH _ _ hc) ih
  | givv he hg hT hl hr hn ha h ih => exact .givv (hH _ _ he) hg hT hl hr hn ha ih
  | give he hg hT hr hn ha h ih => exact .give (hH _ _ he) hg hT hr hn ha ih
theorem entsOf_mono (hH : ∀ id e, H id = some e → H' id = some e) {v : V} {ents : List (Value × V)} (h : entsOf H v ents) : entsOf H' v ents := by
  unfold entsOf at h ⊢
  split at h <;> first | exact h | (obtain ⟨e, h1, h2⟩ := h; exact ⟨e, hH _ _ h1, h2⟩) | exact h.elim
theorem srcRows_mono (hH : ∀ id e, H id = some e → H' id = some e) {sz : Nat} {v : V} {rows : List (List V)} (h : srcRows H sz v rows) : srcRows H' sz v rows := by
  unfold srcRows at h ⊢
  split at h
  · obtain ⟨e, h1, h2⟩ := h; exact ⟨e, hH _ _ h1, h2⟩
  · exact ⟨h.1, fun row hr => ⟨(h.2 row hr).1, ones_mono hH (h.2 row hr).2⟩⟩
  · exact h
  · exact h.elim
theorem fillV_mono (hH : ∀ id e, H id = some e → H' id = some e) : ∀ (ps : List (Nat × Nat × Operand)) (cs : List V) {K : List V → Prop}, (∀ x ∈ ps.map (fun p => p.2.2), val env' x = val env x) → fillV env H cs ps K → fillV env' H' cs ps K
  | [], cs, K, _, h => h
  | (off, sz, x) :: ps, cs, K, hv, h => by
    simp only [fillV] at h ⊢
    rw [hv x (by simp)]
    split at h
    · exact ⟨h.1, h.2.1, ones_mono hH h.2.2.1, fillV_mono hH ps _ (fun y hy => hv y (List.mem_cons_of_mem _ hy)) h.2.2.2⟩
    · exact h
theorem fillR_mono (hH : ∀ id e, H id = some e → H' id = some e) {sz : Nat} : ∀ (ps : List (Nat × Operand)) (rows : List (List V)) {K : List (List V) → Prop}, (∀ x ∈ ps.map (fun p => p.2), val env' x = val env x) → fillR env H sz rows ps K → fillR env' H' sz rows ps K
  | [], cs, K, _, h => h
  | (i, x) :: ps, rows, K, hv, h => by
    simp only [fillR] at h ⊢
    rw [hv x (by simp)]
    split at h
    · exact ⟨h.1, h.2.1, ones_mono hH h.2.2.1, fillR_mono hH ps _ (fun y hy => hv y (List.mem_cons_of_mem _ hy)) h.2.2.2⟩
    · exact h
theorem loV_mono {lo : Option Operand} {l : Nat} (hv : ∀ x ∈ lo.toList, val env' x = val env x) (h : loV env lo l) : loV env' lo l := by
  cases lo with
  | none => exact h
  | some x => simp only [loV] at h ⊢; rw [hv x (by simp)]; exact h
theorem hiV_mono {hi : Option Operand} {n l : Nat} (hv : ∀ x ∈ hi.toList, val env' x = val env x) (h : hiV env n hi l) : hiV env' n hi l := by
  cases hi with
  | none => exact h
  | some x => simp only [hiV] at h ⊢; rw [hv x (by simp)]; exact h
theorem map_val {args : List Operand} (hv : ∀ x ∈ args, val env' x = val env x) : args.map (val env') = args.map (val env) := List.map_congr_left hv
set_option maxHeartbeats 1000000 in
theorem stepQ_mono {r : ROp} (hv : ∀ x ∈ r.looks, val env' x = val env x) (hH : ∀ id e, H id = some e → H' id = some e) (h : stepQ P r env H g b K) : stepQ P r env' H' g b K := by
  cases r with
  | mv x => simp only [stepQ] at h ⊢; rw [hv x (by simp [ROp.looks])]; exact h
  | pick x y z =>
    simp only [stepQ] at h ⊢
    rw [hv x (by simp [ROp.looks]), hv y (by simp [ROp.looks]), hv z (by simp [ROp.looks])]; exact h
  | box T sz x =>
    simp only [stepQ] at h ⊢
    rw [hv x (by simp [ROp.looks])]
    split at h
    · exact ⟨h.1, ones_mono hH h.2.1, h.2.2⟩
    · exact h
  | zbox T z => exact h
  | build z ps => exact fillV_mono hH ps _ hv h
  | mks T sz n z ps => exact fillR_mono hH ps _ hv h
  | mkn T sz bytes z x y => simp only [stepQ] at h ⊢; rw [hv x (by simp [ROp.looks]), hv y (by simp [ROp.looks])]; exact h
  | load agg sz x =>
    simp only [stepQ] at h ⊢
    rw [hv x (by simp [ROp.looks])]
    split at h
    · exact h
    · obtain ⟨e, row, h1, h2⟩ := h; exact ⟨e, row, hH _ _ h1, h2⟩
    · exact h
  | bin op x y => simp only [stepQ] at h ⊢; rw [hv x (by simp [ROp.looks]), hv y (by simp [ROp.looks])]; exact h
  | mm n x y => simp only [stepQ] at h ⊢; rw [hv x (by simp [ROp.looks]), hv y (by simp [ROp.looks])]; exact h
  | eqb n x y => simp only [stepQ] at h ⊢; rw [hv x (by simp [ROp.looks]), hv y (by simp [ROp.looks])]; exact h
  | eqS n ts x y => simp only [stepQ] at h ⊢; rw [hv x (by simp [ROp.looks]), hv y (by simp [ROp.looks])]; exact h
  | not x => simp only [stepQ] at h ⊢; rw [hv x (by simp [ROp.looks])]; exact h
  | neg x => simp only [stepQ] at h ⊢; rw [hv x (by simp [ROp.looks])]; exact h
  | conv k x => simp only [stepQ] at h ⊢; rw [hv x (by simp [ROp.looks])]; exact h
  | convS x => simp only [stepQ] at h ⊢; rw [hv x (by simp [ROp.looks])]; exact h
  | fld agg sz off x => simp only [stepQ] at h ⊢; rw [hv x (by simp [ROp.looks])]; exact h
  | fldA off x =>
    simp only [stepQ] at h ⊢
    rw [hv x (by simp [ROp.looks])]
    split at h
    · exact h
    · obtain ⟨⟨e, h1, h2⟩, h3⟩ := h; exact ⟨⟨e, hH _ _ h1, h2⟩, h3⟩
    · exact h
  | idxA sz x i =>
    simp only [stepQ] at h ⊢
    rw [hv x (by simp [ROp.looks]), hv i (by simp [ROp.looks])]
    split at h
    · exact h
    · obtain ⟨e, j, row, h1, h2⟩ := h; exact ⟨e, j, row, hH _ _ h1, h2⟩
    · exact h
  | idxS x i => simp only [stepQ] at h ⊢; rw [hv x (by simp [ROp.looks]), hv i (by simp [ROp.looks])]; exact h
  | slcS x lo hi =>
    simp only [stepQ] at h ⊢
    rw [hv x (by simp [ROp.looks])]
    split at h
    · obtain ⟨l, k, h1, h2, h3⟩ := h
      exact ⟨l, k, loV_mono (fun y hy => hv y (by simp [ROp.looks] at hy ⊢; simp [hy])) h1, hiV_mono (fun y hy => hv y (by simp [ROp.looks] at hy ⊢; simp [hy])) h2, h3⟩
    · exact h
  | slcL sz x lo hi mx =>
    simp only [stepQ] at h ⊢
    rw [hv x (by simp [ROp.looks])]
    split at h
    · obtain ⟨l, k, h1, h2, h3, h4, h5, h6⟩ := h
      refine ⟨l, k, loV_mono (fun y hy => hv y (by simp [ROp.looks] at hy ⊢; simp [hy])) h1, hiV_mono (fun y hy => hv y (by simp [ROp.looks] at hy ⊢; simp [hy])) h2, h3, h4, h5, ?_⟩
      cases mx with
      | none => exact h6
      | some y => simp only at h6 ⊢; rw [hv y (by simp [ROp.looks])]; exact h6
    · obtain ⟨e, l, k, h1, h2, h3, h4, h5, h6, h7, h8, h9⟩ := h
      exact ⟨e, l, k, hH _ _ h1, h2, h3, loV_mono (fun y hy => hv y (by simp [ROp.looks] at hy ⊢; simp [hy])) h4, hiV_mono (fun y hy => hv y (by simp [ROp.looks] at hy ⊢; simp [hy])) h5, h6, h7, h8, h9⟩
    · obtain ⟨e, l, k, h1, h2, h3, h4, h5, h6, h7, h8, h9⟩ := h
      exact ⟨e, l, k, hH _ _ h1, h2, h3, loV_mono (fun y hy => hv y (by simp [ROp.looks] at hy ⊢; simp [hy])) h4, hiV_mono (fun y hy => hv y (by simp [ROp.looks] at hy ⊢; simp [hy])) h5, h6, h7, h8, h9⟩
    · exact h
  | ext x i => simp only [stepQ] at h ⊢; rw [hv x (by simp [ROp.looks])]; exact h
  | len s x =>
    cases s with
    | true => simp only [stepQ] at h ⊢; rw [hv x (by simp [ROp.looks])]; exact h
    | false =>
      simp only [stepQ] at h ⊢
      rw [hv x (by simp [ROp.looks])]
      split at h
      · exact h
      · exact h
      · obtain ⟨e, h1, h2⟩ := h; exact ⟨e, hH _ _ h1, h2⟩
      · obtain ⟨⟨e, h1, h2⟩, h3⟩ := h; exact ⟨⟨e, hH _ _ h1, h2⟩, h3⟩
      · exact h
  | call x args =>
    simp only [stepQ] at h ⊢
    rw [hv x (by simp [ROp.looks]), map_val (fun y hy => hv y (by simp [ROp.looks, hy]))]
    split at h
    · obtain ⟨ps, rs, bor, h1, h2⟩ := h; exact ⟨ps, rs, bor, argsOk_mono hH h1, h2⟩
    · obtain ⟨ps, rs, bor, h1, h2⟩ := h; exact ⟨ps, rs, bor, argsOk_mono hH h1, h2⟩
    · exact h
  | mkfn f caps =>
    simp only [stepQ] at h ⊢
    simp only [ROp.looks] at hv
    rw [map_val hv]; exact h
  | store _ _ _ => exact h
  | app _ _ _ _ _ _ => exact h
  | mkm => exact h
  | mlook kd ok z x i =>
    simp only [stepQ] at h ⊢
    rw [hv x (by simp [ROp.looks]), hv i (by simp [ROp.looks])]
    obtain ⟨ents, kv, r, h1, h2⟩ := h; exact ⟨ents, kv, r, entsOf_mono hH h1, h2⟩
  | mlen x =>
    simp only [stepQ] at h ⊢
    rw [hv x (by simp [ROp.looks])]
    obtain ⟨ents, h1, h2⟩ := h; exact ⟨ents, entsOf_mono hH h1, h2⟩
  | mupd _ _ _ _ => exact h
  | die _ => exact h
  | clr _ _ _ => exact h
  | isnil _ _ => exact h
  | mki t x => simp only [stepQ] at h ⊢; rw [hv x (by simp [ROp.looks])]; exact h
  | ofB x =>
    simp only [stepQ] at h ⊢
    rw [hv x (by simp [ROp.looks])]
    obtain ⟨rows, ns, h1, h2⟩ := h; exact ⟨rows, ns, srcRows_mono hH h1, h2⟩
  | toB x => simp only [stepQ] at h ⊢; rw [hv x (by simp [ROp.looks])]; exact h
theorem stepQ_gen {r : ROp} (hr : r.allocs = false) (h : stepQ P r env H g b K) : stepQ P r env H g' b K := by
  cases r with
  | len s x => cases s <;> exact h
  | _ => first | exact h | (simp [ROp.allocs] at hr; done)
/-- what an operation adds -/
def NewH (g : Nat → Nat) (lo hi : Nat) : List (Nat × Option Ent) → Prop
  | [] => True
  | (k, e) :: r => lo ≤ k ∧ k < hi ∧ (∃ e', e = some e' ∧ e'.gen = g k) ∧ NewH g (k + 1) hi r
theorem resH_new : ∀ (rs : List Par) (k hi : Nat), k + rs.length ≤ hi → NewH g k hi (resH g k rs)
  | [], k, hi, _ => trivial
  | .c u :: rs, k, hi, h => by
    simp only [List.length_cons] at h
    exact resH_new rs k hi (by omega)
  | .o T sz rows :: rs, k, hi, h => by
    simp only [List.length_cons] at h
    exact ⟨Nat.le_refl _, by omega, ⟨_, rfl, rfl⟩, resH_new rs (k + 1) hi (by omega)⟩
theorem fillV_map : ∀ (ps : List (Nat × Nat × Operand)) (cs : List V) {K K' : List V → Prop}, (∀ x, K x → K' x) → fillV env H cs ps K → fillV env H cs ps K'
  | [], cs, K, K', hk, h => hk _ h
  | (off, sz, x) :: ps, cs, K, K', hk, h => by
    simp only [fillV] at h ⊢
    split at h
    · exact ⟨h.1, h.2.1, h.2.2.1, fillV_map ps _ hk h.2.2.2⟩
    · exact h.elim
theorem fillR_map {sz : Nat} : ∀ (ps : List (Nat × Operand)) (rows : List (List V)) {K K' : List (List V) → Prop}, (∀ x, K x → K' x) → fillR env H sz rows ps K → fillR env H sz rows ps K'
  | [], rows, K, K', hk, h => hk _ h
  | (i, x) :: ps, rows, K, K', hk, h => by
    simp only [fillR] at h ⊢
    split at h
    · exact ⟨h.1, h.2.1, h.2.2.1, fillR_map ps _ hk h.2.2.2⟩
    · exact h.elim
set_option maxHeartbeats 1000000 in
theorem stepQ_ex {r : ROp} (h : stepQ P r env H g b K) : ∃ u dH, stepQ P r env H g b (fun v d => v = u ∧ d = dH) ∧ K u dH ∧ NewH g b (b + 16) dH ∧ (r.allocs = false → dH = []) := by
  have n0 : ∀ {p : Prop}, NewH g b (b + 16) [] ∧ (p → ([] : List (Nat × Option Ent)) = []) := ⟨trivial, fun _ => rfl⟩
  have n1 : ∀ e : Ent, e.gen = g b → NewH g b (b + 16) [(b, some e)] := fun e he => ⟨Nat.le_refl _, by omega, ⟨e, rfl, he⟩, trivial⟩
  cases r with
  | mv x => exact ⟨_, _, ⟨rfl, rfl⟩, h, n0⟩
  | pick x y z =>
    simp only [stepQ] at h ⊢
    split at h
    · rename_i t _
      cases t with
      | true => exact ⟨_, _, ⟨fun _ => ⟨rfl, rfl⟩, (fun e => by cases e)⟩, h.1 rfl, n0⟩
      | false => exact ⟨_, _, ⟨(fun e => by cases e), fun _ => ⟨rfl, rfl⟩⟩, h.2 rfl, n0⟩
    · exact h.elim
  | box T sz x =>
    simp only [stepQ] at h ⊢
    split at h
    · exact ⟨_, _, ⟨h.1, h.2.1, rfl, rfl⟩, h.2.2, n1 _ rfl, (fun e => by simp [ROp.allocs] at e)⟩
    · exact h.elim
  | zbox T z => exact ⟨_, _, ⟨rfl, rfl⟩, h, n1 _ rfl, (fun e => by simp [ROp.allocs] at e)⟩
  | build z ps =>
    simp only [stepQ] at h ⊢
    obtain ⟨cs, h1, h2⟩ := fillV_ex _ _ _ h
    exact ⟨_, _, fillV_map _ _ (fun x hx => by subst hx; exact ⟨rfl, rfl⟩) h1, h2, n0⟩
  | mks T sz n z ps =>
    simp only [stepQ] at h ⊢
    obtain ⟨cs, h1, h2⟩ := fillR_ex _ _ _ h
    exact ⟨_, _, fillR_map _ _ (fun x hx => by subst hx; exact ⟨rfl, rfl⟩) h1, h2, n1 _ rfl, (fun e => by simp [ROp.allocs] at e)⟩
  | mkn T sz bytes z x y =>
    simp only [stepQ] at h ⊢
    split at h
    · obtain ⟨k, h1, h2, h3, h4, h5⟩ := h
      exact ⟨_, _, ⟨k, h1, h2, h3, h4, rfl, rfl⟩, h5, n1 _ rfl, (fun e => by simp [ROp.allocs] at e)⟩
    · exact h.elim
  | load agg sz x =>
    simp only [stepQ] at h ⊢
    split at h
    · exact ⟨_, _, ⟨h.1, rfl, rfl⟩, h.2, n0⟩
    · obtain ⟨e, row, h1, h2, h3, h4, h5⟩ := h
      exact ⟨_, _, ⟨e, row, h1, h2, h3, h4, rfl, rfl⟩, h5, n0⟩
    · exact h.elim
  | bin op x y =>
    simp only [stepQ] at h ⊢
    split at h
    · obtain ⟨r, h1, h2⟩ := binK_ex h
      refine ⟨_, _, ?_, h2, n0⟩
      unfold binK at h1 ⊢
      split at h1
      · cases op <;> first
          | exact h1.elim
          | (obtain ⟨q1, c, q2, rfl⟩ := h1; exact ⟨q1, c, q2, rfl, rfl⟩)
          | (obtain ⟨q1, q0, c, q2, rfl⟩ := h1; exact ⟨q1, q0, c, q2, rfl, rfl⟩)
          | (obtain ⟨q1, rfl⟩ := h1; exact ⟨q1, rfl, rfl⟩)
      · cases op <;> first
          | exact h1.elim
          | (obtain ⟨q1, rfl⟩ := h1; exact ⟨q1, rfl, rfl⟩)
          | (obtain rfl := h1; exact ⟨rfl, rfl⟩)
      · exact h1.elim
    · exact h.elim
  | mm n x y =>
    simp only [stepQ] at h ⊢
    split at h
    · exact ⟨_, _, ⟨rfl, rfl⟩, h, n0⟩
    · exact h.elim
  | eqb n x y =>
    simp only [stepQ] at h ⊢
    split at h
    · exact ⟨_, _, ⟨rfl, rfl⟩, h, n0⟩
    · exact h.elim
  | eqS n ts x y =>
    simp only [stepQ] at h ⊢
    split at h
    · split at h
      · exact ⟨_, _, ⟨rfl, rfl⟩, h, n0⟩
      · exact h.elim
    · exact h.elim
  | not x =>
    simp only [stepQ] at h ⊢
    split at h
    · exact ⟨_, _, ⟨rfl, rfl⟩, h, n0⟩
    · exact h.elim
  | neg x =>
    simp only [stepQ] at h ⊢
    split at h
    · obtain ⟨c, h1, h2⟩ := h; exact ⟨_, _, ⟨c, h1, rfl, rfl⟩, h2, n0⟩
    · exact h.elim
  | conv k x =>
    simp only [stepQ] at h ⊢
    split at h
    · obtain ⟨c, h1, h2⟩ := h; exact ⟨_, _, ⟨c, h1, rfl, rfl⟩, h2, n0⟩
    · exact h.elim
  | convS x =>
    simp only [stepQ] at h ⊢
    split at h
    · exact ⟨_, _, ⟨rfl, rfl⟩, h, n0⟩
    · exact h.elim
  | fld agg sz off x =>
    simp only [stepQ] at h ⊢
    split at h
    · exact ⟨_, _, ⟨h.1, rfl, rfl⟩, h.2, n0⟩
    · exact h.elim
  | fldA off x =>
    simp only [stepQ] at h ⊢
    split at h
    · exact ⟨_, _, ⟨rfl, rfl⟩, h, n0⟩
    · exact ⟨_, _, ⟨h.1, rfl, rfl⟩, h.2, n0⟩
    · exact h.elim
  | idxA sz x i =>
    simp only [stepQ] at h ⊢
    split at h
    · obtain ⟨j, row, h1, h2, h3, h4⟩ := h; exact ⟨_, _, ⟨j, row, h1, h2, h3, rfl, rfl⟩, h4, n0⟩
    · obtain ⟨e, j, row, h1, h2, h3, h4, h5, h6⟩ := h; exact ⟨_, _, ⟨e, j, row, h1, h2, h3, h4, h5, rfl, rfl⟩, h6, n0⟩
    · exact h.elim
  | idxS x i =>
    simp only [stepQ] at h ⊢
    split at h
    · obtain ⟨j, c, h1, h2, h3⟩ := h; exact ⟨_, _, ⟨j, c, h1, h2, rfl, rfl⟩, h3, n0⟩
    · exact h.elim
  | slcS x lo hi =>
    simp only [stepQ] at h ⊢
    split at h
    · obtain ⟨l, k, h1, h2, h3, h4, h5⟩ := h; exact ⟨_, _, ⟨l, k, h1, h2, h3, h4, rfl, rfl⟩, h5, n0⟩
    · exact h.elim
  | slcL sz x lo hi mx =>
    simp only [stepQ] at h ⊢
    split at h
    · obtain ⟨l, k, h1, h2, h3, h4, h5, h6⟩ := h
      cases mx with
      | none => exact ⟨_, _, ⟨l, k, h1, h2, h3, h4, h5, rfl, rfl⟩, h6, n0⟩
      | some y => exact ⟨_, _, ⟨l, k, h1, h2, h3, h4, h5, h6.1, h6.2.1, rfl, rfl⟩, h6.2.2, n0⟩
    · obtain ⟨e, l, k, h1, h2, h3, h4, h5, h6, h7, h8, h9⟩ := h
      exact ⟨_, _, ⟨e, l, k, h1, h2, h3, h4, h5, h6, h7, h8, rfl, rfl⟩, h9, n0⟩
    · obtain ⟨e, l, k, h1, h2, h3, h4, h5, h6, h7, h8, h85, h9⟩ := h
      exact ⟨_, _, ⟨e, l, k, h1, h2, h3, h4, h5, h6, h7, h8, h85, rfl, rfl⟩, h9, n0⟩
    · exact h.elim
  | ext x i =>
    simp only [stepQ] at h ⊢
    split at h
    · obtain ⟨u, h1, h2⟩ := h; exact ⟨_, _, ⟨u, h1, rfl, rfl⟩, h2, n0⟩
    · exact h.elim
  | len s x =>
    cases s with
    | true =>
      simp only [stepQ] at h ⊢
      split at h
      · exact ⟨_, _, ⟨rfl, rfl⟩, h, n0⟩
      · exact h.elim
    | false =>
      simp only [stepQ] at h ⊢
      split at h
      · exact ⟨_, _, ⟨rfl, rfl⟩, h, n0⟩
      · exact ⟨_, _, ⟨rfl, rfl⟩, h, n0⟩
      · obtain ⟨e, h1, h2, h3⟩ := h; exact ⟨_, _, ⟨e, h1, h2, rfl, rfl⟩, h3, n0⟩
      · obtain ⟨h1, h3⟩ := h; exact ⟨_, _, ⟨h1, rfl, rfl⟩, h3, n0⟩
      · exact h.elim
  | call x args =>
    simp only [stepQ] at h ⊢
    split at h
    · obtain ⟨ps, rs, bor, h1, h2, h3, h4, h5⟩ := h; exact ⟨_, _, ⟨ps, rs, bor, h1, h2, h3, h4, rfl, rfl⟩, h5, resH_new rs b _ (by omega), (fun e => by simp [ROp.allocs] at e)⟩
    · obtain ⟨ps, rs, bor, h1, h2, h3, h4, h5⟩ := h; exact ⟨_, _, ⟨ps, rs, bor, h1, h2, h3, h4, rfl, rfl⟩, h5, resH_new rs b _ (by omega), (fun e => by simp [ROp.allocs] at e)⟩
    · exact h.elim
  | mkfn f caps => exact ⟨_, _, ⟨rfl, rfl⟩, h, n0⟩
  | store _ _ _ => exact h.elim
  | app _ _ _ _ _ _ => exact h.elim
  | mkm => exact ⟨_, _, ⟨rfl, rfl⟩, h, n1 _ rfl, (fun e => by simp [ROp.allocs] at e)⟩
  | mlook kd ok z x i =>
    simp only [stepQ] at h ⊢
    obtain ⟨ents, kv, r, h1, h2, h3, h4⟩ := h; exact ⟨_, _, ⟨ents, kv, r, h1, h2, h3, rfl, rfl⟩, h4, n0⟩
  | mlen x =>
    simp only [stepQ] at h ⊢
    obtain ⟨ents, h1, h2⟩ := h; exact ⟨_, _, ⟨ents, h1, rfl, rfl⟩, h2, n0⟩
  | mupd _ _ _ _ => exact h.elim
  | die _ => exact h.elim
  | clr _ _ _ => exact h.elim
  | isnil _ _ => exact h.elim
  | mki t x =>
    simp only [stepQ] at h ⊢
    split at h
    · exact ⟨_, _, ⟨rfl, rfl⟩, h, n0⟩
    · obtain ⟨vs, h1, h2⟩ := h; exact ⟨_, _, ⟨vs, h1, rfl, rfl⟩, h2, n0⟩
    · exact h.elim
  | ofB x =>
    simp only [stepQ] at h ⊢
    obtain ⟨rows, ns, h1, h2, h3⟩ := h; exact ⟨_, _, ⟨rows, ns, h1, h2, rfl, rfl⟩, h3, n0⟩
  | toB x =>
    simp only [stepQ] at h ⊢
    split at h
    · exact ⟨_, _, ⟨rfl, rfl⟩, h, n0⟩
    · exact h.elim
end
end Go.Proofs.Ytjhdlcmecbngkaa
/- Regions, in the order of the text and in whatever order. No program in sight. -/
namespace Go.Proofs.Ytjhdlcmecbngkaa
open Go.RowKit
set_option linter.unusedVariables false
def ROper.d (r : ROper) : Nat := r.dst.getD 1000000
def ROp.isE : ROp → Bool
  | .store _ _ _ => true
  | .app _ _ _ _ _ _ => true
  | .call _ _ => true
  | .slcL _ _ _ _ _ => true
  | .mupd _ _ _ _ => true
  | .die _ => true
  | .clr _ _ _ => true
  | .isnil _ _ => true
  | _ => false
def gv (env : Nat → V) : Option (Nat × Bool) → Option Bool
  | none => some true
  | some (s, want) => match env s with
    | .v (.bool t) => some (t == want)
    | .v (.tuple ⟨[]⟩) => some false
    | _ => none
def afterOp (r : ROper) (st : St) (K : St → Prop) (u : V) (dH : List (Nat × Option Ent)) : Prop := K (St.put { st with H := addH st.H dH } r.dst u)
def opR (P : Program) (r : ROper) (st : St) (K : St → Prop) : Prop :=
  if r.op.isE then stepE P r.op st.env st.H st.D (16 * r.d) (afterOp r st K)
  else if r.op.allocs then ∀ g, stepQ P r.op st.env st.H g (16 * r.d) (afterOp r st K)
  else stepQ P r.op st.env st.H (fun _ => 0) (16 * r.d) (afterOp r st K)
def opD (P : Program) (r : ROper) (st : St) (K : St → Prop) : Prop :=
  if r.op.allocs then ∀ g, stepQ P r.op st.env st.H g (16 * r.d) (afterOp r st K)
  else stepQ P r.op st.env st.H (fun _ => 0) (16 * r.d) (afterOp r st K)
def guarded (r : ROper) (st : St) (A B : Prop) : Prop :=
  match r.guard with
  | none => A
  | some (s, want) => match st.env s with
    | .v (.bool t) => (t = want → A) ∧ (t = !want → B)
    | .v (.tuple ⟨[]⟩) => B
    | _ => False
def wpR (P : Program) : List ROper → St → (St → Prop) → Prop
  | [], st, K => K st
  | r :: rs, st, K => guarded r st (opR P r st fun st' => wpR P rs st' K) (wpR P rs (st.put r.dst (.v undef)) K)
def wpDl (P : Program) : List ROper → St → (St → Prop) → Prop
  | [], st, K => K st
  | r :: rs, st, K => guarded r st (opD P r st fun st' => wpDl P rs st' K) (wpDl P rs (st.put r.dst (.v undef)) K)
def allocDs (rs : List ROper) : List Nat := rs.filterMap fun r => if r.op.allocs then r.dst else none
def dropH (ds : List Nat) (H : Nat → Option Ent) : Nat → Option Ent := match ds with
  | [] => H
  | ds => fun id => bif ds.contains (id / 16) then none else H id
def wpD (P : Program) (rs : List ROper) (st : St) (K : St → Prop) : Prop := wpDl P rs { st with H := dropH (allocDs rs) st.H } K
def resOper (P : Program) (ops : Array Oper) (n : Nat) (o : Oper) : Option ROper :=
  match resOp P o with
  | none => none
  | some op => if o.dst.all (fun d => decide (d < n)) then
      match o.guard with
      | none => some ⟨o.dst, none, op⟩
      | some (j, w) => match (ops[j]?).bind (·.dst) with
        | some s => some ⟨o.dst, some (s, w), op⟩
        | none => none
    else none
section
variable {P : Program} {c : Ctx} {st : St} {a : Act} {w w' : World} {R : Nat → Prop} {G : Nat → Option Loc} {o : Oper} {r : ROper} {Q : Exit → Act → World → Prop} {ops : Array Oper} {n : Nat}
theorem guarded_gv {A B : Prop} (h : guarded r st A B) : (gv st.env r.guard = some true ∧ A) ∨ (gv st.env r.guard = some false ∧ B) := by
  unfold guarded at h
  unfold gv
  cases hg : r.guard with
  | none => simp only [hg] at h; exact .inl ⟨rfl, h⟩
  | some p =>
    obtain ⟨s, want⟩ := p
    simp only [hg] at h ⊢
    generalize st.env s = u at h ⊢
    split at h
    · rename_i t
      cases t <;> cases want
      · exact .inl ⟨rfl, h.1 rfl⟩
      · exact .inr ⟨rfl, h.2 rfl⟩
      · exact .inr ⟨rfl, h.2 rfl⟩
      · exact .inl ⟨rfl, h.1 rfl⟩
    · exact .inr ⟨rfl, h⟩
    · exact h.elim
theorem resOper_spec (h : resOper P ops n o = some r) : resOp P o = some r.op ∧ r.dst = o.dst ∧ (∀ d, o.dst = some d → d < n) ∧
    ((o.guard = none ∧ r.guard = none) ∨ ∃ j w s, o.guard = some (j, w) ∧ (ops[j]?).bind (·.dst) = some s ∧ r.guard = some (s, w)) := by
  unfold resOper at h
  split at h
  · cases h
  · rename_i op hop
    split at h
    · rename_i hd
      have hd' : ∀ d, o.dst = some d → d < n := fun d hd2 => by rw [hd2] at hd; simpa using hd
      split at h
      · rename_i hg
        injection h with h; subst h
        exact ⟨hop, rfl, hd', .inl ⟨hg, rfl⟩⟩
      · rename_i j w hg
        split at h
        · rename_i s hs
          injection h with h; subst h
          exact ⟨hop, rfl, hd', .inr ⟨j, w, s, hg, hs, rfl⟩⟩
        · cases h
    · cases h
theorem wanted_of (hr : resOper P ops n o = some r) (h : RelAt c st a w R G) {b : Bool} (hg : gv st.env r.guard = some b) : Region.wanted o (yielded ops a.tmps) = b := by
  obtain ⟨_, _, _, hgd⟩ := resOper_spec hr
  rcases hgd with ⟨h1, h2⟩ | ⟨j, want, s, h1, h2, h3⟩
  · rw [h2] at hg
    simp only [gv, Option.some.injEq] at hg
    simp [Region.wanted, h1, hg]
  · rw [h3] at hg
    simp only [gv] at hg
    have hs := h.env s
    have hy : yielded ops a.tmps j = match a.tmps[s]? with | some (.bool b) => some b | _ => none := by
      unfold yielded; rw [h2]; rfl
    simp only [Region.wanted, h1, hy]
    rw [Array.getD_eq_getD_getElem?] at hs
    split at hg
    · rename_i t ht
      rw [ht] at hs
      have e := rv_v hs
      injection hg with hg
      cases hq : a.tmps[s]? with
      | none => rw [hq] at e; simp [undef] at e
      | some y => rw [hq] at e; simp at e; subst e; rw [← hg]; cases t <;> cases want <;> rfl
    · rename_i ht
      rw [ht] at hs
      have e := rv_v hs
      injection hg with hg
      subst hg
      cases hq : a.tmps[s]? with
      | none => rfl
      | some y => rw [hq] at e; simp at e; subst e; rfl
    · cases hg
theorem dst_lt (hr : resOper P ops n o = some r) (hn : c.n = n) : ∀ d, o.dst = some d → d < c.n := by
  rw [hn]; exact (resOper_spec hr).2.2.1
def DieOk (c : Ctx) (Q : Exit → Act → World → Prop) : Prop := ∀ v a w, c.D v → Fr c.L c.w0 w → a.defers = [] → Q (.panic [{ v := v, recovered := false }]) a w
theorem reg_sound (hn : c.n = n) (hdie : DieOk c Q) : ∀ (l : List Oper) (rl : List ROper) {st : St} {a : Act} {w : World} {K : St → Prop}, l.mapM (resOper P ops n) = some rl → wpR P rl st K → Rel c st a w → (∀ st' a' w', K st' → Rel c st' a' w' → Q .normal a' w') → wpList P ops Q l a w
  | [], rl, st, a, w, K, hm, h, hR, hK => by
    simp only [List.mapM_nil, Option.pure_def, Option.some.injEq] at hm; subst hm
    exact hK st a w h hR
  | o :: l, rl, st, a, w, K, hm, h, hR, hK => by
    rw [List.mapM_cons] at hm
    simp only [Option.bind_eq_bind, Option.bind_eq_some_iff, Option.pure_def, Option.some.injEq] at hm
    obtain ⟨r, hr, rs, hrs, rfl⟩ := hm
    obtain ⟨R, G, hR⟩ := hR
    obtain ⟨hop, hdst, hdlt, _⟩ := resOper_spec hr
    simp only [wpR] at h
    unfold wpList
    rcases guarded_gv h with ⟨hg, h⟩ | ⟨hg, h⟩
    · rw [if_pos (wanted_of hr hR hg)]
      left
      have next : ∀ {st' : St}, wpR P rs st' K → ∀ {a' w'}, Rel c st' a' w' → wpList P ops Q l a' w' := fun hw _ _ hr' => reg_sound hn hdie l rs hrs hw hr' hK
      have hdn := dst_lt hr hn
      unfold opR at h
      split at h
      · refine eff_sound (d := r.d) hop hR h (fun u dH hk x w' R' G' hR' hV => ?_) (fun v hv w' hfr => hdie v _ w' (hR.die ▸ hv) hfr hR.defers)
        have := hR'.put hdn hV
        rw [← hdst] at *
        exact next hk ⟨R', G', this⟩
      · have hq : ∃ g : Nat → Nat, (∀ id, id / 16 = r.d → ∀ l0, G id = some l0 → l0.gen < g id) ∧ stepQ P r.op st.env st.H g (16 * r.d) (afterOp r st fun st' => wpR P rs st' K) := by
          refine ⟨freshGen G, fun id _ l0 h0 => freshGen_lt h0, ?_⟩
          split at h
          · exact h _
          · rename_i hal
            exact stepQ_gen (by simpa using hal) h
        obtain ⟨g, hgen, hq⟩ := hq
        obtain ⟨u, dH, h1, h2, _⟩ := stepQ_ex hq
        refine quiet_sound hop hgen hR h1 _ (fun x w' R' G' hR' hV _ => ?_)
        have := hR'.put hdn hV
        rw [← hdst] at *
        exact next h2 ⟨R', G', this⟩
    · rw [if_neg (by rw [wanted_of hr hR hg]; simp)]
      have := hR.put (dst_lt hr hn) (u := .v undef) (.v undef)
      rw [← hdst] at *
      exact reg_sound hn hdie l rs hrs h ⟨R, G, this⟩ hK
end
end Go.Proofs.Ytjhdlcmecbngkaa
/- Regions that draw their order. No program in sight. -/
namespace Go.Proofs.Ytjhdlcmecbngkaa
open Go.RowKit
set_option linter.unusedVariables false
def tmpsOf (l : List Operand) : List Nat := l.filterMap fun x => match x with | .tmp t => some t | _ => none
def ROper.reads (r : ROper) : List Nat := (match r.guard with | some (s, _) => [s] | none => []) ++ tmpsOf r.op.looks
def edge (o : Oper) (j : Nat) : Bool := o.after.any fun e => e.on == j && Region.binds .any e
def edgeAt (ops : Array Oper) (i j : Nat) : Bool := match ops[i]? with | some o => edge o j | none => false
/-- who stands behind whom: the masks of those ahead -/
def maskOf (acc : List Nat) (o : Oper) : Nat := o.after.foldl (fun m e => if Region.binds .any e then m ||| 2 ^ e.on ||| acc.getD e.on 0 else m) 0
def masks : List Oper → List Nat → List Nat
  | [], acc => acc
  | o :: l, acc => masks l (acc ++ [maskOf acc o])
def masksOf (ops : Array Oper) : List Nat := masks ops.toList []
/-- all of those from s on stand behind all of those ahead of s -/
def cutAt (ms : List Nat) (s : Nat) : Bool := (ms.drop s).all fun m => m &&& (2 ^ s - 1) == 2 ^ s - 1
def segOk (ops : Array Oper) (s : Nat) (seg : List ROper) : Bool :=
  (seg.all fun r => r.op.quiet && r.dst.isSome) && decide ((seg.map ROper.d).Nodup) &&
  ((List.range seg.length).all fun i => (List.range seg.length).all fun j => match seg[i]?, seg[j]? with
    | some r, some q => !(r.reads.contains q.d) || (decide (j < i) && edgeAt ops (s + i) (s + j))
    | _, _ => false)
def segsOk (ops : Array Oper) (ms : List Nat) : Nat → List (List ROper) → Bool
  | s, [] => decide (s = ops.size)
  | s, seg :: ss => decide (0 < seg.length) && (decide (seg.length = 1) || segOk ops s seg) && cutAt ms (s + seg.length) && segsOk ops ms (s + seg.length) ss
def downOk (ops : Array Oper) : Bool := (List.range ops.size).all fun i => match ops[i]? with
  | some o => o.after.all fun e => !(Region.binds .any e) || decide (e.on < i)
  | none => false
/-- cut at every place where one can -/
def cutsFrom (ms : List Nat) : Nat → List ROper → List ROper → List (List ROper)
  | _, cur, [] => if cur.isEmpty then [] else [cur.reverse]
  | i, cur, r :: rs => if cutAt ms i && !cur.isEmpty then cur.reverse :: cutsFrom ms (i + 1) [r] rs else cutsFrom ms (i + 1) (r :: cur) rs
def segsOf (ops : Array Oper) (rs : List ROper) : List (List ROper) := cutsFrom (masksOf ops) 0 [] rs
def dOk (ops : Array Oper) (rs : List ROper) (segs : List (List ROper)) : Bool :=
  decide (segs.flatten.length = rs.length) && decide (rs.length = ops.size) && downOk ops && segsOk ops (masksOf ops) 0 segs
section
variable {P : Program} {c : Ctx} {Q : Exit → Act → World → Prop} {ops : Array Oper} {n : Nat} {g : Nat → Nat}
/-- one operation, run or passed by -/
structure Run1 (P : Program) (g : Nat → Nat) (r : ROper) (st st' : St) (v : V) (dH : List (Nat × Option Ent)) : Prop where
  go : (gv st.env r.guard = some false ∧ v = .v undef ∧ dH = []) ∨ (gv st.env r.guard = some true ∧ stepQ P r.op st.env st.H g (16 * r.d) (fun u d => u = v ∧ d = dH))
  new : NewH g (16 * r.d) (16 * r.d + 16) dH
  quiet : r.op.allocs = false → dH = []
  next : st' = St.put { st with H := addH st.H dH } r.dst v
theorem trace (g : Nat → Nat) : ∀ (rs : List ROper) {st : St} {K : St → Prop}, wpDl P rs st K → ∃ (sts : Nat → St) (vs : Nat → V) (ds : Nat → List (Nat × Option Ent)), sts 0 = st ∧ K (sts rs.length) ∧
    ∀ i r, rs[i]? = some r → Run1 P g r (sts i) (sts (i + 1)) (vs i) (ds i)
  | [], st, K, h => ⟨fun _ => st, fun _ => .any, fun _ => [], rfl, h, fun i r hr => by simp at hr⟩
  | r :: rs, st, K, h => by
    simp only [wpDl] at h
    have fin : ∀ (v : V) (dH : List (Nat × Option Ent)) (st' : St), Run1 P g r st st' v dH → wpDl P rs st' K → ∃ (sts : Nat → St) (vs : Nat → V) (ds : Nat → List (Nat × Option Ent)), sts 0 = st ∧ K (sts (r :: rs).length) ∧
        ∀ i q, (r :: rs)[i]? = some q → Run1 P g q (sts i) (sts (i + 1)) (vs i) (ds i) := fun v dH st' hrun hw => by
      obtain ⟨sts, vs, ds, h1, h2, h3⟩ := trace g rs hw
      refine ⟨fun i => match i with | 0 => st | i + 1 => sts i, fun i => match i with | 0 => v | i + 1 => vs i, fun i => match i with | 0 => dH | i + 1 => ds i, rfl, h2, fun i q hq => ?_⟩
      cases i with
      | zero => simp at hq; subst hq; show Run1 P g r st (sts 0) v dH; rw [h1]; exact hrun
      | succ i => exact h3 i q (by simpa using hq)
    rcases guarded_gv h with ⟨hg, h⟩ | ⟨hg, h⟩
    · have hq : stepQ P r.op st.env st.H g (16 * r.d) (afterOp r st fun st' => wpDl P rs st' K) := by
        unfold opD at h
        split at h
        · exact h g
        · rename_i hal; exact stepQ_gen (by simpa using hal) h
      obtain ⟨u, dH, h1, h2, h3, h4⟩ := stepQ_ex hq
      exact fin u dH _ ⟨.inr ⟨hg, h1⟩, h3, h4, rfl⟩ h2
    · exact fin (.v undef) [] _ ⟨.inl ⟨hg, rfl, rfl⟩, trivial, fun _ => rfl, rfl⟩ h
theorem addH_other {g : Nat → Nat} : ∀ (dH : List (Nat × Option Ent)) (lo hi : Nat) (H : Nat → Option Ent) (id : Nat), NewH g lo hi dH → (id < lo ∨ hi ≤ id) → addH H dH id = H id
  | [], _, _, _, _, _, _ => rfl
  | (k, e) :: r, lo, hi, H, id, h, hid => by
    obtain ⟨h1, h2, h3, h4⟩ := h
    rw [addH, addH_other r (k + 1) hi _ id h4 (by omega), upd_ne _ _ (by omega)]
theorem addH_mem {g : Nat → Nat} : ∀ (dH : List (Nat × Option Ent)) (lo hi : Nat) (H : Nat → Option Ent), NewH g lo hi dH → ∀ k e, (k, e) ∈ dH → addH H dH k = e
  | (k0, e0) :: r, lo, hi, H, h, k, e, hm => by
    obtain ⟨h1, h2, h3, h4⟩ := h
    rw [addH]
    rcases List.mem_cons.1 hm with q | q
    · injection q with q1 q2; subst q1 q2
      rw [addH_other r (k + 1) hi _ k h4 (by omega), upd_same]
    · exact addH_mem r (k0 + 1) hi _ h4 k e q
theorem addH_inv {g : Nat → Nat} : ∀ (dH : List (Nat × Option Ent)) (lo hi : Nat) (H : Nat → Option Ent), NewH g lo hi dH → ∀ id e, addH H dH id = some e → H id = some e ∨ ((id, some e) ∈ dH ∧ lo ≤ id ∧ id < hi ∧ e.gen = g id)
  | [], _, _, _, _, id, e, h => .inl h
  | (k, e0) :: r, lo, hi, H, h, id, e, hm => by
    obtain ⟨h1, h2, ⟨e', he', hg⟩, h4⟩ := h
    rcases addH_inv r (k + 1) hi (upd H k e0) h4 id e hm with q | ⟨q1, q2, q3, q4⟩
    · by_cases hk : id = k
      · subst hk; rw [upd_same] at q; subst q; injection he' with he'; subst he'
        exact .inr ⟨by simp, h1, h2, hg⟩
      · rw [upd_ne _ _ hk] at q; exact .inl q
    · exact .inr ⟨List.mem_cons_of_mem _ q1, by omega, q3, q4⟩
theorem addH_self : ∀ (dH : List (Nat × Option Ent)) (H : Nat → Option Ent), (∀ k e, (k, e) ∈ dH → H k = e) → addH H dH = H
  | [], _, _ => rfl
  | (k, e) :: r, H, h => by
    have e1 : upd H k e = H := by
      funext i
      by_cases hi : i = k
      · subst hi; rw [upd_same]; exact (h i e (by simp)).symm
      · rw [upd_ne _ _ hi]
    rw [addH, e1]
    exact addH_self r H fun k' e' hm => h k' e' (List.mem_cons_of_mem _ hm)
theorem new_div {d id : Nat} (h1 : 16 * d ≤ id) (h2 : id < 16 * d + 16) : id / 16 = d := by omega
/-- what a trace has come to -/
structure TraceOk (P : Program) (g : Nat → Nat) (rs : List ROper) (st0 : St) (sts : Nat → St) (vs : Nat → V) (ds : Nat → List (Nat × Option Ent)) : Prop where
  zero : sts 0 = st0
  step : ∀ (i : Nat) (r : ROper), rs[i]? = some r → Run1 P g r (sts i) (sts (i + 1)) (vs i) (ds i)
  nodup : (rs.map ROper.d).Nodup
  some_ : ∀ (i : Nat) (r : ROper), rs[i]? = some r → r.dst = some r.d
  drop : ∀ id e, st0.H id = some e → ∀ (i : Nat) (r : ROper), rs[i]? = some r → r.op.allocs = true → id / 16 ≠ r.d
section
variable {rs : List ROper} {st0 : St} {sts : Nat → St} {vs : Nat → V} {ds : Nat → List (Nat × Option Ent)} (T : TraceOk P g rs st0 sts vs ds)
include T
theorem TraceOk.inj {i j : Nat} {r q : ROper} (hi : rs[i]? = some r) (hj : rs[j]? = some q) (hd : r.d = q.d) : i = j := by
  have h1 : (rs.map ROper.d)[i]? = some r.d := by rw [List.getElem?_map, hi]; rfl
  have h2 : (rs.map ROper.d)[j]? = some r.d := by rw [List.getElem?_map, hj, hd]; rfl
  have hil : i < (rs.map ROper.d).length := (List.getElem?_eq_some_iff.1 h1).1
  have hjl : j < (rs.map ROper.d).length := (List.getElem?_eq_some_iff.1 h2).1
  rw [List.getElem?_eq_getElem hil] at h1
  rw [List.getElem?_eq_getElem hjl] at h2
  have hp := List.pairwise_iff_getElem.1 T.nodup
  have e := (Option.some.inj h1).trans (Option.some.inj h2).symm
  rcases Nat.lt_trichotomy i j with q | q | q
  · exact absurd e (hp i j hil hjl q)
  · exact q
  · exact absurd e.symm (hp j i hjl hil q)
theorem TraceOk.D_at : ∀ i, i ≤ rs.length → (sts i).D = st0.D
  | 0, _ => by rw [T.zero]
  | i + 1, hi => by
    have hr : rs[i]? = some (rs[i]'(by omega)) := List.getElem?_eq_getElem (by omega)
    have hs := T.step i _ hr
    rw [hs.next, T.some_ i _ hr]
    exact TraceOk.D_at i (by omega)
theorem TraceOk.env_other : ∀ i, i ≤ rs.length → ∀ t, (∀ j r, j < i → rs[j]? = some r → r.d ≠ t) → (sts i).env t = st0.env t
  | 0, _, t, _ => by rw [T.zero]
  | i + 1, hi, t, h => by
    have hr : rs[i]? = some (rs[i]'(by omega)) := List.getElem?_eq_getElem (by omega)
    have hs := T.step i _ hr
    rw [hs.next, T.some_ i _ hr]
    show upd (sts i).env _ _ t = _
    rw [upd_ne _ _ (fun e => h i _ (by omega) hr e.symm)]
    exact TraceOk.env_other i (by omega) t fun j r hj => h j r (by omega)
theorem TraceOk.env_at : ∀ i, i ≤ rs.length → ∀ j r, j < i → rs[j]? = some r → (sts i).env r.d = vs j
  | 0, _, j, r, hj, _ => by omega
  | i + 1, hi, j, r, hj, hjr => by
    have hr : rs[i]? = some (rs[i]'(by omega)) := List.getElem?_eq_getElem (by omega)
    have hs := T.step i _ hr
    rw [hs.next, T.some_ i _ hr]
    show upd (sts i).env _ _ r.d = _
    by_cases hij : j = i
    · subst hij
      rw [hr] at hjr; injection hjr with hjr; subst hjr
      rw [upd_same]
    · rw [upd_ne _ _ (fun e => hij (T.inj hjr hr e))]
      exact TraceOk.env_at i (by omega) j r (by omega) hjr
theorem TraceOk.H_from : ∀ i, i ≤ rs.length → ∀ id e, (sts i).H id = some e → st0.H id = some e ∨ ∃ j r, j < i ∧ rs[j]? = some r ∧ id / 16 = r.d ∧ e.gen = g id ∧ r.op.allocs = true
  | 0, _, id, e, h => by rw [T.zero] at h; exact .inl h
  | i + 1, hi, id, e, h => by
    have hr : rs[i]? = some (rs[i]'(by omega)) := List.getElem?_eq_getElem (by omega)
    have hs := T.step i _ hr
    rw [hs.next, T.some_ i _ hr] at h
    have h' : addH (sts i).H (ds i) id = some e := h
    rcases addH_inv _ _ _ _ hs.new id e h' with q | ⟨q1, q2, q3, q4⟩
    · rcases TraceOk.H_from i (by omega) id e q with p | ⟨j, r, p1, p2⟩
      · exact .inl p
      · exact .inr ⟨j, r, by omega, p2⟩
    · refine .inr ⟨i, _, by omega, hr, new_div q2 q3, q4, ?_⟩
      cases ha : (rs[i]'(by omega)).op.allocs with
      | true => rfl
      | false => rw [hs.quiet ha] at q1; simp at q1
theorem TraceOk.H_step {i : Nat} (hi : i < rs.length) {id : Nat} {e : Ent} (h : (sts i).H id = some e) : (sts (i + 1)).H id = some e := by
  have hr : rs[i]? = some (rs[i]'hi) := List.getElem?_eq_getElem hi
  have hs := T.step i _ hr
  have e1 : (sts (i + 1)).H = addH (sts i).H (ds i) := by rw [hs.next, T.some_ i _ hr]; rfl
  rw [e1]
  cases ha : (rs[i]'hi).op.allocs with
  | false => rw [hs.quiet ha]; exact h
  | true =>
    have hne : id / 16 ≠ (rs[i]'hi).d := by
      rcases T.H_from i (by omega) id e h with p | ⟨j, r, p1, p2, p3, _⟩
      · exact T.drop id e p i _ hr ha
      · intro e2
        have := T.inj p2 hr (by omega)
        omega
    rw [addH_other _ _ _ _ id hs.new (by omega)]
    exact h
theorem TraceOk.H_mono {i m : Nat} (him : i ≤ m) (hm : m ≤ rs.length) {id : Nat} {e : Ent} (h : (sts i).H id = some e) : (sts m).H id = some e := by
  induction m with
  | zero =>
    have : i = 0 := by omega
    subst this; exact h
  | succ m ih =>
    by_cases q : i = m + 1
    · subst q; exact h
    · exact T.H_step (by omega) (ih (by omega) (by omega))
theorem TraceOk.H_fin {i : Nat} {r : ROper} (hr : rs[i]? = some r) : addH (sts rs.length).H (ds i) = (sts rs.length).H := by
  have hi : i < rs.length := (List.getElem?_eq_some_iff.1 hr).1
  have hs := T.step i r hr
  refine addH_self _ _ fun k e hm => ?_
  have h1 := addH_mem _ _ _ (sts i).H hs.new k e hm
  have e1 : (sts (i + 1)).H = addH (sts i).H (ds i) := by rw [hs.next, T.some_ i _ hr]; rfl
  rw [← e1] at h1
  cases e with
  | none =>
    exfalso
    have : ∀ (dH : List (Nat × Option Ent)) (lo hi : Nat), NewH g lo hi dH → (k, none) ∉ dH := by
      intro dH
      induction dH with
      | nil => intro _ _ _; simp
      | cons p dH ih =>
        obtain ⟨k', e'⟩ := p
        rintro lo hi ⟨_, _, ⟨e2, h5, _⟩, h6⟩ hm
        rcases List.mem_cons.1 hm with q | q
        · injection q with _ q; rw [← q] at h5; cases h5
        · exact ih _ _ h6 q
    exact this _ _ _ hs.new hm
  | some e => exact T.H_mono (by omega) (Nat.le_refl _) h1
end
theorem countP_one (n i : Nat) (hi : i < n) (p q : Nat → Bool) (hp : p i = true) (hq : q i = false) (h : ∀ j, j ≠ i → q j = p j) : (List.range n).countP q + 1 = (List.range n).countP p := by
  induction n with
  | zero => omega
  | succ n ih =>
    rw [List.range_succ, List.countP_append, List.countP_append]
    by_cases hin : i = n
    · subst hin
      have : (List.range i).countP q = (List.range i).countP p := List.countP_congr fun x hx => by rw [h x (by have := List.mem_range.1 hx; omega)]
      simp [hp, hq, this]
    · have := ih (by omega)
      simp [h n (fun e => hin e.symm)]
      omega
def unl (ops : Array Oper) (listed : Array Bool) : Nat := (List.range ops.size).countP fun i => !(listed.getD i true)
theorem unl_set {listed : Array Bool} (hs : listed.size = ops.size) {i : Nat} (hi : i < ops.size) (hu : listed.getD i true = false) : unl ops (listed.setIfInBounds i true) + 1 = unl ops listed := by
  unfold unl
  refine countP_one ops.size i hi _ _ (by simp [hu]) ?_ ?_
  · simp [Array.getD_eq_getD_getElem?, hs, hi]
  · intro j hj
    simp only [Array.getD_eq_getD_getElem?, Array.getElem?_setIfInBounds_ne (fun e => hj e.symm)]
theorem getD_set_iff {listed : Array Bool} {i j : Nat} (hi : i < listed.size) {d : Bool} : (listed.setIfInBounds i true).getD j d = if j = i then true else listed.getD j d := by
  by_cases h : j = i
  · subst h; simp [Array.getD_eq_getD_getElem?, hi]
  · rw [if_neg h]
    simp only [Array.getD_eq_getD_getElem?, Array.getElem?_setIfInBounds_ne (fun e => h e.symm)]
theorem unl_zero {listed : Array Bool} (h : unl ops listed = 0) {i : Nat} (hi : i < ops.size) : listed.getD i true = true := by
  unfold unl at h
  rw [List.countP_eq_zero] at h
  have := h i (List.mem_range.2 hi)
  simpa using this
end
end Go.Proofs.Ytjhdlcmecbngkaa
/- Regions that draw their order: whatever order comes, it comes to the same. No program in sight. -/
namespace Go.Proofs.Ytjhdlcmecbngkaa
open Go.RowKit
set_option linter.unusedVariables false
section
variable {P : Program} {c : Ctx} {Q : Exit → Act → World → Prop} {ops : Array Oper} {n : Nat} {g : Nat → Nat}
theorem mem_ready_iff {listed : Array Bool} {i : Nat} : i ∈ Region.ready .any ops listed ↔ i < ops.size ∧ listed.getD i true = false ∧ ∃ o, ops[i]? = some o ∧ ∀ e ∈ o.after, Region.binds .any e = true → listed.getD e.on false = true := by
  unfold Region.ready
  rw [List.mem_filter, List.mem_range]
  constructor
  · rintro ⟨h1, h2⟩
    simp only [Bool.and_eq_true] at h2
    refine ⟨h1, by simpa using h2.1, ?_⟩
    cases ho : ops[i]? with
    | none => rw [ho] at h2; simp at h2
    | some o =>
      rw [ho] at h2
      simp only [Option.map_some, Option.getD_some, Array.all_eq_true'] at h2
      exact ⟨o, rfl, fun e he hb => by have := h2.2 e he; simpa [hb] using this⟩
  · rintro ⟨h1, h2, o, h3, h4⟩
    refine ⟨h1, ?_⟩
    rw [h3]
    simp only [h2, Option.map_some, Option.getD_some, Array.all_eq_true', Bool.not_false, Bool.true_and]
    intro e he
    cases hb : Region.binds .any e with
    | false => simp
    | true => simp [h4 e he hb]
theorem edge_iff {o : Oper} {j : Nat} : edge o j = true ↔ ∃ e ∈ o.after, e.on = j ∧ Region.binds .any e = true := by
  unfold edge
  rw [Array.any_eq_true']
  simp [Bool.and_eq_true]
theorem edgeAt_iff {i j : Nat} : edgeAt ops i j = true ↔ ∃ o, ops[i]? = some o ∧ edge o j = true := by
  unfold edgeAt
  cases h : ops[i]? with
  | none => simp
  | some o => simp
/-- one stands behind another -/
inductive Anc (ops : Array Oper) : Nat → Nat → Prop where
  | one {i j} (h : edgeAt ops i j = true) : Anc ops i j
  | more {i m j} (h : edgeAt ops i m = true) (k : Anc ops m j) : Anc ops i j
theorem masks_append : ∀ (l : List Oper) (acc : List Nat), ∃ r, masks l acc = acc ++ r ∧ r.length = l.length
  | [], acc => ⟨[], by simp [masks], rfl⟩
  | o :: l, acc => by
    obtain ⟨r, h1, h2⟩ := masks_append l (acc ++ [maskOf acc o])
    exact ⟨maskOf acc o :: r, by rw [masks, h1]; simp, by simp [h2]⟩
theorem mask_bit {acc : List Nat} {o : Oper} {j : Nat} (h : (maskOf acc o).testBit j = true) : ∃ e ∈ o.after, Region.binds .any e = true ∧ (e.on = j ∨ (acc.getD e.on 0).testBit j = true) := by
  unfold maskOf at h
  rw [← Array.foldl_toList] at h
  have key : ∀ (l : List Edge) (m : Nat), (l.foldl (fun m e => if Region.binds .any e then m ||| 2 ^ e.on ||| acc.getD e.on 0 else m) m).testBit j = true → m.testBit j = true ∨ ∃ e ∈ l, Region.binds .any e = true ∧ (e.on = j ∨ (acc.getD e.on 0).testBit j = true) := by
    intro l
    induction l with
    | nil => intro m h; exact .inl h
    | cons e l ih =>
      intro m h
      rw [List.foldl_cons] at h
      rcases ih _ h with q | ⟨e', q1, q2⟩
      · split at q
        · rename_i hb
          rw [Nat.testBit_or, Nat.testBit_or, Bool.or_eq_true, Bool.or_eq_true] at q
          rcases q with (q | q) | q
          · exact .inl q
          · rw [Nat.testBit_two_pow] at q
            exact .inr ⟨e, by simp, hb, .inl (by simpa using q)⟩
          · exact .inr ⟨e, by simp, hb, .inr q⟩
        · exact .inl q
      · exact .inr ⟨e', by simp [q1], q2⟩
  rcases key _ _ h with q | ⟨e, q1, q2⟩
  · simp at q
  · exact ⟨e, by simpa using q1, q2⟩
theorem masks_sound (ops : Array Oper) : ∀ (l : List Oper) (acc : List Nat), (∀ k, k < l.length → ops[acc.length + k]? = l[k]?) → (∀ i m j, acc[i]? = some m → m.testBit j = true → Anc ops i j) →
    ∀ i m j, (masks l acc)[i]? = some m → m.testBit j = true → Anc ops i j
  | [], acc, _, ha, i, m, j, h1, h2 => ha i m j h1 h2
  | o :: l, acc, hl, ha, i, m, j, h1, h2 => by
    refine masks_sound ops l (acc ++ [maskOf acc o]) (fun k hk => ?_) (fun i m j q1 q2 => ?_) i m j h1 h2
    · have := hl (k + 1) (by simp; omega)
      rw [List.length_append, List.length_singleton, show acc.length + 1 + k = acc.length + (k + 1) by omega, this]; rfl
    · by_cases hi : i < acc.length
      · rw [List.getElem?_append_left hi] at q1
        exact ha i m j q1 q2
      · have hie : i = acc.length := by
          have := (List.getElem?_eq_some_iff.1 q1).1
          simp at this; omega
        subst hie
        rw [List.getElem?_append_right (Nat.le_refl _)] at q1
        simp at q1
        subst q1
        obtain ⟨e, p1, p2, p3⟩ := mask_bit q2
        have ho : ops[acc.length]? = some o := by have := hl 0 (by simp); simpa using this
        have hedge : edgeAt ops acc.length e.on = true := edgeAt_iff.2 ⟨o, ho, edge_iff.2 ⟨e, p1, rfl, p2⟩⟩
        rcases p3 with p3 | p3
        · rw [← p3]; exact .one hedge
        · refine .more hedge ?_
          cases hq : acc[e.on]? with
          | none => rw [List.getD_eq_getElem?_getD, hq] at p3; simp at p3
          | some m' => rw [List.getD_eq_getElem?_getD, hq] at p3; exact ha e.on m' j hq p3
theorem cut_anc {s : Nat} (h : cutAt (masksOf ops) s = true) {i j : Nat} (hi : s ≤ i) (hi2 : i < ops.size) (hj : j < s) : Anc ops i j := by
  unfold cutAt at h
  rw [List.all_eq_true] at h
  obtain ⟨r, h1, h2⟩ := masks_append ops.toList []
  have hlen : (masksOf ops).length = ops.size := by unfold masksOf; rw [h1]; simpa using h2
  have hm : (masksOf ops)[i]? = some (masksOf ops)[i] := List.getElem?_eq_getElem (by omega)
  have hmem : (masksOf ops)[i] ∈ (masksOf ops).drop s := List.mem_of_getElem? (i := i - s) (by rw [List.getElem?_drop, show s + (i - s) = i by omega]; exact hm)
  have := h _ hmem
  have e : (masksOf ops)[i] &&& (2 ^ s - 1) = 2 ^ s - 1 := by simpa using this
  refine masks_sound ops ops.toList [] (fun k hk => by simp) (fun i m j q => by simp at q) i _ j hm ?_
  have hb : ((masksOf ops)[i] &&& (2 ^ s - 1)).testBit j = true := by rw [e, Nat.testBit_two_pow_sub_one]; simpa using hj
  rw [Nat.testBit_and, Bool.and_eq_true] at hb
  exact hb.1
/-- the facts of the check -/
structure SFacts (ops : Array Oper) (seg : List ROper) (s : Nat) : Prop where
  le : s + seg.length ≤ ops.size
  some_ : ∀ (i : Nat) (r : ROper), seg[i]? = some r → r.dst.isSome = true
  nodup : (seg.map ROper.d).Nodup
  reads : ∀ (i j : Nat) (r q : ROper), seg[i]? = some r → seg[j]? = some q → q.d ∈ r.reads → j < i ∧ edgeAt ops (s + i) (s + j) = true
theorem segOk_facts {seg : List ROper} {s : Nat} (hl : s + seg.length ≤ ops.size) (h : segOk ops s seg = true) : SFacts ops seg s := by
  unfold segOk at h
  simp only [Bool.and_eq_true, decide_eq_true_eq, List.all_eq_true, List.mem_range] at h
  obtain ⟨⟨h1, h2⟩, h3⟩ := h
  refine ⟨hl, fun i r hr => (h1 r (List.mem_of_getElem? hr)).2, h2, fun i j r q hr hq hm => ?_⟩
  have := h3 i (List.getElem?_eq_some_iff.1 hr).1 j (List.getElem?_eq_some_iff.1 hq).1
  rw [hr, hq] at this
  simp only [Bool.or_eq_true, Bool.not_eq_true', Bool.and_eq_true, decide_eq_true_eq] at this
  rcases this with q1 | q1
  · exfalso
    have : r.reads.contains q.d = true := by simpa using hm
    rw [this] at q1; cases q1
  · exact q1
def Down (ops : Array Oper) : Prop := ∀ i o e, ops[i]? = some o → e ∈ o.after → Region.binds .any e = true → e.on < i
theorem downOk_spec (h : downOk ops = true) : Down ops := fun i o e ho he hb => by
  unfold downOk at h
  rw [List.all_eq_true] at h
  have hi : i < ops.size := (Array.getElem?_eq_some_iff.1 ho).1
  have := h i (List.mem_range.2 hi)
  rw [ho] at this
  simp only [Array.all_eq_true', Bool.or_eq_true, Bool.not_eq_true', decide_eq_true_eq] at this
  rcases this e he with q | q
  · rw [q] at hb; cases hb
  · exact q
/-- closed downwards -/
def Closed (ops : Array Oper) (listed : Array Bool) : Prop := ∀ i j, i < ops.size → listed.getD i true = true → edgeAt ops i j = true → listed.getD j true = true
theorem closed_set {listed : Array Bool} (F : Down ops) (hs : listed.size = ops.size) (hc : Closed ops listed) {i : Nat} (hr : i ∈ Region.ready .any ops listed) : Closed ops (listed.setIfInBounds i true) := by
  obtain ⟨h1, h2, o, h3, h4⟩ := mem_ready_iff.1 hr
  intro x j hx hl he
  rw [getD_set_iff (by omega)] at hl ⊢
  split
  · rfl
  · by_cases hxi : x = i
    · subst hxi
      obtain ⟨o', q1, q2⟩ := edgeAt_iff.1 he
      rw [h3] at q1; injection q1 with q1; subst q1
      obtain ⟨e, q3, q4, q5⟩ := edge_iff.1 q2
      have := h4 e q3 q5
      rw [q4] at this
      have hj : j < ops.size := by have := F x o e h3 q3 q5; omega
      simp only [Array.getD_eq_getD_getElem?] at this ⊢
      have hjl : j < listed.size := by omega
      simpa [hjl] using this
    · rw [if_neg hxi] at hl
      exact hc x j hx hl he
theorem ready_of_min {listed : Array Bool} (F : Down ops) (hs : listed.size = ops.size) {i : Nat} (hi : i < ops.size) (hu : listed.getD i true = false) (hmin : ∀ j, j < i → listed.getD j true = true) : i ∈ Region.ready .any ops listed := by
  have ho : ops[i]? = some ops[i] := Array.getElem?_eq_getElem hi
  refine mem_ready_iff.2 ⟨hi, hu, _, ho, fun e he hb => ?_⟩
  have hlt := F i _ e ho he hb
  have := hmin e.on hlt
  have hjl : e.on < listed.size := by omega
  simp only [Array.getD_eq_getD_getElem?] at this ⊢
  simpa [hjl] using this
theorem exists_min {listed : Array Bool} {i : Nat} (hi : listed.getD i true = false) : ∃ m, m ≤ i ∧ listed.getD m true = false ∧ ∀ j, j < m → listed.getD j true = true := by
  induction i using Nat.strongRecOn with
  | _ i ih =>
    by_cases h : ∀ j, j < i → listed.getD j true = true
    · exact ⟨i, Nat.le_refl _, hi, h⟩
    · have : ∃ j, j < i ∧ listed.getD j true = false := by
        apply Classical.byContradiction
        intro hn
        exact h fun j hj => by
          cases hq : listed.getD j true with
          | true => rfl
          | false => exact absurd ⟨j, hj, hq⟩ hn
      obtain ⟨j, hj, hq⟩ := this
      obtain ⟨m, h1, h2⟩ := ih j hj hq
      exact ⟨m, by omega, h2⟩
theorem anc_listed {listed : Array Bool} (F : Down ops) (hc : Closed ops listed) : ∀ {i j : Nat}, i < ops.size → Anc ops i j → listed.getD i true = true → listed.getD j true = true := by
  intro i j hi h
  induction h with
  | one h => exact fun hl => hc _ _ hi hl h
  | @more i m j h k ih =>
    intro hl
    obtain ⟨o, q1, q2⟩ := edgeAt_iff.1 h
    obtain ⟨e, q3, q4, q5⟩ := edge_iff.1 q2
    exact ih (by have := F i o e q1 q3 q5; omega) (hc _ _ hi hl h)
/-- where all ahead of s have come up and no others -/
structure At (ops : Array Oper) (s : Nat) (listed : Array Bool) : Prop where
  size : listed.size = ops.size
  closed : Closed ops listed
  yes : ∀ i, i < s → i < ops.size → listed.getD i true = true
  no : ∀ i, s ≤ i → i < ops.size → listed.getD i true = false
/-- what can be said from s on -/
def From (P : Program) (c : Ctx) (ops : Array Oper) (Q : Exit → Act → World → Prop) (s : Nat) (K : St → Prop) : Prop :=
  ∀ (fuel : Nat) (listed : Array Bool) (st : St) (a : Act) (w : World), unl ops listed = fuel → At ops s listed → K st → Rel c st a w → wpAny P .any ops Q fuel listed a w
theorem from_end {K : St → Prop} (hK : ∀ st' a' w', K st' → Rel c st' a' w' → Q .normal a' w') : From P c ops Q ops.size K := by
  intro fuel listed st a w hf hA hk hR
  have hnil : Region.ready .any ops listed = [] := by
    apply List.eq_nil_iff_forall_not_mem.2
    intro i hi
    obtain ⟨h1, h2, _⟩ := mem_ready_iff.1 hi
    rw [hA.yes i h1 h1] at h2; cases h2
  cases fuel with
  | zero => exact ⟨hnil, hK st a w hk hR⟩
  | succ fuel => exact ⟨fun _ => hK st a w hk hR, fun i hi => by rw [hnil] at hi; simp at hi⟩
theorem ready_edges {listed : Array Bool} (F : Down ops) (hs : listed.size = ops.size) {i : Nat} (hi : i ∈ Region.ready .any ops listed) : ∀ j, edgeAt ops i j = true → listed.getD j true = true := fun j hj => by
  obtain ⟨h1, h2, o, h3, h4⟩ := mem_ready_iff.1 hi
  obtain ⟨o2, q1, q2⟩ := edgeAt_iff.1 hj
  rw [h3] at q1; injection q1 with q1; subst q1
  obtain ⟨e, q3, q4, q5⟩ := edge_iff.1 q2
  have h5 := h4 e q3 q5
  rw [q4] at h5
  have hj : j < ops.size := by have := F i o e h3 q3 q5; omega
  simp only [Array.getD_eq_getD_getElem?] at h5 ⊢
  have hjl : j < listed.size := by omega
  simpa [hjl] using h5
theorem ready_anc {listed : Array Bool} (F : Down ops) (hs : listed.size = ops.size) (hc : Closed ops listed) {i j : Nat} (hi : i ∈ Region.ready .any ops listed) (h : Anc ops i j) : listed.getD j true = true := by
  have h1 := (mem_ready_iff.1 hi).1
  cases h with
  | one h => exact ready_edges F hs hi j h
  | more h k =>
    rename_i m
    obtain ⟨o, q1, q2⟩ := edgeAt_iff.1 h
    obtain ⟨e, q3, q4, q5⟩ := edge_iff.1 q2
    exact anc_listed F hc (by have := F i o e q1 q3 q5; omega) k (ready_edges F hs hi m h)
/-- one operation that all others wait for -/
theorem from_one (hn : c.n = n) (hdie : DieOk c Q) (F : Down ops) {s : Nat} {r : ROper} {K : St → Prop} (hs : s < ops.size) (hcut : cutAt (masksOf ops) (s + 1) = true) (hres : ∀ o, ops[s]? = some o → resOper P ops n o = some r) (hnext : From P c ops Q (s + 1) K) : From P c ops Q s (fun st => wpR P [r] st K) := by
  intro fuel listed st a w hf hA hw hR
  have hunl : listed.getD s true = false := hA.no s (Nat.le_refl _) hs
  have hready : s ∈ Region.ready .any ops listed := ready_of_min F hA.size hs hunl fun j hj => hA.yes j hj (by omega)
  have hcnt := unl_set hA.size hs hunl
  cases fuel with
  | zero => omega
  | succ fuel =>
    refine ⟨fun h => (by rw [h] at hready; simp at hready), fun i hi => ?_⟩
    obtain ⟨h1, h2, o', h3, h4⟩ := mem_ready_iff.1 hi
    have him : i = s := by
      rcases Nat.lt_trichotomy i s with q | q | q
      · rw [hA.yes i q h1] at h2; cases h2
      · exact q
      · have := ready_anc F hA.size hA.closed hi (cut_anc hcut (i := i) (j := s) (by omega) h1 (by omega))
        rw [hunl] at this; cases this
    subst him
    have hro := hres o' h3
    simp only [wpR] at hw
    obtain ⟨R, G, hR⟩ := hR
    obtain ⟨hop, hdst, hdlt, _⟩ := resOper_spec hro
    have hdn := dst_lt hro hn
    have next : ∀ {st' : St}, K st' → ∀ {a' w'}, Rel c st' a' w' → wpAny P .any ops Q fuel (listed.setIfInBounds i true) a' w' := fun hk _ _ hR' => by
      refine hnext fuel _ _ _ _ (by omega) ⟨by simpa using hA.size, closed_set F hA.size hA.closed hi, fun j hj hj2 => ?_, fun j hj hj2 => ?_⟩ hk hR'
      · rw [getD_set_iff (by rw [hA.size]; exact h1)]
        by_cases hji : j = i
        · rw [if_pos hji]
        · rw [if_neg hji]; exact hA.yes j (by omega) hj2
      · rw [getD_set_iff (by rw [hA.size]; exact h1), if_neg (by omega)]
        exact hA.no j (by omega) hj2
    unfold wpOp
    simp only [h3]
    rcases guarded_gv hw with ⟨hg, hw⟩ | ⟨hg, hw⟩
    · rw [if_pos (wanted_of hro hR hg)]
      left
      unfold opR at hw
      split at hw
      · refine eff_sound (d := r.d) hop hR hw (fun u dH hk x w' R' G' hR' hV => ?_) (fun v hv w' hfr => hdie v _ w' (hR.die ▸ hv) hfr hR.defers)
        have := hR'.put hdn hV
        rw [← hdst] at *
        exact next hk ⟨R', G', this⟩
      · have hq : ∃ g : Nat → Nat, (∀ id, id / 16 = r.d → ∀ l0, G id = some l0 → l0.gen < g id) ∧ stepQ P r.op st.env st.H g (16 * r.d) (afterOp r st fun st' => K st') := by
          refine ⟨freshGen G, fun id _ l0 h0 => freshGen_lt h0, ?_⟩
          split at hw
          · exact hw _
          · rename_i hal
            exact stepQ_gen (by simpa using hal) hw
        obtain ⟨g, hgen, hq⟩ := hq
        obtain ⟨u, dH, p1, p2, _⟩ := stepQ_ex hq
        refine quiet_sound hop hgen hR p1 _ (fun x w' R' G' hR' hV _ => ?_)
        have := hR'.put hdn hV
        rw [← hdst] at *
        exact next p2 ⟨R', G', this⟩
    · rw [if_neg (by rw [wanted_of hro hR hg]; simp)]
      have := hR.put hdn (u := .v undef) (.v undef)
      rw [← hdst] at *
      exact next hw ⟨R, G, this⟩
/-- a frame in the midst of it -/
structure Mid (c : Ctx) (seg : List ROper) (s : Nat) (st0 : St) (vs : Nat → V) (Hf : Nat → Option Ent) (g : Nat → Nat) (listed : Array Bool) (st : St) (G : Nat → Option Loc) : Prop where
  D0 : st0.D = c.D
  H : st.H = Hf
  at_ : ∀ i r, seg[i]? = some r → listed.getD (s + i) true = true → st.env r.d = vs i
  other : ∀ t, (∀ (i : Nat) (r : ROper), seg[i]? = some r → listed.getD (s + i) true = true → r.d ≠ t) → st.env t = st0.env t
  fresh : ∀ (i : Nat) (r : ROper), seg[i]? = some r → listed.getD (s + i) true = false → ∀ id, id / 16 = r.d → ∀ l, G id = some l → l.gen < g id
theorem val_same {env env' : Nat → V} {l : List Operand} (h : ∀ t ∈ tmpsOf l, env' t = env t) : ∀ x ∈ l, val env' x = val env x := fun x hx => by
  cases x with
  | tmp t => exact h t (List.mem_filterMap.2 ⟨_, hx, rfl⟩)
  | const v => rfl
  | global g => rfl
  | func f => rfl
theorem any_mid (hn : c.n = n) (D : Down ops) {seg : List ROper} {s : Nat} {K : St → Prop} (F : SFacts ops seg s) (hcut : cutAt (masksOf ops) (s + seg.length) = true) (hres : ∀ (i : Nat) (o : Oper) (r : ROper), ops[s + i]? = some o → seg[i]? = some r → resOper P ops n o = some r)
    (hnext : From P c ops Q (s + seg.length) K) {st0 : St} {sts : Nat → St} {vs : Nat → V} {ds : Nat → List (Nat × Option Ent)} (T : TraceOk P g seg st0 sts vs ds) (hend : K (sts seg.length)) :
    ∀ (fuel : Nat) (listed : Array Bool) {st : St} {a : Act} {w : World} {R : Nat → Prop} {G : Nat → Option Loc}, unl ops listed = fuel → listed.size = ops.size → Closed ops listed → (∀ i, i < s → listed.getD i true = true) → (∀ i, s + seg.length ≤ i → i < ops.size → listed.getD i true = false) →
      Mid c seg s st0 vs (sts seg.length).H g listed st G → RelAt c st a w R G → wpAny P .any ops Q fuel listed a w := by
  have hle := F.le
  have done : ∀ (fuel : Nat) (listed : Array Bool) {st : St} {a : Act} {w : World} {R : Nat → Prop} {G : Nat → Option Loc}, unl ops listed = fuel → listed.size = ops.size → Closed ops listed → (∀ i, i < s → listed.getD i true = true) → (∀ i, s + seg.length ≤ i → i < ops.size → listed.getD i true = false) → (∀ i, i < seg.length → listed.getD (s + i) true = true) →
      Mid c seg s st0 vs (sts seg.length).H g listed st G → RelAt c st a w R G → wpAny P .any ops Q fuel listed a w := by
    intro fuel listed st a w R G hf hs hc hb ht hall M hR
    have hst : st = sts seg.length := by
      have e1 : st.env = (sts seg.length).env := by
        funext t
        by_cases hex : ∃ (i : Nat) (r : ROper), seg[i]? = some r ∧ r.d = t
        · obtain ⟨i, r, h2, rfl⟩ := hex
          have h1 : i < seg.length := (List.getElem?_eq_some_iff.1 h2).1
          rw [M.at_ i r h2 (hall i h1)]
          exact (T.env_at seg.length (Nat.le_refl _) i r h1 h2).symm
        · rw [M.other t (fun i r h2 _ h3 => hex ⟨i, r, h2, h3⟩)]
          exact (T.env_other seg.length (Nat.le_refl _) t fun j r _ h2 h3 => hex ⟨j, r, h2, h3⟩).symm
      have e3 : st.D = (sts seg.length).D := by rw [hR.die, T.D_at _ (Nat.le_refl _), M.D0]
      obtain ⟨env, H, D⟩ := st
      simp only at e1 e3
      have e2 : H = (sts seg.length).H := M.H
      rw [e1, e2, e3]
    subst hst
    refine hnext fuel listed _ a w hf ⟨hs, hc, fun i hi hi2 => ?_, ht⟩ hend ⟨R, G, hR⟩
    by_cases hlt : i < s
    · exact hb i hlt
    · have := hall (i - s) (by omega)
      rwa [show s + (i - s) = i by omega] at this
  intro fuel
  induction fuel with
  | zero =>
    intro listed st a w R G hf hs hc hb ht M hR
    exact done 0 listed hf hs hc hb ht (fun i hi => unl_zero hf (by omega)) M hR
  | succ fuel ih =>
    intro listed st a w R G hf hs hc hb ht M hR
    by_cases hall : ∀ i, i < seg.length → listed.getD (s + i) true = true
    · exact done (fuel + 1) listed hf hs hc hb ht hall M hR
    · have hex : ∃ i, i < seg.length ∧ listed.getD (s + i) true = false := by
        apply Classical.byContradiction
        intro hn
        exact hall fun i hi => by
          cases hq : listed.getD (s + i) true with
          | true => rfl
          | false => exact absurd ⟨i, hi, hq⟩ hn
      obtain ⟨i0, hi0, hu0⟩ := hex
      obtain ⟨m, hm1, hm2, hm3⟩ := exists_min hu0
      have hready := ready_of_min D hs (by omega : m < ops.size) hm2 hm3
      refine ⟨fun h => (by rw [h] at hready; simp at hready), fun x hx => ?_⟩
      obtain ⟨h1, h2, o, h3, h4⟩ := mem_ready_iff.1 hx
      have hedge := ready_edges D hs hx
      have hxlo : s ≤ x := by
        apply Nat.le_of_not_lt
        intro q
        rw [hb x q] at h2; cases h2
      have hxhi : x < s + seg.length := by
        apply Nat.lt_of_not_le
        intro q
        have := ready_anc D hs hc hx (cut_anc hcut (j := s + i0) q h1 (by omega))
        rw [hu0] at this; cases this
      obtain ⟨i, rfl⟩ : ∃ i, x = s + i := ⟨x - s, by omega⟩
      have hrl : i < seg.length := by omega
      have hr : seg[i]? = some seg[i] := List.getElem?_eq_getElem hrl
      have hro := hres i o _ h3 hr
      obtain ⟨hop, hdst, hdlt, _⟩ := resOper_spec hro
      have hdn := dst_lt hro hn
      have hrun := T.step i _ hr
      have hsome := T.some_ i _ hr
      have hsee : ∀ t ∈ (seg[i]).reads, st.env t = (sts i).env t := fun t htr => by
        by_cases hex : ∃ (j : Nat) (q : ROper), seg[j]? = some q ∧ q.d = t
        · obtain ⟨j, q, p2, p3⟩ := hex
          subst p3
          obtain ⟨p4, p5⟩ := F.reads i j _ q hr p2 htr
          rw [M.at_ j q p2 (hedge _ p5)]
          exact (T.env_at i (by omega) j q p4 p2).symm
        · rw [M.other t (fun j q p2 _ p3 => hex ⟨j, q, p2, p3⟩)]
          exact (T.env_other i (by omega) t fun j q _ p2 p3 => hex ⟨j, q, p2, p3⟩).symm
      have hgv : gv st.env (seg[i]).guard = gv (sts i).env (seg[i]).guard := by
        cases hgd : (seg[i]).guard with
        | none => rfl
        | some p =>
          obtain ⟨s', want⟩ := p
          simp only [gv]
          rw [hsee s' (by unfold ROper.reads; rw [hgd]; simp)]
      have hHsub : ∀ id e, (sts i).H id = some e → st.H id = some e := fun id e he => by
        rw [M.H]
        exact T.H_mono (i := i) (by omega) (Nat.le_refl _) he
      have hnext' : ∀ {st' : St} {a' : Act} {w' : World} {R' : Nat → Prop} {G' : Nat → Option Loc}, st'.H = (sts seg.length).H → st'.env = upd st.env (seg[i]).d (vs i) → (∀ id, id / 16 ≠ (seg[i]).d → G' id = G id) → RelAt c st' a' w' R' G' → wpAny P .any ops Q fuel (listed.setIfInBounds (s + i) true) a' w' := by
        intro st' a' w' R' G' e1 e2 e3 hR'
        have hcnt := unl_set hs h1 h2
        refine ih _ (by omega) (by simpa using hs) (closed_set D hs hc hx) (fun j hj => ?_) (fun j hj1 hj2 => ?_) ⟨M.D0, e1, fun j q p2 p3 => ?_, fun t p => ?_, fun j q p2 p3 id p4 l p5 => ?_⟩ hR'
        · rw [getD_set_iff (by omega), if_neg (by omega)]; exact hb j hj
        · rw [getD_set_iff (by omega), if_neg (by omega)]; exact ht j hj1 hj2
        · rw [e2]
          by_cases hji : j = i
          · subst hji; rw [hr] at p2; injection p2 with p2; subst p2; rw [upd_same]
          · rw [upd_ne _ _ (fun e => hji (T.inj p2 hr e))]
            rw [getD_set_iff (by omega), if_neg (by omega)] at p3
            exact M.at_ j q p2 p3
        · rw [e2, upd_ne _ _ (fun e => p i _ hr (by rw [getD_set_iff (by omega), if_pos rfl]) e.symm)]
          refine M.other t fun j q p2 p3 => p j q p2 ?_
          rw [getD_set_iff (by omega)]
          split
          · rfl
          · exact p3
        · rw [getD_set_iff (by omega)] at p3
          by_cases hji : s + j = s + i
          · rw [if_pos hji] at p3; cases p3
          · rw [if_neg hji] at p3
            rw [e3 id (fun e => hji (by rw [T.inj p2 hr (by omega)]))] at p5
            exact M.fresh j q p2 p3 id p4 l p5
      unfold wpOp
      simp only [h3]
      rcases hrun.go with ⟨q1, q2, q3⟩ | ⟨q1, q2⟩
      · rw [if_neg (by rw [wanted_of hro hR (hgv.trans q1)]; simp)]
        have := hR.put hdn (u := .v undef) (.v undef)
        refine hnext' (st' := st.put o.dst (.v undef)) ?_ ?_ (fun _ _ => rfl) this
        · rw [← hdst, hsome]; exact M.H
        · rw [← hdst, hsome, q2]; rfl
      · rw [if_pos (wanted_of hro hR (hgv.trans q1))]
        left
        have hq := stepQ_mono (env' := st.env) (H' := st.H) (val_same fun t htm => hsee t (by unfold ROper.reads; simp [htm])) hHsub q2
        refine quiet_sound hop (fun id hid l0 hl0 => M.fresh i _ hr h2 id hid l0 hl0) hR hq _ (fun x w' R' G' hR' hV hG' => ?_)
        have hHeq : addH st.H (ds i) = st.H := by
          rw [M.H]
          exact T.H_fin hr
        rw [hHeq] at hR'
        have := hR'.put hdn hV
        refine hnext' (st' := St.put st o.dst (vs i)) ?_ ?_ hG' this
        · rw [← hdst, hsome]; exact M.H
        · rw [← hdst, hsome]; rfl
theorem dropH_sub {ds : List Nat} {H : Nat → Option Ent} {id : Nat} {e : Ent} (h : dropH ds H id = some e) : H id = some e ∧ id / 16 ∉ ds := by
  cases ds with
  | nil => exact ⟨h, by simp⟩
  | cons d ds =>
    simp only [dropH] at h
    cases hq : (d :: ds).contains (id / 16) with
    | true => rw [hq] at h; cases h
    | false => rw [hq] at h; exact ⟨h, by simpa using hq⟩
/-- some operations in whatever order -/
theorem from_seg (hn : c.n = n) (D : Down ops) {seg : List ROper} {s : Nat} {K : St → Prop} (F : SFacts ops seg s) (hcut : cutAt (masksOf ops) (s + seg.length) = true) (hres : ∀ (i : Nat) (o : Oper) (r : ROper), ops[s + i]? = some o → seg[i]? = some r → resOper P ops n o = some r)
    (hnext : From P c ops Q (s + seg.length) K) : From P c ops Q s (fun st => wpD P seg st K) := by
  intro fuel listed st a w hf hA hw hR
  have hle := F.le
  obtain ⟨R, G, hR⟩ := hR
  have h' : wpDl P seg { st with H := dropH (allocDs seg) st.H } K := hw
  obtain ⟨sts, vs, ds, t1, t2, t3⟩ := trace (freshGen G) _ h'
  have T : TraceOk P (freshGen G) seg { st with H := dropH (allocDs seg) st.H } sts vs ds := by
    refine ⟨t1, t3, F.nodup, fun i r hr => ?_, fun id e he i r hr hal e2 => ?_⟩
    · obtain ⟨d, hd⟩ := Option.isSome_iff_exists.1 (F.some_ i r hr)
      rw [hd]; simp [ROper.d, hd]
    · obtain ⟨d, hd⟩ := Option.isSome_iff_exists.1 (F.some_ i r hr)
      refine (dropH_sub he).2 ?_
      unfold allocDs
      rw [List.mem_filterMap]
      refine ⟨r, List.mem_of_getElem? hr, ?_⟩
      rw [if_pos hal, e2, hd]; simp [ROper.d, hd]
  have hMid : RelAt c { st with H := (sts seg.length).H } a w R G := by
    refine hR.more fun id e he => ?_
    rcases T.H_from seg.length (Nat.le_refl _) id e he with q | ⟨j, r, q1, q2, q3, q4, q5⟩
    · exact .inl (dropH_sub q).1
    · exact .inr fun l hl => by rw [q4]; exact freshGen_lt hl
  refine any_mid (st := { st with H := (sts seg.length).H }) hn D F hcut hres hnext T t2 fuel listed hf hA.size hA.closed (fun i hi => hA.yes i hi (by omega)) (fun i hi hi2 => hA.no i (by omega) hi2) ⟨hR.die, rfl, fun i r hr hl => ?_, fun t _ => rfl, fun i r hr hl id hid l hl' => freshGen_lt hl'⟩ hMid
  have hi : i < seg.length := (List.getElem?_eq_some_iff.1 hr).1
  rw [hA.no (s + i) (by omega) (by omega)] at hl; cases hl
/-- pieces, one behind the other -/
def wpS (P : Program) : List (List ROper) → St → (St → Prop) → Prop
  | [], st, K => K st
  | [r] :: ss, st, K => wpR P [r] st fun st' => wpS P ss st' K
  | seg :: ss, st, K => wpD P seg st fun st' => wpS P ss st' K
theorem from_segs (hn : c.n = n) (hdie : DieOk c Q) (D : Down ops) {K : St → Prop} (hK : ∀ st' a' w', K st' → Rel c st' a' w' → Q .normal a' w') : ∀ (segs : List (List ROper)) (s : Nat), segsOk ops (masksOf ops) s segs = true → s + segs.flatten.length = ops.size →
    (∀ (i : Nat) (o : Oper) (r : ROper), ops[s + i]? = some o → segs.flatten[i]? = some r → resOper P ops n o = some r) → From P c ops Q s (fun st => wpS P segs st K)
  | [], s, h, hl, hres => by
    have hs : s = ops.size := by simpa using hl
    subst hs
    exact from_end hK
  | seg :: ss, s, h, hl, hres => by
    simp only [segsOk, Bool.and_eq_true, Bool.or_eq_true, decide_eq_true_eq] at h
    obtain ⟨⟨⟨h0, h1⟩, h2⟩, h3⟩ := h
    rw [List.flatten_cons, List.length_append] at hl
    have hrest := from_segs hn hdie D hK ss (s + seg.length) h3 (by omega) (fun i o r ho hr => by
      refine hres (seg.length + i) o r (by rw [← Nat.add_assoc]; exact ho) ?_
      rw [List.flatten_cons, List.getElem?_append_right (by omega), show seg.length + i - seg.length = i by omega]; exact hr)
    have hres' : ∀ (i : Nat) (o : Oper) (r : ROper), ops[s + i]? = some o → seg[i]? = some r → resOper P ops n o = some r := fun i o r ho hr => by
      refine hres i o r ho ?_
      rw [List.flatten_cons, List.getElem?_append_left (List.getElem?_eq_some_iff.1 hr).1]; exact hr
    match seg, h0, h1, h2, hl, hrest, hres' with
    | [r], _, _, h2, hl, hrest, hres' =>
      have := from_one hn hdie D (s := s) (r := r) (by simp at hl; omega) h2 (fun o ho => hres' 0 o r (by simpa using ho) rfl) hrest
      exact this
    | r1 :: r2 :: seg, _, h1, h2, hl, hrest, hres' =>
      have h1' : segOk ops s (r1 :: r2 :: seg) = true := by
        rcases h1 with q | q
        · simp at q
        · exact q
      exact from_seg hn D (segOk_facts (by omega) h1') h2 hres' hrest
theorem dreg_sound (hn : c.n = n) (hdie : DieOk c Q) (hm : P.follows .mixedOrders = true) {rs : List ROper} {segs : List (List ROper)} {id : Nat} {K : St → Prop} {st : St} {a : Act} {w : World} (hd : dOk ops rs segs = true) (hfl : segs.flatten = rs) (hmap : ops.toList.mapM (resOper P ops n) = some rs)
    (h : wpS P segs st K) (hR : Rel c st a w) (hK : ∀ st' a' w', K st' → Rel c st' a' w' → Q .normal a' w') : (Code.region id ops true).wp P Q a w := by
  unfold dOk at hd
  simp only [Bool.and_eq_true, decide_eq_true_eq] at hd
  obtain ⟨⟨⟨d1, d2⟩, d3⟩, d4⟩ := hd
  have hres : ∀ (i : Nat) (o : Oper) (r : ROper), ops[i]? = some o → rs[i]? = some r → resOper P ops n o = some r := by
    have key : ∀ (l : List Oper) (rl : List ROper), l.mapM (resOper P ops n) = some rl → ∀ (i : Nat) (o : Oper) (r : ROper), l[i]? = some o → rl[i]? = some r → resOper P ops n o = some r := by
      intro l
      induction l with
      | nil => intro rl _ i o r ho; simp at ho
      | cons o l ih =>
        intro rl hm i o' r' ho hr
        rw [List.mapM_cons] at hm
        simp only [Option.bind_eq_bind, Option.bind_eq_some_iff, Option.pure_def, Option.some.injEq] at hm
        obtain ⟨r, h1, rs, h2, rfl⟩ := hm
        cases i with
        | zero => simp at ho hr; subst ho hr; exact h1
        | succ i => exact ih rs h2 i o' r' (by simpa using ho) (by simpa using hr)
    intro i o r ho hr
    exact key _ _ hmap i o r (by simpa using ho) hr
  have hfrom := from_segs (P := P) (c := c) (Q := Q) hn hdie (downOk_spec d3) hK segs 0 d4 (by omega) (fun i o r ho hr => hres i o r (by simpa using ho) (by rw [← hfl]; exact hr))
  obtain ⟨R, G, hR⟩ := hR
  have hR0 : Rel c st a { w with drawn := w.drawn + 1 } := ⟨R, G, hR.quiet ⟨rfl, rfl, rfl, Nat.le_refl _, fun _ _ _ => rfl⟩⟩
  refine wp_region_any hm ?_
  have hfalse : ∀ i, i < ops.size → (Array.replicate ops.size false).getD i true = false := fun i hi => by simp [Array.getD_eq_getD_getElem?, hi]
  have hu : unl ops (Array.replicate ops.size false) = ops.size := by
    unfold unl
    have : (List.range ops.size).countP (fun i => !(Array.replicate ops.size false).getD i true) = (List.range ops.size).length := by
      rw [List.countP_eq_length]
      intro i hi
      rw [hfalse i (List.mem_range.1 hi)]; rfl
    rw [this]; simp
  exact hfrom ops.size _ st a _ hu ⟨by simp, fun i j hi hl => (by rw [hfalse i hi] at hl; cases hl), fun i hi => by omega, fun i _ hi => hfalse i hi⟩ h hR0
end
end Go.Proofs.Ytjhdlcmecbngkaa
/- The code of a function, resolved, and that it does what is said of it. No program in sight. -/
namespace Go.Proofs.Ytjhdlcmecbngkaa
open Go.RowKit
set_option linter.unusedVariables false
inductive Ex where
  | normal
  | exit (id : Nat)
  | ret
inductive RCode where
  | skip
  | reg (ops : List ROper)
  | dreg (segs : List (List ROper))
  | seq (a b : RCode)
  | cond (c : Operand) (a b : RCode)
  | block (id : Nat) (a : RCode)
  | loop (a : RCode)
  | exit (id : Nat)
  | ret
def resCode (P : Program) (n : Nat) : Code → Option RCode
  | .skip => some .skip
  | .label _ => some .skip
  | .region _ ops draw => match ops.toList.mapM (resOper P ops n) with
    | none => none
    | some rs => if draw then (if P.follows .mixedOrders && dOk ops rs (segsOf ops rs) then some (.dreg (segsOf ops rs)) else none) else some (.reg rs)
  | .seq a b => match resCode P n a, resCode P n b with
    | some x, some y => some (.seq x y)
    | _, _ => none
  | .cond c a b => match resCode P n a, resCode P n b with
    | some x, some y => some (.cond c x y)
    | _, _ => none
  | .block id a => match resCode P n a with
    | some x => some (.block id x)
    | none => none
  | .loop a => match resCode P n a with
    | some x => some (.loop x)
    | none => none
  | .scope a => resCode P n a
  | .exit id => some (.exit id)
  | .ret => some .ret
  | _ => none
theorem cuts_flat (ms : List Nat) : ∀ (rs : List ROper) (i : Nat) (cur : List ROper), (cutsFrom ms i cur rs).flatten = cur.reverse ++ rs
  | [], i, cur => by
    unfold cutsFrom
    cases cur with
    | nil => rfl
    | cons a cur => simp
  | r :: rs, i, cur => by
    unfold cutsFrom
    split
    · rw [List.flatten_cons, cuts_flat ms rs (i + 1) [r]]; simp
    · rw [cuts_flat ms rs (i + 1) (r :: cur)]; simp
theorem segs_flat (ops : Array Oper) (rs : List ROper) : (segsOf ops rs).flatten = rs := by
  unfold segsOf; rw [cuts_flat]; rfl
/-- what is known before is enough for what is said to be known behind -/
def Adapt (st st' : St) : Prop := ∀ c a w, Rel c st a w → Rel c st' a w
def thenQ (Q : Ex → St → Prop) (K : St → Prop) : Ex → St → Prop
  | .normal, st => K st
  | e, st => Q e st
def inBlk (id : Nat) (Q : Ex → St → Prop) : Ex → St → Prop
  | .exit j, st => if j = id then Q .normal st else Q (.exit j) st
  | e, st => Q e st
def wpv (P : Program) : RCode → (Ex → St → Prop) → St → Prop
  | .skip, Q, st => Q .normal st
  | .reg ops, Q, st => wpR P ops st (Q .normal)
  | .dreg segs, Q, st => wpS P segs st (Q .normal)
  | .seq a b, Q, st => wpv P a (thenQ Q fun st' => wpv P b Q st') st
  | .cond c a b, Q, st => match val st.env c with
    | .v (.bool t) => (t = true → wpv P a Q st) ∧ (t = false → wpv P b Q st)
    | _ => False
  | .block id a, Q, st => wpv P a (inBlk id Q) st
  | .loop a, Q, st => ∃ (X : Type) (hd : X → St) (μ : X → Nat), (∀ c a w, Rel c st a w → ∃ x, Rel c (hd x) a w) ∧ ∀ x, wpv P a (thenQ Q fun st' => ∀ c a w, Rel c st' a w → ∃ x', μ x' < μ x ∧ Rel c (hd x') a w) (hd x)
  | .exit id, Q, st => Q (.exit id) st
  | .ret, Q, st => Q .ret st
def lift (c : Ctx) (Q : Ex → St → Prop) : Exit → Act → World → Prop
  | .normal, a, w => ∃ st, Q .normal st ∧ Rel c st a w
  | .exit id, a, w => ∃ st, Q (.exit id) st ∧ Rel c st a w
  | .ret, a, w => ∃ st, Q .ret st ∧ Rel c st a w
  | .panic ch, a, w => ∃ v, ch = [{ v := v, recovered := false }] ∧ c.D v ∧ Fr c.L c.w0 w ∧ a.defers = []
  | _, _, _ => False
theorem dieOk_lift (c : Ctx) (Q : Ex → St → Prop) : DieOk c (lift c Q) := fun v a w h1 h2 h3 => ⟨v, rfl, h1, h2, h3⟩
theorem code_sound {P : Program} {c : Ctx} {n : Nat} (hn : c.n = n) : ∀ (code : Code) {rc : RCode} {Q : Ex → St → Prop} {st : St} {a : Act} {w : World}, resCode P n code = some rc → wpv P rc Q st → Rel c st a w → code.wp P (lift c Q) a w
  | .skip, rc, Q, st, a, w, hr, h, hR => by
    simp only [resCode, Option.some.injEq] at hr; subst hr
    exact wp_skip ⟨st, h, hR⟩
  | .label l, rc, Q, st, a, w, hr, h, hR => by
    simp only [resCode, Option.some.injEq] at hr; subst hr
    exact wp_label ⟨st, h, hR⟩
  | .region id ops draw, rc, Q, st, a, w, hr, h, hR => by
    simp only [resCode] at hr
    split at hr
    · cases hr
    · rename_i rs hmap
      cases draw with
      | true =>
        simp only [if_true] at hr
        split at hr
        · rename_i hc
          simp only [Bool.and_eq_true] at hc
          simp only [Option.some.injEq] at hr; subst hr
          exact dreg_sound hn (dieOk_lift c Q) hc.1 hc.2 (segs_flat _ _) hmap h hR fun st' a' w' hk hr' => ⟨st', hk, hr'⟩
        · cases hr
      | false =>
        simp only [Bool.false_eq_true, if_false, Option.some.injEq] at hr; subst hr
        exact wp_region_list (reg_sound hn (dieOk_lift c Q) ops.toList rs hmap h hR fun st' a' w' hk hr' => ⟨st', hk, hr'⟩)
  | .seq x y, rc, Q, st, a, w, hr, h, hR => by
    simp only [resCode] at hr
    split at hr
    · rename_i rx ry hx hy
      simp only [Option.some.injEq] at hr; subst hr
      refine wp_seq (wp_mono (code_sound hn x hx h hR) fun e a w he => ?_)
      cases e with
      | normal => obtain ⟨st', h1, h2⟩ := he; exact code_sound hn y hy h1 h2
      | exit id => exact he
      | ret => exact he
      | goto l => exact he
      | panic ch => exact he
      | outgrown => exact he
    · cases hr
  | .cond cd x y, rc, Q, st, a, w, hr, h, hR => by
    simp only [resCode] at hr
    split at hr
    · rename_i rx ry hx hy
      simp only [Option.some.injEq] at hr; subst hr
      simp only [wpv] at h
      split at h
      · rename_i t ht
        obtain ⟨R, G, hRR⟩ := hR
        have hv : a.eval cd = .bool t := rv_v (ht ▸ hRR.val cd)
        exact wp_cond_split hv (fun e => code_sound hn x hx (h.1 e) ⟨R, G, hRR⟩) (fun e => code_sound hn y hy (h.2 e) ⟨R, G, hRR⟩)
      · exact h.elim
    · cases hr
  | .block id x, rc, Q, st, a, w, hr, h, hR => by
    simp only [resCode] at hr
    split at hr
    · rename_i rx hx
      simp only [Option.some.injEq] at hr; subst hr
      refine wp_block (wp_mono (code_sound hn x hx h hR) fun e a w he => ?_)
      cases e with
      | normal => exact he
      | exit j =>
        obtain ⟨st', h1, h2⟩ := he
        simp only [inBlk] at h1
        simp only [Exit.inBlock]
        split
        · rename_i hj; rw [if_pos hj] at h1; exact ⟨st', h1, h2⟩
        · rename_i hj; rw [if_neg hj] at h1; exact ⟨st', h1, h2⟩
      | ret => exact he
      | goto l => exact he
      | panic ch => exact he
      | outgrown => exact he
    · cases hr
  | .loop cd, rc, Q, st, a, w, hr, h, hR => by
    simp only [resCode] at hr
    split at hr
    · rename_i rx hx
      simp only [Option.some.injEq] at hr; subst hr
      simp only [wpv] at h
      obtain ⟨X, hd, μ, h0, hround⟩ := h
      obtain ⟨x0, h0⟩ := h0 c a w hR
      have key : ∀ (m : Nat) (y : X) (a : Act) (w : World), μ y < m → Rel c (hd y) a w → Code.rounds P cd (lift c Q) m a w := by
        intro m
        induction m with
        | zero => intro y a w hm; omega
        | succ m ih =>
          intro y a w hm hR
          rw [rounds_succ]
          refine wp_mono (code_sound hn cd hx (hround y) hR) fun e a w he => ?_
          cases e with
          | normal =>
            obtain ⟨st', h12, h3⟩ := he
            obtain ⟨y', h1, h2⟩ := h12 c a w h3
            exact ih y' a w (by omega) h2
          | exit id => exact he
          | ret => exact he
          | goto l => exact he
          | panic ch => exact he
          | outgrown => exact he
      exact wp_loop_rounds _ (key (μ x0 + 1) x0 a w (by omega) h0)
    · cases hr
  | .scope x, rc, Q, st, a, w, hr, h, hR => by
    simp only [resCode] at hr
    refine wp_scope_straight (wp_mono (code_sound hn x hr h hR) fun e a w he => ?_)
    cases e <;> first | exact he | exact he.elim
  | .exit id, rc, Q, st, a, w, hr, h, hR => by
    simp only [resCode, Option.some.injEq] at hr; subst hr
    exact wp_exit ⟨st, h, hR⟩
  | .ret, rc, Q, st, a, w, hr, h, hR => by
    simp only [resCode, Option.some.injEq] at hr; subst hr
    exact wp_ret ⟨st, h, hR⟩
  | .goto l, rc, Q, st, a, w, hr, h, hR => by simp [resCode] at hr
  | .rangeFunc f ps as b, rc, Q, st, a, w, hr, h, hR => by simp [resCode] at hr
  | .refuse y, rc, Q, st, a, w, hr, h, hR => by simp [resCode] at hr
/-- a frame as it begins -/
def entryEnv (ps : List Par) : Nat → V := fun i => match ps[i]? with
  | some (.c u) => u
  | some (.o _ _ _) => .own (16 * i) 0
  | none => .v undef
def entryH (ps : List Par) : Nat → Option Ent := fun id => if id % 16 = 0 then match ps[id / 16]? with
  | some (.o T sz rows) => some ⟨0, .t T, sz, rows⟩
  | _ => none
  else none
def noD : Value → Prop := fun _ => False
def entry (ps : List Par) : St := ⟨entryEnv ps, entryH ps, noD⟩
theorem entry_rel {w : World} {R : Nat → Prop} {ps : List Par} {xs : List Value} {n : Nat} (hlt : ∀ b, R b → b < w.heap.size) (hp : Pars w R ps xs) (hn : ps.length ≤ n) :
    ∃ G0, Rel ⟨w, R, ParBlk ps xs, n, noD, G0⟩ (entry ps) { tmps := xs.toArray ++ Array.replicate (n - xs.toArray.size) undef, defers := [] } w := by
  have hget : ∀ i, (xs.toArray ++ Array.replicate (n - xs.toArray.size) undef).getD i undef = (xs[i]?).getD undef := fun i => by
    rw [Array.getD_eq_getD_getElem?, Array.getElem?_append]
    split
    · simp
    · rename_i h
      rw [List.getElem?_eq_none (by simpa using h)]
      rw [Array.getElem?_replicate]
      split <;> rfl
  have hG : ∀ (id : Nat) (T : TypeId) (sz : Nat) (rows : List (List V)) (x : Value), id % 16 = 0 → ps[id / 16]? = some (.o T sz rows) → xs[id / 16]? = some x → True := fun _ _ _ _ _ _ _ _ => trivial
  let G : Nat → Option Loc := fun id => if id % 16 = 0 then match ps[id / 16]?, xs[id / 16]? with
    | some (.o T sz rows), some x => some ⟨0, sz, x, false, none⟩
    | _, _ => none
    else none
  have hGi : ∀ i T sz rows x, ps[i]? = some (.o T sz rows) → xs[i]? = some x → G (16 * i) = some ⟨0, sz, x, false, none⟩ := fun i T sz rows x h1 h2 => by
    show (if (16 * i) % 16 = 0 then _ else _) = _
    rw [if_pos (by omega), show 16 * i / 16 = i by omega, h1, h2]
  have hinv : ∀ id l, G id = some l → ∃ T rows x, id % 16 = 0 ∧ ps[id / 16]? = some (.o T l.sz rows) ∧ xs[id / 16]? = some x ∧ l = ⟨0, l.sz, x, false, none⟩ := fun id l h => by
    have h' : (if id % 16 = 0 then match ps[id / 16]?, xs[id / 16]? with
      | some (.o T sz rows), some x => some (⟨0, sz, x, false, none⟩ : Loc)
      | _, _ => none
      else none) = some l := h
    split at h'
    · rename_i hz
      split at h'
      · rename_i T sz rows x h1 h2
        injection h' with h'; subst h'
        exact ⟨T, rows, x, hz, h1, h2, rfl⟩
      · cases h'
    · cases h'
  have hHinv : ∀ id e, entryH ps id = some e → id % 16 = 0 ∧ (∃ T, e.T = .t T ∧ ps[id / 16]? = some (.o T e.sz e.rows)) ∧ e.gen = 0 := fun id e h => by
    unfold entryH at h
    split at h
    · rename_i hz
      split at h
      · rename_i T sz rows h1
        injection h with h; subst h
        exact ⟨hz, ⟨T, rfl, h1⟩, rfl⟩
      · cases h
    · cases h
  refine ⟨G, R, G, ?_, ⟨?_, ?_, ?_, ?_⟩, hlt, fun b hb => .inl hb, fun b hb => hb, Fr.refl _ _, ?_, rfl, rfl, Gle.refl _⟩
  · intro i
    show RV w R G (entryEnv ps i) ((xs.toArray ++ Array.replicate (n - xs.toArray.size) undef).getD i undef)
    rw [hget]
    unfold entryEnv
    cases hpi : ps[i]? with
    | none =>
      have : xs[i]? = none := by
        rw [List.getElem?_eq_none_iff] at hpi ⊢
        have := hp.len; omega
      rw [this]; exact .v _
    | some p =>
      have hi : i < xs.length := by rw [← hp.len]; exact (List.getElem?_eq_some_iff.1 hpi).1
      have hx : xs[i]? = some xs[i] := List.getElem?_eq_getElem hi
      rw [hx]
      have hok := hp.ok i p _ hpi hx
      cases p with
      | c u => exact rv_noG hok
      | o T sz rows => exact .own _ _ _ (hGi i T sz rows _ hpi hx) (Nat.le_refl _) _ fun _ => ⟨rfl, rfl⟩
  · intro id e l h1 h2
    obtain ⟨_, _, h3⟩ := hHinv id e h1
    obtain ⟨T, rows, x, _, _, _, h4⟩ := hinv id l h2
    rw [h4]; exact Nat.zero_le _
  · intro id e l h1 h2 _
    obtain ⟨h3, ⟨T', h35, h4⟩, h5⟩ := hHinv id e h1
    obtain ⟨T, rows, x, _, h6, h7, h8⟩ := hinv id l h2
    rw [h4] at h6
    injection h6 with h6
    injection h6 with q1 q2 q3
    obtain ⟨p1, zs, p2, p3⟩ := hp.ok _ _ _ h4 h7
    refine objOk_of (T := T') (.inl h35) (by rw [h8]) q2.symm p1 (by rw [h8]; exact p2) (p3.mono (fun b hb => ⟨hb, rfl⟩) (noG_le _))
  · intro id id' e e' l l' b h1 h2 hne h3 h4 _ _ h5 h6
    obtain ⟨k1, ⟨_, _, k2⟩, _⟩ := hHinv id e h1
    obtain ⟨k3, ⟨_, _, k4⟩, _⟩ := hHinv id' e' h2
    obtain ⟨_, _, x, _, _, m1, m2⟩ := hinv id l h3
    obtain ⟨_, _, y, _, _, m3, m4⟩ := hinv id' l' h4
    rw [m2] at h5
    rw [m4] at h6
    have h5 := (Loc.ft_of rfl).1 h5
    have h6 := (Loc.ft_of rfl).1 h6

    exact hp.apart _ _ _ _ _ _ _ _ x y b (by omega) k2 k4 m1 m3 h5 h6
  · intro id e l b h1 h2 _ h3
    obtain ⟨k1, ⟨_, _, k2⟩, _⟩ := hHinv id e h1
    obtain ⟨_, _, x, _, _, m1, m2⟩ := hinv id l h2
    rw [m2] at h3
    have h3 := (Loc.ft_of rfl).1 h3
    have hb : ParBlk ps xs b := ⟨_, _, _, _, x, k2, m1, h3⟩
    exact ⟨hp.free b hb, .inl hb⟩
  · have := hp.len
    simp; omega
/-- what is handed back -/
def Ret (ts : List Nat) (rs : List Par) (st : St) : Prop := ∃ gone, ArgsOk st.H gone true gone (ts.map st.env) rs
def retQ (ts : List Nat) (rs : List Par) : Ex → St → Prop
  | .exit _, _ => False
  | _, st => Ret ts rs st
theorem run_results {P : Program} {fn : Func} {ts : List Nat} (h : fn.results.toList = ts.map .tmp) (tmps : Array Value) (w : World) : (results fn tmps).run P w = .ok (packV (ts.map fun t => tmps.getD t undef)) w := by
  have e : fn.results = (ts.map ResultVar.tmp).toArray := by apply Array.ext'; simpa using h
  have key : ∀ ts : List Nat, ((ts.map ResultVar.tmp).mapM fun (r : ResultVar) => match r with
      | .tmp t => (pure (tmps.getD t undef) : Sem Value)
      | .cell a t => (do loadVar t (← asAddr (tmps.getD a undef)))).run P w = .ok (ts.map fun t => tmps.getD t undef) w := by
    intro ts
    induction ts with
    | nil => simp
    | cons t ts ih =>
      rw [List.map_cons, List.mapM_cons]
      simp only [Sem.run_bind, Sem.run_pure, Result.andThen_ok]
      rw [ih]; rfl
  unfold results
  rw [e]
  simp only [Sem.run_bind]
  rw [Array.mapM_eq_mapM_toList, Sem.run_map]
  have k := key ts
  refine (congrArg (fun r => Result.andThen (Result.andThen r fun a w' => Result.ok (List.toArray a) w') _) k).trans ?_
  simp only [Result.andThen_ok, Sem.run_pure]
  match ts with
  | [] => rfl
  | [t] => rfl
  | t :: t' :: ts => simp [packV]
theorem fun_intro {P : Program} {f : FuncId} {fn : Func} {code : Code} {rc : RCode} {ps rs : List Par} {ts : List Nat} (hf : P.funcs[f]? = some fn) (hb : fn.body = some code) (hname : (fn.name == "runtime.NumGoroutine") = false) (hres : resCode P fn.ntmps code = some rc)
    (hlen : ps.length ≤ fn.ntmps) (hts : fn.results.toList = ts.map .tmp) (h : wpv P rc (retQ ts rs) (entry ps)) : Fun P f ps rs := by
  refine ⟨⟨fn, hf, hname, by rw [hb]; rfl⟩, fun w R xs hlt hp => ?_⟩
  refine calls_of_wp hf hb ?_
  obtain ⟨G0, hrel⟩ := entry_rel (n := fn.ntmps) hlt hp hlen
  refine wp_mono (code_sound (c := ⟨w, R, ParBlk ps xs, fn.ntmps, noD, G0⟩) rfl code hres h hrel) fun e a' w' he => ?_
  have fin : ∀ st, Ret ts rs st → Rel ⟨w, R, ParBlk ps xs, fn.ntmps, noD, G0⟩ st a' w' → a'.defers = [] ∧ ∃ v, (results fn a'.tmps).run P w' = .ok v w' ∧ ∃ (ys : List Value) (R' : Nat → Prop), Ending.returned v = .returned (packV ys) ∧ Fr (ParBlk ps xs) w w' ∧ (∀ b, R b → R' b) ∧
      (∀ b, R' b → R b ∨ (b < w'.heap.size ∧ (ParBlk ps xs b ∨ w.heap.size ≤ b))) ∧ Pars w' R' rs ys ∧ (∀ b, ParBlk rs ys b → ParBlk ps xs b ∨ w.heap.size ≤ b) := fun st ⟨gone, hA⟩ ⟨R2, G, hR⟩ => by
    refine ⟨hR.defers, _, run_results hts _ _, (ts.map fun t => a'.tmps.getD t undef), RB R2 G st.H gone true, rfl, hR.fr, fun b hb => .inl (hR.old b hb), ?_, ?_⟩
    · rintro b (hb | ⟨_, id, e, l, _, q1, q2, q3, q4⟩)
      · rcases hR.src b hb with q | q
        · exact .inl q
        · exact .inr ⟨hR.lt b hb, q⟩
      · exact .inr ⟨hR.hr.lt q1 q2 q3 q4, (hR.hr.mine id e l b q1 q2 q3 q4).2⟩
    · obtain ⟨h1, h2⟩ := args_pars hR (bor0 := true) (xs := ts.map fun t => a'.tmps.getD t undef) hA (fun e => e) (by simp) (fun i u x h3 h4 => by
        rw [List.getElem?_map] at h3 h4
        cases hq : ts[i]? with
        | none => rw [hq] at h3; cases h3
        | some t => rw [hq] at h3 h4; simp only [Option.map_some, Option.some.injEq] at h3 h4; subst h3 h4; exact hR.env t) (fun id hid => hid)
      refine ⟨h1, fun b hb => ?_⟩
      obtain ⟨id, _, e, l, q1, q2, q3, q4⟩ := h2 b hb
      exact (hR.hr.mine id e l b q1 q2 q3 q4).2
  cases e with
  | normal => obtain ⟨st, h1, h2⟩ := he; exact fin st h1 h2
  | ret => obtain ⟨st, h1, h2⟩ := he; exact fin st h1 h2
  | exit id => obtain ⟨st, h1, h2⟩ := he; exact h1.elim
  | goto l => exact he.elim
  | panic ch => obtain ⟨v, _, h2, _⟩ := he; exact h2.elim
  | outgrown => exact he.elim
end Go.Proofs.Ytjhdlcmecbngkaa
/- Words for proofs over resolved code. No program in sight. -/
namespace Go.Proofs.Ytjhdlcmecbngkaa
open Go.RowKit
set_option linter.unusedVariables false
def tmpsOfRes : List ResultVar → Option (List Nat)
  | [] => some []
  | .tmp t :: r => match tmpsOfRes r with
    | some ts => some (t :: ts)
    | none => none
  | .cell _ _ :: _ => none
theorem tmpsOfRes_spec : ∀ (l : List ResultVar) {ts : List Nat}, tmpsOfRes l = some ts → l = ts.map .tmp
  | [], ts, h => by simp only [tmpsOfRes, Option.some.injEq] at h; subst h; rfl
  | .tmp t :: r, ts, h => by
    simp only [tmpsOfRes] at h
    split at h
    · rename_i ts' h'
      simp only [Option.some.injEq] at h; subst h
      rw [tmpsOfRes_spec r h']; rfl
    · cases h
  | .cell a t :: r, ts, h => by simp [tmpsOfRes] at h
/-- all that is to be checked of a function's text -/
def chkFun (P : Program) (f np : Nat) : Option (RCode × List Nat) :=
  match P.funcs[f]? with
  | none => none
  | some fn => match fn.body with
    | none => none
    | some code => if (fn.name == "runtime.NumGoroutine") || !(decide (np ≤ fn.ntmps)) then none else match resCode P fn.ntmps code, tmpsOfRes fn.results.toList with
      | some rc, some ts => some (rc, ts)
      | _, _ => none
theorem fun_of {P : Program} {f : FuncId} {np : Nat} {rc : RCode} {ts : List Nat} {ps rs : List Par} (hc : chkFun P f np = some (rc, ts)) (hn : ps.length = np) (h : wpv P rc (retQ ts rs) (entry ps)) : Fun P f ps rs := by
  unfold chkFun at hc
  split at hc
  · cases hc
  · rename_i fn hf
    split at hc
    · cases hc
    · rename_i code hb
      split at hc
      · cases hc
      · rename_i hk
        simp only [Bool.or_eq_true, not_or, Bool.not_eq_true', Bool.not_eq_true, decide_eq_false_iff_not, Classical.not_not] at hk
        split at hc
        · rename_i rc' ts' h1 h2
          simp only [Option.some.injEq, Prod.mk.injEq] at hc
          obtain ⟨rfl, rfl⟩ := hc
          refine fun_intro hf hb ?_ h1 ?_ (tmpsOfRes_spec _ h2) h
          · exact hk.1
          · rw [hn]; simpa using hk.2
        · cases hc
theorem wrap_ok {n : Int} (h1 : -9223372036854775808 ≤ n) (h2 : n ≤ 9223372036854775807) : IntKind.i64.wrap n = n := IntWalk.i64_in n ⟨h1, h2⟩
/-- what is known, forgotten but for some slots and objects -/
theorem adapt_keep {st st' : St} (he : ∀ i, st'.env i = .any ∨ st'.env i = st.env i) (hH : ∀ id e, st'.H id = some e → st.H id = some e) (hD : st'.D = st.D) : Adapt st st' := fun c a w ⟨R, G, h⟩ => by
  refine ⟨R, G, fun i => ?_, h.hr.sub hH, h.lt, h.src, h.old, h.fr, h.n, h.defers, hD.trans h.die, h.gle⟩
  rcases he i with q | q
  · rw [q]; exact .any _
  · rw [q]; exact h.env i
end Go.Proofs.Ytjhdlcmecbngkaa
/- The same in a form that is reckoned out: what is left to show stands in front. No program in sight. -/
namespace Go.Proofs.Ytjhdlcmecbngkaa
open Go.RowKit
set_option linter.unusedVariables false
abbrev Env := Nat → V
abbrev Hp := Nat → Option Ent
def f1 (v : V) (K : V → Prop) : Prop := match v with
  | .v (.int k n) => K (.v (.int k n))
  | .v (.bool b) => K (.v (.bool b))
  | .v (.string s) => K (.v (.string s))
  | .v (.slice a n c) => K (.v (.slice a n c))
  | .v (.tuple xs) => K (.v (.tuple xs))
  | .v (.pointer x) => K (.v (.pointer x))
  | .v (.func f a b) => K (.v (.func f a b))
  | .v x => K (.v x)
  | .any => K .any
  | .agg cs => K (.agg cs)
  | .tup us => K (.tup us)
  | .sl c rows => K (.sl c rows)
  | .own id g => K (.own id g)
  | .ptr id g i o => K (.ptr id g i o)
  | .rptr row o => K (.rptr row o)
  | .clo f cs => K (.clo f cs)
  | .obj id g => K (.obj id g)
  | .rmap es => K (.rmap es)
  | .osub id g a b => K (.osub id g a b)
theorem f1_eq (v : V) (K : V → Prop) : f1 v K = K v := by
  unfold f1; split <;> rfl
def fL : List V → (List V → Prop) → Prop
  | [], K => K []
  | v :: vs, K => f1 v fun v => fL vs fun vs => K (v :: vs)
theorem fL_eq : ∀ (vs : List V) (K : List V → Prop), fL vs K = K vs
  | [], K => rfl
  | v :: vs, K => by rw [fL, f1_eq, fL_eq]
def kk (k k' : IntKind) (p : Prop) : Prop := if k = k' then p else False
theorem kk_iff {k k' : IntKind} {p : Prop} (h : kk k k' p) : k = k' ∧ p := by
  unfold kk at h; split at h
  · exact ⟨‹_›, h⟩
  · exact h.elim
def bIf (t : Bool) (A B : Prop) : Prop := match t with
  | true => A
  | false => B
theorem bIf_of {t : Bool} {A B : Prop} (h1 : t = true → A) (h2 : t = false → B) : bIf t A B := by cases t; exact h2 rfl; exact h1 rfl
theorem bIf_true {t : Bool} {A B : Prop} (ht : t = true) (h1 : A) : bIf t A B := by subst ht; exact h1
theorem bIf_false {t : Bool} {A B : Prop} (ht : t = false) (h1 : B) : bIf t A B := by subst ht; exact h1
theorem bIf_to {t : Bool} {A B : Prop} (h : bIf t A B) : (t = true → A) ∧ (t = false → B) := by
  cases t
  · exact ⟨(fun e => by cases e), fun _ => h⟩
  · exact ⟨fun _ => h, (fun e => by cases e)⟩
def intX (op : BinOp) (k : IntKind) (x : Int) (k' : IntKind) (y : Int) (K : Value → Prop) : Prop :=
  match op with
  | .add => kk k k' (∃ c, k.wrap (x + y) = c ∧ K (.int k c))
  | .sub => kk k k' (∃ c, k.wrap (x - y) = c ∧ K (.int k c))
  | .mul => kk k k' (∃ c, k.wrap (x * y) = c ∧ K (.int k c))
  | .quo => kk k k' (y ≠ 0 ∧ ∃ c, k.wrap (x.tdiv y) = c ∧ K (.int k c))
  | .rem => kk k k' (y ≠ 0 ∧ ∃ c, x.tmod y = c ∧ K (.int k c))
  | .shl => 0 ≤ y ∧ ∃ c, k.wrap (x * 2 ^ (min y.toNat k.bits)) = c ∧ K (.int k c)
  | .shr => 0 ≤ y ∧ ∃ c, x.fdiv (2 ^ (min y.toNat k.bits)) = c ∧ K (.int k c)
  | .and => kk k k' (∃ c, k.wrap ((BitVec.ofInt k.bits x &&& BitVec.ofInt k.bits y).toNat) = c ∧ K (.int k c))
  | .or => kk k k' (∃ c, k.wrap ((BitVec.ofInt k.bits x ||| BitVec.ofInt k.bits y).toNat) = c ∧ K (.int k c))
  | .eql => kk k k' (K (.bool (x == y)))
  | .neq => kk k k' (K (.bool (x != y)))
  | .lss => kk k k' (K (.bool (decide (x < y))))
  | .leq => kk k k' (K (.bool (decide (x ≤ y))))
  | .gtr => kk k k' (K (.bool (decide (y < x))))
  | .geq => kk k k' (K (.bool (decide (y ≤ x))))
  | _ => False
theorem intX_to {op : BinOp} {k k' : IntKind} {x y : Int} {K : Value → Prop} (h : intX op k x k' y K) : intK op k x k' y K := by
  cases op <;> first | exact kk_iff h | exact h
def binX (op : BinOp) (a b : Value) (K : Value → Prop) : Prop :=
  match a, b with
  | .int k x, .int k' y => intX op k x k' y K
  | .string x, .string y => strK op x y K
  | _, _ => False
theorem binX_to {op : BinOp} {a b : Value} {K : Value → Prop} (h : binX op a b K) : binK op a b K := by
  unfold binX at h; unfold binK
  split at h
  · exact intX_to h
  · exact h
  · exact h.elim
/-- an object looked up -/
def atH (H : Hp) (id gen : Nat) (K : Ent → Prop) : Prop := match H id with
  | some e => e.gen = gen ∧ K e
  | none => False
theorem atH_to {H : Hp} {id gen : Nat} {K : Ent → Prop} (h : atH H id gen K) : ∃ e, H id = some e ∧ e.gen = gen ∧ K e := by
  unfold atH at h; split at h
  · rename_i e he; exact ⟨e, he, h.1, h.2⟩
  · exact h.elim
def bX (b : Bool) (K : Prop) : Prop := match b with
  | true => K
  | false => False
theorem bX_to {b : Bool} {K : Prop} (h : bX b K) : b = true ∧ K := by cases b; exact h.elim; exact ⟨rfl, h⟩
def oneX (H : Hp) (v : V) (K : Prop) : Prop := match v with
  | .v x => bX x.oneCell' K
  | .sl _ _ => K
  | .rptr _ _ => K
  | .clo _ _ => K
  | .rmap _ => K
  | .own id g => atH H id g fun _ => K
  | .ptr id g _ _ => atH H id g fun _ => K
  | _ => False
theorem oneX_to {H : Hp} {v : V} {K : Prop} (h : oneX H v K) : one H v ∧ K := by
  cases v <;> first
    | exact bX_to h
    | exact ⟨trivial, h⟩
    | (obtain ⟨e, h1, h2, h3⟩ := atH_to h; exact ⟨⟨e, h1, h2⟩, h3⟩)
    | exact h.elim
def onesX (H : Hp) : List V → Prop → Prop
  | [], K => K
  | v :: vs, K => oneX H v (onesX H vs K)
theorem onesX_to {H : Hp} : ∀ {vs : List V} {K : Prop}, onesX H vs K → ones H vs ∧ K
  | [], K, h => ⟨trivial, h⟩
  | v :: vs, K, h => by
    obtain ⟨h1, h2⟩ := oneX_to h
    obtain ⟨h3, h4⟩ := onesX_to h2
    exact ⟨⟨h1, h3⟩, h4⟩
def fillX (env : Env) (H : Hp) : List V → List (Nat × Nat × Operand) → (List V → Prop) → Prop
  | cs, [], K => K cs
  | cs, (off, sz, x) :: ps, K => match cellsV (val env x) with
    | some us => bX (Nat.beq us.length sz) (bX (Nat.ble (off + sz) cs.length) (onesX H us (fL (putV cs off us) fun cs' => fillX env H cs' ps K)))
    | none => False
theorem fillX_to {env : Env} {H : Hp} : ∀ (ps : List (Nat × Nat × Operand)) (cs : List V) {K : List V → Prop}, fillX env H cs ps K → fillV env H cs ps K
  | [], cs, K, h => h
  | (off, sz, x) :: ps, cs, K, h => by
    simp only [fillX, fillV] at h ⊢
    split at h
    · rename_i us hu
      simp only [hu]
      obtain ⟨h1, h⟩ := bX_to h
      obtain ⟨h2, h⟩ := bX_to h
      obtain ⟨h3, h⟩ := onesX_to h
      rw [fL_eq] at h
      exact ⟨Nat.eq_of_beq_eq_true h1, Nat.le_of_ble_eq_true h2, h3, fillX_to ps _ h⟩
    · exact h.elim
def fillRX (env : Env) (H : Hp) (sz : Nat) : List (List V) → List (Nat × Operand) → (List (List V) → Prop) → Prop
  | rows, [], K => K rows
  | rows, (i, x) :: ps, K => match cellsV (val env x) with
    | some us => fL us fun us => bX (Nat.beq us.length sz) (bX (Nat.ble (i + 1) rows.length) (onesX H us (fillRX env H sz (rows.set i us) ps K)))
    | none => False
theorem fillRX_to {env : Env} {H : Hp} {sz : Nat} : ∀ (ps : List (Nat × Operand)) (rows : List (List V)) {K : List (List V) → Prop}, fillRX env H sz rows ps K → fillR env H sz rows ps K
  | [], cs, K, h => h
  | (i, x) :: ps, cs, K, h => by
    simp only [fillRX, fillR] at h ⊢
    split at h
    · rename_i us hu
      simp only [hu]
      rw [fL_eq] at h
      obtain ⟨h1, h⟩ := bX_to h
      obtain ⟨h2, h⟩ := bX_to h
      obtain ⟨h3, h⟩ := onesX_to h
      exact ⟨Nat.eq_of_beq_eq_true h1, Nat.le_of_ble_eq_true h2, h3, fillRX_to ps _ h⟩
    · exact h.elim
def srcX (H : Hp) (sz : Nat) (v : V) (K : List (List V) → Prop) : Prop := match v with
  | .own id g => atH H id g fun e => e.sz = sz ∧ K e.rows
  | .sl _ rows => (∀ row ∈ rows, row.length = sz ∧ ones H row) ∧ K rows
  | .v (.slice none 0 0) => K []
  | _ => False
theorem srcX_to {H : Hp} {sz : Nat} {v : V} {K : List (List V) → Prop} (h : srcX H sz v K) : ∃ rows, srcRows H sz v rows ∧ K rows := by
  unfold srcX at h
  split at h
  · obtain ⟨e, h1, h2, h3, h4⟩ := atH_to h
    exact ⟨_, ⟨e, h1, h2, h3, rfl⟩, h4⟩
  · exact ⟨_, ⟨rfl, h.1⟩, h.2⟩
  · exact ⟨_, rfl, h⟩
  · exact h.elim
def resX (g : Nat → Nat) : Nat → List Par → Hp → (List V → Hp → Prop) → Prop
  | _, [], H, K => K [] H
  | k, .c u :: rs, H, K => resX g k rs H fun us H' => K (u :: us) H'
  | k, .o T sz rows :: rs, H, K => resX g (k + 1) rs (upd H k (some ⟨g k, .t T, sz, rows⟩)) fun us H' => K (.own k (g k) :: us) H'
theorem resX_eq (g : Nat → Nat) : ∀ (rs : List Par) (k : Nat) (H : Hp) (K : List V → Hp → Prop), resX g k rs H K = K (resV g k rs) (addH H (resH g k rs))
  | [], k, H, K => rfl
  | .c u :: rs, k, H, K => by rw [resX, resX_eq g rs]; rfl
  | .o T sz rows :: rs, k, H, K => by rw [resX, resX_eq g rs]; rfl
def dropsX : Hp → List Nat → Hp
  | H, [] => H
  | H, i :: l => dropsX (upd H i none) l
theorem dropsX_eq : ∀ (l : List Nat) (H : Hp), dropsX H l = addH H (l.map fun i => (i, none))
  | [], H => rfl
  | i :: l, H => dropsX_eq l (upd H i none)
def mkX (agg : Bool) (cs : List V) (K : V → Prop) : Prop := match agg with
  | true => fL cs fun cs => K (.agg cs)
  | false => f1 (cs.headD .any) K
theorem mkX_eq (agg : Bool) (cs : List V) (K : V → Prop) : mkX agg cs K = K (mkV agg cs) := by
  cases agg
  · exact f1_eq _ _
  · exact fL_eq _ _
def putX (r : ROper) (env : Env) (K : Env → Hp → Prop) (u : V) (H : Hp) : Prop := match r.dst with
  | some d => K (upd env d u) H
  | none => K env H
def jobX (g : Nat → Nat) (id gn : Nat) (p : ParM) (H : Hp) (K : V → Hp → Prop) : Prop := match p with
  | .p (.c u) => K u H
  | .p (.o T sz rows) => K (.own id gn) (upd H id (some ⟨gn, .t T, sz, rows⟩))
  | .pn T cells => resX g (kx id) cells H fun us H' => K (.ptr id gn 0 0) (upd H' id (some ⟨gn, .b T, cells.length, [us]⟩))
  | .po I => K (.ptr id gn 0 0) (upd H id (some ⟨gn, .q I, 0, []⟩))
  | _ => K .any H
theorem jobX_eq (g : Nat → Nat) (id gn : Nat) (p : ParM) (H : Hp) (K : V → Hp → Prop) : jobX g id gn p H K = K (jobV id gn p) (addH H (jobH g id gn p)) := by
  cases p with
  | p p => cases p <;> rfl
  | pn T cells => simp only [jobX, resX_eq, jobV, jobH, addH_append]; rfl
  | _ => rfl
def resMX (g : Nat → Nat) : Nat → List ParM → Hp → (List V → Hp → Prop) → Prop
  | _, [], H, K => K [] H
  | k, p :: rs, H, K => jobX g k (g k) p H fun u H' => resMX g (k + 1) rs H' fun us H'' => K (u :: us) H''
theorem resMX_eq (g : Nat → Nat) : ∀ (rs : List ParM) (k : Nat) (H : Hp) (K : List V → Hp → Prop), resMX g k rs H K = K (resMV g k rs) (addH H (resMH g k rs))
  | [], k, H, K => rfl
  | p :: rs, k, H, K => by rw [resMX, jobX_eq, resMX_eq g rs, resMH, addH_append]; rfl
def exit1X (g : Nat → Nat) (u : V) (p : ParM) (H : Hp) (K : Hp → Prop) : Prop := match p with
  | .ms T sz _ rows' => match u with | .own id gn => jobX g id gn (.p (.o T sz rows')) H fun _ H' => K H' | _ => K H
  | .mn T _ cells' => match u with | .ptr id gn _ _ => jobX g id gn (.pn T cells') H fun _ H' => K H' | _ => K H
  | .mo _ I' => match u with | .ptr id gn _ _ => jobX g id gn (.po I') H fun _ H' => K H' | _ => K H
  | _ => K H
theorem exit1X_eq (g : Nat → Nat) (u : V) (p : ParM) (H : Hp) (K : Hp → Prop) : exit1X g u p H K = K (addH H (exit1 g u p)) := by
  cases p <;> cases u <;> first | rfl | (simp only [exit1X, jobX_eq, exit1])
def exitX (g : Nat → Nat) : List V → List ParM → Hp → (Hp → Prop) → Prop
  | u :: us, p :: ps, H, K => exit1X g u p H fun H' => exitX g us ps H' K
  | _, _, H, K => K H
theorem exitX_eq (g : Nat → Nat) : ∀ (us : List V) (ps : List ParM) (H : Hp) (K : Hp → Prop), exitX g us ps H K = K (addH H (exitH g us ps))
  | u :: us, p :: ps, H, K => by rw [exitX, exit1X_eq, exitX_eq g us, exitH, addH_append]
  | [], [], H, K => rfl
  | [], _ :: _, H, K => rfl
  | _ :: _, [], H, K => rfl
def qX (e : Ent) (K : Opq → Prop) : Prop := match e.T with
  | .q I => K I
  | _ => False
theorem qX_to {e : Ent} {K : Opq → Prop} (h : qX e K) : ∃ I, e.T = .q I ∧ K I := by
  unfold qX at h; split at h
  · rename_i I hI; exact ⟨I, hI, h⟩
  · exact h.elim
def entsX (H : Hp) (v : V) (K : List (Value × V) → Prop) : Prop := match v with
  | .obj id g => atH H id g fun e => qX e fun I => ∃ ents, I = mapI ents ∧ K ents
  | .rmap ents => K ents
  | .v (.map none) => K []
  | _ => False
theorem entsX_to {H : Hp} {v : V} {K : List (Value × V) → Prop} (h : entsX H v K) : ∃ ents, entsOf H v ents ∧ K ents := by
  unfold entsX at h
  split at h
  · obtain ⟨e, h1, h2, h3⟩ := atH_to h
    obtain ⟨I, h4, ents, rfl, h5⟩ := qX_to h3
    exact ⟨ents, ⟨e, h1, h2, h4⟩, h5⟩
  · exact ⟨_, rfl, h⟩
  · exact ⟨_, rfl, h⟩
  · exact h.elim
def callX (P : Program) (H : Hp) (D : Value → Prop) (b : Nat) (f : FuncId) (us : List V) (K : List V → Hp → Prop) : Prop :=
  (∃ ps rs bor gone, ArgsOk H gone bor gone us ps ∧ Fun P f ps rs ∧ (bor = true → flatRes rs) ∧ rs.length ≤ 16 ∧ ∀ g : Nat → Nat, resX g b rs (dropsX H gone) K) ∨
  (∃ ps rs bor gone, ArgsM H gone bor gone us ps ∧ FunM P f ps rs ∧ (bor = true → ∀ p ∈ rs ++ exitsP ps, flatM p) ∧ (∀ p ∈ rs, outM p = true) ∧ (resMI b rs ++ exitI us ps).Nodup ∧ ∀ g : Nat → Nat, exitX g us ps (dropsX H gone) fun H' => resMX g b rs H' K) ∨
  (∃ ps bor gone v, ArgsM H gone bor gone us ps ∧ FunDie P f ps v ∧ D v)
theorem callX_to {P : Program} {H : Hp} {D : Value → Prop} {b : Nat} {f : FuncId} {us : List V} {K : List V → Hp → Prop} {K' : V → List (Nat × Option Ent) → Prop} (hk : ∀ us dH, K us (addH H dH) → K' (packU us) dH) (h : callX P H D b f us K) : callE P H D b f us K' := by
  rcases h with ⟨ps, rs, bor, gone, h1, h2, h3, h4, h5⟩ | ⟨ps, rs, bor, gone, h1, h2, h3, h4, h5, h6⟩ | h
  · refine .inl ⟨ps, rs, bor, gone, h1, h2, h3, h4, fun g => hk _ _ ?_⟩
    have := h5 g
    rw [resX_eq, dropsX_eq, ← addH_append] at this
    exact this
  · refine .inr (.inl ⟨ps, rs, bor, gone, h1, h2, h3, h4, h5, fun g => hk _ _ ?_⟩)
    have := h6 g
    rw [exitX_eq, resMX_eq, dropsX_eq] at this
    rw [addH_append, addH_append]
    exact this
  · exact .inr (.inr h)
/-- an operation; in the order of the text (q = false), or not (q = true) -/
def opX (P : Program) (D : Value → Prop) (q : Bool) (r : ROper) (env : Env) (H : Hp) (K : Env → Hp → Prop) : Prop :=
  match r.op with
  | .mv x => f1 (val env x) fun v => putX r env K v H
  | .pick c x y => match val env c with
    | .v (.bool t) => bIf t (f1 (val env x) fun v => putX r env K v H) (f1 (val env y) fun v => putX r env K v H)
    | _ => False
  | .box T sz x => match cellsV (val env x) with
    | some cs => fL cs fun cs => bX (Nat.beq cs.length sz) (onesX H cs (∀ g : Nat, putX r env K (.ptr (16 * r.d) g 0 0) (upd H (16 * r.d) (some ⟨g, .b T, sz, [cs]⟩))))
    | none => False
  | .zbox T z => ∀ g : Nat, putX r env K (.ptr (16 * r.d) g 0 0) (upd H (16 * r.d) (some ⟨g, .b T, z.length, [z.map .v]⟩))
  | .build z ps => fL (z.map .v) fun cs => fillX env H cs ps fun cs => putX r env K (.agg cs) H
  | .mks T sz n z ps => fillRX env H sz (List.replicate n (z.map .v)) ps fun rows => ∀ g : Nat, putX r env K (.own (16 * r.d) g) (upd H (16 * r.d) (some ⟨g, .t T, sz, rows⟩))
  | .mkn T sz bytes z x y => match val env x, val env y with
    | .v (.int _ n), .v (.int _ m) => ∃ k : Nat, n = (k : Int) ∧ m = (k : Int) ∧ k ≤ maxLen ∧ k * bytes ≤ 140737488355328 ∧ ∀ g : Nat, putX r env K (.own (16 * r.d) g) (upd H (16 * r.d) (some ⟨g, .t T, sz, List.replicate k (z.map .v)⟩))
    | _, _ => False
  | .load agg sz x => match val env x with
    | .rptr row off => bX (Nat.ble (off + sz) row.length) (mkX agg ((row.drop off).take sz) fun v => putX r env K v H)
    | .ptr id gen i off => atH H id gen fun e => ∃ row, e.rows[i]? = some row ∧ bX (Nat.ble (off + sz) row.length) (mkX agg ((row.drop off).take sz) fun v => putX r env K v H)
    | _ => False
  | .bin op x y => match val env x, val env y with
    | .v a, .v c => binX op a c fun v => putX r env K (.v v) H
    | _, _ => False
  | .mm mx x y => match val env x, val env y with
    | .v (.int k a), .v (.int _ c) => match mx with
      | true => putX r env K (.v (.int k (max a c))) H
      | false => putX r env K (.v (.int k (min a c))) H
    | _, _ => False
  | .eqb neg x y => match val env x, val env y with
    | .v (.bool a), .v (.bool c) => putX r env K (.v (.bool (if neg then a != c else a == c))) H
    | _, _ => False
  | .eqS neg ts x y => match val env x, val env y with
    | .agg us, .agg vs => match eqV ts us vs with
      | some b => match neg with
        | true => putX r env K (.v (.bool (!b))) H
        | false => putX r env K (.v (.bool b)) H
      | none => False
    | _, _ => False
  | .not x => match val env x with
    | .v (.bool a) => putX r env K (.v (.bool (!a))) H
    | _ => False
  | .neg x => match val env x with
    | .v (.int k a) => ∃ c, k.wrap (0 - a) = c ∧ putX r env K (.v (.int k c)) H
    | _ => False
  | .conv k x => match val env x with
    | .v (.int _ a) => ∃ c, k.wrap a = c ∧ putX r env K (.v (.int k c)) H
    | _ => False
  | .convS x => match val env x with
    | .v (.string s) => putX r env K (.v (.string s)) H
    | _ => False
  | .fld agg sz off x => match val env x with
    | .agg cs => bX (Nat.ble (off + sz) cs.length) (mkX agg ((cs.drop off).take sz) fun v => putX r env K v H)
    | _ => False
  | .fldA off x => match val env x with
    | .rptr row o => putX r env K (.rptr row (o + off)) H
    | .ptr id gen i o => atH H id gen fun e => putX r env K (.ptr id gen i (o + off)) H
    | _ => False
  | .idxA sz x i => match val env x, val env i with
    | .sl _ rows, .v (.int _ n) => ∃ (j : Nat) (row : List V), n = (j : Int) ∧ rows[j]? = some row ∧ bX (Nat.beq row.length sz) (putX r env K (.rptr row 0) H)
    | .own id gen, .v (.int _ n) => atH H id gen fun e => e.sz = sz ∧ ∃ (j : Nat) (row : List V), n = (j : Int) ∧ e.rows[j]? = some row ∧ putX r env K (.ptr id gen j 0) H
    | _, _ => False
  | .idxS x i => match val env x, val env i with
    | .v (.string s), .v (.int _ n) => ∃ (j : Nat) (c : UInt8), n = (j : Int) ∧ s[j]? = some c ∧ putX r env K (.v (.int .u8 c.toNat)) H
    | _, _ => False
  | .slcS x lo hi => match val env x with
    | .v (.string s) => ∃ l h : Nat, loV env lo l ∧ hiV env s.size hi h ∧ l ≤ h ∧ h ≤ s.size ∧ putX r env K (.v (.string (s.extract l h))) H
    | _ => False
  | .slcL sz x lo hi mx => match val env x with
    | .own id gen => match q with
      | true => atH H id gen fun e => ∃ l h : Nat, e.sz = sz ∧ loV env lo l ∧ hiV env e.rows.length hi h ∧ l ≤ h ∧ h ≤ e.rows.length ∧ mx = none ∧ putX r env K (.osub id gen l h) H
      | false => atH H id gen fun e => ∃ md l n : Nat, e.sz = sz ∧ loV env lo l ∧ hiV env e.rows.length hi n ∧ l ≤ n ∧ n ≤ e.rows.length ∧ match md with
        | 0 => l = 0 ∧ mx = none ∧ ∀ g : Nat, putX r env K (.own id g) (upd H id (some ⟨g, e.T, e.sz, e.rows.take n⟩))
        | 1 => mx = none ∧ putX r env K (.osub id gen l n) H
        | _ => ∃ (y : Operand) (m : Nat) (kd : IntKind), mx = some y ∧ hi.isSome = true ∧ val env y = .v (.int kd (m : Int)) ∧ n ≤ m ∧ m ≤ e.rows.length ∧ putX r env K .any H
    | .osub id gen lo0 hi0 => atH H id gen fun e => ∃ l h : Nat, e.sz = sz ∧ loV env lo l ∧ hiV env (hi0 - lo0) hi h ∧ l ≤ h ∧ lo0 + h ≤ e.rows.length ∧ mx = none ∧ lo0 ≤ hi0 ∧ putX r env K (.osub id gen (lo0 + l) (lo0 + h)) H
    | .sl clip rows => ∃ l h : Nat, loV env lo l ∧ hiV env rows.length hi h ∧ l ≤ h ∧ h ≤ rows.length ∧ (rows = [] ∨ ∃ row, rows[0]? = some row ∧ row.length = sz) ∧
        match mx with
        | none => putX r env K (.sl false ((rows.drop l).take (h - l))) H
        | some y => hi.isSome = true ∧ (∃ k, val env y = .v (.int k (h : Int))) ∧ putX r env K (.sl true ((rows.drop l).take (h - l))) H
    | _ => False
  | .ext x i => match val env x with
    | .tup us => match us[i]? with
      | some u => f1 u fun u => putX r env K u H
      | none => False
    | _ => False
  | .len true x => match val env x with
    | .v (.string s) => putX r env K (.v (.int .i64 s.size)) H
    | _ => False
  | .len false x => match val env x with
    | .v (.slice _ n _) => putX r env K (.v (.int .i64 n)) H
    | .sl _ rows => putX r env K (.v (.int .i64 rows.length)) H
    | .own id gen => atH H id gen fun e => putX r env K (.v (.int .i64 e.rows.length)) H
    | .osub id gen lo hi => atH H id gen fun _ => putX r env K (.v (.int .i64 ((hi - lo : Nat) : Int))) H
    | _ => False
  | .call x args => match q with
    | true => match val env x with
      | .v (.func (.func f) ⟨[]⟩ ⟨[]⟩) => ∃ ps rs bor, ArgsOk H [] bor [] (args.map (val env)) ps ∧ Fun P f ps rs ∧ (bor = true → flatRes rs) ∧ rs.length ≤ 16 ∧ ∀ g : Nat → Nat, resX g (16 * r.d) rs H fun us H' => putX r env K (packU us) H'
      | .clo f caps => ∃ ps rs bor, ArgsOk H [] bor [] (args.map (val env) ++ caps) ps ∧ Fun P f ps rs ∧ (bor = true → flatRes rs) ∧ rs.length ≤ 16 ∧ ∀ g : Nat → Nat, resX g (16 * r.d) rs H fun us H' => putX r env K (packU us) H'
      | _ => False
    | false => match val env x with
      | .v (.func (.func f) ⟨[]⟩ ⟨[]⟩) => callX P H D (16 * r.d) f (args.map (val env)) fun us H' => putX r env K (packU us) H'
      | .clo f caps => callX P H D (16 * r.d) f (args.map (val env) ++ caps) fun us H' => putX r env K (packU us) H'
      | _ => False
  | .mkfn f caps => fL (caps.map (val env)) fun us => putX r env K (.clo f us) H
  | .store sz x y => match q with
    | true => False
    | false => match val env x with
      | .ptr id gen i off => atH H id gen fun e => ∃ row, e.rows[i]? = some row ∧ match cellsV (val env y) with
        | some us => bX (Nat.beq us.length sz) (bX (Nat.ble (off + sz) row.length) (onesX H us (fL (putV row off us) fun row' => putX r env K (.v undef) (upd H id (some ⟨e.gen, e.T, e.sz, e.rows.set i row'⟩)))))
        | none => False
      | _ => False
  | .app T sz bytes z x y => match q with
    | true => False
    | false => match val env x with
      | .osub id gen lo0 k => match val env y with
        | .osub id' gen' lo hi => atH H id gen fun e => id' = id ∧ gen' = gen ∧ lo0 = 0 ∧ e.sz = sz ∧ k ≤ lo ∧ lo ≤ hi ∧ hi ≤ e.rows.length ∧ putX r env K (.osub id gen 0 (k + (hi - lo))) (upd H id (some ⟨e.gen, e.T, e.sz, e.rows.take k ++ (e.rows.drop lo).take (hi - lo) ++ e.rows.drop (k + (hi - lo))⟩))
        | _ => False
      | .own id gen => srcX H sz (val env y) fun rows => atH H id gen fun e => e.T = .t T ∧ e.sz = sz ∧ e.rows.length + rows.length ≤ maxLen ∧ (e.rows.length + rows.length) * bytes ≤ 140737488355328 ∧ ∀ g : Nat, putX r env K (.own id g) (upd H id (some ⟨g, .t T, sz, e.rows ++ rows⟩))
      | .v (.slice none 0 0) => srcX H sz (val env y) fun rows => rows.length ≤ maxLen ∧ rows.length * bytes ≤ 140737488355328 ∧ ∀ g : Nat, putX r env K (.own (16 * r.d) g) (upd H (16 * r.d) (some ⟨g, .t T, sz, rows⟩))
      | .sl true rows0 => srcX H sz (val env y) fun rows => rows ≠ [] ∧ (∀ row ∈ rows0, row.length = sz ∧ ones H row) ∧ rows0.length + rows.length ≤ maxLen ∧ (rows0.length + rows.length) * bytes ≤ 140737488355328 ∧ ∀ g : Nat, putX r env K (.own (16 * r.d) g) (upd H (16 * r.d) (some ⟨g, .t T, sz, rows0 ++ rows⟩))
      | _ => False
  | .clr sz z x => match q with
    | true => False
    | false => match val env x with
      | .osub id gen lo hi => atH H id gen fun e => e.sz = sz ∧ lo ≤ hi ∧ hi ≤ e.rows.length ∧ putX r env K .any (upd H id (some ⟨e.gen, e.T, e.sz, e.rows.take lo ++ List.replicate (hi - lo) (z.map .v) ++ e.rows.drop hi⟩))
      | _ => False
  | .isnil neg x => match q with
    | true => False
    | false => match val env x with
      | .v (.slice ad _ _) => putX r env K (.v (.bool (if neg then !ad.isNone else ad.isNone))) H
      | .sl _ rows => ∀ b : Bool, (b = true → rows = []) → putX r env K (.v (.bool (if neg then !b else b))) H
      | .own id gen => atH H id gen fun e => ∀ b : Bool, (b = true → e.rows = []) → putX r env K (.v (.bool (if neg then !b else b))) H
      | _ => False
  | .mkm => ∀ g : Nat, putX r env K (.obj (16 * r.d) g) (upd H (16 * r.d) (some ⟨g, .q (mapI []), 0, []⟩))
  | .mlook kd ok z x i => match val env i with
    | .v kv => entsX H (val env x) fun ents => ∃ u, findE kd kv ents 0 = some u ∧ match u with
      | some (_, u) => match ok with
        | true => putX r env K (.tup [u, .v (.bool true)]) H
        | false => putX r env K u H
      | none => match ok with
        | true => putX r env K (.tup [.v z, .v (.bool false)]) H
        | false => putX r env K (.v z) H
    | _ => False
  | .mlen x => entsX H (val env x) fun ents => putX r env K (.v (.int .i64 ents.length)) H
  | .mupd kd x i v => match q with
    | true => False
    | false => match val env x, val env i with
      | .obj id gen, .v kv => atH H id gen fun e => qX e fun I => ∃ ents u, I = mapI ents ∧ Cl (val env v) ∧ findE kd kv ents 0 = some u ∧ putX r env K (.v undef) (upd H id (some ⟨e.gen, .q (mapI (putE ents kv (val env v) u)), 0, []⟩))
      | _, _ => False
  | .die x => match q with
    | true => False
    | false => match val env x with
      | .v (.iface t y) => D (.iface t y)
      | _ => False
  | .mki t x => match val env x with
    | .v v => putX r env K (.v (.iface t v)) H
    | .agg [] => putX r env K (.v (.iface t (.agg #[]))) H
    | _ => False
  | .ofB x => srcX H 1 (val env x) fun rows => ∃ ns : List Int, rows = ns.map (fun n => [.v (.int .u8 n)]) ∧ putX r env K (.v (.string (strNs ns))) H
  | .toB x => match val env x with
    | .v (.string s) => putX r env K (.sl false (s.data.toList.map fun b => [.v (.int .u8 b.toNat)])) H
    | _ => False
theorem putX_eq (D : Value → Prop) (r : ROper) (env : Env) (K : Env → Hp → Prop) (u : V) (H : Hp) : putX r env K u H = K (St.put ⟨env, H, D⟩ r.dst u).env (St.put ⟨env, H, D⟩ r.dst u).H := by
  unfold putX St.put; cases r.dst <;> rfl
set_option maxHeartbeats 2000000 in
theorem opX_Q {P : Program} {D : Value → Prop} {q : Bool} {r : ROper} {env : Env} {H : Hp} {K : Env → Hp → Prop} {K' : St → Prop} (hk : ∀ env H, K env H → K' ⟨env, H, D⟩) (hq : q = true ∨ r.op.isE = false) (h : opX P D q r env H K) (g : Nat → Nat) : stepQ P r.op env H g (16 * r.d) (afterOp r ⟨env, H, D⟩ K') := by
  obtain ⟨dst, guard, op⟩ := r
  have kf : ∀ (u : V) (dH : List (Nat × Option Ent)), putX ⟨dst, guard, op⟩ env K u (addH H dH) → afterOp ⟨dst, guard, op⟩ ⟨env, H, D⟩ K' u dH := fun u dH h => by
    rw [putX_eq D] at h; have h := hk _ _ h; cases dst <;> exact h
  have k0 : ∀ (u : V), putX ⟨dst, guard, op⟩ env K u H → afterOp ⟨dst, guard, op⟩ ⟨env, H, D⟩ K' u [] := fun u h => kf u [] h
  have kmk : ∀ (agg : Bool) (cs : List V), (mkX agg cs fun v => putX ⟨dst, guard, op⟩ env K v H) → afterOp ⟨dst, guard, op⟩ ⟨env, H, D⟩ K' (mkV agg cs) [] := fun agg cs h => by
    rw [mkX_eq] at h; exact k0 _ h
  cases op with
  | mv x => simp only [opX, f1_eq] at h; exact k0 _ h
  | pick c x y =>
    simp only [opX] at h
    simp only [stepQ]
    split at h
    · rename_i t ht
      simp only [ht]
      have h := bIf_to h
      rw [f1_eq, f1_eq] at h
      exact ⟨fun e => k0 _ (h.1 e), fun e => k0 _ (h.2 e)⟩
    · exact h.elim
  | box T sz x =>
    simp only [opX] at h
    simp only [stepQ]
    split at h
    · rename_i cs hcs
      simp only [hcs]
      rw [fL_eq] at h
      obtain ⟨h1, h⟩ := bX_to h
      obtain ⟨h2, h⟩ := onesX_to h
      exact ⟨Nat.eq_of_beq_eq_true h1, h2, kf _ _ (h _)⟩
    · exact h.elim
  | zbox T z => simp only [opX] at h; exact kf _ _ (h _)
  | build z ps =>
    simp only [opX, fL_eq] at h
    exact fillV_map _ _ (fun cs h => k0 _ h) (fillX_to _ _ h)
  | mks T sz n z ps =>
    simp only [opX] at h
    exact fillR_map _ _ (fun cs h => kf _ _ (h _)) (fillRX_to _ _ h)
  | mkn T sz bytes z x y =>
    simp only [opX] at h
    simp only [stepQ]
    split at h
    · rename_i k1 n k2 m hx hy
      simp only [hx, hy]
      obtain ⟨k, h1, h2, h3, h4, h5⟩ := h
      exact ⟨k, h1, h2, h3, h4, kf _ _ (h5 _)⟩
    · exact h.elim
  | load agg sz x =>
    simp only [opX] at h
    simp only [stepQ]
    split at h
    · rename_i row off hx
      simp only [hx]
      obtain ⟨h1, h⟩ := bX_to h
      exact ⟨Nat.le_of_ble_eq_true h1, kmk _ _ h⟩
    · rename_i id gen i off hx
      simp only [hx]
      obtain ⟨e, h1, h2, row, h3, h4⟩ := atH_to h
      obtain ⟨h5, h4⟩ := bX_to h4
      exact ⟨e, row, h1, h2, h3, Nat.le_of_ble_eq_true h5, kmk _ _ h4⟩
    · exact h.elim
  | bin op x y =>
    simp only [opX] at h
    simp only [stepQ]
    split at h
    · rename_i a c hx hy
      simp only [hx, hy]
      obtain ⟨r, h1, h2⟩ := binK_ex (binX_to h)
      unfold binK at h1 ⊢
      split at h1
      · cases op <;> first
          | exact h1.elim
          | (obtain ⟨q1, c, q2, rfl⟩ := h1; exact ⟨q1, c, q2, k0 _ h2⟩)
          | (obtain ⟨q1, q0, c, q2, rfl⟩ := h1; exact ⟨q1, q0, c, q2, k0 _ h2⟩)
          | (obtain ⟨q1, rfl⟩ := h1; exact ⟨q1, k0 _ h2⟩)
      · cases op <;> first
          | exact h1.elim
          | (obtain ⟨q1, rfl⟩ := h1; exact ⟨q1, k0 _ h2⟩)
          | (obtain rfl := h1; exact k0 _ h2)
      · exact h1.elim
    · exact h.elim
  | mm mx x y =>
    simp only [opX] at h
    simp only [stepQ]
    split at h
    · rename_i k a k' c hx hy
      simp only [hx, hy]
      cases mx <;> exact k0 _ h
    · exact h.elim
  | eqb neg x y =>
    simp only [opX] at h
    simp only [stepQ]
    split at h
    · rename_i a c hx hy
      simp only [hx, hy]
      exact k0 _ h
    · exact h.elim
  | eqS neg ts x y =>
    simp only [opX] at h
    simp only [stepQ]
    split at h
    · rename_i us vs hx hy
      simp only [hx, hy]
      split at h
      · rename_i b hb
        simp only [hb]
        cases neg
        · exact k0 _ h
        · exact k0 _ h
      · exact h.elim
    · exact h.elim
  | not x =>
    simp only [opX] at h
    simp only [stepQ]
    split at h
    · rename_i a hx
      simp only [hx]
      exact k0 _ h
    · exact h.elim
  | neg x =>
    simp only [opX] at h
    simp only [stepQ]
    split at h
    · rename_i k a hx
      simp only [hx]
      obtain ⟨c, h1, h2⟩ := h
      exact ⟨c, h1, k0 _ h2⟩
    · exact h.elim
  | conv k x =>
    simp only [opX] at h
    simp only [stepQ]
    split at h
    · rename_i k' a hx
      simp only [hx]
      obtain ⟨c, h1, h2⟩ := h
      exact ⟨c, h1, k0 _ h2⟩
    · exact h.elim
  | convS x =>
    simp only [opX] at h
    simp only [stepQ]
    split at h
    · rename_i s hx
      simp only [hx]
      exact k0 _ h
    · exact h.elim
  | fld agg sz off x =>
    simp only [opX] at h
    simp only [stepQ]
    split at h
    · rename_i cs hx
      simp only [hx]
      obtain ⟨h1, h⟩ := bX_to h
      exact ⟨Nat.le_of_ble_eq_true h1, kmk _ _ h⟩
    · exact h.elim
  | fldA off x =>
    simp only [opX] at h
    simp only [stepQ]
    split at h
    · rename_i row o hx
      simp only [hx]
      exact k0 _ h
    · rename_i id gen i o hx
      simp only [hx]
      obtain ⟨e, h1, h2, h4⟩ := atH_to h
      exact ⟨⟨e, h1, h2⟩, k0 _ h4⟩
    · exact h.elim
  | idxA sz x i =>
    simp only [opX] at h
    simp only [stepQ]
    split at h
    · rename_i c rows k n hx hi
      simp only [hx, hi]
      obtain ⟨j, row, h1, h2, h4⟩ := h
      obtain ⟨h3, h4⟩ := bX_to h4
      exact ⟨j, row, h1, h2, Nat.eq_of_beq_eq_true h3, k0 _ h4⟩
    · rename_i id gen k n hx hi
      simp only [hx, hi]
      obtain ⟨e, h1, h2, h3, j, row, h4, h5, h6⟩ := atH_to h
      exact ⟨e, j, row, h1, h2, h3, h4, h5, k0 _ h6⟩
    · exact h.elim
  | idxS x i =>
    simp only [opX] at h
    simp only [stepQ]
    split at h
    · rename_i s k n hx hi
      simp only [hx, hi]
      obtain ⟨j, c, h1, h2, h3⟩ := h
      exact ⟨j, c, h1, h2, k0 _ h3⟩
    · exact h.elim
  | slcS x lo hi =>
    simp only [opX] at h
    simp only [stepQ]
    split at h
    · rename_i s hx
      simp only [hx]
      obtain ⟨l, k, h1, h2, h3, h4, h5⟩ := h
      exact ⟨l, k, h1, h2, h3, h4, k0 _ h5⟩
    · exact h.elim
  | slcL sz x lo hi mx =>
    simp only [opX] at h
    simp only [stepQ]
    split at h
    · rename_i id gen hx
      rcases hq with rfl | hq
      · simp only [hx]
        obtain ⟨e, h1, h2, l, k, h3, h4, h5, h6, h7, h8, h9⟩ := atH_to h
        exact ⟨e, l, k, h1, h2, h3, h4, h5, h6, h7, h8, k0 _ h9⟩
      · simp [ROp.isE] at hq
    · rename_i id gen lo0 hi0 hx
      simp only [hx]
      obtain ⟨e, h1, h2, l, k, h3, h4, h5, h6, h7, h8, h85, h9⟩ := atH_to h
      exact ⟨e, l, k, h1, h2, h3, h4, h5, h6, h7, h8, h85, k0 _ h9⟩
    · rename_i clip rows hx
      simp only [hx]
      obtain ⟨l, k, h1, h2, h3, h4, h5, h6⟩ := h
      refine ⟨l, k, h1, h2, h3, h4, h5, ?_⟩
      cases mx with
      | none => exact k0 _ h6
      | some y => exact ⟨h6.1, h6.2.1, k0 _ h6.2.2⟩
    · exact h.elim
  | ext x i =>
    simp only [opX] at h
    simp only [stepQ]
    split at h
    · rename_i us hx
      simp only [hx]
      split at h
      · rename_i u hu
        rw [f1_eq] at h
        exact ⟨u, hu, k0 _ h⟩
      · exact h.elim
    · exact h.elim
  | len s x =>
    cases s with
    | true =>
      simp only [opX] at h
      simp only [stepQ]
      split at h
      · rename_i s hx
        simp only [hx]
        exact k0 _ h
      · exact h.elim
    | false =>
      simp only [opX] at h
      simp only [stepQ]
      split at h
      · rename_i a n c hx
        simp only [hx]
        exact k0 _ h
      · rename_i c rows hx
        simp only [hx]
        exact k0 _ h
      · rename_i id gen hx
        simp only [hx]
        obtain ⟨e, h1, h2, h3⟩ := atH_to h
        exact ⟨e, h1, h2, k0 _ h3⟩
      · rename_i id gen lo hi hx
        simp only [hx]
        obtain ⟨e, h1, h2, h3⟩ := atH_to h
        exact ⟨⟨e, h1, h2⟩, k0 _ h3⟩
      · exact h.elim
  | call x args =>
    rcases hq with rfl | hq
    · simp only [opX] at h
      simp only [stepQ]
      split at h
      · rename_i f hf
        simp only [hf]
        obtain ⟨ps, rs, bor, h1, h2, h3, h4, h5⟩ := h
        refine ⟨ps, rs, bor, h1, h2, h3, h4, kf _ _ ?_⟩
        have := h5 g
        rw [resX_eq] at this
        exact this
      · rename_i f caps hf
        simp only [hf]
        obtain ⟨ps, rs, bor, h1, h2, h3, h4, h5⟩ := h
        refine ⟨ps, rs, bor, h1, h2, h3, h4, kf _ _ ?_⟩
        have := h5 g
        rw [resX_eq] at this
        exact this
      · exact h.elim
    · simp [ROp.isE] at hq
  | mkfn f caps => simp only [opX, fL_eq] at h; exact k0 _ h
  | store sz x y =>
    rcases hq with rfl | hq
    · exact h.elim
    · simp [ROp.isE] at hq
  | app T sz bytes z x y =>
    rcases hq with rfl | hq
    · exact h.elim
    · simp [ROp.isE] at hq
  | mupd kd x i v =>
    rcases hq with rfl | hq
    · exact h.elim
    · simp [ROp.isE] at hq
  | die x =>
    rcases hq with rfl | hq
    · exact h.elim
    · simp [ROp.isE] at hq
  | clr sz z x =>
    rcases hq with rfl | hq
    · exact h.elim
    · simp [ROp.isE] at hq
  | isnil neg x =>
    rcases hq with rfl | hq
    · exact h.elim
    · simp [ROp.isE] at hq
  | mkm => simp only [opX] at h; exact kf _ _ (h _)
  | mlook kd ok z x i =>
    simp only [opX] at h
    simp only [stepQ]
    split at h
    · rename_i kv hi
      obtain ⟨ents, h1, u, h2, h3⟩ := entsX_to h
      refine ⟨ents, kv, u, h1, hi, h2, ?_⟩
      split at h3 <;> cases ok <;> exact k0 _ h3
    · exact h.elim
  | mlen x =>
    simp only [opX] at h
    simp only [stepQ]
    obtain ⟨ents, h1, h2⟩ := entsX_to h
    exact ⟨ents, h1, k0 _ h2⟩
  | mki t x =>
    simp only [opX] at h
    simp only [stepQ]
    split at h
    · rename_i v hx
      simp only [hx]
      exact k0 _ h
    · rename_i hx
      simp only [hx]
      exact ⟨[], rfl, k0 _ h⟩
    · exact h.elim
  | ofB x =>
    simp only [opX] at h
    simp only [stepQ]
    obtain ⟨rows, h1, ns, h2, h3⟩ := srcX_to h
    exact ⟨rows, ns, h1, h2, k0 _ h3⟩
  | toB x =>
    simp only [opX] at h
    simp only [stepQ]
    split at h
    · rename_i s hx
      simp only [hx]
      exact k0 _ h
    · exact h.elim
set_option maxHeartbeats 1000000 in
theorem opX_R {P : Program} {D : Value → Prop} {r : ROper} {env : Env} {H : Hp} {K : Env → Hp → Prop} {K' : St → Prop} (hk : ∀ env H, K env H → K' ⟨env, H, D⟩) (h : opX P D false r env H K) : opR P r ⟨env, H, D⟩ K' := by
  obtain ⟨dst, guard, op⟩ := r
  unfold opR
  have kf : ∀ (u : V) (dH : List (Nat × Option Ent)), putX ⟨dst, guard, op⟩ env K u (addH H dH) → afterOp ⟨dst, guard, op⟩ ⟨env, H, D⟩ K' u dH := fun u dH h => by
    rw [putX_eq D] at h; have h := hk _ _ h; cases dst <;> exact h
  cases op with
  | call x args =>
    simp only [ROp.isE, if_true, stepE]
    simp only [opX] at h
    split at h
    · rename_i f hf
      simp only [hf]
      exact callX_to (fun us dH h => kf _ _ h) h
    · rename_i f caps hf
      simp only [hf]
      exact callX_to (fun us dH h => kf _ _ h) h
    · exact h.elim
  | mupd kd x i v =>
    simp only [ROp.isE, if_true, stepE]
    simp only [opX] at h
    split at h
    · rename_i id gen kv hx hi
      simp only [hx]
      obtain ⟨e, h1, h2, h3⟩ := atH_to h
      obtain ⟨I, h4, ents, u, rfl, h5, h6, h7⟩ := qX_to h3
      subst h2
      exact ⟨e, ents, kv, u, h1, rfl, h4, hi, h5, h6, kf _ _ h7⟩
    · exact h.elim
  | die x =>
    simp only [ROp.isE, if_true, stepE]
    simp only [opX] at h
    split at h
    · rename_i t y hx
      simp only [hx]
      exact h
    · exact h.elim
  | store sz x y =>
    simp only [ROp.isE, if_true, stepE]
    simp only [opX] at h
    split at h
    · rename_i id gen i off hx
      simp only [hx]
      obtain ⟨e, h1, h2, row, h3, h4⟩ := atH_to h
      split at h4
      · rename_i us hus
        obtain ⟨h5, h4⟩ := bX_to h4
        obtain ⟨h6, h4⟩ := bX_to h4
        obtain ⟨h7, h4⟩ := onesX_to h4
        rw [fL_eq] at h4
        exact ⟨e, row, us, h1, h2, h3, hus, Nat.eq_of_beq_eq_true h5, Nat.le_of_ble_eq_true h6, h7, kf _ _ h4⟩
      · exact h4.elim
    · exact h.elim
  | slcL sz x lo hi mx =>
    simp only [ROp.isE, if_true, stepE]
    simp only [opX] at h
    split at h
    · rename_i id gen hx
      simp only [hx]
      obtain ⟨e, h1, h2, md, l, n, h3, h4, h5, h6, h7, h8⟩ := atH_to h
      refine ⟨e, md, l, n, h1, h2, h3, h4, h5, h6, h7, ?_⟩
      match md, h8 with
      | 0, h8 => exact ⟨h8.1, h8.2.1, fun g => kf _ _ (h8.2.2 g)⟩
      | 1, h8 => exact ⟨h8.1, kf _ [] h8.2⟩
      | _ + 2, h8 =>
        obtain ⟨y, m, kd, k1, k2, k3, k4, k5, k6⟩ := h8
        exact ⟨y, m, kd, k1, k2, k3, k4, k5, kf _ [] k6⟩
    · rename_i id gen lo0 hi0 hx
      simp only [hx]
      obtain ⟨e, h1, h2, l, k, h3, h4, h5, h6, h7, h8, h85, h9⟩ := atH_to h
      exact ⟨e, l, k, h1, h2, h3, h4, h5, h6, h7, h8, h85, kf _ [] h9⟩
    · rename_i clip rows hx
      simp only [hx]
      obtain ⟨l, k, h1, h2, h3, h4, h5, h6⟩ := h
      refine ⟨l, k, h1, h2, h3, h4, h5, ?_⟩
      cases mx with
      | none => exact kf _ [] h6
      | some y => exact ⟨h6.1, h6.2.1, kf _ [] h6.2.2⟩
    · exact h.elim
  | clr sz z x =>
    simp only [ROp.isE, if_true, stepE]
    simp only [opX] at h
    split at h
    · rename_i id gen lo hi hx
      simp only [hx]
      obtain ⟨e, h1, h2, h3, h4, h5, h6⟩ := atH_to h
      exact ⟨e, h1, h2, h3, h4, h5, kf _ _ h6⟩
    · exact h.elim
  | isnil neg x =>
    simp only [ROp.isE, if_true, stepE]
    simp only [opX] at h
    split at h
    · rename_i ad n c hx
      simp only [hx]
      exact kf _ [] h
    · rename_i c rows hx
      simp only [hx]
      exact fun b hb => kf _ [] (h b hb)
    · rename_i id gen hx
      simp only [hx]
      obtain ⟨e, h1, h2, h3⟩ := atH_to h
      exact ⟨e, h1, h2, fun b hb => kf _ [] (h3 b hb)⟩
    · exact h.elim
  | app T sz bytes z x y =>
    simp only [ROp.isE, if_true, stepE]
    simp only [opX] at h
    split at h
    · rename_i id gen lo0 k hx
      simp only [hx]
      split at h
      · rename_i id' gen' lo hi hy
        simp only [hy]
        obtain ⟨e, h1, h2, h3, h4, h5, h6, h7, h8, h9, h10⟩ := atH_to h
        exact ⟨e, h1, h2, h3, h4, h5, h6, h7, h8, h9, kf _ _ h10⟩
      · exact h.elim
    · rename_i id gen hx
      simp only [hx]
      obtain ⟨rows, h0, h⟩ := srcX_to h
      obtain ⟨e, h1, h2, h3, h4, h5, h6, h7⟩ := atH_to h
      exact ⟨rows, h0, e, h1, h2, h3, h4, h5, h6, fun g => kf _ _ (h7 g)⟩
    · rename_i hx
      simp only [hx]
      obtain ⟨rows, h0, h⟩ := srcX_to h
      exact ⟨rows, h0, h.1, h.2.1, fun g => kf _ _ (h.2.2 g)⟩
    · rename_i rows0 hx
      simp only [hx]
      obtain ⟨rows, h0, h⟩ := srcX_to h
      exact ⟨rows, h0, h.1, h.2.1, h.2.2.1, h.2.2.2.1, fun g => kf _ _ (h.2.2.2.2 g)⟩
    · exact h.elim
  | _ =>
    have := opX_Q (q := false) hk (.inr rfl) h
    simp only [ROp.isE, ROp.allocs, Bool.false_eq_true, if_false, if_true]
    first
      | exact this _
      | exact fun g => this g
theorem opX_D {P : Program} {D : Value → Prop} {r : ROper} {env : Env} {H : Hp} {K : Env → Hp → Prop} {K' : St → Prop} (hk : ∀ env H, K env H → K' ⟨env, H, D⟩) (h : opX P D true r env H K) : opD P r ⟨env, H, D⟩ K' := by
  have := opX_Q (q := true) hk (.inl rfl) h
  unfold opD
  split
  · exact fun g => this g
  · exact this _
def guardX (r : ROper) (env : Env) (A B : Prop) : Prop :=
  match r.guard with
  | none => A
  | some (s, want) => match env s with
    | .v (.bool t) => (match want with
      | true => bIf t A B
      | false => bIf t B A)
    | .v (.tuple ⟨[]⟩) => B
    | _ => False
theorem guardX_to {r : ROper} {st : St} {A B A' B' : Prop} (h : guardX r st.env A B) (hA : A → A') (hB : B → B') : guarded r st A' B' := by
  unfold guardX at h
  unfold guarded
  cases hg : r.guard with
  | none => simp only [hg] at h; exact hA h
  | some p =>
    obtain ⟨s, want⟩ := p
    simp only [hg] at h ⊢
    generalize st.env s = u at h ⊢
    split at h
    · rename_i t
      cases want
      · have := bIf_to h; exact ⟨fun e => hA (this.2 e), fun e => hB (this.1 (by simpa using e))⟩
      · have := bIf_to h; exact ⟨fun e => hA (this.1 e), fun e => hB (this.2 (by simpa using e))⟩
    · exact hB h
    · exact h.elim
def skipX (r : ROper) (env : Env) : Env := match r.dst with
  | some d => upd env d (.v undef)
  | none => env
def regN (env : Env) (H : Hp) (K : Env → Hp → Prop) : Prop := K env H
def regC (P : Program) (D : Value → Prop) (q : Bool) (r : ROper) (_ : List ROper) (ih : Env → Hp → (Env → Hp → Prop) → Prop) (env : Env) (H : Hp) (K : Env → Hp → Prop) : Prop :=
  guardX r env (opX P D q r env H fun env H => ih env H K) (ih (skipX r env) H K)
/-- by the recursor itself, so that the kernel reckons just as the tactics do -/
noncomputable def regX (P : Program) (D : Value → Prop) (q : Bool) (rs : List ROper) : Env → Hp → (Env → Hp → Prop) → Prop :=
  @List.rec ROper (fun _ => Env → Hp → (Env → Hp → Prop) → Prop) regN (regC P D q) rs
theorem regX_R {P : Program} {D : Value → Prop} : ∀ (rs : List ROper) {env : Env} {H : Hp} {K : Env → Hp → Prop} {K' : St → Prop}, (∀ env H, K env H → K' ⟨env, H, D⟩) → regX P D false rs env H K → wpR P rs ⟨env, H, D⟩ K'
  | [], env, H, K, K', hk, h => hk _ _ h
  | r :: rs, env, H, K, K', hk, h => by
    have h : guardX r env (opX P D false r env H fun env H => regX P D false rs env H K) (regX P D false rs (skipX r env) H K) := h
    simp only [wpR]
    refine guardX_to (st := ⟨env, H, D⟩) h (fun h => opX_R (fun env H h => regX_R rs hk h) h) (fun h => ?_)
    · have e : (St.put ⟨env, H, D⟩ r.dst (.v undef)) = ⟨skipX r env, H, D⟩ := by unfold St.put skipX; cases r.dst <;> rfl
      rw [e]; exact regX_R rs hk h
theorem regX_D {P : Program} {D : Value → Prop} : ∀ (rs : List ROper) {env : Env} {H : Hp} {K : Env → Hp → Prop} {K' : St → Prop}, (∀ env H, K env H → K' ⟨env, H, D⟩) → regX P D true rs env H K → wpDl P rs ⟨env, H, D⟩ K'
  | [], env, H, K, K', hk, h => hk _ _ h
  | r :: rs, env, H, K, K', hk, h => by
    have h : guardX r env (opX P D true r env H fun env H => regX P D true rs env H K) (regX P D true rs (skipX r env) H K) := h
    simp only [wpDl]
    refine guardX_to (st := ⟨env, H, D⟩) h (fun h => opX_D (fun env H h => regX_D rs hk h) h) (fun h => ?_)
    · have e : (St.put ⟨env, H, D⟩ r.dst (.v undef)) = ⟨skipX r env, H, D⟩ := by unfold St.put skipX; cases r.dst <;> rfl
      rw [e]; exact regX_D rs hk h
def segC (P : Program) (D : Value → Prop) (seg : List ROper) (_ : List (List ROper)) (ih : Env → Hp → (Env → Hp → Prop) → Prop) (env : Env) (H : Hp) (K : Env → Hp → Prop) : Prop :=
  match seg with
  | [r] => regX P D false [r] env H fun env H => ih env H K
  | seg => regX P D true seg env (dropH (allocDs seg) H) fun env H => ih env H K
noncomputable def segX (P : Program) (D : Value → Prop) (ss : List (List ROper)) : Env → Hp → (Env → Hp → Prop) → Prop :=
  @List.rec (List ROper) (fun _ => Env → Hp → (Env → Hp → Prop) → Prop) regN (segC P D) ss
theorem segX_S {P : Program} {D : Value → Prop} : ∀ (segs : List (List ROper)) {env : Env} {H : Hp} {K : Env → Hp → Prop} {K' : St → Prop}, (∀ env H, K env H → K' ⟨env, H, D⟩) → segX P D segs env H K → wpS P segs ⟨env, H, D⟩ K'
  | [], env, H, K, K', hk, h => hk _ _ h
  | [r] :: ss, env, H, K, K', hk, h => by
    have h : regX P D false [r] env H fun env H => segX P D ss env H K := h
    unfold wpS
    exact regX_R [r] (fun env H h => segX_S ss hk h) h
  | [] :: ss, env, H, K, K', hk, h => by
    have h : regX P D true [] env (dropH (allocDs []) H) fun env H => segX P D ss env H K := h
    unfold wpS
    exact regX_D [] (fun env H h => segX_S ss hk h) h
  | (r :: r' :: seg) :: ss, env, H, K, K', hk, h => by
    have h : regX P D true (r :: r' :: seg) env (dropH (allocDs (r :: r' :: seg)) H) fun env H => segX P D ss env H K := h
    unfold wpS
    exact regX_D (r :: r' :: seg) (fun env H h => segX_S ss hk h) h
/-- nil slices, taken for slices of one's own -/
def adoptE (env : Env) (g : Nat → Nat) : List (Nat × Nat × TypeId × Nat) → Env
  | [] => env
  | (s, id, _, _) :: l => adoptE (upd env s (.own id (g id))) g l
def adoptH (H : Hp) (g : Nat → Nat) : List (Nat × Nat × TypeId × Nat) → Hp
  | [] => H
  | (_, id, T, sz) :: l => adoptH (upd H id (some ⟨g id, .t T, sz, []⟩)) g l
def adoptOk (env : Env) : List (Nat × Nat × TypeId × Nat) → Prop
  | [] => True
  | (s, id, _, sz) :: l => env s = .v (.slice none 0 0) ∧ 0 < sz ∧ (∀ s' id' T' sz', (s', id', T', sz') ∈ l → s' ≠ s ∧ id' ≠ id) ∧ adoptOk env l
def findV : List (Nat × V) → Nat → Option V
  | [], _ => none
  | (s, v) :: l, i => bif Nat.beq i s then some v else findV l i
def hdE (env : Env) (keep : List Nat) (l : List (Nat × V)) : Env := fun i => match findV l i with
  | some v => v
  | none => bif keep.contains i then env i else .any
def findH : List (Nat × Ent) → Nat → Option Ent
  | [], _ => none
  | (s, e) :: l, i => bif Nat.beq i s then some e else findH l i
def hdH (H : Hp) (keep : List Nat) (l : List (Nat × Ent)) : Hp := fun i => match findH l i with
  | some e => some e
  | none => bif keep.contains i then H i else none
def meetsE (env : Env) : List (Nat × V) → Prop
  | [] => True
  | (s, v) :: l => env s = v ∧ meetsE env l
def meetsH (H : Hp) : List (Nat × Ent) → Prop
  | [] => True
  | (s, e) :: l => H s = some e ∧ meetsH H l
def keptE (env env' : Env) : List Nat → Prop
  | [] => True
  | s :: l => env' s = env s ∧ keptE env env' l
def keptH (H H' : Hp) : List Nat → Prop
  | [] => True
  | s :: l => H' s = H s ∧ keptH H H' l
theorem findV_meets {env : Env} {i : Nat} {v : V} : ∀ {l : List (Nat × V)}, meetsE env l → findV l i = some v → env i = v
  | (s, u) :: l, h, hf => by
    simp only [findV] at hf
    cases hb : Nat.beq i s with
    | true =>
      have := Nat.eq_of_beq_eq_true hb
      subst this
      rw [hb] at hf; simp at hf; rw [← hf]; exact h.1
    | false => rw [hb] at hf; exact findV_meets h.2 hf
theorem findH_meets {H : Hp} {i : Nat} {e : Ent} : ∀ {l : List (Nat × Ent)}, meetsH H l → findH l i = some e → H i = some e
  | (s, u) :: l, h, hf => by
    simp only [findH] at hf
    cases hb : Nat.beq i s with
    | true =>
      have := Nat.eq_of_beq_eq_true hb
      subst this
      rw [hb] at hf; simp at hf; rw [← hf]; exact h.1
    | false => rw [hb] at hf; exact findH_meets h.2 hf
theorem keptE_at {env env' : Env} {i : Nat} : ∀ {l : List Nat}, keptE env env' l → l.contains i = true → env' i = env i
  | s :: l, h, hc => by
    simp only [List.contains_cons, Bool.or_eq_true, beq_iff_eq] at hc
    rcases hc with rfl | hc
    · exact h.1
    · exact keptE_at h.2 hc
theorem keptH_at {H H' : Hp} {i : Nat} : ∀ {l : List Nat}, keptH H H' l → l.contains i = true → H' i = H i
  | s :: l, h, hc => by
    simp only [List.contains_cons, Bool.or_eq_true, beq_iff_eq] at hc
    rcases hc with rfl | hc
    · exact h.1
    · exact keptH_at h.2 hc
theorem adapt_hd {D : Value → Prop} {env0 env : Env} {H0 H : Hp} {keep keepH : List Nat} {lv : List (Nat × V)} {ho : List (Nat × Ent)} (h1 : meetsE env lv) (h2 : keptE env0 env keep) (h3 : meetsH H ho) (h4 : keptH H0 H keepH) : Adapt ⟨env, H, D⟩ ⟨hdE env0 keep lv, hdH H0 keepH ho, D⟩ := by
  refine adapt_keep (fun i => ?_) (fun id e he => ?_) rfl
  · show hdE env0 keep lv i = .any ∨ hdE env0 keep lv i = env i
    unfold hdE
    split
    · rename_i v hv; right; exact (findV_meets h1 hv).symm
    · cases hc : keep.contains i with
      | true => right; exact (keptE_at h2 hc).symm
      | false => left; rfl
  · have he' : hdH H0 keepH ho id = some e := he
    unfold hdH at he'
    split at he'
    · rename_i e' hf; injection he' with he'; subst he'; exact findH_meets h3 hf
    · cases hc : keepH.contains id with
      | true => rw [hc] at he'; exact (keptH_at h4 hc).trans he'
      | false => rw [hc] at he'; cases he'
theorem keptE_refl (env : Env) : ∀ l : List Nat, keptE env env l
  | [] => trivial
  | _ :: l => ⟨rfl, keptE_refl env l⟩
theorem keptH_refl (H : Hp) : ∀ l : List Nat, keptH H H l
  | [] => trivial
  | _ :: l => ⟨rfl, keptH_refl H l⟩
theorem adopt_one {D : Value → Prop} {c : Ctx} {env : Env} {H : Hp} {a : Act} {w : World} {R : Nat → Prop} {G : Nat → Option Loc} (h : RelAt c ⟨env, H, D⟩ a w R G) {s id : Nat} {T : TypeId} {sz : Nat} (hs : env s = .v (.slice none 0 0)) (hz : 0 < sz) : RelAt c ⟨upd env s (.own id (freshGen G id)), upd H id (some ⟨freshGen G id, .t T, sz, []⟩), D⟩ a w R (upd G id (some ⟨freshGen G id, sz, .slice none 0 0, false, none⟩)) := by
  have h1 := h.set (row := none) (w' := w) (id := id) (v := .slice none 0 0) (box := false) (To := .t T) (T := T) (rows := []) ⟨rfl, rfl, rfl, Nat.le_refl _, fun _ _ _ => rfl⟩ (.inl rfl) (by simp) (fun l0 h0 => .inr (freshGen_lt h0)) hz (xs := []) (World.ownsRow_nil _ _ _ _) ⟨by simp, fun i j row u hi => by simp at hi⟩ (fun b hb => by cases hb)
  refine ⟨fun i => ?_, h1.hr, h1.lt, h1.src, h1.old, h1.fr, h1.n, h1.defers, h1.die, h1.gle⟩
  show RV w R _ (upd env s (.own id (freshGen G id)) i) _
  by_cases hi : i = s
  · subst hi
    rw [upd_same]
    have h2 : RV w R G (env i) (a.tmps.getD i undef) := h.env i
    rw [hs] at h2
    rw [rv_v h2]
    exact .own _ _ _ (upd_same _ _ _) (Nat.le_refl _) _ fun _ => ⟨rfl, rfl⟩
  · rw [upd_ne _ _ hi]; exact h1.env i
theorem adopt_all {D : Value → Prop} {c : Ctx} {a : Act} {w : World} {R : Nat → Prop} : ∀ (ads : List (Nat × Nat × TypeId × Nat)) {env : Env} {H : Hp} {G : Nat → Option Loc}, adoptOk env ads → RelAt c ⟨env, H, D⟩ a w R G → ∃ (gs : Nat → Nat) (G' : Nat → Option Loc), RelAt c ⟨adoptE env gs ads, adoptH H gs ads, D⟩ a w R G'
  | [], env, H, G, _, h => ⟨fun _ => 0, G, h⟩
  | (s, id, T, sz) :: l, env, H, G, ho, h => by
    obtain ⟨h1, h2, h3, h4⟩ := ho
    have hr := adopt_one h h1 h2 (T := T) (id := id)
    have hok : ∀ (l : List (Nat × Nat × TypeId × Nat)) (env : Env) (v : V), (∀ s' id' T' sz', (s', id', T', sz') ∈ l → s' ≠ s ∧ id' ≠ id) → adoptOk env l → adoptOk (upd env s v) l := by
      intro l
      induction l with
      | nil => intro _ _ _ _; trivial
      | cons p l ih =>
        obtain ⟨s', id', T', sz'⟩ := p
        intro env v hne ⟨q1, q2, q3, q4⟩
        exact ⟨by rw [upd_ne _ _ (hne s' id' T' sz' (by simp)).1]; exact q1, q2, q3, ih env v (fun a b c d hm => hne a b c d (List.mem_cons_of_mem _ hm)) q4⟩
    obtain ⟨gs, G', hr'⟩ := adopt_all l (hok l env _ h3 h4) hr
    have hE : ∀ (l : List (Nat × Nat × TypeId × Nat)) (env : Env) (g g' : Nat → Nat), (∀ s' id' T' sz', (s', id', T', sz') ∈ l → g id' = g' id') → adoptE env g l = adoptE env g' l := by
      intro l
      induction l with
      | nil => intro _ _ _ _; rfl
      | cons p l ih =>
        obtain ⟨s', id', T', sz'⟩ := p
        intro env g g' hh
        simp only [adoptE]
        rw [hh s' id' T' sz' (by simp)]
        exact ih _ g g' fun a b c d hm => hh a b c d (List.mem_cons_of_mem _ hm)
    have hHp : ∀ (l : List (Nat × Nat × TypeId × Nat)) (H : Hp) (g g' : Nat → Nat), (∀ s' id' T' sz', (s', id', T', sz') ∈ l → g id' = g' id') → adoptH H g l = adoptH H g' l := by
      intro l
      induction l with
      | nil => intro _ _ _ _; rfl
      | cons p l ih =>
        obtain ⟨s', id', T', sz'⟩ := p
        intro H g g' hh
        simp only [adoptH]
        rw [hh s' id' T' sz' (by simp)]
        exact ih _ g g' fun a b c d hm => hh a b c d (List.mem_cons_of_mem _ hm)
    have hg : ∀ s' id' T' sz', (s', id', T', sz') ∈ l → gs id' = upd gs id (freshGen G id) id' := fun s' id' T' sz' hm => by rw [upd_ne _ _ (h3 s' id' T' sz' hm).2]
    refine ⟨upd gs id (freshGen G id), G', ?_⟩
    simp only [adoptE, adoptH]
    rw [upd_same, ← hE l _ gs _ hg, ← hHp l _ gs _ hg]
    exact hr'
/-- an object by another name -/
def renE (env : Env) (g : Nat) : Option (Nat × Nat × Nat) → Env
  | none => env
  | some (s, _, id') => upd env s (.own id' g)
def renH (H : Hp) (g : Nat) : Option (Nat × Nat × Nat) → Hp
  | none => H
  | some (_, id, id') => match H id with
    | some e => upd (upd H id none) id' (some ⟨g, e.T, e.sz, e.rows⟩)
    | none => H
def renOk (env : Env) (H : Hp) : Option (Nat × Nat × Nat) → Prop
  | none => True
  | some (s, id, _) => ∃ g, env s = .own id g ∧ atH H id g fun _ => True
theorem ren_one {D : Value → Prop} {c : Ctx} {env : Env} {H : Hp} {a : Act} {w : World} {R : Nat → Prop} {G : Nat → Option Loc} (h : RelAt c ⟨env, H, D⟩ a w R G) : ∀ {r : Option (Nat × Nat × Nat)}, renOk env H r → ∃ (g : Nat) (G' : Nat → Option Loc), RelAt c ⟨renE env g r, renH H g r, D⟩ a w R G'
  | none, _ => ⟨0, G, h⟩
  | some (s, id, id'), hr => by
    obtain ⟨g, hs, ha⟩ := hr
    obtain ⟨e, he, hg, _⟩ := atH_to ha
    have hv : RV w R G (env s) (a.tmps.getD s undef) := h.env s
    rw [hs] at hv
    obtain ⟨l, xs, T0, g1, g2, g3, g4, g5, g6, g7, hT0, hop0, hbx0⟩ := h.objO hv he hg
    have hle : Gle G (upd G id' (some ⟨freshGen G id', e.sz, l.val, false, none⟩)) := fun k m hm => by
      by_cases hk : k = id'
      · subst hk; exact ⟨_, upd_same _ _ _, .inr (freshGen_lt hm)⟩
      · exact ⟨m, by rw [upd_ne _ _ hk]; exact hm, .inl (SameL.refl _)⟩
    have h1 := (h.drop id).set (row := none) (w' := w) (id := id') (v := l.val) (box := false) (To := e.T) (T := T0) (rows := e.rows) ⟨rfl, rfl, rfl, Nat.le_refl _, fun _ _ _ => rfl⟩ (.inl hT0) (by simp) (fun l0 h0 => .inr (freshGen_lt h0)) g4 (xs := xs) g5 (g6.mono (fun b hb => ⟨hb, rfl⟩) hle) (fun b hb => by
      right
      have hb := (Loc.ft_of hop0).2 hb
      have hm := h.hr.mine id e l b he g1 (g2.trans hg.symm) hb
      refine ⟨hm.1, hm.2, fun k ek lk hk h1 h2 h3 => ?_⟩
      by_cases hki : k = id
      · subst hki
        have : upd H k none k = some ek := h1
        rw [upd_same] at this; cases this
      · have h1' : upd H id none k = some ek := h1
        rw [upd_ne _ _ hki] at h1'
        exact h.hr.apart id k e ek l lk b he h1' (fun e => hki e.symm) g1 h2 (g2.trans hg.symm) h3 hb)
    refine ⟨freshGen G id', upd G id' (some ⟨freshGen G id', e.sz, l.val, false, none⟩), ⟨fun i => ?_, ?_, h1.lt, h1.src, h1.old, h1.fr, h1.n, h1.defers, h1.die, h1.gle⟩⟩
    · show RV w R _ (upd env s (.own id' (freshGen G id')) i) _
      by_cases hi : i = s
      · subst hi
        rw [upd_same, g7]
        exact .own _ _ _ (upd_same _ _ _) (Nat.le_refl _) _ fun _ => ⟨rfl, rfl⟩
      · rw [upd_ne _ _ hi]; exact h1.env i
    · show HR _ _ _ _ _ (renH H (freshGen G id') (some (s, id, id')))
      have e2 : renH H (freshGen G id') (some (s, id, id')) = upd (upd H id none) id' (some ⟨freshGen G id', e.T, e.sz, e.rows⟩) := by
        show (match H id with | some e => _ | none => _) = _
        rw [he]
      rw [e2]; exact h1.hr
def thenX (Q : Ex → Env → Hp → Prop) (K : Env → Hp → Prop) : Ex → Env → Hp → Prop
  | .normal => K
  | .exit j => Q (.exit j)
  | .ret => Q .ret
def blkX (id : Nat) (Q : Ex → Env → Hp → Prop) : Ex → Env → Hp → Prop
  | .normal => Q .normal
  | .exit j => bif Nat.beq j id then Q .normal else Q (.exit j)
  | .ret => Q .ret
abbrev Wp := (Ex → Env → Hp → Prop) → Env → Hp → Prop
def wSkip (Q : Ex → Env → Hp → Prop) (env : Env) (H : Hp) : Prop := Q .normal env H
def wReg (P : Program) (D : Value → Prop) (ops : List ROper) (Q : Ex → Env → Hp → Prop) (env : Env) (H : Hp) : Prop := regX P D false ops env H (Q .normal)
def wDreg (P : Program) (D : Value → Prop) (segs : List (List ROper)) (Q : Ex → Env → Hp → Prop) (env : Env) (H : Hp) : Prop := segX P D segs env H (Q .normal)
def wSeq (_ _ : RCode) (ia ib : Wp) (Q : Ex → Env → Hp → Prop) (env : Env) (H : Hp) : Prop := ia (thenX Q (ib Q)) env H
def wCond (c : Operand) (_ _ : RCode) (ia ib : Wp) (Q : Ex → Env → Hp → Prop) (env : Env) (H : Hp) : Prop := match val env c with
  | .v (.bool t) => bIf t (ia Q env H) (ib Q env H)
  | _ => False
def wBlock (id : Nat) (_ : RCode) (ia : Wp) (Q : Ex → Env → Hp → Prop) (env : Env) (H : Hp) : Prop := ia (blkX id Q) env H
def wLoop (_ : RCode) (ih : Wp) (Q : Ex → Env → Hp → Prop) (env : Env) (H : Hp) : Prop := ∃ (ads : List (Nat × Nat × TypeId × Nat)) (r0 : Option (Nat × Nat × Nat)) (X : Type) (keep : List Nat) (lv : X → List (Nat × V)) (keepH : List Nat) (ho : X → List (Nat × Ent)) (μ : X → Nat),
      adoptOk env ads ∧ (∀ gs, renOk (adoptE env gs ads) (adoptH H gs ads) r0 ∧ ∀ g, ∃ x, meetsE (renE (adoptE env gs ads) g r0) (lv x) ∧ keptE env (renE (adoptE env gs ads) g r0) keep ∧ meetsH (renH (adoptH H gs ads) g r0) (ho x) ∧ keptH H (renH (adoptH H gs ads) g r0) keepH) ∧
      ∀ x, ih (thenX Q fun env' H' => ∃ r1, renOk env' H' r1 ∧ ∀ g, ∃ x', μ x' < μ x ∧ meetsE (renE env' g r1) (lv x') ∧ keptE env (renE env' g r1) keep ∧ meetsH (renH H' g r1) (ho x') ∧ keptH H (renH H' g r1) keepH) (hdE env keep (lv x)) (hdH H keepH (ho x))
def wExit (id : Nat) (Q : Ex → Env → Hp → Prop) (env : Env) (H : Hp) : Prop := Q (.exit id) env H
def wRet (Q : Ex → Env → Hp → Prop) (env : Env) (H : Hp) : Prop := Q .ret env H
noncomputable def wpx (P : Program) (D : Value → Prop) (rc : RCode) : Wp :=
  @RCode.rec (fun _ => Wp) wSkip (wReg P D) (wDreg P D) wSeq wCond wBlock wLoop wExit wRet rc
theorem hdE_idem (env : Env) (keep : List Nat) (l l' : List (Nat × V)) : True := trivial
theorem adapt_hd' {D : Value → Prop} {env0 env : Env} {H0 H : Hp} {keep keepH : List Nat} {lv : List (Nat × V)} {ho : List (Nat × Ent)} (h1 : meetsE env lv) (h2 : keptE env0 env keep) (h3 : meetsH H ho) (h4 : keptH H0 H keepH) : Adapt ⟨env, H, D⟩ ⟨hdE env0 keep lv, hdH H0 keepH ho, D⟩ := adapt_hd h1 h2 h3 h4
theorem wpx_sound {P : Program} {D : Value → Prop} : ∀ (rc : RCode) {Q : Ex → Env → Hp → Prop} {Q' : Ex → St → Prop} {env : Env} {H : Hp}, (∀ e env H, Q e env H → Q' e ⟨env, H, D⟩) → wpx P D rc Q env H → wpv P rc Q' ⟨env, H, D⟩
  | .skip, Q, Q', env, H, hq, h => hq _ _ _ h
  | .reg ops, Q, Q', env, H, hq, h => regX_R ops (fun env H h => hq _ _ _ h) (show regX P D false ops env H (Q .normal) from h)
  | .dreg segs, Q, Q', env, H, hq, h => segX_S segs (fun env H h => hq _ _ _ h) (show segX P D segs env H (Q .normal) from h)
  | .seq a b, Q, Q', env, H, hq, h => by
    have h : wpx P D a (thenX Q (wpx P D b Q)) env H := h
    refine wpx_sound a (Q' := thenQ Q' fun st' => wpv P b Q' st') (fun e env H h => ?_) h
    cases e with
    | normal => exact wpx_sound b hq h
    | exit j => exact hq _ _ _ h
    | ret => exact hq _ _ _ h
  | .cond c a b, Q, Q', env, H, hq, h => by
    have h : (match val env c with
      | .v (.bool t) => bIf t (wpx P D a Q env H) (wpx P D b Q env H)
      | _ => False) := h
    simp only [wpv]
    split at h
    · rename_i t ht
      simp only [ht]
      have := bIf_to h
      exact ⟨fun e => wpx_sound a hq (this.1 e), fun e => wpx_sound b hq (this.2 e)⟩
    · exact h.elim
  | .block id a, Q, Q', env, H, hq, h => by
    have h : wpx P D a (blkX id Q) env H := h
    refine wpx_sound a (Q' := inBlk id Q') (fun e env H h => ?_) h
    cases e with
    | normal => exact hq _ _ _ h
    | exit j =>
      simp only [blkX] at h
      simp only [inBlk]
      by_cases hj : j = id
      · subst hj
        rw [if_pos rfl]
        have : Nat.beq j j = true := by simp
        rw [this] at h; exact hq _ _ _ h
      · rw [if_neg hj]
        have : Nat.beq j id = false := by
          cases hb : Nat.beq j id with
          | false => rfl
          | true => exact absurd (Nat.eq_of_beq_eq_true hb) hj
        rw [this] at h; exact hq _ _ _ h
    | ret => exact hq _ _ _ h
  | .loop a, Q, Q', env, H, hq, h => by
    obtain ⟨ads, r0, X, keep, lv, keepH, ho, μ, h1, h2, h3⟩ := h
    refine ⟨X, fun x => ⟨hdE env keep (lv x), hdH H keepH (ho x), D⟩, μ, fun c a w ⟨R, G, hR⟩ => ?_, fun x => ?_⟩
    · obtain ⟨gs, G', hR'⟩ := adopt_all ads h1 hR
      obtain ⟨ho, h2⟩ := h2 gs
      obtain ⟨g, G2, hR2⟩ := ren_one hR' ho
      obtain ⟨x, m1, m2, m3, m4⟩ := h2 g
      exact ⟨x, adapt_hd m1 m2 m3 m4 c a w ⟨R, G2, hR2⟩⟩
    · refine wpx_sound a (fun e env' H' h => ?_) (h3 x)
      cases e with
      | normal =>
        intro c a w ⟨R, G, hR⟩
        obtain ⟨r1, hro, h2⟩ := h
        obtain ⟨g, G2, hR2⟩ := ren_one hR hro
        obtain ⟨x', m0, m1, m2, m3, m4⟩ := h2 g
        exact ⟨x', m0, adapt_hd m1 m2 m3 m4 c a w ⟨R, G2, hR2⟩⟩
      | exit j => exact hq _ _ _ h
      | ret => exact hq _ _ _ h
  | .exit id, Q, Q', env, H, hq, h => hq _ _ _ h
  | .ret, Q, Q', env, H, hq, h => hq _ _ _ h
def retX (ts : List Nat) (rs : List Par) : Ex → Env → Hp → Prop
  | .exit _ => fun _ _ => False
  | .normal => fun env H => ∃ gone, ArgsOk H gone true gone (ts.map env) rs
  | .ret => fun env H => ∃ gone, ArgsOk H gone true gone (ts.map env) rs
theorem fun_x {P : Program} {f : FuncId} {np : Nat} {rc : RCode} {ts : List Nat} {ps rs : List Par} (hc : chkFun P f np = some (rc, ts)) (hn : ps.length = np) (h : wpx P noD rc (retX ts rs) (entryEnv ps) (entryH ps)) : Fun P f ps rs := by
  refine fun_of hc hn (wpx_sound rc (fun e env H h => ?_) h)
  cases e with
  | normal => exact h
  | exit j => exact h
  | ret => exact h
theorem some_rfl {α : Type} {x : α} : some x = some x := rfl
end Go.Proofs.Ytjhdlcmecbngkaa
