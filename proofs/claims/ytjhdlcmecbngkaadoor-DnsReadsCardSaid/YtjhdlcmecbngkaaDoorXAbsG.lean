/- The framework: part of this claim. -/
import Derived.Test.YtjhdlcmecbngkaaDoorXAbsF
set_option linter.unusedSimpArgs false
namespace Go.Proofs.YtjhdlcmecbngkaaDoor
open Go.RowKit
set_option linter.unusedVariables false
abbrev Env := Nat → V
abbrev Hp := Nat → Option Ent
def f1 (v : V) (K : V → Prop) : Prop := match v with
 | .v (.int k n) => K (.v (.int k n))
 | .v (.bool b) => K (.v (.bool b))
 | .v (.string s) => K (.v (.string s))
 | .v (.slice a n c) => K (.v (.slice a n c))
 | .v (.tuple xs) => K (.v (.tuple xs))
 | .v (.pointer x) => K (.v (.pointer x))
 | .v (.func f a b) => K (.v (.func f a b))
 | .v x => K (.v x)
 | .any => K .any
 | .agg cs => K (.agg cs)
 | .tup us => K (.tup us)
 | .sl c rows => K (.sl c rows)
 | .own id g => K (.own id g)
 | .ptr id g i o => K (.ptr id g i o)
 | .rptr row o => K (.rptr row o)
 | .clo f cs => K (.clo f cs)
 | .obj id g => K (.obj id g)
 | .rmap es => K (.rmap es)
 | .osub id g a b => K (.osub id g a b)
 | .oclip id g n => K (.oclip id g n)
theorem f1_eq (v : V) (K : V → Prop) : f1 v K = K v := by
 unfold f1; split <;> rfl
def fL : List V → (List V → Prop) → Prop
 | [], K => K []
 | v :: vs, K => f1 v fun v => fL vs fun vs => K (v :: vs)
theorem fL_eq : ∀ (vs : List V) (K : List V → Prop), fL vs K = K vs
 | [], K => rfl
 | v :: vs, K => by rw [fL, f1_eq, fL_eq]
def kk (k k' : IntKind) (p : Prop) : Prop := if k = k' then p else False
theorem kk_iff {k k' : IntKind} {p : Prop} (h : kk k k' p) : k = k' ∧ p := by
 unfold kk at h; split at h
 ·exact ⟨‹_›, h⟩
 ·exact h.elim
def bIf (t : Bool) (A B : Prop) : Prop := match t with
 | true => A
 | false => B
theorem bIf_of {t : Bool} {A B : Prop} (h1 : t = true → A) (h2 : t = false → B) : bIf t A B := by cases t; exact h2 rfl; exact h1 rfl
theorem bIf_true {t : Bool} {A B : Prop} (ht : t = true) (h1 : A) : bIf t A B := by subst ht; exact h1
theorem bIf_false {t : Bool} {A B : Prop} (ht : t = false) (h1 : B) : bIf t A B := by subst ht; exact h1
theorem bIf_to {t : Bool} {A B : Prop} (h : bIf t A B) : (t = true → A) ∧ (t = false → B) := by
 cases t
 ·exact ⟨(fun e => by cases e), fun _ => h⟩
 ·exact ⟨fun _ => h, (fun e => by cases e)⟩
def intX (op : BinOp) (k : IntKind) (x : Int) (k' : IntKind) (y : Int) (K : Value → Prop) : Prop :=
 match op with
 | .add => kk k k' (∃ c, k.wrap (x + y) = c ∧ K (.int k c))
 | .sub => kk k k' (∃ c, k.wrap (x - y) = c ∧ K (.int k c))
 | .mul => kk k k' (∃ c, k.wrap (x * y) = c ∧ K (.int k c))
 | .quo => kk k k' (y ≠ 0 ∧ ∃ c, k.wrap (x.tdiv y) = c ∧ K (.int k c))
 | .rem => kk k k' (y ≠ 0 ∧ ∃ c, x.tmod y = c ∧ K (.int k c))
 | .shl => 0 ≤ y ∧ ∃ c, k.wrap (x * 2 ^ (min y.toNat k.bits)) = c ∧ K (.int k c)
 | .shr => 0 ≤ y ∧ ∃ c, x.fdiv (2 ^ (min y.toNat k.bits)) = c ∧ K (.int k c)
 | .and => kk k k' (∃ c, k.wrap ((BitVec.ofInt k.bits x &&& BitVec.ofInt k.bits y).toNat) = c ∧ K (.int k c))
 | .or => kk k k' (∃ c, k.wrap ((BitVec.ofInt k.bits x ||| BitVec.ofInt k.bits y).toNat) = c ∧ K (.int k c))
 | .andNot => kk k k' (∃ c, k.wrap ((BitVec.ofInt k.bits x &&& ~~~BitVec.ofInt k.bits y).toNat) = c ∧ K (.int k c))
 | .eql => kk k k' (K (.bool (x == y)))
 | .neq => kk k k' (K (.bool (x != y)))
 | .lss => kk k k' (K (.bool (decide (x < y))))
 | .leq => kk k k' (K (.bool (decide (x ≤ y))))
 | .gtr => kk k k' (K (.bool (decide (y < x))))
 | .geq => kk k k' (K (.bool (decide (y ≤ x))))
 | _ => False
theorem intX_to {op : BinOp} {k k' : IntKind} {x y : Int} {K : Value → Prop} (h : intX op k x k' y K) : intK op k x k' y K := by
 cases op <;> first | exact kk_iff h | exact h
def binX (op : BinOp) (a b : Value) (K : Value → Prop) : Prop :=
 match a, b with
 | .int k x, .int k' y => intX op k x k' y K
 | .string x, .string y => strK op x y K
 | _, _ => False
theorem binX_to {op : BinOp} {a b : Value} {K : Value → Prop} (h : binX op a b K) : binK op a b K := by
 unfold binX at h; unfold binK
 split at h
 ·exact intX_to h
 ·exact h
 ·exact h.elim
def atH (H : Hp) (id gen : Nat) (K : Ent → Prop) : Prop := match H id with
 | some e => e.gen = gen ∧ K e
 | none => False
theorem atH_to {H : Hp} {id gen : Nat} {K : Ent → Prop} (h : atH H id gen K) : ∃ e, H id = some e ∧ e.gen = gen ∧ K e := by
 unfold atH at h; split at h
 ·rename_i e he; exact ⟨e, he, h.1, h.2⟩
 ·exact h.elim
def bX (b : Bool) (K : Prop) : Prop := match b with
 | true => K
 | false => False
theorem bX_to {b : Bool} {K : Prop} (h : bX b K) : b = true ∧ K := by cases b; exact h.elim; exact ⟨rfl, h⟩
def oneX (H : Hp) (v : V) (K : Prop) : Prop := match v with
 | .v x => bX x.oneCell' K
 | .sl _ _ => K
 | .rptr _ _ => K
 | .clo _ _ => K
 | .rmap _ => K
 | .own id g => atH H id g fun _ => K
 | .ptr id g _ _ => atH H id g fun _ => K
 | .obj id g => atH H id g fun e => ∃ ents, e.T = .q (mapI ents) ∧ K
 | _ => False
theorem oneX_to {H : Hp} {v : V} {K : Prop} (h : oneX H v K) : one H v ∧ K := by
 cases v <;> first
  | exact bX_to h
  | exact ⟨trivial, h⟩
  | (obtain ⟨e, h1, h2, h3⟩ := atH_to h; exact ⟨⟨e, h1, h2⟩, h3⟩)
  | (obtain ⟨e, h1, h2, ents, h3, h4⟩ := atH_to h; exact ⟨⟨e, h1, h2, ents, h3⟩, h4⟩)
  | exact h.elim
def onesX (H : Hp) : List V → Prop → Prop
 | [], K => K
 | v :: vs, K => oneX H v (onesX H vs K)
theorem onesX_to {H : Hp} : ∀ {vs : List V} {K : Prop}, onesX H vs K → ones H vs ∧ K
 | [], K, h => ⟨trivial, h⟩
 | v :: vs, K, h => by
  obtain ⟨h1, h2⟩ := oneX_to h
  obtain ⟨h3, h4⟩ := onesX_to h2
  exact ⟨⟨h1, h3⟩, h4⟩
def fillX (env : Env) (H : Hp) : List V → List (Nat × Nat × Operand) → (List V → Prop) → Prop
 | cs, [], K => K cs
 | cs, (off, sz, x) :: ps, K => match cellsV (val env x) with
  | some us => bX (Nat.beq us.length sz) (bX (Nat.ble (off + sz) cs.length) (onesX H us (fL (putV cs off us) fun cs' => fillX env H cs' ps K)))
  | none => False
theorem fillX_to {env : Env} {H : Hp} : ∀ (ps : List (Nat × Nat × Operand)) (cs : List V) {K : List V → Prop}, fillX env H cs ps K → fillV env H cs ps K
 | [], cs, K, h => h
 | (off, sz, x) :: ps, cs, K, h => by
  simp only [fillX, fillV] at h ⊢
  split at h
  ·rename_i us hu
   simp only [hu]
   obtain ⟨h1, h⟩ := bX_to h
   obtain ⟨h2, h⟩ := bX_to h
   obtain ⟨h3, h⟩ := onesX_to h
   rw [fL_eq] at h
   exact ⟨Nat.eq_of_beq_eq_true h1, Nat.le_of_ble_eq_true h2, h3, fillX_to ps _ h⟩
  ·exact h.elim
def fillRX (env : Env) (H : Hp) (sz : Nat) : List (List V) → List (Nat × Operand) → (List (List V) → Prop) → Prop
 | rows, [], K => K rows
 | rows, (i, x) :: ps, K => match cellsV (val env x) with
  | some us => fL us fun us => bX (Nat.beq us.length sz) (bX (Nat.ble (i + 1) rows.length) (onesX H us (fillRX env H sz (rows.set i us) ps K)))
  | none => False
theorem fillRX_to {env : Env} {H : Hp} {sz : Nat} : ∀ (ps : List (Nat × Operand)) (rows : List (List V)) {K : List (List V) → Prop}, fillRX env H sz rows ps K → fillR env H sz rows ps K
 | [], cs, K, h => h
 | (i, x) :: ps, cs, K, h => by
  simp only [fillRX, fillR] at h ⊢
  split at h
  ·rename_i us hu
   simp only [hu]
   rw [fL_eq] at h
   obtain ⟨h1, h⟩ := bX_to h
   obtain ⟨h2, h⟩ := bX_to h
   obtain ⟨h3, h⟩ := onesX_to h
   exact ⟨Nat.eq_of_beq_eq_true h1, Nat.le_of_ble_eq_true h2, h3, fillRX_to ps _ h⟩
  ·exact h.elim
def srcX (H : Hp) (sz : Nat) (v : V) (K : List (List V) → Prop) : Prop := match v with
 | .own id g => atH H id g fun e => e.sz = sz ∧ K e.rows
 | .sl _ rows => (∀ row ∈ rows, row.length = sz ∧ ones H row) ∧ K rows
 | .v (.slice none 0 0) => K []
 | .osub id g lo hi => atH H id g fun e => e.sz = sz ∧ lo ≤ hi ∧ hi ≤ e.rows.length ∧ K ((e.rows.drop lo).take (hi - lo))
 | _ => False
theorem srcX_to {H : Hp} {sz : Nat} {v : V} {K : List (List V) → Prop} (h : srcX H sz v K) : ∃ rows, srcRows H sz v rows ∧ K rows := by
 unfold srcX at h
 split at h
 ·obtain ⟨e, h1, h2, h3, h4⟩ := atH_to h
  exact ⟨_, ⟨e, h1, h2, h3, rfl⟩, h4⟩
 ·exact ⟨_, ⟨rfl, h.1⟩, h.2⟩
 ·exact ⟨_, rfl, h⟩
 ·obtain ⟨e, h1, h2, h3, h4, h5, h6⟩ := atH_to h
  exact ⟨_, ⟨e, h1, h2, h3, h4, h5, rfl⟩, h6⟩
 ·exact h.elim
def resX (g : Nat → Nat) : Nat → List Par → Hp → (List V → Hp → Prop) → Prop
 | _, [], H, K => K [] H
 | k, .c u :: rs, H, K => resX g k rs H fun us H' => K (u :: us) H'
 | k, .o T sz rows :: rs, H, K => resX g (k + 1) rs (upd H k (some ⟨g k, .t T, sz, rows⟩)) fun us H' => K (.own k (g k) :: us) H'
theorem resX_eq (g : Nat → Nat) : ∀ (rs : List Par) (k : Nat) (H : Hp) (K : List V → Hp → Prop), resX g k rs H K = K (resV g k rs) (addH H (resH g k rs))
 | [], k, H, K => rfl
 | .c u :: rs, k, H, K => by rw [resX, resX_eq g rs]; rfl
 | .o T sz rows :: rs, k, H, K => by rw [resX, resX_eq g rs]; rfl
def dropsX : Hp → List Nat → Hp
 | H, [] => H
 | H, i :: l => dropsX (upd H i none) l
theorem dropsX_eq : ∀ (l : List Nat) (H : Hp), dropsX H l = addH H (l.map fun i => (i, none))
 | [], H => rfl
 | i :: l, H => dropsX_eq l (upd H i none)
def mkX (agg : Bool) (cs : List V) (K : V → Prop) : Prop := match agg with
 | true => fL cs fun cs => K (.agg cs)
 | false => f1 (cs.headD .any) K
theorem mkX_eq (agg : Bool) (cs : List V) (K : V → Prop) : mkX agg cs K = K (mkV agg cs) := by
 cases agg
 ·exact f1_eq _ _
 ·exact fL_eq _ _
def putX (r : ROper) (env : Env) (K : Env → Hp → Prop) (u : V) (H : Hp) : Prop := match r.dst with
 | some d => K (upd env d u) H
 | none => K env H
def jobX (g : Nat → Nat) (id gn : Nat) (p : ParM) (H : Hp) (K : V → Hp → Prop) : Prop := match p with
 | .p (.c u) => K u H
 | .p (.o T sz rows) => K (.own id gn) (upd H id (some ⟨gn, .t T, sz, rows⟩))
 | .pn T cells => resX g (kx id) cells H fun us H' => K (.ptr id gn 0 0) (upd H' id (some ⟨gn, .b T, cells.length, [us]⟩))
 | .po I => K (.ptr id gn 0 0) (upd H id (some ⟨gn, .q I, 0, []⟩))
 | _ => K .any H
theorem jobX_eq (g : Nat → Nat) (id gn : Nat) (p : ParM) (H : Hp) (K : V → Hp → Prop) : jobX g id gn p H K = K (jobV id gn p) (addH H (jobH g id gn p)) := by
 cases p with
 | p p => cases p <;> rfl
 | pn T cells => simp only [jobX, resX_eq, jobV, jobH, addH_append]; rfl
 | _ => rfl
def resMX (g : Nat → Nat) : Nat → List ParM → Hp → (List V → Hp → Prop) → Prop
 | _, [], H, K => K [] H
 | k, p :: rs, H, K => jobX g k (g k) p H fun u H' => resMX g (k + 1) rs H' fun us H'' => K (u :: us) H''
theorem resMX_eq (g : Nat → Nat) : ∀ (rs : List ParM) (k : Nat) (H : Hp) (K : List V → Hp → Prop), resMX g k rs H K = K (resMV g k rs) (addH H (resMH g k rs))
 | [], k, H, K => rfl
 | p :: rs, k, H, K => by rw [resMX, jobX_eq, resMX_eq g rs, resMH, addH_append]; rfl
def exit1X (g : Nat → Nat) (u : V) (p : ParM) (H : Hp) (K : Hp → Prop) : Prop := match p with
 | .ms T sz _ rows' => match u with | .own id gn => jobX g id gn (.p (.o T sz rows')) H fun _ H' => K H' | _ => K H
 | .mn T _ cells' => match u with | .ptr id gn _ _ => jobX g id gn (.pn T cells') H fun _ H' => K H' | _ => K H
 | .mo _ I' => match u with | .ptr id gn _ _ => jobX g id gn (.po I') H fun _ H' => K H' | _ => K H
 | _ => K H
theorem exit1X_eq (g : Nat → Nat) (u : V) (p : ParM) (H : Hp) (K : Hp → Prop) : exit1X g u p H K = K (addH H (exit1 g u p)) := by
 cases p <;> cases u <;> first | rfl | (simp only [exit1X, jobX_eq, exit1])
def exitX (g : Nat → Nat) : List V → List ParM → Hp → (Hp → Prop) → Prop
 | u :: us, p :: ps, H, K => exit1X g u p H fun H' => exitX g us ps H' K
 | _, _, H, K => K H
theorem exitX_eq (g : Nat → Nat) : ∀ (us : List V) (ps : List ParM) (H : Hp) (K : Hp → Prop), exitX g us ps H K = K (addH H (exitH g us ps))
 | u :: us, p :: ps, H, K => by rw [exitX, exit1X_eq, exitX_eq g us, exitH, addH_append]
 | [], [], H, K => rfl
 | [], _ :: _, H, K => rfl
 | _ :: _, [], H, K => rfl
def qX (e : Ent) (K : Opq → Prop) : Prop := match e.T with
 | .q I => K I
 | _ => False
theorem qX_to {e : Ent} {K : Opq → Prop} (h : qX e K) : ∃ I, e.T = .q I ∧ K I := by
 unfold qX at h; split at h
 ·rename_i I hI; exact ⟨I, hI, h⟩
 ·exact h.elim
def entsX (H : Hp) (v : V) (K : List (Value × V) → Prop) : Prop := match v with
 | .obj id g => atH H id g fun e => qX e fun I => ∃ ents, I = mapI ents ∧ K ents
 | .rmap ents => K ents
 | .v (.map none) => K []
 | _ => False
theorem entsX_to {H : Hp} {v : V} {K : List (Value × V) → Prop} (h : entsX H v K) : ∃ ents, entsOf H v ents ∧ K ents := by
 unfold entsX at h
 split at h
 ·obtain ⟨e, h1, h2, h3⟩ := atH_to h
  obtain ⟨I, h4, ents, rfl, h5⟩ := qX_to h3
  exact ⟨ents, ⟨e, h1, h2, h4⟩, h5⟩
 ·exact ⟨_, rfl, h⟩
 ·exact ⟨_, rfl, h⟩
 ·exact h.elim
def callX (P : Program) (H : Hp) (D : Value → Prop) (b : Nat) (f : FuncId) (us : List V) (K : List V → Hp → Prop) : Prop :=
 (∃ ps rs bor gone, ArgsOk H gone bor gone us ps ∧ Fun P f ps rs ∧ (bor = true → flatRes rs) ∧ rs.length ≤ 16 ∧ ∀ g : Nat → Nat, resX g b rs (dropsX H gone) K) ∨
 (∃ ps rs bor gone, ArgsM H gone bor gone us ps ∧ FunM P f ps rs ∧ (bor = true → ∀ p ∈ rs ++ exitsP ps, flatM p) ∧ (∀ p ∈ rs, outM p = true) ∧ (resMI b rs ++ exitI us ps).Nodup ∧ ∀ g : Nat → Nat, exitX g us ps (dropsX H gone) fun H' => resMX g b rs H' K) ∨
 (∃ ps bor gone v, ArgsM H gone bor gone us ps ∧ FunDie P f ps v ∧ D v)
theorem callX_to {P : Program} {H : Hp} {D : Value → Prop} {b : Nat} {f : FuncId} {us : List V} {K : List V → Hp → Prop} {K' : V → List (Nat × Option Ent) → Prop} (hk : ∀ us dH, K us (addH H dH) → K' (packU us) dH) (h : callX P H D b f us K) : callE P H D b f us K' := by
 rcases h with ⟨ps, rs, bor, gone, h1, h2, h3, h4, h5⟩ | ⟨ps, rs, bor, gone, h1, h2, h3, h4, h5, h6⟩ | h
 ·refine .inl ⟨ps, rs, bor, gone, h1, h2, h3, h4, fun g => hk _ _ ?_⟩
  have := h5 g
  rw [resX_eq, dropsX_eq, ← addH_append] at this
  exact this
 ·refine .inr (.inl ⟨ps, rs, bor, gone, h1, h2, h3, h4, h5, fun g => hk _ _ ?_⟩)
  have := h6 g
  rw [exitX_eq, resMX_eq, dropsX_eq] at this
  rw [addH_append, addH_append]
  exact this
 ·exact .inr (.inr h)
def opX (P : Program) (D : Value → Prop) (q : Bool) (r : ROper) (env : Env) (H : Hp) (K : Env → Hp → Prop) : Prop :=
 match r.op with
 | .mv x => f1 (val env x) fun v => putX r env K v H
 | .pick c x y => match val env c with
  | .v (.bool t) => bIf t (f1 (val env x) fun v => putX r env K v H) (f1 (val env y) fun v => putX r env K v H)
  | _ => False
 | .box T sz x => match cellsV (val env x) with
  | some cs => fL cs fun cs => bX (Nat.beq cs.length sz) (onesX H cs (∀ g : Nat, putX r env K (.ptr (16 * r.d) g 0 0) (upd H (16 * r.d) (some ⟨g, .b T, sz, [cs]⟩))))
  | none => False
 | .zbox T z => ∀ g : Nat, putX r env K (.ptr (16 * r.d) g 0 0) (upd H (16 * r.d) (some ⟨g, .b T, z.length, [z.map .v]⟩))
 | .build z ps => fL (z.map .v) fun cs => fillX env H cs ps fun cs => putX r env K (.agg cs) H
 | .mks T sz n z ps => fillRX env H sz (List.replicate n (z.map .v)) ps fun rows => ∀ g : Nat, putX r env K (.own (16 * r.d) g) (upd H (16 * r.d) (some ⟨g, .t T, sz, rows⟩))
 | .mkn T sz bytes z x y => match val env x, val env y with
  | .v (.int _ n), .v (.int _ m) => ∃ k : Nat, n = (k : Int) ∧ m = (k : Int) ∧ k ≤ maxLen ∧ k * bytes ≤ 140737488355328 ∧ ∀ g : Nat, putX r env K (.own (16 * r.d) g) (upd H (16 * r.d) (some ⟨g, .t T, sz, List.replicate k (z.map .v)⟩))
  | _, _ => False
 | .load agg sz x => match val env x with
  | .rptr row off => bX (Nat.ble (off + sz) row.length) (mkX agg ((row.drop off).take sz) fun v => putX r env K v H)
  | .ptr id gen i off => atH H id gen fun e => ∃ row, e.rows[i]? = some row ∧ bX (Nat.ble (off + sz) row.length) (mkX agg ((row.drop off).take sz) fun v => putX r env K v H)
  | _ => False
 | .bin op x y => match val env x, val env y with
  | .v a, .v c => binX op a c fun v => putX r env K (.v v) H
  | _, _ => False
 | .mm mx x y => match val env x, val env y with
  | .v (.int k a), .v (.int _ c) => match mx with
   | true => putX r env K (.v (.int k (max a c))) H
   | false => putX r env K (.v (.int k (min a c))) H
  | _, _ => False
 | .eqb neg x y => match val env x, val env y with
  | .v (.bool a), .v (.bool c) => putX r env K (.v (.bool (if neg then a != c else a == c))) H
  | _, _ => False
 | .eqS neg ts x y => match val env x, val env y with
  | .agg us, .agg vs => match eqV ts us vs with
   | some b => match neg with
    | true => putX r env K (.v (.bool (!b))) H
    | false => putX r env K (.v (.bool b)) H
   | none => False
  | _, _ => False
 | .not x => match val env x with
  | .v (.bool a) => putX r env K (.v (.bool (!a))) H
  | _ => False
 | .neg x => match val env x with
  | .v (.int k a) => ∃ c, k.wrap (0 - a) = c ∧ putX r env K (.v (.int k c)) H
  | _ => False
 | .conv k x => match val env x with
  | .v (.int _ a) => ∃ c, k.wrap a = c ∧ putX r env K (.v (.int k c)) H
  | _ => False
 | .convS x => match val env x with
  | .v (.string s) => putX r env K (.v (.string s)) H
  | _ => False
 | .fld agg sz off x => match val env x with
  | .agg cs => bX (Nat.ble (off + sz) cs.length) (mkX agg ((cs.drop off).take sz) fun v => putX r env K v H)
  | _ => False
 | .fldA off x => match val env x with
  | .rptr row o => putX r env K (.rptr row (o + off)) H
  | .ptr id gen i o => atH H id gen fun e => putX r env K (.ptr id gen i (o + off)) H
  | _ => False
 | .idxA sz x i => match val env x, val env i with
  | .sl _ rows, .v (.int _ n) => ∃ (j : Nat) (row : List V), n = (j : Int) ∧ rows[j]? = some row ∧ bX (Nat.beq row.length sz) (putX r env K (.rptr row 0) H)
  | .own id gen, .v (.int _ n) => atH H id gen fun e => e.sz = sz ∧ ∃ (j : Nat) (row : List V), n = (j : Int) ∧ e.rows[j]? = some row ∧ putX r env K (.ptr id gen j 0) H
  | _, _ => False
 | .idxS x i => match val env x, val env i with
  | .v (.string s), .v (.int _ n) => ∃ (j : Nat) (c : UInt8), n = (j : Int) ∧ s[j]? = some c ∧ putX r env K (.v (.int .u8 c.toNat)) H
  | _, _ => False
 | .slcS x lo hi => match val env x with
  | .v (.string s) => ∃ l h : Nat, loV env lo l ∧ hiV env s.size hi h ∧ l ≤ h ∧ h ≤ s.size ∧ putX r env K (.v (.string (s.extract l h))) H
  | _ => False
 | .slcL sz x lo hi mx => match val env x with
  | .own id gen => match q with
   | true => atH H id gen fun e => ∃ l h : Nat, e.sz = sz ∧ loV env lo l ∧ hiV env e.rows.length hi h ∧ l ≤ h ∧ h ≤ e.rows.length ∧
    match mx with
    | none => (none : Option Operand) = none ∧ putX r env K (.osub id gen l h) H
    | some y => l = 0 ∧ hi.isSome = true ∧ (∃ kd, val env y = .v (.int kd (h : Int))) ∧ putX r env K (.oclip id gen h) H
   | false => atH H id gen fun e => ∃ md l n : Nat, e.sz = sz ∧ loV env lo l ∧ hiV env e.rows.length hi n ∧ l ≤ n ∧ n ≤ e.rows.length ∧ match md with
    | 0 => l = 0 ∧ mx = none ∧ ∀ g : Nat, putX r env K (.own id g) (upd H id (some ⟨g, e.T, e.sz, e.rows.take n⟩))
    | 1 => mx = none ∧ putX r env K (.osub id gen l n) H
    | 3 => l = 0 ∧ hi.isSome = true ∧ ∃ (y : Operand) (kd : IntKind), mx = some y ∧ val env y = .v (.int kd (n : Int)) ∧ putX r env K (.oclip id gen n) H
    | _ => ∃ (y : Operand) (m : Nat) (kd : IntKind), mx = some y ∧ hi.isSome = true ∧ val env y = .v (.int kd (m : Int)) ∧ n ≤ m ∧ m ≤ e.rows.length ∧ putX r env K .any H
  | .osub id gen lo0 hi0 => atH H id gen fun e => ∃ l h : Nat, e.sz = sz ∧ loV env lo l ∧ hiV env (hi0 - lo0) hi h ∧ l ≤ h ∧ lo0 + h ≤ e.rows.length ∧ mx = none ∧ lo0 ≤ hi0 ∧ putX r env K (.osub id gen (lo0 + l) (lo0 + h)) H
  | .sl clip rows => ∃ l h : Nat, loV env lo l ∧ hiV env rows.length hi h ∧ l ≤ h ∧ h ≤ rows.length ∧ (rows = [] ∨ ∃ row, rows[0]? = some row ∧ row.length = sz) ∧
    match mx with
    | none => putX r env K (.sl false ((rows.drop l).take (h - l))) H
    | some y => hi.isSome = true ∧ (∃ k, val env y = .v (.int k (h : Int))) ∧ putX r env K (.sl true ((rows.drop l).take (h - l))) H
  | _ => False
 | .ext x i => match val env x with
  | .tup us => match us[i]? with
   | some u => f1 u fun u => putX r env K u H
   | none => False
  | _ => False
 | .len true x => match val env x with
  | .v (.string s) => putX r env K (.v (.int .i64 s.size)) H
  | _ => False
 | .len false x => match val env x with
  | .v (.slice _ n _) => putX r env K (.v (.int .i64 n)) H
  | .sl _ rows => putX r env K (.v (.int .i64 rows.length)) H
  | .own id gen => atH H id gen fun e => putX r env K (.v (.int .i64 e.rows.length)) H
  | .osub id gen lo hi => atH H id gen fun _ => putX r env K (.v (.int .i64 ((hi - lo : Nat) : Int))) H
  | _ => False
 | .call x args => match q with
  | true => match val env x with
   | .v (.func (.func f) ⟨[]⟩ ⟨[]⟩) => ∃ ps rs bor, ArgsOk H [] bor [] (args.map (val env)) ps ∧ Fun P f ps rs ∧ (bor = true → flatRes rs) ∧ rs.length ≤ 16 ∧ ∀ g : Nat → Nat, resX g (16 * r.d) rs H fun us H' => putX r env K (packU us) H'
   | .clo f caps => ∃ ps rs bor, ArgsOk H [] bor [] (args.map (val env) ++ caps) ps ∧ Fun P f ps rs ∧ (bor = true → flatRes rs) ∧ rs.length ≤ 16 ∧ ∀ g : Nat → Nat, resX g (16 * r.d) rs H fun us H' => putX r env K (packU us) H'
   | _ => False
  | false => match val env x with
   | .v (.func (.func f) ⟨[]⟩ ⟨[]⟩) => callX P H D (16 * r.d) f (args.map (val env)) fun us H' => putX r env K (packU us) H'
   | .clo f caps => callX P H D (16 * r.d) f (args.map (val env) ++ caps) fun us H' => putX r env K (packU us) H'
   | _ => False
 | .mkfn f caps => fL (caps.map (val env)) fun us => putX r env K (.clo f us) H
 | .store sz x y => match q with
  | true => False
  | false => match val env x with
   | .ptr id gen i off => atH H id gen fun e => ∃ row, e.rows[i]? = some row ∧ match cellsV (val env y) with
    | some us => bX (Nat.beq us.length sz) (bX (Nat.ble (off + sz) row.length) (onesX H us (fL (putV row off us) fun row' => putX r env K (.v undef) (upd H id (some ⟨e.gen, e.T, e.sz, e.rows.set i row'⟩)))))
    | none => False
   | _ => False
 | .app T sz bytes z x y => match q with
  | true => False
  | false => match val env x with
   | .osub id gen lo0 k => match val env y with
    | .osub id' gen' lo hi => atH H id gen fun e => id' = id ∧ gen' = gen ∧ lo0 = 0 ∧ e.sz = sz ∧ k ≤ lo ∧ lo ≤ hi ∧ hi ≤ e.rows.length ∧ putX r env K (.osub id gen 0 (k + (hi - lo))) (upd H id (some ⟨e.gen, e.T, e.sz, e.rows.take k ++ (e.rows.drop lo).take (hi - lo) ++ e.rows.drop (k + (hi - lo))⟩))
    | _ => False
   | .own id gen => srcX H sz (val env y) fun rows => atH H id gen fun e => e.T = .t T ∧ e.sz = sz ∧ e.rows.length + rows.length ≤ maxLen ∧ (e.rows.length + rows.length) * bytes ≤ 140737488355328 ∧ ∀ g : Nat, putX r env K (.own id g) (upd H id (some ⟨g, .t T, sz, e.rows ++ rows⟩))
   | .v (.slice none 0 0) => srcX H sz (val env y) fun rows => rows.length ≤ maxLen ∧ rows.length * bytes ≤ 140737488355328 ∧ ∀ g : Nat, putX r env K (.own (16 * r.d) g) (upd H (16 * r.d) (some ⟨g, .t T, sz, rows⟩))
   | .sl true rows0 => srcX H sz (val env y) fun rows => rows ≠ [] ∧ (∀ row ∈ rows0, row.length = sz ∧ ones H row) ∧ rows0.length + rows.length ≤ maxLen ∧ (rows0.length + rows.length) * bytes ≤ 140737488355328 ∧ ∀ g : Nat, putX r env K (.own (16 * r.d) g) (upd H (16 * r.d) (some ⟨g, .t T, sz, rows0 ++ rows⟩))
   | .oclip id gen n => srcX H sz (val env y) fun rows => atH H id gen fun e => rows ≠ [] ∧ e.sz = sz ∧ n ≤ e.rows.length ∧ n + rows.length ≤ maxLen ∧ (n + rows.length) * bytes ≤ 140737488355328 ∧ ∀ g : Nat, putX r env K (.own (16 * r.d) g) (upd H (16 * r.d) (some ⟨g, .t T, sz, e.rows.take n ++ rows⟩))
   | _ => False
 | .clr sz z x => match q with
  | true => False
  | false => match val env x with
   | .osub id gen lo hi => atH H id gen fun e => e.sz = sz ∧ lo ≤ hi ∧ hi ≤ e.rows.length ∧ putX r env K .any (upd H id (some ⟨e.gen, e.T, e.sz, e.rows.take lo ++ List.replicate (hi - lo) (z.map .v) ++ e.rows.drop hi⟩))
   | _ => False
 | .isnil neg x => match q with
  | true => False
  | false => match val env x with
   | .v (.slice ad _ _) => putX r env K (.v (.bool (if neg then !ad.isNone else ad.isNone))) H
   | .sl _ rows => ∀ b : Bool, (b = true → rows = []) → putX r env K (.v (.bool (if neg then !b else b))) H
   | .own id gen => atH H id gen fun e => ∀ b : Bool, (b = true → e.rows = []) → putX r env K (.v (.bool (if neg then !b else b))) H
   | _ => False
 | .mkm => ∀ g : Nat, putX r env K (.obj (16 * r.d) g) (upd H (16 * r.d) (some ⟨g, .q (mapI []), 0, []⟩))
 | .mlook kd ok z x i => match val env i with
  | .v kv => entsX H (val env x) fun ents => ∃ u, findE kd kv ents 0 = some u ∧ match u with
   | some (_, u) => match ok with
    | true => putX r env K (.tup [u, .v (.bool true)]) H
    | false => putX r env K u H
   | none => match ok with
    | true => putX r env K (.tup [.v z, .v (.bool false)]) H
    | false => putX r env K (.v z) H
  | _ => False
 | .mlen x => entsX H (val env x) fun ents => putX r env K (.v (.int .i64 ents.length)) H
 | .mupd kd x i v => match q with
  | true => False
  | false => match val env x, val env i with
   | .obj id gen, .v kv => atH H id gen fun e => qX e fun I => ∃ ents u, I = mapI ents ∧ Cl (val env v) ∧ findE kd kv ents 0 = some u ∧ putX r env K (.v undef) (upd H id (some ⟨e.gen, .q (mapI (putE ents kv (val env v) u)), 0, []⟩))
   | _, _ => False
 | .die x => match q with
  | true => False
  | false => match val env x with
   | .v (.iface t y) => D (.iface t y)
   | _ => False
 | .mki t x => match val env x with
  | .v v => putX r env K (.v (.iface t v)) H
  | .agg [] => putX r env K (.v (.iface t (.agg #[]))) H
  | _ => False
 | .ofB x => srcX H 1 (val env x) fun rows => ∃ ns : List Int, rows = ns.map (fun n => [.v (.int .u8 n)]) ∧ putX r env K (.v (.string (strNs ns))) H
 | .toB x => match val env x with
  | .v (.string s) => putX r env K (.sl false (s.data.toList.map fun b => [.v (.int .u8 b.toNat)])) H
  | _ => False
theorem putX_eq (D : Value → Prop) (r : ROper) (env : Env) (K : Env → Hp → Prop) (u : V) (H : Hp) : putX r env K u H = K (St.put ⟨env, H, D⟩ r.dst u).env (St.put ⟨env, H, D⟩ r.dst u).H := by
 unfold putX St.put; cases r.dst <;> rfl
set_option maxHeartbeats 2000000 in
theorem opX_Q {P : Program} {D : Value → Prop} {q : Bool} {r : ROper} {env : Env} {H : Hp} {K : Env → Hp → Prop} {K' : St → Prop} (hk : ∀ env H, K env H → K' ⟨env, H, D⟩) (hq : q = true ∨ r.op.isE = false) (h : opX P D q r env H K) (g : Nat → Nat) : stepQ P r.op env H g (16 * r.d) (afterOp r ⟨env, H, D⟩ K') := by
 obtain ⟨dst, guard, op⟩ := r
 have kf : ∀ (u : V) (dH : List (Nat × Option Ent)), putX ⟨dst, guard, op⟩ env K u (addH H dH) → afterOp ⟨dst, guard, op⟩ ⟨env, H, D⟩ K' u dH := fun u dH h => by
  rw [putX_eq D] at h; have h := hk _ _ h; cases dst <;> exact h
 have k0 : ∀ (u : V), putX ⟨dst, guard, op⟩ env K u H → afterOp ⟨dst, guard, op⟩ ⟨env, H, D⟩ K' u [] := fun u h => kf u [] h
 have kmk : ∀ (agg : Bool) (cs : List V), (mkX agg cs fun v => putX ⟨dst, guard, op⟩ env K v H) → afterOp ⟨dst, guard, op⟩ ⟨env, H, D⟩ K' (mkV agg cs) [] := fun agg cs h => by
  rw [mkX_eq] at h; exact k0 _ h
 cases op with
 | mv x => simp only [opX, f1_eq] at h; exact k0 _ h
 | pick c x y =>
  simp only [opX] at h
  simp only [stepQ]
  split at h
  ·rename_i t ht
   simp only [ht]
   have h := bIf_to h
   rw [f1_eq, f1_eq] at h
   exact ⟨fun e => k0 _ (h.1 e), fun e => k0 _ (h.2 e)⟩
  ·exact h.elim
 | box T sz x =>
  simp only [opX] at h
  simp only [stepQ]
  split at h
  ·rename_i cs hcs
   simp only [hcs]
   rw [fL_eq] at h
   obtain ⟨h1, h⟩ := bX_to h
   obtain ⟨h2, h⟩ := onesX_to h
   exact ⟨Nat.eq_of_beq_eq_true h1, h2, kf _ _ (h _)⟩
  ·exact h.elim
 | zbox T z => simp only [opX] at h; exact kf _ _ (h _)
 | build z ps =>
  simp only [opX, fL_eq] at h
  exact fillV_map _ _ (fun cs h => k0 _ h) (fillX_to _ _ h)
 | mks T sz n z ps =>
  simp only [opX] at h
  exact fillR_map _ _ (fun cs h => kf _ _ (h _)) (fillRX_to _ _ h)
 | mkn T sz bytes z x y =>
  simp only [opX] at h
  simp only [stepQ]
  split at h
  ·rename_i k1 n k2 m hx hy
   simp only [hx, hy]
   obtain ⟨k, h1, h2, h3, h4, h5⟩ := h
   exact ⟨k, h1, h2, h3, h4, kf _ _ (h5 _)⟩
  ·exact h.elim
 | load agg sz x =>
  simp only [opX] at h
  simp only [stepQ]
  split at h
  ·rename_i row off hx
   simp only [hx]
   obtain ⟨h1, h⟩ := bX_to h
   exact ⟨Nat.le_of_ble_eq_true h1, kmk _ _ h⟩
  ·rename_i id gen i off hx
   simp only [hx]
   obtain ⟨e, h1, h2, row, h3, h4⟩ := atH_to h
   obtain ⟨h5, h4⟩ := bX_to h4
   exact ⟨e, row, h1, h2, h3, Nat.le_of_ble_eq_true h5, kmk _ _ h4⟩
  ·exact h.elim
 | bin op x y =>
  simp only [opX] at h
  simp only [stepQ]
  split at h
  ·rename_i a c hx hy
   simp only [hx, hy]
   obtain ⟨r, h1, h2⟩ := binK_ex (binX_to h)
   unfold binK at h1 ⊢
   split at h1
   ·cases op <;> first
     | exact h1.elim
     | (obtain ⟨q1, c, q2, rfl⟩ := h1; exact ⟨q1, c, q2, k0 _ h2⟩)
     | (obtain ⟨q1, q0, c, q2, rfl⟩ := h1; exact ⟨q1, q0, c, q2, k0 _ h2⟩)
     | (obtain ⟨q1, rfl⟩ := h1; exact ⟨q1, k0 _ h2⟩)
   ·cases op <;> first
     | exact h1.elim
     | (obtain ⟨q1, rfl⟩ := h1; exact ⟨q1, k0 _ h2⟩)
     | (obtain rfl := h1; exact k0 _ h2)
   ·exact h1.elim
  ·exact h.elim
 | mm mx x y =>
  simp only [opX] at h
  simp only [stepQ]
  split at h
  ·rename_i k a k' c hx hy
   simp only [hx, hy]
   cases mx <;> exact k0 _ h
  ·exact h.elim
 | eqb neg x y =>
  simp only [opX] at h
  simp only [stepQ]
  split at h
  ·rename_i a c hx hy
   simp only [hx, hy]
   exact k0 _ h
  ·exact h.elim
 | eqS neg ts x y =>
  simp only [opX] at h
  simp only [stepQ]
  split at h
  ·rename_i us vs hx hy
   simp only [hx, hy]
   split at h
   ·rename_i b hb
    simp only [hb]
    cases neg
    ·exact k0 _ h
    ·exact k0 _ h
   ·exact h.elim
  ·exact h.elim
 | not x =>
  simp only [opX] at h
  simp only [stepQ]
  split at h
  ·rename_i a hx
   simp only [hx]
   exact k0 _ h
  ·exact h.elim
 | neg x =>
  simp only [opX] at h
  simp only [stepQ]
  split at h
  ·rename_i k a hx
   simp only [hx]
   obtain ⟨c, h1, h2⟩ := h
   exact ⟨c, h1, k0 _ h2⟩
  ·exact h.elim
 | conv k x =>
  simp only [opX] at h
  simp only [stepQ]
  split at h
  ·rename_i k' a hx
   simp only [hx]
   obtain ⟨c, h1, h2⟩ := h
   exact ⟨c, h1, k0 _ h2⟩
  ·exact h.elim
 | convS x =>
  simp only [opX] at h
  simp only [stepQ]
  split at h
  ·rename_i s hx
   simp only [hx]
   exact k0 _ h
  ·exact h.elim
 | fld agg sz off x =>
  simp only [opX] at h
  simp only [stepQ]
  split at h
  ·rename_i cs hx
   simp only [hx]
   obtain ⟨h1, h⟩ := bX_to h
   exact ⟨Nat.le_of_ble_eq_true h1, kmk _ _ h⟩
  ·exact h.elim
 | fldA off x =>
  simp only [opX] at h
  simp only [stepQ]
  split at h
  ·rename_i row o hx
   simp only [hx]
   exact k0 _ h
  ·rename_i id gen i o hx
   simp only [hx]
   obtain ⟨e, h1, h2, h4⟩ := atH_to h
   exact ⟨⟨e, h1, h2⟩, k0 _ h4⟩
  ·exact h.elim
 | idxA sz x i =>
  simp only [opX] at h
  simp only [stepQ]
  split at h
  ·rename_i c rows k n hx hi
   simp only [hx, hi]
   obtain ⟨j, row, h1, h2, h4⟩ := h
   obtain ⟨h3, h4⟩ := bX_to h4
   exact ⟨j, row, h1, h2, Nat.eq_of_beq_eq_true h3, k0 _ h4⟩
  ·rename_i id gen k n hx hi
   simp only [hx, hi]
   obtain ⟨e, h1, h2, h3, j, row, h4, h5, h6⟩ := atH_to h
   exact ⟨e, j, row, h1, h2, h3, h4, h5, k0 _ h6⟩
  ·exact h.elim
 | idxS x i =>
  simp only [opX] at h
  simp only [stepQ]
  split at h
  ·rename_i s k n hx hi
   simp only [hx, hi]
   obtain ⟨j, c, h1, h2, h3⟩ := h
   exact ⟨j, c, h1, h2, k0 _ h3⟩
  ·exact h.elim
 | slcS x lo hi =>
  simp only [opX] at h
  simp only [stepQ]
  split at h
  ·rename_i s hx
   simp only [hx]
   obtain ⟨l, k, h1, h2, h3, h4, h5⟩ := h
   exact ⟨l, k, h1, h2, h3, h4, k0 _ h5⟩
  ·exact h.elim
 | slcL sz x lo hi mx =>
  simp only [opX] at h
  simp only [stepQ]
  split at h
  ·rename_i id gen hx
   rcases hq with rfl | hq
   ·simp only [hx]
    obtain ⟨e, h1, h2, l, k, h3, h4, h5, h6, h7, h8⟩ := atH_to h
    refine ⟨e, l, k, h1, h2, h3, h4, h5, h6, h7, ?_⟩
    cases mx with
    | none => exact ⟨trivial, k0 _ h8.2⟩
    | some y => exact ⟨h8.1, h8.2.1, h8.2.2.1, k0 _ h8.2.2.2⟩
   ·simp [ROp.isE] at hq
  ·rename_i id gen lo0 hi0 hx
   simp only [hx]
   obtain ⟨e, h1, h2, l, k, h3, h4, h5, h6, h7, h8, h85, h9⟩ := atH_to h
   exact ⟨e, l, k, h1, h2, h3, h4, h5, h6, h7, h8, h85, k0 _ h9⟩
  ·rename_i clip rows hx
   simp only [hx]
   obtain ⟨l, k, h1, h2, h3, h4, h5, h6⟩ := h
   refine ⟨l, k, h1, h2, h3, h4, h5, ?_⟩
   cases mx with
   | none => exact k0 _ h6
   | some y => exact ⟨h6.1, h6.2.1, k0 _ h6.2.2⟩
  ·exact h.elim
 | ext x i =>
  simp only [opX] at h
  simp only [stepQ]
  split at h
  ·rename_i us hx
   simp only [hx]
   split at h
   ·rename_i u hu
    rw [f1_eq] at h
    exact ⟨u, hu, k0 _ h⟩
   ·exact h.elim
  ·exact h.elim
 | len s x =>
  cases s with
  | true =>
   simp only [opX] at h
   simp only [stepQ]
   split at h
   ·rename_i s hx
    simp only [hx]
    exact k0 _ h
   ·exact h.elim
  | false =>
   simp only [opX] at h
   simp only [stepQ]
   split at h
   ·rename_i a n c hx
    simp only [hx]
    exact k0 _ h
   ·rename_i c rows hx
    simp only [hx]
    exact k0 _ h
   ·rename_i id gen hx
    simp only [hx]
    obtain ⟨e, h1, h2, h3⟩ := atH_to h
    exact ⟨e, h1, h2, k0 _ h3⟩
   ·rename_i id gen lo hi hx
    simp only [hx]
    obtain ⟨e, h1, h2, h3⟩ := atH_to h
    exact ⟨⟨e, h1, h2⟩, k0 _ h3⟩
   ·exact h.elim
 | call x args =>
  rcases hq with rfl | hq
  ·simp only [opX] at h
   simp only [stepQ]
   split at h
   ·rename_i f hf
    simp only [hf]
    obtain ⟨ps, rs, bor, h1, h2, h3, h4, h5⟩ := h
    refine ⟨ps, rs, bor, h1, h2, h3, h4, kf _ _ ?_⟩
    have := h5 g
    rw [resX_eq] at this
    exact this
   ·rename_i f caps hf
    simp only [hf]
    obtain ⟨ps, rs, bor, h1, h2, h3, h4, h5⟩ := h
    refine ⟨ps, rs, bor, h1, h2, h3, h4, kf _ _ ?_⟩
    have := h5 g
    rw [resX_eq] at this
    exact this
   ·exact h.elim
  ·simp [ROp.isE] at hq
 | mkfn f caps => simp only [opX, fL_eq] at h; exact k0 _ h
 | store sz x y =>
  rcases hq with rfl | hq
  ·exact h.elim
  ·simp [ROp.isE] at hq
 | app T sz bytes z x y =>
  rcases hq with rfl | hq
  ·exact h.elim
  ·simp [ROp.isE] at hq
 | mupd kd x i v =>
  rcases hq with rfl | hq
  ·exact h.elim
  ·simp [ROp.isE] at hq
 | die x =>
  rcases hq with rfl | hq
  ·exact h.elim
  ·simp [ROp.isE] at hq
 | clr sz z x =>
  rcases hq with rfl | hq
  ·exact h.elim
  ·simp [ROp.isE] at hq
 | isnil neg x =>
  rcases hq with rfl | hq
  ·exact h.elim
  ·simp [ROp.isE] at hq
 | mkm => simp only [opX] at h; exact kf _ _ (h _)
 | mlook kd ok z x i =>
  simp only [opX] at h
  simp only [stepQ]
  split at h
  ·rename_i kv hi
   obtain ⟨ents, h1, u, h2, h3⟩ := entsX_to h
   refine ⟨ents, kv, u, h1, hi, h2, ?_⟩
   split at h3 <;> cases ok <;> exact k0 _ h3
  ·exact h.elim
 | mlen x =>
  simp only [opX] at h
  simp only [stepQ]
  obtain ⟨ents, h1, h2⟩ := entsX_to h
  exact ⟨ents, h1, k0 _ h2⟩
 | mki t x =>
  simp only [opX] at h
  simp only [stepQ]
  split at h
  ·rename_i v hx
   simp only [hx]
   exact k0 _ h
  ·rename_i hx
   simp only [hx]
   exact ⟨[], rfl, k0 _ h⟩
  ·exact h.elim
 | ofB x =>
  simp only [opX] at h
  simp only [stepQ]
  obtain ⟨rows, h1, ns, h2, h3⟩ := srcX_to h
  exact ⟨rows, ns, h1, h2, k0 _ h3⟩
 | toB x =>
  simp only [opX] at h
  simp only [stepQ]
  split at h
  ·rename_i s hx
   simp only [hx]
   exact k0 _ h
  ·exact h.elim
set_option maxHeartbeats 1000000 in
theorem opX_R {P : Program} {D : Value → Prop} {r : ROper} {env : Env} {H : Hp} {K : Env → Hp → Prop} {K' : St → Prop} (hk : ∀ env H, K env H → K' ⟨env, H, D⟩) (h : opX P D false r env H K) : opR P r ⟨env, H, D⟩ K' := by
 obtain ⟨dst, guard, op⟩ := r
 unfold opR
 have kf : ∀ (u : V) (dH : List (Nat × Option Ent)), putX ⟨dst, guard, op⟩ env K u (addH H dH) → afterOp ⟨dst, guard, op⟩ ⟨env, H, D⟩ K' u dH := fun u dH h => by
  rw [putX_eq D] at h; have h := hk _ _ h; cases dst <;> exact h
 cases op with
 | call x args =>
  simp only [ROp.isE, if_true, stepE]
  simp only [opX] at h
  split at h
  ·rename_i f hf
   simp only [hf]
   exact callX_to (fun us dH h => kf _ _ h) h
  ·rename_i f caps hf
   simp only [hf]
   exact callX_to (fun us dH h => kf _ _ h) h
  ·exact h.elim
 | mupd kd x i v =>
  simp only [ROp.isE, if_true, stepE]
  simp only [opX] at h
  split at h
  ·rename_i id gen kv hx hi
   simp only [hx]
   obtain ⟨e, h1, h2, h3⟩ := atH_to h
   obtain ⟨I, h4, ents, u, rfl, h5, h6, h7⟩ := qX_to h3
   subst h2
   exact ⟨e, ents, kv, u, h1, rfl, h4, hi, h5, h6, kf _ _ h7⟩
  ·exact h.elim
 | die x =>
  simp only [ROp.isE, if_true, stepE]
  simp only [opX] at h
  split at h
  ·rename_i t y hx
   simp only [hx]
   exact h
  ·exact h.elim
 | store sz x y =>
  simp only [ROp.isE, if_true, stepE]
  simp only [opX] at h
  split at h
  ·rename_i id gen i off hx
   simp only [hx]
   obtain ⟨e, h1, h2, row, h3, h4⟩ := atH_to h
   split at h4
   ·rename_i us hus
    obtain ⟨h5, h4⟩ := bX_to h4
    obtain ⟨h6, h4⟩ := bX_to h4
    obtain ⟨h7, h4⟩ := onesX_to h4
    rw [fL_eq] at h4
    exact ⟨e, row, us, h1, h2, h3, hus, Nat.eq_of_beq_eq_true h5, Nat.le_of_ble_eq_true h6, h7, kf _ _ h4⟩
   ·exact h4.elim
  ·exact h.elim
 | slcL sz x lo hi mx =>
  simp only [ROp.isE, if_true, stepE]
  simp only [opX] at h
  split at h
  ·rename_i id gen hx
   simp only [hx]
   obtain ⟨e, h1, h2, md, l, n, h3, h4, h5, h6, h7, h8⟩ := atH_to h
   refine ⟨e, md, l, n, h1, h2, h3, h4, h5, h6, h7, ?_⟩
   match md, h8 with
   | 0, h8 => exact ⟨h8.1, h8.2.1, fun g => kf _ _ (h8.2.2 g)⟩
   | 1, h8 => exact ⟨h8.1, kf _ [] h8.2⟩
   | 3, h8 =>
    obtain ⟨k1, k2, y, kd, k3, k4, k6⟩ := h8
    exact ⟨k1, k2, y, kd, k3, k4, kf _ [] k6⟩
   | 2, h8 =>
    obtain ⟨y, m, kd, k1, k2, k3, k4, k5, k6⟩ := h8
    exact ⟨y, m, kd, k1, k2, k3, k4, k5, kf _ [] k6⟩
   | _ + 4, h8 =>
    obtain ⟨y, m, kd, k1, k2, k3, k4, k5, k6⟩ := h8
    exact ⟨y, m, kd, k1, k2, k3, k4, k5, kf _ [] k6⟩
  ·rename_i id gen lo0 hi0 hx
   simp only [hx]
   obtain ⟨e, h1, h2, l, k, h3, h4, h5, h6, h7, h8, h85, h9⟩ := atH_to h
   exact ⟨e, l, k, h1, h2, h3, h4, h5, h6, h7, h8, h85, kf _ [] h9⟩
  ·rename_i clip rows hx
   simp only [hx]
   obtain ⟨l, k, h1, h2, h3, h4, h5, h6⟩ := h
   refine ⟨l, k, h1, h2, h3, h4, h5, ?_⟩
   cases mx with
   | none => exact kf _ [] h6
   | some y => exact ⟨h6.1, h6.2.1, kf _ [] h6.2.2⟩
  ·exact h.elim
 | clr sz z x =>
  simp only [ROp.isE, if_true, stepE]
  simp only [opX] at h
  split at h
  ·rename_i id gen lo hi hx
   simp only [hx]
   obtain ⟨e, h1, h2, h3, h4, h5, h6⟩ := atH_to h
   exact ⟨e, h1, h2, h3, h4, h5, kf _ _ h6⟩
  ·exact h.elim
 | isnil neg x =>
  simp only [ROp.isE, if_true, stepE]
  simp only [opX] at h
  split at h
  ·rename_i ad n c hx
   simp only [hx]
   exact kf _ [] h
  ·rename_i c rows hx
   simp only [hx]
   exact fun b hb => kf _ [] (h b hb)
  ·rename_i id gen hx
   simp only [hx]
   obtain ⟨e, h1, h2, h3⟩ := atH_to h
   exact ⟨e, h1, h2, fun b hb => kf _ [] (h3 b hb)⟩
  ·exact h.elim
 | app T sz bytes z x y =>
  simp only [ROp.isE, if_true, stepE]
  simp only [opX] at h
  split at h
  ·rename_i id gen lo0 k hx
   simp only [hx]
   split at h
   ·rename_i id' gen' lo hi hy
    simp only [hy]
    obtain ⟨e, h1, h2, h3, h4, h5, h6, h7, h8, h9, h10⟩ := atH_to h
    exact ⟨e, h1, h2, h3, h4, h5, h6, h7, h8, h9, kf _ _ h10⟩
   ·exact h.elim
  ·rename_i id gen hx
   simp only [hx]
   obtain ⟨rows, h0, h⟩ := srcX_to h
   obtain ⟨e, h1, h2, h3, h4, h5, h6, h7⟩ := atH_to h
   exact ⟨rows, h0, e, h1, h2, h3, h4, h5, h6, fun g => kf _ _ (h7 g)⟩
  ·rename_i hx
   simp only [hx]
   obtain ⟨rows, h0, h⟩ := srcX_to h
   exact ⟨rows, h0, h.1, h.2.1, fun g => kf _ _ (h.2.2 g)⟩
  ·rename_i rows0 hx
   simp only [hx]
   obtain ⟨rows, h0, h⟩ := srcX_to h
   exact ⟨rows, h0, h.1, h.2.1, h.2.2.1, h.2.2.2.1, fun g => kf _ _ (h.2.2.2.2 g)⟩
  ·rename_i id gen n hx
   simp only [hx]
   obtain ⟨rows, h0, h⟩ := srcX_to h
   obtain ⟨e, h1, h2, h3, h4, h5, h6, h7, h8⟩ := atH_to h
   exact ⟨rows, h0, e, h1, h2, h3, h4, h5, h6, h7, fun g => kf _ _ (h8 g)⟩
  ·exact h.elim
 | _ =>
  have := opX_Q (q := false) hk (.inr rfl) h
  simp only [ROp.isE, ROp.allocs, Bool.false_eq_true, if_false, if_true]
  first
   | exact this _
   | exact fun g => this g
theorem opX_D {P : Program} {D : Value → Prop} {r : ROper} {env : Env} {H : Hp} {K : Env → Hp → Prop} {K' : St → Prop} (hk : ∀ env H, K env H → K' ⟨env, H, D⟩) (h : opX P D true r env H K) : opD P r ⟨env, H, D⟩ K' := by
 have := opX_Q (q := true) hk (.inl rfl) h
 unfold opD
 split
 ·exact fun g => this g
 ·exact this _
def guardX (r : ROper) (env : Env) (A B : Prop) : Prop :=
  match r.guard with
  | none => A
  | some (s, want) => match env s with
    | .v (.bool t) => (match want with
      | true => bIf t A B
      | false => bIf t B A)
    | .v (.tuple ⟨[]⟩) => B
    | _ => False
theorem guardX_to {r : ROper} {st : St} {A B A' B' : Prop} (h : guardX r st.env A B) (hA : A → A') (hB : B → B') : guarded r st A' B' := by
 unfold guardX at h
 unfold guarded
 cases hg : r.guard with
 | none => simp only [hg] at h; exact hA h
 | some p =>
  obtain ⟨s, want⟩ := p
  simp only [hg] at h ⊢
  generalize st.env s = u at h ⊢
  split at h
  ·rename_i t
   cases want
   ·have := bIf_to h; exact ⟨fun e => hA (this.2 e), fun e => hB (this.1 (by simpa using e))⟩
   ·have := bIf_to h; exact ⟨fun e => hA (this.1 e), fun e => hB (this.2 (by simpa using e))⟩
  ·exact hB h
  ·exact h.elim
def skipX (r : ROper) (env : Env) : Env := match r.dst with
 | some d => upd env d (.v undef)
 | none => env
def regN (env : Env) (H : Hp) (K : Env → Hp → Prop) : Prop := K env H
def regC (P : Program) (D : Value → Prop) (q : Bool) (r : ROper) (_ : List ROper) (ih : Env → Hp → (Env → Hp → Prop) → Prop) (env : Env) (H : Hp) (K : Env → Hp → Prop) : Prop :=
 guardX r env (opX P D q r env H fun env H => ih env H K) (ih (skipX r env) H K)
noncomputable def regX (P : Program) (D : Value → Prop) (q : Bool) (rs : List ROper) : Env → Hp → (Env → Hp → Prop) → Prop :=
 @List.rec ROper (fun _ => Env → Hp → (Env → Hp → Prop) → Prop) regN (regC P D q) rs
theorem regX_R {P : Program} {D : Value → Prop} : ∀ (rs : List ROper) {env : Env} {H : Hp} {K : Env → Hp → Prop} {K' : St → Prop}, (∀ env H, K env H → K' ⟨env, H, D⟩) → regX P D false rs env H K → wpR P rs ⟨env, H, D⟩ K'
 | [], env, H, K, K', hk, h => hk _ _ h
 | r :: rs, env, H, K, K', hk, h => by
  have h : guardX r env (opX P D false r env H fun env H => regX P D false rs env H K) (regX P D false rs (skipX r env) H K) := h
  simp only [wpR]
  refine guardX_to (st := ⟨env, H, D⟩) h (fun h => opX_R (fun env H h => regX_R rs hk h) h) (fun h => ?_)
  ·have e : (St.put ⟨env, H, D⟩ r.dst (.v undef)) = ⟨skipX r env, H, D⟩ := by unfold St.put skipX; cases r.dst <;> rfl
   rw [e]; exact regX_R rs hk h
theorem regX_D {P : Program} {D : Value → Prop} : ∀ (rs : List ROper) {env : Env} {H : Hp} {K : Env → Hp → Prop} {K' : St → Prop}, (∀ env H, K env H → K' ⟨env, H, D⟩) → regX P D true rs env H K → wpDl P rs ⟨env, H, D⟩ K'
 | [], env, H, K, K', hk, h => hk _ _ h
 | r :: rs, env, H, K, K', hk, h => by
  have h : guardX r env (opX P D true r env H fun env H => regX P D true rs env H K) (regX P D true rs (skipX r env) H K) := h
  simp only [wpDl]
  refine guardX_to (st := ⟨env, H, D⟩) h (fun h => opX_D (fun env H h => regX_D rs hk h) h) (fun h => ?_)
  ·have e : (St.put ⟨env, H, D⟩ r.dst (.v undef)) = ⟨skipX r env, H, D⟩ := by unfold St.put skipX; cases r.dst <;> rfl
   rw [e]; exact regX_D rs hk h
def stX (r : ROper) (fin : List ROper) (env : Env) (H : Hp) (K : Hp → Nat → Prop) : Prop := match r with
  | ⟨none, none, .store sz x y⟩ => match val env x with
    | .ptr id gen i off => bX (!(allocDs fin).contains (id / 16)) (atH H id gen fun e => ∃ row, e.rows[i]? = some row ∧ match cellsV (val env y) with
        | some us => bX (Nat.beq us.length sz) (bX (Nat.ble (off + sz) row.length) (onesX H us (fL (putV row off us) fun row' => K (upd H id (some ⟨e.gen, e.T, e.sz, e.rows.set i row'⟩)) id)))
        | none => False)
    | _ => False
  | _ => False
def awX (env : Env) (id : Nat) (r : ROper) (K : Prop) : Prop := match r.op with
 | .load _ _ x => match val env x with
  | .ptr id' _ _ _ => bX (!(Nat.beq id' id)) K
  | .rptr _ _ => K
  | _ => False
 | _ => K
def awayC (env : Env) (id : Nat) (fl : List ROper) (r : ROper) (_ : List ROper) (ih : Prop) : Prop := bif fl.any (fun q => Nat.beq q.d r.d) then awX env id r ih else ih
noncomputable def awayX (env : Env) (id : Nat) (fl : List ROper) (seg : List ROper) (K : Prop) : Prop :=
 @List.rec ROper (fun _ => Prop) K (awayC env id fl) seg
theorem awX_to {env : Env} {id : Nat} {r : ROper} {K : Prop} (h : awX env id r K) : awayR env id r ∧ K := by
 obtain ⟨dst, gd, op⟩ := r
 cases op with
 | load agg sz x =>
  simp only [awX] at h
  simp only [awayR]
  split at h
  ·rename_i hx
   rw [hx]
   obtain ⟨h1, h2⟩ := bX_to h
   exact ⟨by simpa using h1, h2⟩
  ·rename_i hx
   rw [hx]
   exact ⟨trivial, h⟩
  ·exact h.elim
 | _ => exact ⟨trivial, h⟩
theorem awayX_to {env : Env} {id : Nat} {fl : List ROper} : ∀ {seg : List ROper} {K : Prop}, awayX env id fl seg K → allAway env id fl seg ∧ K
 | [], K, h => ⟨trivial, h⟩
 | r :: rs, K, h => by
  have h : awayC env id fl r rs (awayX env id fl rs K) := h
  unfold awayC at h
  simp only [allAway]
  cases hq : fl.any (fun q => Nat.beq q.d r.d) with
  | true =>
   rw [hq] at h
   obtain ⟨h1, h2⟩ := awX_to (show awX env id r (awayX env id fl rs K) from h)
   obtain ⟨h3, h4⟩ := awayX_to h2
   exact ⟨⟨h1, h3⟩, h4⟩
  | false =>
   rw [hq] at h
   obtain ⟨h3, h4⟩ := awayX_to (show awayX env id fl rs K from h)
   exact ⟨⟨trivial, h3⟩, h4⟩
noncomputable def restX (P : Program) (D : Value → Prop) (fl seg : List ROper) (l : List ROper) (env : Env) (H : Hp) (K : Env → Hp → Prop) : Prop := match l with
 | [] => False
 | r :: rest => stX r seg env H fun H id => regX P D true rest env H fun env H => awayX env id fl seg (K env H)
noncomputable def mixX (P : Program) (D : Value → Prop) (fl seg : List ROper) (env : Env) (H : Hp) (K : Env → Hp → Prop) : Prop :=
 regX P D true (seg.take (storeIx seg)) env (dropH (allocDs seg) H) fun env H => restX P D fl seg (seg.drop (storeIx seg)) env H K
theorem stX_to {r : ROper} {fin : List ROper} {env : Env} {H : Hp} {D : Value → Prop} {K : Hp → Nat → Prop} {K' : St → Nat → Prop} (hk : ∀ H id, K H id → K' ⟨env, H, D⟩ id) (h : stX r fin env H K) : wpSt r fin ⟨env, H, D⟩ K' := by
 unfold stX at h
 unfold wpSt
 split at h
 ·split at h
  ·rename_i id gen i off hx
   simp only [hx]
   obtain ⟨h0, h⟩ := bX_to h
   obtain ⟨e, h1, h2, row, h3, h4⟩ := atH_to h
   split at h4
   ·rename_i us hus
    obtain ⟨h5, h4⟩ := bX_to h4
    obtain ⟨h6, h4⟩ := bX_to h4
    obtain ⟨h7, h4⟩ := onesX_to h4
    rw [fL_eq] at h4
    exact ⟨by simpa using h0, e, row, us, h1, h2, h3, hus, Nat.eq_of_beq_eq_true h5, Nat.le_of_ble_eq_true h6, h7, hk _ _ h4⟩
   ·exact h4.elim
  ·exact h.elim
 ·exact h.elim
theorem mixX_M {P : Program} {D : Value → Prop} {fl seg : List ROper} {env : Env} {H : Hp} {K : Env → Hp → Prop} {K' : St → Prop} (hk : ∀ env H, K env H → K' ⟨env, H, D⟩) (h : mixX P D fl seg env H K) : wpM P fl seg ⟨env, H, D⟩ K' := by
 unfold wpM
 refine regX_D _ (fun env H h => ?_) h
 unfold restX at h
 split at h
 ·exact h.elim
 ·rename_i r rest hr
  simp only [hr]
  refine stX_to (fun H id h => ?_) h
  refine regX_D _ (fun env H h => ?_) h
  obtain ⟨h1, h2⟩ := awayX_to h
  exact ⟨h1, hk _ _ h2⟩
def twoX (P : Program) (D : Value → Prop) : Nat → List ROper → List ROper → Env → Hp → (Env → Hp → Prop) → Prop
 | 0, _, _, env, H, K => K env H
 | n + 1, a :: A, b :: B, env, H, K => regX P D false [a] env H (fun env H => twoX P D n A (b :: B) env H K) ∧ regX P D false [b] env H (fun env H => twoX P D n (a :: A) B env H K)
 | n + 1, a :: A, [], env, H, K => regX P D false [a] env H (fun env H => twoX P D n A [] env H K)
 | n + 1, [], b :: B, env, H, K => regX P D false [b] env H (fun env H => twoX P D n [] B env H K)
 | _ + 1, [], [], _, _, _ => False
theorem twoX_T {P : Program} {D : Value → Prop} {K : Env → Hp → Prop} {K' : St → Prop} (hk : ∀ env H, K env H → K' ⟨env, H, D⟩) : ∀ {n : Nat} {A B : List ROper} {env : Env} {H : Hp}, twoX P D n A B env H K → wpTwo P n A B ⟨env, H, D⟩ K'
 | 0, A, B, env, H, h => by unfold wpTwo; exact hk _ _ h
 | n + 1, a :: A, b :: B, env, H, h => ⟨regX_R [a] (fun env H h => twoX_T hk h) h.1, regX_R [b] (fun env H h => twoX_T hk h) h.2⟩
 | n + 1, a :: A, [], env, H, h => regX_R [a] (fun env H h => twoX_T hk h) h
 | n + 1, [], b :: B, env, H, h => regX_R [b] (fun env H h => twoX_T hk h) h
 | n + 1, [], [], env, H, h => h.elim
inductive Md where
 | z
 | a
 | b (fl : List ROper)
def segN (md : Md) (env : Env) (H : Hp) (K : Env → Hp → Prop) : Prop := match md with
 | .z => K env H
 | _ => False
noncomputable def segC (P : Program) (D : Value → Prop) (seg : List ROper) (_ : List (List ROper)) (ih : Md → Env → Hp → (Env → Hp → Prop) → Prop) (md : Md) (env : Env) (H : Hp) (K : Env → Hp → Prop) : Prop :=
 match md with
 | .z => match seg with
  | [] => ih .a env H K
  | [r] => regX P D false [r] env H fun env H => ih .z env H K
  | seg => regX P D true seg env (dropH (allocDs seg) H) fun env H => ih .z env H K
 | .a => ih (.b seg) env H K
 | .b fl => match lateOf fl with
  | some r => regX P D true seg env (dropH (allocDs seg) H) fun env H => regX P D false [r] env H fun env' H' => staysK fl.tail env H H' seg (ih .z env' H' K)
  | none => match twoOf fl with
   | true => twoX P D 5 (seg.take 2) (seg.drop 2) env H fun env H => ih .z env H K
   | false => mixX P D fl seg env H fun env H => ih .z env H K
noncomputable def segX (P : Program) (D : Value → Prop) (ss : List (List ROper)) : Env → Hp → (Env → Hp → Prop) → Prop :=
 @List.rec (List ROper) (fun _ => Md → Env → Hp → (Env → Hp → Prop) → Prop) segN (segC P D) ss .z
theorem segX_S {P : Program} {D : Value → Prop} : ∀ (segs : List (List ROper)) {env : Env} {H : Hp} {K : Env → Hp → Prop} {K' : St → Prop}, (∀ env H, K env H → K' ⟨env, H, D⟩) → segX P D segs env H K → wpS P segs ⟨env, H, D⟩ K'
  | [], env, H, K, K', hk, h => hk _ _ h
  | [] :: fl :: seg :: ss, env, H, K, K', hk, h => by
    have h : (match lateOf fl with
      | some r => regX P D true seg env (dropH (allocDs seg) H) fun env H => regX P D false [r] env H fun env' H' => staysK fl.tail env H H' seg (segX P D ss env' H' K)
      | none => match twoOf fl with
        | true => twoX P D 5 (seg.take 2) (seg.drop 2) env H fun env H => segX P D ss env H K
        | false => mixX P D fl seg env H fun env H => segX P D ss env H K) := h
    cases hlt : lateOf fl with
    | some r =>
      simp only [hlt] at h
      simp only [wpS, hlt]
      exact regX_D seg (fun env H h => regX_R [r] (fun env' H' h => staysK_mono (fun h => segX_S ss hk h) h) h) h
    | none =>
      cases htw : twoOf fl with
      | true =>
        simp only [hlt, htw] at h
        simp only [wpS, hlt, htw]
        exact twoX_T (fun env H h => segX_S ss hk h) h
      | false =>
        simp only [hlt, htw] at h
        simp only [wpS, hlt, htw]
        exact mixX_M (fun env H h => segX_S ss hk h) h
  | [r] :: ss, env, H, K, K', hk, h => by
    have h : regX P D false [r] env H fun env H => segX P D ss env H K := h
    simp only [wpS]
    exact regX_R [r] (fun env H h => segX_S ss hk h) h
  | [] :: [], env, H, K, K', hk, h => (show False from h).elim
  | [] :: [fl], env, H, K, K', hk, h => (show False from h).elim
  | (r :: r' :: seg) :: ss, env, H, K, K', hk, h => by
    have h : regX P D true (r :: r' :: seg) env (dropH (allocDs (r :: r' :: seg)) H) fun env H => segX P D ss env H K := h
    simp only [wpS]
    exact regX_D (r :: r' :: seg) (fun env H h => segX_S ss hk h) h
def adoptE (env : Env) (g : Nat → Nat) : List (Nat × Nat × TypeId × Nat) → Env
 | [] => env
 | (s, id, _, _) :: l => adoptE (upd env s (.own id (g id))) g l
def adoptH (H : Hp) (g : Nat → Nat) : List (Nat × Nat × TypeId × Nat) → Hp
 | [] => H
 | (_, id, T, sz) :: l => adoptH (upd H id (some ⟨g id, .t T, sz, []⟩)) g l
def adoptOk (env : Env) : List (Nat × Nat × TypeId × Nat) → Prop
 | [] => True
 | (s, id, _, sz) :: l => env s = .v (.slice none 0 0) ∧ 0 < sz ∧ (∀ s' id' T' sz', (s', id', T', sz') ∈ l → s' ≠ s ∧ id' ≠ id) ∧ adoptOk env l
def findV : List (Nat × V) → Nat → Option V
 | [], _ => none
 | (s, v) :: l, i => bif Nat.beq i s then some v else findV l i
def hdE (env : Env) (keep : List Nat) (l : List (Nat × V)) : Env := fun i => match findV l i with
 | some v => v
 | none => bif keep.contains i then env i else .any
def findH : List (Nat × Ent) → Nat → Option Ent
 | [], _ => none
 | (s, e) :: l, i => bif Nat.beq i s then some e else findH l i
def hdH (H : Hp) (keep : List Nat) (l : List (Nat × Ent)) : Hp := fun i => match findH l i with
 | some e => some e
 | none => bif keep.contains i then H i else none
def meetsE (env : Env) : List (Nat × V) → Prop
 | [] => True
 | (s, v) :: l => env s = v ∧ meetsE env l
def meetsH (H : Hp) : List (Nat × Ent) → Prop
 | [] => True
 | (s, e) :: l => H s = some e ∧ meetsH H l
def keptE (env env' : Env) : List Nat → Prop
 | [] => True
 | s :: l => env' s = env s ∧ keptE env env' l
def keptH (H H' : Hp) : List Nat → Prop
 | [] => True
 | s :: l => H' s = H s ∧ keptH H H' l
theorem findV_meets {env : Env} {i : Nat} {v : V} : ∀ {l : List (Nat × V)}, meetsE env l → findV l i = some v → env i = v
 | (s, u) :: l, h, hf => by
  simp only [findV] at hf
  cases hb : Nat.beq i s with
  | true =>
   have := Nat.eq_of_beq_eq_true hb
   subst this
   rw [hb] at hf; simp at hf; rw [← hf]; exact h.1
  | false => rw [hb] at hf; exact findV_meets h.2 hf
theorem findH_meets {H : Hp} {i : Nat} {e : Ent} : ∀ {l : List (Nat × Ent)}, meetsH H l → findH l i = some e → H i = some e
 | (s, u) :: l, h, hf => by
  simp only [findH] at hf
  cases hb : Nat.beq i s with
  | true =>
   have := Nat.eq_of_beq_eq_true hb
   subst this
   rw [hb] at hf; simp at hf; rw [← hf]; exact h.1
  | false => rw [hb] at hf; exact findH_meets h.2 hf
theorem keptE_at {env env' : Env} {i : Nat} : ∀ {l : List Nat}, keptE env env' l → l.contains i = true → env' i = env i
 | s :: l, h, hc => by
  simp only [List.contains_cons, Bool.or_eq_true, beq_iff_eq] at hc
  rcases hc with rfl | hc
  ·exact h.1
  ·exact keptE_at h.2 hc
theorem keptH_at {H H' : Hp} {i : Nat} : ∀ {l : List Nat}, keptH H H' l → l.contains i = true → H' i = H i
 | s :: l, h, hc => by
  simp only [List.contains_cons, Bool.or_eq_true, beq_iff_eq] at hc
  rcases hc with rfl | hc
  ·exact h.1
  ·exact keptH_at h.2 hc
theorem adapt_hd {D : Value → Prop} {env0 env : Env} {H0 H : Hp} {keep keepH : List Nat} {lv : List (Nat × V)} {ho : List (Nat × Ent)} (h1 : meetsE env lv) (h2 : keptE env0 env keep) (h3 : meetsH H ho) (h4 : keptH H0 H keepH) : Adapt ⟨env, H, D⟩ ⟨hdE env0 keep lv, hdH H0 keepH ho, D⟩ := by
 refine adapt_keep (fun i => ?_) (fun id e he => ?_) rfl
 ·show hdE env0 keep lv i = .any ∨ hdE env0 keep lv i = env i
  unfold hdE
  split
  ·rename_i v hv; right; exact (findV_meets h1 hv).symm
  ·cases hc : keep.contains i with
   | true => right; exact (keptE_at h2 hc).symm
   | false => left; rfl
 ·have he' : hdH H0 keepH ho id = some e := he
  unfold hdH at he'
  split at he'
  ·rename_i e' hf; injection he' with he'; subst he'; exact findH_meets h3 hf
  ·cases hc : keepH.contains id with
   | true => rw [hc] at he'; exact (keptH_at h4 hc).trans he'
   | false => rw [hc] at he'; cases he'
theorem keptE_refl (env : Env) : ∀ l : List Nat, keptE env env l
 | [] => trivial
 | _ :: l => ⟨rfl, keptE_refl env l⟩
theorem keptH_refl (H : Hp) : ∀ l : List Nat, keptH H H l
 | [] => trivial
 | _ :: l => ⟨rfl, keptH_refl H l⟩
theorem adopt_one {D : Value → Prop} {c : Ctx} {env : Env} {H : Hp} {a : Act} {w : World} {R : Nat → Prop} {G : Nat → Option Loc} (h : RelAt c ⟨env, H, D⟩ a w R G) {s id : Nat} {T : TypeId} {sz : Nat} (hs : env s = .v (.slice none 0 0)) (hz : 0 < sz) : RelAt c ⟨upd env s (.own id (freshGen G id)), upd H id (some ⟨freshGen G id, .t T, sz, []⟩), D⟩ a w R (upd G id (some ⟨freshGen G id, sz, .slice none 0 0, false, none⟩)) := by
 have h1 := h.set (row := none) (w' := w) (id := id) (v := .slice none 0 0) (box := false) (To := .t T) (T := T) (rows := []) ⟨rfl, rfl, rfl, Nat.le_refl _, fun _ _ _ => rfl⟩ (.inl rfl) (by simp) (fun l0 h0 => .inr (freshGen_lt h0)) hz (xs := []) (World.ownsRow_nil _ _ _ _) ⟨by simp, fun i j row u hi => by simp at hi⟩ (fun b hb => by cases hb)
 refine ⟨fun i => ?_, h1.hr, h1.lt, h1.src, h1.old, h1.fr, h1.n, h1.defers, h1.die, h1.gle⟩
 show RV w R _ (upd env s (.own id (freshGen G id)) i) _
 by_cases hi : i = s
 ·subst hi
  rw [upd_same]
  have h2 : RV w R G (env i) (a.tmps.getD i undef) := h.env i
  rw [hs] at h2
  rw [rv_v h2]
  exact .own _ _ _ (upd_same _ _ _) (Nat.le_refl _) _ fun _ => ⟨rfl, rfl⟩
 ·rw [upd_ne _ _ hi]; exact h1.env i
theorem adopt_all {D : Value → Prop} {c : Ctx} {a : Act} {w : World} {R : Nat → Prop} : ∀ (ads : List (Nat × Nat × TypeId × Nat)) {env : Env} {H : Hp} {G : Nat → Option Loc}, adoptOk env ads → RelAt c ⟨env, H, D⟩ a w R G → ∃ (gs : Nat → Nat) (G' : Nat → Option Loc), RelAt c ⟨adoptE env gs ads, adoptH H gs ads, D⟩ a w R G'
 | [], env, H, G, _, h => ⟨fun _ => 0, G, h⟩
 | (s, id, T, sz) :: l, env, H, G, ho, h => by
  obtain ⟨h1, h2, h3, h4⟩ := ho
  have hr := adopt_one h h1 h2 (T := T) (id := id)
  have hok : ∀ (l : List (Nat × Nat × TypeId × Nat)) (env : Env) (v : V), (∀ s' id' T' sz', (s', id', T', sz') ∈ l → s' ≠ s ∧ id' ≠ id) → adoptOk env l → adoptOk (upd env s v) l := by
   intro l
   induction l with
   | nil => intro _ _ _ _; trivial
   | cons p l ih =>
    obtain ⟨s', id', T', sz'⟩ := p
    intro env v hne ⟨q1, q2, q3, q4⟩
    exact ⟨by rw [upd_ne _ _ (hne s' id' T' sz' (by simp)).1]; exact q1, q2, q3, ih env v (fun a b c d hm => hne a b c d (List.mem_cons_of_mem _ hm)) q4⟩
  obtain ⟨gs, G', hr'⟩ := adopt_all l (hok l env _ h3 h4) hr
  have hE : ∀ (l : List (Nat × Nat × TypeId × Nat)) (env : Env) (g g' : Nat → Nat), (∀ s' id' T' sz', (s', id', T', sz') ∈ l → g id' = g' id') → adoptE env g l = adoptE env g' l := by
   intro l
   induction l with
   | nil => intro _ _ _ _; rfl
   | cons p l ih =>
    obtain ⟨s', id', T', sz'⟩ := p
    intro env g g' hh
    simp only [adoptE]
    rw [hh s' id' T' sz' (by simp)]
    exact ih _ g g' fun a b c d hm => hh a b c d (List.mem_cons_of_mem _ hm)
  have hHp : ∀ (l : List (Nat × Nat × TypeId × Nat)) (H : Hp) (g g' : Nat → Nat), (∀ s' id' T' sz', (s', id', T', sz') ∈ l → g id' = g' id') → adoptH H g l = adoptH H g' l := by
   intro l
   induction l with
   | nil => intro _ _ _ _; rfl
   | cons p l ih =>
    obtain ⟨s', id', T', sz'⟩ := p
    intro H g g' hh
    simp only [adoptH]
    rw [hh s' id' T' sz' (by simp)]
    exact ih _ g g' fun a b c d hm => hh a b c d (List.mem_cons_of_mem _ hm)
  have hg : ∀ s' id' T' sz', (s', id', T', sz') ∈ l → gs id' = upd gs id (freshGen G id) id' := fun s' id' T' sz' hm => by rw [upd_ne _ _ (h3 s' id' T' sz' hm).2]
  refine ⟨upd gs id (freshGen G id), G', ?_⟩
  simp only [adoptE, adoptH]
  rw [upd_same, ← hE l _ gs _ hg, ← hHp l _ gs _ hg]
  exact hr'
def renE (env : Env) (g : Nat) : Option (Nat × Nat × Nat) → Env
 | none => env
 | some (s, _, id') => upd env s (.own id' g)
def renH (H : Hp) (g : Nat) : Option (Nat × Nat × Nat) → Hp
 | none => H
 | some (_, id, id') => match H id with
  | some e => upd (upd H id none) id' (some ⟨g, e.T, e.sz, e.rows⟩)
  | none => H
def renOk (env : Env) (H : Hp) : Option (Nat × Nat × Nat) → Prop
 | none => True
 | some (s, id, _) => ∃ g, env s = .own id g ∧ atH H id g fun _ => True
theorem ren_one {D : Value → Prop} {c : Ctx} {env : Env} {H : Hp} {a : Act} {w : World} {R : Nat → Prop} {G : Nat → Option Loc} (h : RelAt c ⟨env, H, D⟩ a w R G) : ∀ {r : Option (Nat × Nat × Nat)}, renOk env H r → ∃ (g : Nat) (G' : Nat → Option Loc), RelAt c ⟨renE env g r, renH H g r, D⟩ a w R G'
 | none, _ => ⟨0, G, h⟩
 | some (s, id, id'), hr => by
  obtain ⟨g, hs, ha⟩ := hr
  obtain ⟨e, he, hg, _⟩ := atH_to ha
  have hv : RV w R G (env s) (a.tmps.getD s undef) := h.env s
  rw [hs] at hv
  obtain ⟨l, xs, T0, g1, g2, g3, g4, g5, g6, g7, hT0, hop0, hbx0⟩ := h.objO hv he hg
  have hle : Gle G (upd G id' (some ⟨freshGen G id', e.sz, l.val, false, none⟩)) := fun k m hm => by
   by_cases hk : k = id'
   ·subst hk; exact ⟨_, upd_same _ _ _, .inr (freshGen_lt hm)⟩
   ·exact ⟨m, by rw [upd_ne _ _ hk]; exact hm, .inl (SameL.refl _)⟩
  have h1 := (h.drop id).set (row := none) (w' := w) (id := id') (v := l.val) (box := false) (To := e.T) (T := T0) (rows := e.rows) ⟨rfl, rfl, rfl, Nat.le_refl _, fun _ _ _ => rfl⟩ (.inl hT0) (by simp) (fun l0 h0 => .inr (freshGen_lt h0)) g4 (xs := xs) g5 (g6.mono (fun b hb => ⟨hb, rfl⟩) hle) (fun b hb => by
   right
   have hb := (Loc.ft_of hop0).2 hb
   have hm := h.hr.mine id e l b he g1 (g2.trans hg.symm) hb
   refine ⟨hm.1, hm.2, fun k ek lk hk h1 h2 h3 => ?_⟩
   by_cases hki : k = id
   ·subst hki
    have : upd H k none k = some ek := h1
    rw [upd_same] at this; cases this
   ·have h1' : upd H id none k = some ek := h1
    rw [upd_ne _ _ hki] at h1'
    exact h.hr.apart id k e ek l lk b he h1' (fun e => hki e.symm) g1 h2 (g2.trans hg.symm) h3 hb)
  refine ⟨freshGen G id', upd G id' (some ⟨freshGen G id', e.sz, l.val, false, none⟩), ⟨fun i => ?_, ?_, h1.lt, h1.src, h1.old, h1.fr, h1.n, h1.defers, h1.die, h1.gle⟩⟩
  ·show RV w R _ (upd env s (.own id' (freshGen G id')) i) _
   by_cases hi : i = s
   ·subst hi
    rw [upd_same, g7]
    exact .own _ _ _ (upd_same _ _ _) (Nat.le_refl _) _ fun _ => ⟨rfl, rfl⟩
   ·rw [upd_ne _ _ hi]; exact h1.env i
  ·show HR _ _ _ _ _ (renH H (freshGen G id') (some (s, id, id')))
   have e2 : renH H (freshGen G id') (some (s, id, id')) = upd (upd H id none) id' (some ⟨freshGen G id', e.T, e.sz, e.rows⟩) := by
    show (match H id with | some e => _ | none => _) = _
    rw [he]
   rw [e2]; exact h1.hr
def thenX (Q : Ex → Env → Hp → Prop) (K : Env → Hp → Prop) : Ex → Env → Hp → Prop
 | .normal => K
 | .exit j => Q (.exit j)
 | .ret => Q .ret
def blkX (id : Nat) (Q : Ex → Env → Hp → Prop) : Ex → Env → Hp → Prop
 | .normal => Q .normal
 | .exit j => bif Nat.beq j id then Q .normal else Q (.exit j)
 | .ret => Q .ret
abbrev Wp := (Ex → Env → Hp → Prop) → Env → Hp → Prop
def wSkip (Q : Ex → Env → Hp → Prop) (env : Env) (H : Hp) : Prop := Q .normal env H
def wReg (P : Program) (D : Value → Prop) (ops : List ROper) (Q : Ex → Env → Hp → Prop) (env : Env) (H : Hp) : Prop := regX P D false ops env H (Q .normal)
noncomputable def wDreg (P : Program) (D : Value → Prop) (segs : List (List ROper)) (Q : Ex → Env → Hp → Prop) (env : Env) (H : Hp) : Prop := segX P D segs env H (Q .normal)
def wSeq (_ _ : RCode) (ia ib : Wp) (Q : Ex → Env → Hp → Prop) (env : Env) (H : Hp) : Prop := ia (thenX Q (ib Q)) env H
def wCond (c : Operand) (_ _ : RCode) (ia ib : Wp) (Q : Ex → Env → Hp → Prop) (env : Env) (H : Hp) : Prop := match val env c with
 | .v (.bool t) => bIf t (ia Q env H) (ib Q env H)
 | _ => False
def wBlock (id : Nat) (_ : RCode) (ia : Wp) (Q : Ex → Env → Hp → Prop) (env : Env) (H : Hp) : Prop := ia (blkX id Q) env H
def wLoop (_ : RCode) (ih : Wp) (Q : Ex → Env → Hp → Prop) (env : Env) (H : Hp) : Prop := ∃ (ads : List (Nat × Nat × TypeId × Nat)) (r0 : Option (Nat × Nat × Nat)) (X : Type) (keep : List Nat) (lv : X → List (Nat × V)) (keepH : List Nat) (ho : X → List (Nat × Ent)) (μ : X → Nat),
   adoptOk env ads ∧ (∀ gs, renOk (adoptE env gs ads) (adoptH H gs ads) r0 ∧ ∀ g, ∃ x, meetsE (renE (adoptE env gs ads) g r0) (lv x) ∧ keptE env (renE (adoptE env gs ads) g r0) keep ∧ meetsH (renH (adoptH H gs ads) g r0) (ho x) ∧ keptH H (renH (adoptH H gs ads) g r0) keepH) ∧
   ∀ x, ih (thenX Q fun env' H' => ∃ r1, renOk env' H' r1 ∧ ∀ g, ∃ x', μ x' < μ x ∧ meetsE (renE env' g r1) (lv x') ∧ keptE env (renE env' g r1) keep ∧ meetsH (renH H' g r1) (ho x') ∧ keptH H (renH H' g r1) keepH) (hdE env keep (lv x)) (hdH H keepH (ho x))
def wExit (id : Nat) (Q : Ex → Env → Hp → Prop) (env : Env) (H : Hp) : Prop := Q (.exit id) env H
def wRet (Q : Ex → Env → Hp → Prop) (env : Env) (H : Hp) : Prop := Q .ret env H
def wStage (_ : RCode) (ia : Wp) (Q : Ex → Env → Hp → Prop) (env : Env) (H : Hp) : Prop := ∃ (X : Type) (keep : List Nat) (lv : X → List (Nat × V)) (keepH : List Nat) (ho : X → List (Nat × Ent)),
   ia (thenX Q fun env' H' => ∃ x', meetsE env' (lv x') ∧ keptE env env' keep ∧ meetsH H' (ho x') ∧ keptH H H' keepH) env H ∧ ∀ x, Q .normal (hdE env keep (lv x)) (hdH H keepH (ho x))
noncomputable def wpx (P : Program) (D : Value → Prop) (rc : RCode) : Wp :=
 @RCode.rec (fun _ => Wp) wSkip (wReg P D) (wDreg P D) wSeq wCond wBlock wLoop wExit wRet wStage rc
theorem wpx_sound {P : Program} {D : Value → Prop} : ∀ (rc : RCode) {Q : Ex → Env → Hp → Prop} {Q' : Ex → St → Prop} {env : Env} {H : Hp}, (∀ e env H, Q e env H → Q' e ⟨env, H, D⟩) → wpx P D rc Q env H → wpv P rc Q' ⟨env, H, D⟩
  | .skip, Q, Q', env, H, hq, h => hq _ _ _ h
  | .reg ops, Q, Q', env, H, hq, h => regX_R ops (fun env H h => hq _ _ _ h) (show regX P D false ops env H (Q .normal) from h)
  | .dreg segs, Q, Q', env, H, hq, h => segX_S segs (fun env H h => hq _ _ _ h) (show segX P D segs env H (Q .normal) from h)
  | .seq a b, Q, Q', env, H, hq, h => by
    have h : wpx P D a (thenX Q (wpx P D b Q)) env H := h
    refine wpx_sound a (Q' := thenQ Q' fun st' => wpv P b Q' st') (fun e env H h => ?_) h
    cases e with
    | normal => exact wpx_sound b hq h
    | exit j => exact hq _ _ _ h
    | ret => exact hq _ _ _ h
  | .cond c a b, Q, Q', env, H, hq, h => by
    have h : (match val env c with
      | .v (.bool t) => bIf t (wpx P D a Q env H) (wpx P D b Q env H)
      | _ => False) := h
    simp only [wpv]
    split at h
    · rename_i t ht
      simp only [ht]
      have := bIf_to h
      exact ⟨fun e => wpx_sound a hq (this.1 e), fun e => wpx_sound b hq (this.2 e)⟩
    · exact h.elim
  | .block id a, Q, Q', env, H, hq, h => by
    have h : wpx P D a (blkX id Q) env H := h
    refine wpx_sound a (Q' := inBlk id Q') (fun e env H h => ?_) h
    cases e with
    | normal => exact hq _ _ _ h
    | exit j =>
      simp only [blkX] at h
      simp only [inBlk]
      by_cases hj : j = id
      · subst hj
        rw [if_pos rfl]
        have : Nat.beq j j = true := by simp
        rw [this] at h; exact hq _ _ _ h
      · rw [if_neg hj]
        have : Nat.beq j id = false := by
          cases hb : Nat.beq j id with
          | false => rfl
          | true => exact absurd (Nat.eq_of_beq_eq_true hb) hj
        rw [this] at h; exact hq _ _ _ h
    | ret => exact hq _ _ _ h
  | .loop a, Q, Q', env, H, hq, h => by
    obtain ⟨ads, r0, X, keep, lv, keepH, ho, μ, h1, h2, h3⟩ := h
    refine ⟨X, fun x => ⟨hdE env keep (lv x), hdH H keepH (ho x), D⟩, μ, fun c a w ⟨R, G, hR⟩ => ?_, fun x => ?_⟩
    · obtain ⟨gs, G', hR'⟩ := adopt_all ads h1 hR
      obtain ⟨ho, h2⟩ := h2 gs
      obtain ⟨g, G2, hR2⟩ := ren_one hR' ho
      obtain ⟨x, m1, m2, m3, m4⟩ := h2 g
      exact ⟨x, adapt_hd m1 m2 m3 m4 c a w ⟨R, G2, hR2⟩⟩
    · refine wpx_sound a (fun e env' H' h => ?_) (h3 x)
      cases e with
      | normal =>
        intro c a w ⟨R, G, hR⟩
        obtain ⟨r1, hro, h2⟩ := h
        obtain ⟨g, G2, hR2⟩ := ren_one hR hro
        obtain ⟨x', m0, m1, m2, m3, m4⟩ := h2 g
        exact ⟨x', m0, adapt_hd m1 m2 m3 m4 c a w ⟨R, G2, hR2⟩⟩
      | exit j => exact hq _ _ _ h
      | ret => exact hq _ _ _ h
  | .exit id, Q, Q', env, H, hq, h => hq _ _ _ h
  | .ret, Q, Q', env, H, hq, h => hq _ _ _ h
  | .stage a, Q, Q', env, H, hq, h => by
    obtain ⟨X, keep, lv, keepH, ho, h1, h2⟩ := h
    refine ⟨X, fun x => ⟨hdE env keep (lv x), hdH H keepH (ho x), D⟩, wpx_sound a (fun e env' H' h => ?_) h1, fun x => hq _ _ _ (h2 x)⟩
    cases e with
    | normal =>
      intro c a w ⟨R, G, hR⟩
      obtain ⟨x', m1, m2, m3, m4⟩ := h
      exact ⟨x', adapt_hd m1 m2 m3 m4 c a w ⟨R, G, hR⟩⟩
    | exit j => exact hq _ _ _ h
    | ret => exact hq _ _ _ h
def retX (ts : List Nat) (rs : List Par) : Ex → Env → Hp → Prop
 | .exit _ => fun _ _ => False
 | .normal => fun env H => ∃ gone, ArgsOk H gone true gone (ts.map env) rs
 | .ret => fun env H => ∃ gone, ArgsOk H gone true gone (ts.map env) rs
theorem fun_x {P : Program} {f : FuncId} {np : Nat} {rc : RCode} {ts : List Nat} {ps rs : List Par} (hc : chkFun P f np = some (rc, ts)) (hn : ps.length = np) (h : wpx P noD rc (retX ts rs) (entryEnv ps) (entryH ps)) : Fun P f ps rs := by
 refine fun_of hc hn (wpx_sound rc (fun e env H h => ?_) h)
 cases e with
 | normal => exact h
 | exit j => exact h
 | ret => exact h
theorem some_rfl {α : Type} {x : α} : some x = some x := rfl
end Go.Proofs.YtjhdlcmecbngkaaDoor
