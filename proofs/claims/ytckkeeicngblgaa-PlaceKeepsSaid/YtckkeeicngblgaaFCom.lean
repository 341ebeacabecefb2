/- Contracts of small functions: labels, numbers within bounds, comparing. -/
import Derived.Test.YtckkeeicngblgaaRc
import Derived.Test.YtckkeeicngblgaaFOpen
import Derived.Test.YtckkeeicngblgaaCmpW
import Derived.Test.YtckkeeicngblgaaLabelW
import Derived.Test.YtckkeeicngblgaaPlainPlace
import Derived.Test.YtckkeeicngblgaaPlainPut
namespace Go.Proofs.Ytckkeeicngblgaa
open Go.RowKit Pl
set_option linter.unusedVariables false
theorem wrap_u64 {n : Int} (h1 : 0 ≤ n) (h2 : n ≤ 18446744073709551615) : IntKind.u64.wrap n = n := IntWalk.u64_in n ⟨h1, h2⟩
theorem fdiv_half {n : Int} (h : 0 ≤ n) : n.fdiv (2 ^ (min (1 : Int).toNat IntKind.u64.bits)) = n / 2 := by
  have e : (2 : Int) ^ (min (1 : Int).toNat IntKind.u64.bits) = 2 := by decide
  rw [e, Int.fdiv_eq_ediv_of_nonneg _ (by decide)]
/-- a thing's cells are values -/
class FlatRow {α : Type} (enc : α → List V) : Prop where
  flat : ∀ x, ∀ u ∈ enc x, ∃ v, u = .v v
theorem row_map {α : Type} {f : α → List V} {l : List α} {k : Nat} (h : k < l.length) : (l.map f)[k]? = some (f l[k]) := by simp [h]
theorem fl_row {α : Type} {enc : α → List V} [hf : FlatRow enc] {x : α} : ∀ u ∈ enc x, Fl u := fun u hu => by
  obtain ⟨v, rfl⟩ := hf.flat x u hu
  exact fl_v v
theorem fl_rows {α : Type} {enc : α → List V} [FlatRow enc] {l : List α} : ∀ row ∈ l.map enc, ∀ u ∈ row, Fl u := fun row hr u hu => by
  obtain ⟨x, _, rfl⟩ := List.mem_map.1 hr
  exact fl_row u hu
theorem cl_rows {α : Type} {enc : α → List V} [FlatRow enc] {l : List α} : ∀ row ∈ l.map enc, ∀ u ∈ row, Cl u := fun row hr u hu => (fl_rows row hr u hu).cl
theorem cl_list {α : Type} {enc : α → List V} [FlatRow enc] {c : Bool} {l : List α} : Cl (.sl c (l.map enc)) := cl_sl cl_rows
theorem cl_nil {c : Bool} : Cl (.sl c []) := cl_sl (by simp)
theorem cl_one {α : Type} {enc : α → List V} [FlatRow enc] {x : α} : Cl (.agg (enc x)) := cl_agg fun u hu => (fl_row u hu).cl
theorem fl_one {α : Type} {enc : α → List V} [FlatRow enc] {x : α} : Fl (.agg (enc x)) := fl_agg fun u hu => fl_row u hu
def vB : V → Bool
  | .v _ => true
  | _ => false
def vsB : List V → Bool
  | [] => true
  | u :: us => bif vB u then vsB us else false
def clB : V → Bool
  | .v _ => true
  | .agg cs => vsB cs
  | .tup cs => vsB cs
  | .clo _ cs => vsB cs
  | .sl false [] => true
  | _ => false
def clRs : List (List V) → Bool
  | [] => true
  | r :: rs => bif vsB r then clRs rs else false
theorem vB_fl {u : V} (h : vB u = true) : Fl u := by
  cases u <;> first | exact fl_v _ | cases h
theorem vsB_fl : ∀ {us : List V}, vsB us = true → ∀ u ∈ us, Fl u
  | [], _, u, hu => by cases hu
  | v :: us, h, u, hu => by
    unfold vsB at h
    cases hv : vB v with
    | false => rw [hv] at h; cases h
    | true =>
      rw [hv] at h
      rcases List.mem_cons.1 hu with rfl | hu
      · exact vB_fl hv
      · exact vsB_fl h u hu
theorem clRs_fl : ∀ {rs : List (List V)}, clRs rs = true → ∀ r ∈ rs, ∀ u ∈ r, Fl u
  | [], _, r, hr => by cases hr
  | r' :: rs, h, r, hr => by
    unfold clRs at h
    cases hv : vsB r' with
    | false => rw [hv] at h; cases h
    | true =>
      rw [hv] at h
      rcases List.mem_cons.1 hr with rfl | hr
      · exact vsB_fl hv
      · exact clRs_fl h r hr
theorem fl_clo {f : FuncId} {cs : List V} (h : ∀ u ∈ cs, Fl u) : Fl (.clo f cs) := fun w w' R R' G G' x hx => by
  cases hx with
  | clo f cs xs hl hh => exact .clo f cs xs hl fun i u x h1 h2 => h u (List.mem_of_getElem? h1) _ _ _ _ _ _ _ (hh i u x h1 h2)
theorem fl_b {u : V} (h : clB u = true) : Fl u := by
  cases u with
  | v x => exact fl_v x
  | agg cs => exact fl_agg (vsB_fl h)
  | tup cs => exact fl_tup (vsB_fl h)
  | clo f cs => exact fl_clo (vsB_fl h)
  | sl c rows => cases c <;> cases rows <;> first | exact fl_nil | cases h
  | _ => cases h
theorem cl_b {u : V} (h : clB u = true) : Cl u := (fl_b h).cl
theorem cl_rs {rs : List (List V)} (h : clRs rs = true) : ∀ r ∈ rs, ∀ u ∈ r, Cl u := fun r hr u hu => (clRs_fl h r hr u hu).cl
theorem cl_rl1 {α : Type} {enc : α → List V} [FlatRow enc] {c : Bool} {l : List α} : ∀ row ∈ [[V.sl c (l.map enc)]], ∀ u ∈ row, Cl u := by
  intro row hr u hu
  simp only [List.mem_cons, List.not_mem_nil, or_false] at hr; subst hr
  simp only [List.mem_cons, List.not_mem_nil, or_false] at hu; subst hu
  exact cl_list
theorem cl_rl2 {α : Type} {enc : α → List V} [FlatRow enc] {c d : Bool} {l m : List α} : ∀ row ∈ [[V.sl c (l.map enc)], [V.sl d (m.map enc)]], ∀ u ∈ row, Cl u := by
  intro row hr u hu
  simp only [List.mem_cons, List.not_mem_nil, or_false] at hr
  rcases hr with rfl | rfl <;> (simp only [List.mem_cons, List.not_mem_nil, or_false] at hu; subst hu; exact cl_list)
theorem cl_ll1 {α : Type} {enc : α → List V} [FlatRow enc] {c e : Bool} {l : List α} : Cl (.sl e [[V.sl c (l.map enc)]]) := cl_sl cl_rl1
theorem cl_ll2 {α : Type} {enc : α → List V} [FlatRow enc] {c d e : Bool} {l m : List α} : Cl (.sl e [[V.sl c (l.map enc)], [V.sl d (m.map enc)]]) := cl_sl cl_rl2
def flB : List Par → Bool
  | [] => true
  | .c u :: ps => bif clB u then flB ps else false
  | _ => false
theorem flat_b : ∀ {rs : List Par}, flB rs = true → flatRes rs
  | [], _ => fun r hr => by cases hr
  | .c u :: ps, h => by
    unfold flB at h
    cases hv : clB u with
    | false => rw [hv] at h; cases h
    | true =>
      rw [hv] at h
      intro r hr
      rcases List.mem_cons.1 hr with rfl | hr
      · exact fl_b hv
      · exact flat_b h r hr
  | .o _ _ _ :: _, h => by cases h
theorem flat_own {α : Type} {enc : α → List V} [FlatRow enc] {T : TypeId} {sz : Nat} {l : List α} : flatRes [.o T sz (l.map enc)] := by
  intro r hr
  simp only [List.mem_cons, List.not_mem_nil, or_false] at hr; subst hr
  exact fl_rows
theorem flat_own1 {α : Type} {enc : α → List V} [FlatRow enc] {T : TypeId} {sz : Nat} {l : List α} {ps : List Par} (h : flB ps = true) : flatRes (.o T sz (l.map enc) :: ps) := by
  intro r hr
  rcases List.mem_cons.1 hr with rfl | hr
  · exact fl_rows
  · exact flat_b h r hr
theorem cl_setB {α : Type} {enc : α → List V} [FlatRow enc] {l : List α} {i : Nat} {row : List V} (h : vsB row = true) : ∀ r ∈ (l.map enc).set i row, ∀ u ∈ r, Cl u := fun r hr u hu => by
  rcases List.mem_or_eq_of_mem_set hr with h1 | rfl
  · exact cl_rows r h1 u hu
  · exact (vsB_fl h u hu).cl
theorem cl_setG {rows : List (List V)} {i : Nat} {row : List V} (h0 : ∀ r ∈ rows, ∀ u ∈ r, Cl u) (h : vsB row = true) : ∀ r ∈ rows.set i row, ∀ u ∈ r, Cl u := fun r hr u hu => by
  rcases List.mem_or_eq_of_mem_set hr with h1 | rfl
  · exact h0 r h1 u hu
  · exact (vsB_fl h u hu).cl
theorem set_at {α : Type} {f : α → List V} {l : List α} {k : Nat} {r : List V} (h : k < l.length) : ((l.map f).set k r)[k]? = some r := by simp [h]
theorem cl_appB {rs rs' : List (List V)} (h : ∀ r ∈ rs, ∀ u ∈ r, Cl u) (h' : ∀ r ∈ rs', ∀ u ∈ r, Cl u) : ∀ r ∈ rs ++ rs', ∀ u ∈ r, Cl u := fun r hr u hu => by
  rcases List.mem_append.1 hr with h1 | h1
  · exact h r h1 u hu
  · exact h' r h1 u hu
theorem give' {H : Nat → Option Ent} {all : List Nat} {bor : Bool} {gone : List Nat} {id g : Nat} {T : TypeId} {sz : Nat} {rows : List (List V)} {us : List V} {ps : List Par} (he : H id = some ⟨g, T, sz, rows⟩) (hr : ∀ row ∈ rows, ∀ u ∈ row, Cl u) (hn : id ∉ gone) (ha : id ∈ all) (h : ArgsOk H all bor gone us ps) : ArgsOk H all bor (id :: gone) (.own id g :: us) (.o T sz rows :: ps) :=
  ArgsOk.give (e := ⟨g, T, sz, rows⟩) he rfl hr hn ha h
theorem not_t {b : Bool} (h : (!b) = true) : b = false := by cases b; rfl; cases h
theorem not_f {b : Bool} (h : (!b) = false) : b = true := by cases b; cases h; rfl
theorem nobor {p : Prop} : false = true → p := by simp
/-! comparing -/
theorem cmps_fun (a b : ByteArray) : Fun Try.prog 103 [.c (.v (.string a)), .c (.v (.string b))] [.c (.v (.int .i64 (scmp a b)))] :=
  fun_flat (xs := [.string a, .string b]) (callable Try.func103 (by kernel_rfl) (by kernel_rfl)) fun w => (cmps_any a b w).mono fun e w' ⟨h1, h2⟩ => ⟨h1, h2 ▸ Below.refl _ _⟩
theorem cmpi_fun (a b : Int) : Fun Try.prog 96 [.c (.v (.int .i64 a)), .c (.v (.int .i64 b))] [.c (.v (.int .i64 (icmp a b)))] :=
  fun_flat (xs := [.int .i64 a, .int .i64 b]) (callable Try.func96 (by kernel_rfl) (by kernel_rfl)) fun w => (cmpi_any a b w).mono fun e w' ⟨h1, h2⟩ => ⟨h1, h2 ▸ Below.refl _ _⟩
theorem label_fun (s : ByteArray) (hs : s.size ≤ 9223372036854775807) : Fun Try.prog 79 [.c (.v (.string s))] [.c (.v (.bool (lab s.data.toList)))] :=
  fun_flat (xs := [.string s]) (callable Try.func79 (by kernel_rfl) (by kernel_rfl)) fun w => IsLabel_any s w hs
theorem rlabel_fun (s : ByteArray) (hs : s.size ≤ 9223372036854775807) : Fun Try.prog 28 [.c (.v (.string s))] [.c (.v (.bool (lab s.data.toList)))] :=
  fun_flat (xs := [.string s]) (callable Try.func28 (by kernel_rfl) (by kernel_rfl)) fun w => (refIsLabel_any s w hs).mono fun e w' ⟨h1, h2⟩ => ⟨h1, h2 ▸ Below.refl _ _⟩
theorem wi_t {n a b : Int} (h : decide (a ≤ n) = true) : wi n a b = decide (n ≤ b) := by simp [wi, h]
theorem wi_f {n a b : Int} (h : decide (a ≤ n) = false) : wi n a b = false := by simp [wi, h]
theorem between_fun (n a b : Int) : Fun Try.prog 82 [.c (.v (.int .i64 n)), .c (.v (.int .i64 a)), .c (.v (.int .i64 b))] [.c (.v (.bool (wi n a b)))] := by
  refine fun_x ck_hearsayref_between rfl ?_
  ((conv => whnf); repeat' ((first | refine ⟨rfl, ?_⟩ | refine ⟨_, row_map (by assumption), ?_⟩ | refine ⟨_, (by exact some_rfl), ?_⟩ | refine ⟨_, wrap_ok (by omega) (by omega), ?_⟩ | refine ⟨_, wrap_u64 (by omega) (by omega), ?_⟩ | refine ⟨by decide, _, fdiv_half (by omega), ?_⟩ | (intro gg)); (conv => whnf)))
  (refine bIf_of (fun h => ?_) (fun h => ?_) <;> rw [h])
  · ((conv => whnf); repeat' ((first | refine ⟨rfl, ?_⟩ | refine ⟨_, row_map (by assumption), ?_⟩ | refine ⟨_, (by exact some_rfl), ?_⟩ | refine ⟨_, wrap_ok (by omega) (by omega), ?_⟩ | refine ⟨_, wrap_u64 (by omega) (by omega), ?_⟩ | refine ⟨by decide, _, fdiv_half (by omega), ?_⟩ | (intro gg)); (conv => whnf)))
    rw [wi_t h]
    (exact ⟨[], by (repeat' (first | exact ArgsOk.nil _ | refine ArgsOk.same (by first | exact cl_b rfl | exact cl_list | exact cl_nil | exact cl_one | exact cl_ll1 | exact cl_ll2) ?_ | refine ArgsOk.nilsl _ ?_ | refine ArgsOk.nilown _ _ (by decide) ?_ | refine ArgsOk.bor rfl rfl (deref_flat (by first | exact cl_rs rfl | exact cl_rows | exact cl_setB rfl | exact cl_setG (cl_setB rfl) rfl | exact cl_appB cl_rows (cl_rs rfl) | exact cl_rl1 | exact cl_rl2)) (by decide) ?_ | refine give' rfl (by first | exact cl_rs rfl | exact cl_rows | exact cl_setB rfl | exact cl_setG (cl_setB rfl) rfl | exact cl_appB cl_rows (cl_rs rfl) | exact cl_rl1 | exact cl_rl2) (by decide) (by decide) ?_))⟩)
  · ((conv => whnf); repeat' ((first | refine ⟨rfl, ?_⟩ | refine ⟨_, row_map (by assumption), ?_⟩ | refine ⟨_, (by exact some_rfl), ?_⟩ | refine ⟨_, wrap_ok (by omega) (by omega), ?_⟩ | refine ⟨_, wrap_u64 (by omega) (by omega), ?_⟩ | refine ⟨by decide, _, fdiv_half (by omega), ?_⟩ | (intro gg)); (conv => whnf)))
    rw [wi_f h]
    (exact ⟨[], by (repeat' (first | exact ArgsOk.nil _ | refine ArgsOk.same (by first | exact cl_b rfl | exact cl_list | exact cl_nil | exact cl_one | exact cl_ll1 | exact cl_ll2) ?_ | refine ArgsOk.nilsl _ ?_ | refine ArgsOk.nilown _ _ (by decide) ?_ | refine ArgsOk.bor rfl rfl (deref_flat (by first | exact cl_rs rfl | exact cl_rows | exact cl_setB rfl | exact cl_setG (cl_setB rfl) rfl | exact cl_appB cl_rows (cl_rs rfl) | exact cl_rl1 | exact cl_rl2)) (by decide) ?_ | refine give' rfl (by first | exact cl_rs rfl | exact cl_rows | exact cl_setB rfl | exact cl_setG (cl_setB rfl) rfl | exact cl_appB cl_rows (cl_rs rfl) | exact cl_rl1 | exact cl_rl2) (by decide) (by decide) ?_))⟩)
theorem address_fun (n : Int) : Fun Try.prog 81 [.c (.v (.int .i64 n))] [.c (.v (.bool (wi n 0 4294967295)))] := by
  refine fun_x ck_hearsayref_IsAddress rfl ?_
  ((conv => whnf); repeat' ((first | refine ⟨rfl, ?_⟩ | refine ⟨_, row_map (by assumption), ?_⟩ | refine ⟨_, (by exact some_rfl), ?_⟩ | refine ⟨_, wrap_ok (by omega) (by omega), ?_⟩ | refine ⟨_, wrap_u64 (by omega) (by omega), ?_⟩ | refine ⟨by decide, _, fdiv_half (by omega), ?_⟩ | (intro gg)); (conv => whnf)))
  (refine ⟨_, _, false, [], (by (repeat' (first | exact ArgsOk.nil _ | refine ArgsOk.same (by first | exact cl_b rfl | exact cl_list | exact cl_nil | exact cl_one | exact cl_ll1 | exact cl_ll2) ?_ | refine ArgsOk.nilsl _ ?_ | refine ArgsOk.nilown _ _ (by decide) ?_ | refine ArgsOk.bor rfl rfl (deref_flat (by first | exact cl_rs rfl | exact cl_rows | exact cl_setB rfl | exact cl_setG (cl_setB rfl) rfl | exact cl_appB cl_rows (cl_rs rfl) | exact cl_rl1 | exact cl_rl2)) (by decide) ?_ | refine give' rfl (by first | exact cl_rs rfl | exact cl_rows | exact cl_setB rfl | exact cl_setG (cl_setB rfl) rfl | exact cl_appB cl_rows (cl_rs rfl) | exact cl_rl1 | exact cl_rl2) (by decide) (by decide) ?_))), between_fun _ _ _, nobor, (by exact Nat.le_of_ble_eq_true rfl), ?_⟩)
  ((conv => whnf); repeat' ((first | refine ⟨rfl, ?_⟩ | refine ⟨_, row_map (by assumption), ?_⟩ | refine ⟨_, (by exact some_rfl), ?_⟩ | refine ⟨_, wrap_ok (by omega) (by omega), ?_⟩ | refine ⟨_, wrap_u64 (by omega) (by omega), ?_⟩ | refine ⟨by decide, _, fdiv_half (by omega), ?_⟩ | (intro gg)); (conv => whnf)))
  (exact ⟨[], by (repeat' (first | exact ArgsOk.nil _ | refine ArgsOk.same (by first | exact cl_b rfl | exact cl_list | exact cl_nil | exact cl_one | exact cl_ll1 | exact cl_ll2) ?_ | refine ArgsOk.nilsl _ ?_ | refine ArgsOk.nilown _ _ (by decide) ?_ | refine ArgsOk.bor rfl rfl (deref_flat (by first | exact cl_rs rfl | exact cl_rows | exact cl_setB rfl | exact cl_setG (cl_setB rfl) rfl | exact cl_appB cl_rows (cl_rs rfl) | exact cl_rl1 | exact cl_rl2)) (by decide) ?_ | refine give' rfl (by first | exact cl_rs rfl | exact cl_rows | exact cl_setB rfl | exact cl_setG (cl_setB rfl) rfl | exact cl_appB cl_rows (cl_rs rfl) | exact cl_rl1 | exact cl_rl2) (by decide) (by decide) ?_))⟩)
/-- one more -/
theorem up1 {n k : Nat} {p : (j : Nat) → (j < n) → Prop} (h0 : ∀ j (h : j < n), j < k → p j h) (hk : ∀ h : k < n, p k h) : ∀ j (h : j < n), j < k + 1 → p j h := fun j h hj => by
  rcases (by omega : j < k ∨ j = k) with g | rfl
  · exact h0 j h g
  · exact hk h
theorem up2 {n k : Nat} {p : (j : Nat) → (j + 1 < n) → Prop} (h0 : ∀ j (h : j + 1 < n), j < k → p j h) (hk : ∀ h : k + 1 < n, p k h) : ∀ j (h : j + 1 < n), j < k + 1 → p j h := fun j h hj => by
  rcases (by omega : j < k ∨ j = k) with g | rfl
  · exact h0 j h g
  · exact hk h
theorem firstErr_one {α : Type} (e : α → Int) (a : α) : firstErr e [a] = e a := by
  by_cases h : e a = 0 <;> simp [firstErr, h]
theorem ckL_each {α : Type} {mx : Nat} {e : α → Int} {lt : α → α → Bool} {l : List α} (h1 : ¬ mx < l.length) (h2 : firstErr e l ≠ 0) : ckL mx e lt l = firstErr e l := by simp [ckL, h1, h2]
theorem ckL_no {α : Type} {mx : Nat} {e : α → Int} {lt : α → α → Bool} {l : List α} (h1 : ¬ mx < l.length) (h2 : firstErr e l = 0) (h3 : sorted lt l = false) : ckL mx e lt l = 4 := by simp [ckL, h1, h2, h3]
theorem ckL_yes {α : Type} {mx : Nat} {e : α → Int} {lt : α → α → Bool} {l : List α} (h1 : ¬ mx < l.length) (h2 : firstErr e l = 0) (h3 : sorted lt l = true) : ckL mx e lt l = 0 := by simp [ckL, h1, h2, h3]
theorem icmp_eq (a : Int) : icmp a a = 0 := by simp [icmp]
theorem icmp_ne {a b : Int} (h : a ≠ b) : icmp a b ≠ 0 := by
  unfold icmp; split
  · decide
  · split
    · decide
    · omega
theorem icmp_pos {a b : Int} : 0 < icmp a b ↔ b < a := by
  unfold icmp; split
  · constructor <;> intro h <;> omega
  · split <;> (constructor <;> intro h <;> omega)
theorem nz_ne {a b : Int} {r : List Int} (h : (a != b) = true) : decide (0 < firstNZ (icmp a b :: r)) = decide (b < a) := by
  have h : a ≠ b := by simpa using h
  simp [firstNZ, icmp_ne h, icmp_pos]
theorem nz_eq {a b : Int} {r : List Int} (h : (a != b) = false) : firstNZ (icmp a b :: r) = firstNZ r := by
  have h : a = b := by simpa using h
  subst h; simp [firstNZ, icmp_eq]
theorem scmp_pos {a b : ByteArray} : 0 < scmp a b ↔ slt b a = true := by
  constructor
  · intro h
    rcases Bool.eq_false_or_eq_true (slt b a) with q | q
    · exact q
    · rcases Bool.eq_false_or_eq_true (slt a b) with p | p
      · rw [scmp_lt p] at h; omega
      · have := slt_tri p q
        rw [this, scmp_eq] at h; omega
  · intro h; rw [scmp_gt h]; decide
theorem nzs_ne {a b : ByteArray} {r : List Int} (h : (!(a.toList == b.toList)) = true) : decide (0 < firstNZ (scmp a b :: r)) = slt b a := by
  have h : a ≠ b := fun e => by subst e; simp at h
  have h0 : scmp a b ≠ 0 := fun e => h (scmp_zero.1 e)
  simp [firstNZ, h0, scmp_pos]
theorem nzs_eq {a b : ByteArray} {r : List Int} (h : (!(a.toList == b.toList)) = false) : firstNZ (scmp a b :: r) = firstNZ r := by
  have h : a = b := seq_iff.1 (by simpa using h)
  subst h; simp [firstNZ, scmp_eq]
def b2i (b : Bool) : Int := if b then 1 else 0
theorem nzb_last {p q : Bool} : decide (0 < firstNZ [icmp (b2i p) (b2i q)]) = (p && !q) := by cases p <;> cases q <;> decide
def orRow (n : Int) : List V := [.v (.int .i64 n)]
instance : FlatRow orRow := ⟨fun x u hu => by simp [orRow] at hu; exact ⟨_, hu⟩⟩
theorem or_fun (c : Bool) (l : List Int) (hl : l.length ≤ 9223372036854775807) : Fun Try.prog 95 [.c (.sl c (l.map orRow))] [.c (.v (.int .i64 (firstNZ l)))] := by
  refine fun_x ck_cmp_Or_int rfl ?_
  ((conv => whnf); repeat' ((first | refine ⟨rfl, ?_⟩ | refine ⟨_, row_map (by assumption), ?_⟩ | refine ⟨_, (by exact some_rfl), ?_⟩ | refine ⟨_, wrap_ok (by omega) (by omega), ?_⟩ | refine ⟨_, wrap_u64 (by omega) (by omega), ?_⟩ | refine ⟨by decide, _, fdiv_half (by omega), ?_⟩ | (intro gg)); (conv => whnf)))
  (refine ⟨[], none, {k : Nat // k ≤ l.length ∧ ∀ j, (h : j < l.length) → j < k → l[j] = 0}, [3, 6, 7], fun ⟨k, hk, h0⟩ => [(8, .v (.int .i64 k))], [], fun ⟨k, hk, h0⟩ => [], fun ⟨k, hk, h0⟩ => l.length - k, trivial, fun _ => ⟨trivial, fun _ => ⟨⟨0, by omega, fun j _ h => by omega⟩, by (repeat' (first | exact trivial | refine ⟨rfl, ?_⟩)), keptE_refl _ _, by (repeat' (first | exact trivial | refine ⟨rfl, ?_⟩)), keptH_refl _ _⟩⟩, fun ⟨k, hk, h0⟩ => ?_⟩)
  ((conv => whnf); repeat' ((first | refine ⟨rfl, ?_⟩ | refine ⟨_, row_map (by assumption), ?_⟩ | refine ⟨_, (by exact some_rfl), ?_⟩ | refine ⟨_, wrap_ok (by omega) (by omega), ?_⟩ | refine ⟨_, wrap_u64 (by omega) (by omega), ?_⟩ | refine ⟨by decide, _, fdiv_half (by omega), ?_⟩ | (intro gg)); (conv => whnf)))
  rw [List.length_map]
  (refine bIf_of (fun h => ?_) (fun h => ?_) <;> rw [h])
  · have hlt : k < l.length := by simpa using h
    ((conv => whnf); repeat' ((first | refine ⟨rfl, ?_⟩ | refine ⟨_, row_map (by assumption), ?_⟩ | refine ⟨_, (by exact some_rfl), ?_⟩ | refine ⟨_, wrap_ok (by omega) (by omega), ?_⟩ | refine ⟨_, wrap_u64 (by omega) (by omega), ?_⟩ | refine ⟨by decide, _, fdiv_half (by omega), ?_⟩ | (intro gg)); (conv => whnf)))
    refine ⟨k, _, rfl, row_map hlt, ?_⟩
    ((conv => whnf); repeat' ((first | refine ⟨rfl, ?_⟩ | refine ⟨_, row_map (by assumption), ?_⟩ | refine ⟨_, (by exact some_rfl), ?_⟩ | refine ⟨_, wrap_ok (by omega) (by omega), ?_⟩ | refine ⟨_, wrap_u64 (by omega) (by omega), ?_⟩ | refine ⟨by decide, _, fdiv_half (by omega), ?_⟩ | (intro gg)); (conv => whnf)))
    (refine bIf_of (fun h => ?_) (fun h => ?_) <;> rw [h])
    · ((conv => whnf); repeat' ((first | refine ⟨rfl, ?_⟩ | refine ⟨_, row_map (by assumption), ?_⟩ | refine ⟨_, (by exact some_rfl), ?_⟩ | refine ⟨_, wrap_ok (by omega) (by omega), ?_⟩ | refine ⟨_, wrap_u64 (by omega) (by omega), ?_⟩ | refine ⟨by decide, _, fdiv_half (by omega), ?_⟩ | (intro gg)); (conv => whnf)))
      rw [firstNZ_at hlt h0 (by simpa using h)]
      (exact ⟨[], by (repeat' (first | exact ArgsOk.nil _ | refine ArgsOk.same (by first | exact cl_b rfl | exact cl_list | exact cl_nil | exact cl_one | exact cl_ll1 | exact cl_ll2) ?_ | refine ArgsOk.nilsl _ ?_ | refine ArgsOk.nilown _ _ (by decide) ?_ | refine ArgsOk.bor rfl rfl (deref_flat (by first | exact cl_rs rfl | exact cl_rows | exact cl_setB rfl | exact cl_setG (cl_setB rfl) rfl | exact cl_appB cl_rows (cl_rs rfl) | exact cl_rl1 | exact cl_rl2)) (by decide) ?_ | refine give' rfl (by first | exact cl_rs rfl | exact cl_rows | exact cl_setB rfl | exact cl_setG (cl_setB rfl) rfl | exact cl_appB cl_rows (cl_rs rfl) | exact cl_rl1 | exact cl_rl2) (by decide) (by decide) ?_))⟩)
    · ((conv => whnf); repeat' ((first | refine ⟨rfl, ?_⟩ | refine ⟨_, row_map (by assumption), ?_⟩ | refine ⟨_, (by exact some_rfl), ?_⟩ | refine ⟨_, wrap_ok (by omega) (by omega), ?_⟩ | refine ⟨_, wrap_u64 (by omega) (by omega), ?_⟩ | refine ⟨by decide, _, fdiv_half (by omega), ?_⟩ | (intro gg)); (conv => whnf)))
      (exact ⟨none, trivial, fun _ => ⟨⟨k + 1, by omega, up1 (p := fun j h => l[j] = 0) h0 (fun _ => by simpa using h)⟩, by show l.length - (k + 1) < l.length - k; omega, by (repeat' (first | exact trivial | refine ⟨rfl, ?_⟩)), by (repeat' (first | exact trivial | refine ⟨rfl, ?_⟩)), by (repeat' (first | exact trivial | refine ⟨rfl, ?_⟩)), by (repeat' (first | exact trivial | refine ⟨rfl, ?_⟩))⟩⟩)
  · have hge : ¬ k < l.length := by simpa using h
    ((conv => whnf); repeat' ((first | refine ⟨rfl, ?_⟩ | refine ⟨_, row_map (by assumption), ?_⟩ | refine ⟨_, (by exact some_rfl), ?_⟩ | refine ⟨_, wrap_ok (by omega) (by omega), ?_⟩ | refine ⟨_, wrap_u64 (by omega) (by omega), ?_⟩ | refine ⟨by decide, _, fdiv_half (by omega), ?_⟩ | (intro gg)); (conv => whnf)))
    rw [firstNZ_zero (l := l) (fun i hi => h0 i hi (by omega))]
    (exact ⟨[], by (repeat' (first | exact ArgsOk.nil _ | refine ArgsOk.same (by first | exact cl_b rfl | exact cl_list | exact cl_nil | exact cl_one | exact cl_ll1 | exact cl_ll2) ?_ | refine ArgsOk.nilsl _ ?_ | refine ArgsOk.nilown _ _ (by decide) ?_ | refine ArgsOk.bor rfl rfl (deref_flat (by first | exact cl_rs rfl | exact cl_rows | exact cl_setB rfl | exact cl_setG (cl_setB rfl) rfl | exact cl_appB cl_rows (cl_rs rfl) | exact cl_rl1 | exact cl_rl2)) (by decide) ?_ | refine give' rfl (by first | exact cl_rs rfl | exact cl_rows | exact cl_setB rfl | exact cl_setG (cl_setB rfl) rfl | exact cl_appB cl_rows (cl_rs rfl) | exact cl_rl1 | exact cl_rl2) (by decide) (by decide) ?_))⟩)
end Go.Proofs.Ytckkeeicngblgaa
