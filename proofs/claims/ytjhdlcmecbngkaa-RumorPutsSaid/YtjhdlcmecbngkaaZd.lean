/- Texts of this claim, joined. -/
import Derived.Test.YtjhdlcmecbngkaaRows
import Derived.BigGuardPart
import Derived.Deep.Light
import Derived.Laws.IdiomStrings
import Derived.Test.YtjhdlcmecbngkaaZa
import Derived.Test.YtjhdlcmecbngkaaZb
import Derived.Test.YtjhdlcmecbngkaaZc
/- The walks of dns.IsLabel and of the reference's IsLabel. -/
namespace Go.Proofs.Ytjhdlcmecbngkaa
open Go.RowKit Pl
set_option linter.unusedVariables false

theorem lab_step {s : ByteArray} {k : Nat} (h : ∀ j, (hj : j < s.data.toList.length) → j < k → okB (s.data.toList[j]).toNat = true) (hlt : k < s.size) (hk : okB (s[k]).toNat = true) :
    ∀ j, (hj : j < s.data.toList.length) → j < k + 1 → okB (s.data.toList[j]).toNat = true := by
  intro j hj hjk
  rcases (by omega : j < k ∨ j = k) with g | rfl
  · exact h j hj g
  · exact hk
theorem isEmpty_size (s : ByteArray) : s.toList.isEmpty = decide (s.size = 0) := by
  rw [ByteArray.toList_eq, Bool.eq_iff_iff, List.isEmpty_iff_length_eq_zero, decide_eq_true_eq, Array.length_toList]
  rfl
theorem lab_endA {s : ByteArray} (h1 : 1 ≤ s.size ∧ s.size ≤ 30 → lab s.data.toList = true) (h2 : ¬ (1 ≤ s.size ∧ s.size ≤ 30) → lab s.data.toList = false) (e : s.toList.isEmpty = false) : decide ((s.size : Int) ≤ 30) = lab s.data.toList := by
  have e0 : s.size ≠ 0 := by simpa [isEmpty_size] using e
  by_cases g : s.size ≤ 30
  · rw [h1 ⟨by omega, g⟩]; simp; omega
  · rw [h2 (by omega)]; simp; omega
theorem lab_endB {s : ByteArray} (h2 : ¬ (1 ≤ s.size ∧ s.size ≤ 30) → lab s.data.toList = false) (e : s.toList.isEmpty = true) : false = lab s.data.toList := by
  have e0 : s.size = 0 := by simpa [isEmpty_size] using e
  rw [h2 (by omega)]
theorem cell_new (w : World) (C : Array Value) (t : TypeId) (fr : Nat × Nat) (k : Nat) : (w.alloc (.cells C t fr)).drew.cell? ⟨w.heap.size, k, none⟩ = C[k]? := by
  have h : (w.alloc (.cells C t fr)).drew.heap[w.heap.size]? = some (.cells C t fr) := heap_alloc_new w _
  unfold World.cell?
  rw [h]
  rfl
theorem lab_out {s : ByteArray} {k : Nat} (hlt : k < s.size) (hk : okB (s[k]).toNat = false) : false = lab s.data.toList :=
  (lab_bad (i := k) (s := s.data.toList) (by simpa using hlt) hk).symm

theorem refIsLabel_any (s : ByteArray) (w : World) (hs : s.size ≤ 9223372036854775807) :
    Calls Try.prog 44 #[.string s] w fun e w' => e = .returned (.bool (lab s.data.toList)) ∧ w = w' := by
  go_enter Try.func44, Try.ntmps44
  go_wp2
  go_loop [3] (fun i => ∃ k : Nat, k ≤ s.size ∧ i = .int .i64 k ∧ ∀ j, (hj : j < s.data.toList.length) → j < k → okB (s.data.toList[j]).toNat = true) (fun i => s.size - (intOf i).toNat)
  case atStart => exact ⟨0, Nat.zero_le _, rfl, fun j _ h => absurd h (by omega)⟩
  case round =>
    obtain ⟨k, hk, rfl, hall⟩ := hrel
    have HA := hid hall
    clear hall
    by_cases hlt : k < s.size
    · go_wp2
      all_goals first
        | (go_round
           case rel => exact ⟨k + 1, by omega, by go_num, lab_step HA.out hlt (okB_yes (by go_light; clear HA; first | omega | (simp_all; done) | (simp_all; omega)))⟩
           case measure => simp [intOf]; omega)
        | (go_ret
           exact ⟨ret_bool (lab_out hlt (okB_no (by go_light; clear HA; first | omega | (simp_all; done) | (simp_all; omega)))), rfl⟩)
    · have HL := fun (g : 1 ≤ s.size ∧ s.size ≤ 30) => lab_yes (s := s.data.toList) (fun i hi => HA.out i hi (by simp at hi; omega)) (by simpa using g.1) (by simpa using g.2)
      have HN := fun (g : ¬ (1 ≤ s.size ∧ s.size ≤ 30)) => lab_long (s := s.data.toList) (by simpa using g)
      have HL := hid HL
      have HN := hid HN
      clear HA
      go_wp2
      all_goals go_ret
      all_goals exact ⟨ret_bool (by
        go_light
        by_cases g : 1 ≤ s.size ∧ s.size ≤ 30
        · rw [HL.out g] <;> first | rfl | (simp <;> omega)
        · rw [HN.out g] <;> first | rfl | (simp <;> omega)), rfl⟩

/-- the bytes of a text in a block of the call's own, as the walk wants them -/
theorem bytes_run (s : ByteArray) (w : World) : ∃ (cap : Nat) (C : Array Value) (fr : Nat × Nat),
    (convert 9 111 (.string s)).run Try.prog w = .ok (.slice (some ⟨w.heap.size, 0, none⟩) s.size cap) (w.drew.alloc (.cells C 5 fr)) ∧
    ∀ j, (h : j < s.size) → C[j]? = some (.int .u8 ((s[j]).toNat : Int)) := by
  refine ⟨_, _, _, run_bytes_of_string w 9 111 5 s Try.underlying9 Try.underlying111 Try.underlying5, ?_⟩
  intro j h
  exact bytesRow_at s _ j h

set_option maxRecDepth 100000 in
theorem IsLabel_any (s : ByteArray) (w : World) (hs : s.size ≤ 9223372036854775807) :
    Calls Try.prog 77 #[.string s] w fun e w' => e = .returned (.bool (lab s.data.toList)) ∧ Below w.heap.size w w' ∧ w.drawn ≤ w'.drawn := by
  obtain ⟨cap, C, fr, hrun, hC⟩ := bytes_run s w
  have HC := hid hC
  clear hC
  have hB : Below w.heap.size w (w.alloc (.cells C 5 fr)).drew ∧ w.drawn ≤ (w.alloc (.cells C 5 fr)).drew.drawn := ⟨(by repeat (first | exact Below.refl _ _ | assumption | refine Below.drew ?_ | refine below_drewN ?_ _ | refine Below.alloc ?_ (by simp; try omega) _ | refine Below.setCell ?_ (by simp; try omega) _)), Nat.le_succ _⟩
  have HB := hid hB
  clear hB
  go_enter Try.func77, Try.ntmps77
  go_wp2
  go_loop [8] (fun i => ∃ k : Nat, k ≤ s.size ∧ i = .int .i64 k ∧ ∀ j, (hj : j < s.data.toList.length) → j < k → okB (s.data.toList[j]).toNat = true) (fun i => s.size - (intOf i).toNat)
  case atStart => exact ⟨0, Nat.zero_le _, rfl, fun j _ h => absurd h (by omega)⟩
  case round =>
    obtain ⟨k, hk, rfl, hall⟩ := hrel
    have HA := hid hall
    clear hall
    by_cases hlt : k < s.size
    · have hcell : (w.alloc (.cells C 5 fr)).drew.cell? ⟨w.heap.size, k, none⟩ = some (.int .u8 ((s[k]).toNat : Int)) := (cell_new w C 5 fr k).trans (HC.out k hlt)
      have hby : ((s[k]).toNat : Int) ≤ 255 := by have := (s[k]).toNat_lt; omega
      clear hrun
      go_wp2
      all_goals first
        | (go_round
           case rel => exact ⟨k + 1, by omega, by go_num, lab_step HA.out hlt (okB_yes (by go_light; clear HA; first | omega | (simp_all; done) | (simp_all; omega)))⟩
           case measure => simp [intOf]; omega)
        | (go_ret
           exact ⟨ret_bool (lab_out hlt (okB_no (by go_light; clear HA; first | omega | (simp_all; done) | (simp_all; omega)))), HB.out⟩)
    · have HL := fun (g : 1 ≤ s.size ∧ s.size ≤ 30) => lab_yes (s := s.data.toList) (fun i hi => HA.out i hi (by simp at hi; omega)) (by simpa using g.1) (by simpa using g.2)
      have HN := fun (g : ¬ (1 ≤ s.size ∧ s.size ≤ 30)) => lab_long (s := s.data.toList) (by simpa using g)
      have HL := hid HL
      have HN := hid HN
      clear HA
      go_wp2
      all_goals go_ret
      all_goals first
        | exact ⟨ret_bool (lab_endA HL.out HN.out ‹s.toList.isEmpty = false›), HB.out⟩
        | exact ⟨ret_bool (lab_endB HN.out ‹s.toList.isEmpty = true›), HB.out⟩
end Go.Proofs.Ytjhdlcmecbngkaa
/- Contracts of the two functions that know labels. -/
namespace Go.Proofs.Ytjhdlcmecbngkaa
open Go.RowKit Pl
set_option linter.unusedVariables false
theorem label_fun (s : ByteArray) (hs : s.size ≤ 9223372036854775807) : Fun Try.prog 77 [.c (.v (.string s))] [.c (.v (.bool (lab s.data.toList)))] :=
  fun_flat (xs := [.string s]) (callable Try.func77 (by kernel_rfl) (by kernel_rfl)) fun w => IsLabel_any s w hs
theorem rlabel_fun (s : ByteArray) (hs : s.size ≤ 9223372036854775807) : Fun Try.prog 44 [.c (.v (.string s))] [.c (.v (.bool (lab s.data.toList)))] :=
  fun_flat (xs := [.string s]) (callable Try.func44 (by kernel_rfl) (by kernel_rfl)) fun w => (refIsLabel_any s w hs).mono fun e w' ⟨h1, h2⟩ => ⟨h1, h2 ▸ Below.refl _ _, h2 ▸ Nat.le_refl _⟩
end Go.Proofs.Ytjhdlcmecbngkaa
/- Contracts of small functions: labels, numbers within bounds, comparing. -/
namespace Go.Proofs.Ytjhdlcmecbngkaa
open Go.RowKit Pl
set_option linter.unusedVariables false
/-! comparing -/
theorem cmps_fun (a b : ByteArray) : Fun Try.prog 33 [.c (.v (.string a)), .c (.v (.string b))] [.c (.v (.int .i64 (scmp a b)))] :=
  fun_flat (xs := [.string a, .string b]) (callable Try.func33 (by kernel_rfl) (by kernel_rfl)) fun w => (cmps_any a b w).mono fun e w' ⟨h1, h2⟩ => ⟨h1, h2 ▸ Below.refl _ _, h2 ▸ Nat.le_refl _⟩
theorem cmpi_fun (a b : Int) : Fun Try.prog 32 [.c (.v (.int .i64 a)), .c (.v (.int .i64 b))] [.c (.v (.int .i64 (icmp a b)))] :=
  fun_flat (xs := [.int .i64 a, .int .i64 b]) (callable Try.func32 (by kernel_rfl) (by kernel_rfl)) fun w => (cmpi_any a b w).mono fun e w' ⟨h1, h2⟩ => ⟨h1, h2 ▸ Below.refl _ _, h2 ▸ Nat.le_refl _⟩
theorem between_fun (n a b : Int) : Fun Try.prog 34 [.c (.v (.int .i64 n)), .c (.v (.int .i64 a)), .c (.v (.int .i64 b))] [.c (.v (.bool (wi n a b)))] := by
  refine fun_x ck_hearsayref_between rfl ?_
  ((conv => whnf); repeat' ((first | refine ⟨rfl, ?_⟩ | refine ⟨_, row_map (by assumption), ?_⟩ | refine ⟨_, (by exact some_rfl), ?_⟩ | refine ⟨_, wrap_ok (by omega) (by omega), ?_⟩ | refine ⟨_, wrap_u64 (by omega) (by omega), ?_⟩ | refine ⟨by decide, _, fdiv_half (by omega), ?_⟩ | (intro gg)); (conv => whnf)))
  (refine bIf_of (fun h => ?_) (fun h => ?_) <;> rw [h])
  · ((conv => whnf); repeat' ((first | refine ⟨rfl, ?_⟩ | refine ⟨_, row_map (by assumption), ?_⟩ | refine ⟨_, (by exact some_rfl), ?_⟩ | refine ⟨_, wrap_ok (by omega) (by omega), ?_⟩ | refine ⟨_, wrap_u64 (by omega) (by omega), ?_⟩ | refine ⟨by decide, _, fdiv_half (by omega), ?_⟩ | (intro gg)); (conv => whnf)))
    rw [wi_t h]
    (exact ⟨[], by (repeat' (first | exact ArgsOk.nil _ | exact argsOk_cells (by assumption) | refine ArgsOk.same (by first | exact cl_b rfl | exact cl_list | exact cl_nil | exact cl_one | exact cl_ll1 | exact cl_ll2 | exact cl_clo (by assumption)) ?_ | refine ArgsOk.nilsl _ ?_ | refine ArgsOk.nilown _ _ (by decide) ?_ | refine ArgsOk.borp rfl rfl rfl (cl_row rfl) (by decide) ?_ | refine ArgsOk.borc (by %caps) ?_ | refine ArgsOk.bor rfl rfl (deref_flat (by first | exact cl_rs rfl | exact cl_rows | exact cl_setB rfl | exact cl_setG (cl_setB rfl) rfl | exact cl_appB cl_rows (cl_rs rfl) | exact cl_rl1 | exact cl_rl2)) (by decide) ?_ | refine give' rfl (by first | exact cl_rs rfl | exact cl_rows | exact cl_setB rfl | exact cl_setG (cl_setB rfl) rfl | exact cl_appB cl_rows (cl_rs rfl) | exact cl_rl1 | exact cl_rl2) (by decide) (by decide) ?_))⟩)
  · ((conv => whnf); repeat' ((first | refine ⟨rfl, ?_⟩ | refine ⟨_, row_map (by assumption), ?_⟩ | refine ⟨_, (by exact some_rfl), ?_⟩ | refine ⟨_, wrap_ok (by omega) (by omega), ?_⟩ | refine ⟨_, wrap_u64 (by omega) (by omega), ?_⟩ | refine ⟨by decide, _, fdiv_half (by omega), ?_⟩ | (intro gg)); (conv => whnf)))
    rw [wi_f h]
    (exact ⟨[], by (repeat' (first | exact ArgsOk.nil _ | exact argsOk_cells (by assumption) | refine ArgsOk.same (by first | exact cl_b rfl | exact cl_list | exact cl_nil | exact cl_one | exact cl_ll1 | exact cl_ll2 | exact cl_clo (by assumption)) ?_ | refine ArgsOk.nilsl _ ?_ | refine ArgsOk.nilown _ _ (by decide) ?_ | refine ArgsOk.borp rfl rfl rfl (cl_row rfl) (by decide) ?_ | refine ArgsOk.borc (by %caps) ?_ | refine ArgsOk.bor rfl rfl (deref_flat (by first | exact cl_rs rfl | exact cl_rows | exact cl_setB rfl | exact cl_setG (cl_setB rfl) rfl | exact cl_appB cl_rows (cl_rs rfl) | exact cl_rl1 | exact cl_rl2)) (by decide) ?_ | refine give' rfl (by first | exact cl_rs rfl | exact cl_rows | exact cl_setB rfl | exact cl_setG (cl_setB rfl) rfl | exact cl_appB cl_rows (cl_rs rfl) | exact cl_rl1 | exact cl_rl2) (by decide) (by decide) ?_))⟩)
theorem address_fun (n : Int) : Fun Try.prog 45 [.c (.v (.int .i64 n))] [.c (.v (.bool (wi n 0 4294967295)))] := by
  refine fun_x ck_hearsayref_IsAddress rfl ?_
  ((conv => whnf); repeat' ((first | refine ⟨rfl, ?_⟩ | refine ⟨_, row_map (by assumption), ?_⟩ | refine ⟨_, (by exact some_rfl), ?_⟩ | refine ⟨_, wrap_ok (by omega) (by omega), ?_⟩ | refine ⟨_, wrap_u64 (by omega) (by omega), ?_⟩ | refine ⟨by decide, _, fdiv_half (by omega), ?_⟩ | (intro gg)); (conv => whnf)))
  (refine .inl ⟨_, _, false, [], (by (repeat' (first | exact ArgsOk.nil _ | exact argsOk_cells (by assumption) | refine ArgsOk.same (by first | exact cl_b rfl | exact cl_list | exact cl_nil | exact cl_one | exact cl_ll1 | exact cl_ll2 | exact cl_clo (by assumption)) ?_ | refine ArgsOk.nilsl _ ?_ | refine ArgsOk.nilown _ _ (by decide) ?_ | refine ArgsOk.borp rfl rfl rfl (cl_row rfl) (by decide) ?_ | refine ArgsOk.borc (by (repeat' (first | exact cap_n | refine cap_p rfl rfl rfl (by first | exact cl_row rfl | exact cl_r1 rfl | exact cl_r1b) ?_ ?_ | refine cap_m rfl (by decide) ?_ | refine cap_c (by first | exact cl_b rfl | exact cl_list | exact cl_nil | exact cl_one | exact cl_ll1 | exact cl_ll2 | exact cl_clo (by assumption)) ?_ | decide))) ?_ | refine ArgsOk.bor rfl rfl (deref_flat (by first | exact cl_rs rfl | exact cl_rows | exact cl_setB rfl | exact cl_setG (cl_setB rfl) rfl | exact cl_appB cl_rows (cl_rs rfl) | exact cl_rl1 | exact cl_rl2)) (by decide) ?_ | refine give' rfl (by first | exact cl_rs rfl | exact cl_rows | exact cl_setB rfl | exact cl_setG (cl_setB rfl) rfl | exact cl_appB cl_rows (cl_rs rfl) | exact cl_rl1 | exact cl_rl2) (by decide) (by decide) ?_))), between_fun _ _ _, nobor, (by exact Nat.le_of_ble_eq_true rfl), ?_⟩)
  ((conv => whnf); repeat' ((first | refine ⟨rfl, ?_⟩ | refine ⟨_, row_map (by assumption), ?_⟩ | refine ⟨_, (by exact some_rfl), ?_⟩ | refine ⟨_, wrap_ok (by omega) (by omega), ?_⟩ | refine ⟨_, wrap_u64 (by omega) (by omega), ?_⟩ | refine ⟨by decide, _, fdiv_half (by omega), ?_⟩ | (intro gg)); (conv => whnf)))
  (exact ⟨[], by (repeat' (first | exact ArgsOk.nil _ | exact argsOk_cells (by assumption) | refine ArgsOk.same (by first | exact cl_b rfl | exact cl_list | exact cl_nil | exact cl_one | exact cl_ll1 | exact cl_ll2 | exact cl_clo (by assumption)) ?_ | refine ArgsOk.nilsl _ ?_ | refine ArgsOk.nilown _ _ (by decide) ?_ | refine ArgsOk.borp rfl rfl rfl (cl_row rfl) (by decide) ?_ | refine ArgsOk.borc (by %caps) ?_ | refine ArgsOk.bor rfl rfl (deref_flat (by first | exact cl_rs rfl | exact cl_rows | exact cl_setB rfl | exact cl_setG (cl_setB rfl) rfl | exact cl_appB cl_rows (cl_rs rfl) | exact cl_rl1 | exact cl_rl2)) (by decide) ?_ | refine give' rfl (by first | exact cl_rs rfl | exact cl_rows | exact cl_setB rfl | exact cl_setG (cl_setB rfl) rfl | exact cl_appB cl_rows (cl_rs rfl) | exact cl_rl1 | exact cl_rl2) (by decide) (by decide) ?_))⟩)
/-- one more -/
theorem firstErr_one {α : Type} (e : α → Int) (a : α) : firstErr e [a] = e a := by
  by_cases h : e a = 0 <;> simp [firstErr, h]
theorem ckL_each {α : Type} {mx : Nat} {e : α → Int} {lt : α → α → Bool} {l : List α} (h1 : ¬ mx < l.length) (h2 : firstErr e l ≠ 0) : ckL mx e lt l = firstErr e l := by simp [ckL, h1, h2]
theorem ckL_no {α : Type} {mx : Nat} {e : α → Int} {lt : α → α → Bool} {l : List α} (h1 : ¬ mx < l.length) (h2 : firstErr e l = 0) (h3 : sorted lt l = false) : ckL mx e lt l = 4 := by simp [ckL, h1, h2, h3]
theorem ckL_yes {α : Type} {mx : Nat} {e : α → Int} {lt : α → α → Bool} {l : List α} (h1 : ¬ mx < l.length) (h2 : firstErr e l = 0) (h3 : sorted lt l = true) : ckL mx e lt l = 0 := by simp [ckL, h1, h2, h3]
theorem icmp_eq (a : Int) : icmp a a = 0 := by simp [icmp]
theorem icmp_ne {a b : Int} (h : a ≠ b) : icmp a b ≠ 0 := by
  unfold icmp; split
  · decide
  · split
    · decide
    · omega
theorem icmp_pos {a b : Int} : 0 < icmp a b ↔ b < a := by
  unfold icmp; split
  · constructor <;> intro h <;> omega
  · split <;> (constructor <;> intro h <;> omega)
theorem nz_ne {a b : Int} {r : List Int} (h : (a != b) = true) : decide (0 < firstNZ (icmp a b :: r)) = decide (b < a) := by
  have h : a ≠ b := by simpa using h
  simp [firstNZ, icmp_ne h, icmp_pos]
theorem nz_eq {a b : Int} {r : List Int} (h : (a != b) = false) : firstNZ (icmp a b :: r) = firstNZ r := by
  have h : a = b := by simpa using h
  subst h; simp [firstNZ, icmp_eq]
theorem scmp_pos {a b : ByteArray} : 0 < scmp a b ↔ slt b a = true := by
  constructor
  · intro h
    rcases Bool.eq_false_or_eq_true (slt b a) with q | q
    · exact q
    · rcases Bool.eq_false_or_eq_true (slt a b) with p | p
      · rw [scmp_lt p] at h; omega
      · have := slt_tri p q
        rw [this, scmp_eq] at h; omega
  · intro h; rw [scmp_gt h]; decide
theorem nzs_ne {a b : ByteArray} {r : List Int} (h : (!(a.toList == b.toList)) = true) : decide (0 < firstNZ (scmp a b :: r)) = slt b a := by
  have h : a ≠ b := fun e => by subst e; simp at h
  have h0 : scmp a b ≠ 0 := fun e => h (scmp_zero.1 e)
  simp [firstNZ, h0, scmp_pos]
theorem nzs_eq {a b : ByteArray} {r : List Int} (h : (!(a.toList == b.toList)) = false) : firstNZ (scmp a b :: r) = firstNZ r := by
  have h : a = b := seq_iff.1 (by simpa using h)
  subst h; simp [firstNZ, scmp_eq]
def b2i (b : Bool) : Int := if b then 1 else 0
theorem nzb_last {p q : Bool} : decide (0 < firstNZ [icmp (b2i p) (b2i q)]) = (p && !q) := by cases p <;> cases q <;> decide
def orRow (n : Int) : List V := [.v (.int .i64 n)]
instance : FlatRow orRow := ⟨fun x u hu => by simp [orRow] at hu; exact ⟨_, hu⟩⟩
theorem or_fun (c : Bool) (l : List Int) (hl : l.length ≤ 9223372036854775807) : Fun Try.prog 31 [.c (.sl c (l.map orRow))] [.c (.v (.int .i64 (firstNZ l)))] := by
  refine fun_x ck_cmp_Or_int rfl ?_
  ((conv => whnf); repeat' ((first | refine ⟨rfl, ?_⟩ | refine ⟨_, row_map (by assumption), ?_⟩ | refine ⟨_, (by exact some_rfl), ?_⟩ | refine ⟨_, wrap_ok (by omega) (by omega), ?_⟩ | refine ⟨_, wrap_u64 (by omega) (by omega), ?_⟩ | refine ⟨by decide, _, fdiv_half (by omega), ?_⟩ | (intro gg)); (conv => whnf)))
  (refine ⟨[], none, {k : Nat // k ≤ l.length ∧ ∀ j, (h : j < l.length) → j < k → l[j] = 0}, [3, 6, 7], fun ⟨k, hk, h0⟩ => [(8, .v (.int .i64 k))], [], fun ⟨k, hk, h0⟩ => [], fun ⟨k, hk, h0⟩ => l.length - k, trivial, fun _ => ⟨trivial, fun _ => ⟨⟨0, by omega, fun j _ h => by omega⟩, by (repeat' (first | exact trivial | refine ⟨rfl, ?_⟩)), keptE_refl _ _, by (repeat' (first | exact trivial | refine ⟨rfl, ?_⟩)), keptH_refl _ _⟩⟩, fun ⟨k, hk, h0⟩ => ?_⟩)
  ((conv => whnf); repeat' ((first | refine ⟨rfl, ?_⟩ | refine ⟨_, row_map (by assumption), ?_⟩ | refine ⟨_, (by exact some_rfl), ?_⟩ | refine ⟨_, wrap_ok (by omega) (by omega), ?_⟩ | refine ⟨_, wrap_u64 (by omega) (by omega), ?_⟩ | refine ⟨by decide, _, fdiv_half (by omega), ?_⟩ | (intro gg)); (conv => whnf)))
  rw [List.length_map]
  (refine bIf_of (fun h => ?_) (fun h => ?_) <;> rw [h])
  · have hlt : k < l.length := by simpa using h
    ((conv => whnf); repeat' ((first | refine ⟨rfl, ?_⟩ | refine ⟨_, row_map (by assumption), ?_⟩ | refine ⟨_, (by exact some_rfl), ?_⟩ | refine ⟨_, wrap_ok (by omega) (by omega), ?_⟩ | refine ⟨_, wrap_u64 (by omega) (by omega), ?_⟩ | refine ⟨by decide, _, fdiv_half (by omega), ?_⟩ | (intro gg)); (conv => whnf)))
    refine ⟨k, _, rfl, row_map hlt, ?_⟩
    ((conv => whnf); repeat' ((first | refine ⟨rfl, ?_⟩ | refine ⟨_, row_map (by assumption), ?_⟩ | refine ⟨_, (by exact some_rfl), ?_⟩ | refine ⟨_, wrap_ok (by omega) (by omega), ?_⟩ | refine ⟨_, wrap_u64 (by omega) (by omega), ?_⟩ | refine ⟨by decide, _, fdiv_half (by omega), ?_⟩ | (intro gg)); (conv => whnf)))
    (refine bIf_of (fun h => ?_) (fun h => ?_) <;> rw [h])
    · ((conv => whnf); repeat' ((first | refine ⟨rfl, ?_⟩ | refine ⟨_, row_map (by assumption), ?_⟩ | refine ⟨_, (by exact some_rfl), ?_⟩ | refine ⟨_, wrap_ok (by omega) (by omega), ?_⟩ | refine ⟨_, wrap_u64 (by omega) (by omega), ?_⟩ | refine ⟨by decide, _, fdiv_half (by omega), ?_⟩ | (intro gg)); (conv => whnf)))
      rw [firstNZ_at hlt h0 (by simpa using h)]
      (exact ⟨[], by (repeat' (first | exact ArgsOk.nil _ | exact argsOk_cells (by assumption) | refine ArgsOk.same (by first | exact cl_b rfl | exact cl_list | exact cl_nil | exact cl_one | exact cl_ll1 | exact cl_ll2 | exact cl_clo (by assumption)) ?_ | refine ArgsOk.nilsl _ ?_ | refine ArgsOk.nilown _ _ (by decide) ?_ | refine ArgsOk.borp rfl rfl rfl (cl_row rfl) (by decide) ?_ | refine ArgsOk.borc (by %caps) ?_ | refine ArgsOk.bor rfl rfl (deref_flat (by first | exact cl_rs rfl | exact cl_rows | exact cl_setB rfl | exact cl_setG (cl_setB rfl) rfl | exact cl_appB cl_rows (cl_rs rfl) | exact cl_rl1 | exact cl_rl2)) (by decide) ?_ | refine give' rfl (by first | exact cl_rs rfl | exact cl_rows | exact cl_setB rfl | exact cl_setG (cl_setB rfl) rfl | exact cl_appB cl_rows (cl_rs rfl) | exact cl_rl1 | exact cl_rl2) (by decide) (by decide) ?_))⟩)
    · ((conv => whnf); repeat' ((first | refine ⟨rfl, ?_⟩ | refine ⟨_, row_map (by assumption), ?_⟩ | refine ⟨_, (by exact some_rfl), ?_⟩ | refine ⟨_, wrap_ok (by omega) (by omega), ?_⟩ | refine ⟨_, wrap_u64 (by omega) (by omega), ?_⟩ | refine ⟨by decide, _, fdiv_half (by omega), ?_⟩ | (intro gg)); (conv => whnf)))
      (exact ⟨none, trivial, fun _ => ⟨⟨k + 1, by omega, up1 (p := fun j h => l[j] = 0) h0 (fun _ => by simpa using h)⟩, by show l.length - (k + 1) < l.length - k; omega, by (repeat' (first | exact trivial | refine ⟨rfl, ?_⟩)), by (repeat' (first | exact trivial | refine ⟨rfl, ?_⟩)), by (repeat' (first | exact trivial | refine ⟨rfl, ?_⟩)), by (repeat' (first | exact trivial | refine ⟨rfl, ?_⟩))⟩⟩)
  · have hge : ¬ k < l.length := by simpa using h
    ((conv => whnf); repeat' ((first | refine ⟨rfl, ?_⟩ | refine ⟨_, row_map (by assumption), ?_⟩ | refine ⟨_, (by exact some_rfl), ?_⟩ | refine ⟨_, wrap_ok (by omega) (by omega), ?_⟩ | refine ⟨_, wrap_u64 (by omega) (by omega), ?_⟩ | refine ⟨by decide, _, fdiv_half (by omega), ?_⟩ | (intro gg)); (conv => whnf)))
    rw [firstNZ_zero (l := l) (fun i hi => h0 i hi (by omega))]
    (exact ⟨[], by (repeat' (first | exact ArgsOk.nil _ | exact argsOk_cells (by assumption) | refine ArgsOk.same (by first | exact cl_b rfl | exact cl_list | exact cl_nil | exact cl_one | exact cl_ll1 | exact cl_ll2 | exact cl_clo (by assumption)) ?_ | refine ArgsOk.nilsl _ ?_ | refine ArgsOk.nilown _ _ (by decide) ?_ | refine ArgsOk.borp rfl rfl rfl (cl_row rfl) (by decide) ?_ | refine ArgsOk.borc (by %caps) ?_ | refine ArgsOk.bor rfl rfl (deref_flat (by first | exact cl_rs rfl | exact cl_rows | exact cl_setB rfl | exact cl_setG (cl_setB rfl) rfl | exact cl_appB cl_rows (cl_rs rfl) | exact cl_rl1 | exact cl_rl2)) (by decide) ?_ | refine give' rfl (by first | exact cl_rs rfl | exact cl_rows | exact cl_setB rfl | exact cl_setG (cl_setB rfl) rfl | exact cl_appB cl_rows (cl_rs rfl) | exact cl_rl1 | exact cl_rl2) (by decide) (by decide) ?_))⟩)
end Go.Proofs.Ytjhdlcmecbngkaa
/- Plain: members. No program in sight (but for the order of texts). -/
namespace Go.Proofs.Ytjhdlcmecbngkaa.Pl
set_option linter.unusedVariables false
structure Mb where
  n : ByteArray
  st : Int
  lf : Int
  ad : Int
  sv : Bool
def Mb.enc (m : Mb) : List Value := [.string m.n, .int .i64 m.st, .int .i64 m.lf, .int .i64 m.ad, .bool m.sv]
def Mb.row (m : Mb) : List V := [.v (.string m.n), .v (.int .i64 m.st), .v (.int .i64 m.lf), .v (.int .i64 m.ad), .v (.bool m.sv)]
theorem Mb.enc_len (m : Mb) : m.enc.length = 5 := rfl
theorem Mb.enc_one (m : Mb) : ∀ u ∈ m.enc, u.oneCell' = true := by
  intro u hu
  simp [Mb.enc] at hu
  rcases hu with rfl | rfl | rfl | rfl | rfl <;> rfl
instance : FlatRow Mb.row := ⟨fun x u hu => by simp [Mb.row] at hu; rcases hu with rfl | rfl | rfl | rfl | rfl <;> exact ⟨_, rfl⟩⟩
def Mb.ok (m : Mb) : Prop := m.n.size ≤ 9223372036854775807
/-- what is wrong with one member -/
def Mb.err (m : Mb) : Int := if lab m.n.data.toList then (if wi m.st 1 4 then (if wi m.lf 1 1000000 && wi m.ad 0 4294967295 then 0 else 3) else 7) else 1
def Mb.lt (g h : Mb) : Bool := slt g.n h.n
def ckMb (l : List Mb) : Int := ckL 20 Mb.err Mb.lt l
def Mb.cf (name : ByteArray) (g : Mb) : Int := scmp g.n name
def Mb.kf (g x : Mb) : Int := Mb.cf g.n x
/-- the comparison of two of one name -/
def Mb.cmp (g x : Mb) : Int := firstNZ [icmp g.lf x.lf, icmp g.st x.st, icmp g.ad x.ad, icmp (b2i g.sv) (b2i x.sv)]
def Mb.nw (g x : Mb) : Bool := decide (0 < Mb.cmp g x)
def Mb.is (name : ByteArray) (m : Mb) : Bool := m.n.toList == name.toList
def Mb.same (g h : Mb) : Bool := (g.n.toList == h.n.toList) && ((g.st == h.st) && ((g.lf == h.lf) && ((g.ad == h.ad) && ((g.sv == h.sv) && true))))
theorem Mb.same_iff {g h : Mb} : Mb.same g h = true ↔ g = h := by
  obtain ⟨a, b, c, d, e⟩ := g
  obtain ⟨a', b', c', d', e'⟩ := h
  have tl : ∀ a b : ByteArray, a.toList = b.toList ↔ a = b := fun a b => ⟨toList_inj, fun h => by rw [h]⟩
  simp only [Mb.same, Bool.and_true, Bool.and_eq_true, beq_iff_eq, tl, Mb.mk.injEq]
theorem Mb.err_cases (m : Mb) : m.err = 0 ∨ m.err = 1 ∨ m.err = 3 ∨ m.err = 7 := by
  unfold Mb.err
  split
  · split
    · split <;> simp
    · simp
  · simp
theorem Mb.lt_trans (x y z : Mb) (h1 : Mb.lt x y = true) (h2 : Mb.lt y z = true) : Mb.lt x z = true := slt_trans h1 h2
theorem Mb.ord : Ord Mb.lt Mb.kf where
  neg := fun g x => by unfold Mb.kf Mb.cf Mb.lt; exact scmp_neg
  pos := fun g x => by
    unfold Mb.kf Mb.cf Mb.lt
    constructor
    · intro h
      rcases Bool.eq_false_or_eq_true (slt g.n x.n) with q | q
      · exact q
      · rcases Bool.eq_false_or_eq_true (slt x.n g.n) with p | p
        · rw [scmp_lt p] at h; omega
        · have := slt_tri q p
          rw [this, scmp_eq] at h; omega
    · intro h; rw [scmp_gt h]; omega
  trans := Mb.lt_trans
  left := fun g x y h => by
    unfold Mb.kf Mb.cf at h
    rw [scmp_zero] at h
    unfold Mb.lt; rw [h]
  right := fun g x y h => by
    unfold Mb.kf Mb.cf at h
    rw [scmp_zero] at h
    unfold Mb.lt; rw [h]
theorem Mb.lt_cf (name : ByteArray) (x y : Mb) (h : Mb.lt x y = true) (hy : Mb.cf name y ≤ 0) : Mb.cf name x < 0 := by
  unfold Mb.cf at *
  rw [scmp_neg]
  rcases Bool.eq_false_or_eq_true (slt y.n name) with g | g
  · exact slt_trans h g
  · have h0 : scmp y.n name = 0 := by
      rcases (by omega : scmp y.n name < 0 ∨ scmp y.n name = 0) with q | q
      · rw [scmp_neg] at q; rw [q] at g; cases g
      · exact q
    rw [scmp_zero] at h0
    rw [← h0]
    exact h
theorem ckMb_inv {l : List Mb} (h : ckMb l = 0) : l.length ≤ 20 ∧ (∀ i, (hi : i < l.length) → (l[i]).err = 0) ∧ sorted Mb.lt l = true := ckL_inv Mb.err_cases h
theorem Mb.smono {l : List Mb} (h : sorted Mb.lt l = true) (name : ByteArray) : SMono (Mb.cf name) l := smono_of Mb.lt_trans (Mb.lt_cf name) h
/-- does one stand behind, or where the other one stands? -/
def Mb.ge (m x : Mb) : Bool := !(Op.bytesLess x.n.toList m.n.toList)
def Mb.ne (m x : Mb) : Bool := !(x.n.toList == m.n.toList)
theorem Mb.ge_eq (m : Mb) : Mb.ge m = fun x => decide (0 ≤ Mb.kf m x) := by
  funext x
  have h := scmp_neg (a := x.n) (b := m.n)
  unfold Mb.ge Mb.kf Mb.cf
  unfold slt at h
  cases hb : Op.bytesLess x.n.toList m.n.toList with
  | true => have := h.2 hb; simp; omega
  | false =>
    have : ¬ scmp x.n m.n < 0 := fun e => by rw [h.1 e] at hb; cases hb
    simp; omega
theorem Mb.is_eq (name : ByteArray) : Mb.is name = fun x => decide (Mb.cf name x = 0) := by
  funext x
  unfold Mb.is Mb.cf
  by_cases h : x.n = name
  · rw [h, scmp_eq]; simp
  · have h2 : scmp x.n name ≠ 0 := fun e => h (scmp_zero.1 e)
    rw [seq_no h]; simp [h2]
theorem Mb.ne_eq (m : Mb) : Mb.ne m = fun x => decide (Mb.kf m x ≠ 0) := by
  funext x
  have := congrFun (Mb.is_eq m.n) x
  unfold Mb.is at this
  unfold Mb.ne Mb.kf
  rw [this]; simp
theorem Mb.at_eq {l : List Mb} (hs : sorted Mb.lt l = true) (name : ByteArray) : at_ (Mb.is name) l = if hit (Mb.cf name) l = true then (low (Mb.cf name) l : Int) else -1 := by
  rw [Mb.is_eq]; exact at_sorted (Mb.smono hs name)
theorem Mb.putL_eq {l : List Mb} (hs : sorted Mb.lt l = true) {m : Mb} (h : hearF Mb.kf Mb.nw l m = true) : putL (Mb.ge m) (Mb.ne m) m l = upd Mb.kf Mb.nw l m := by
  rw [Mb.ge_eq, Mb.ne_eq, upd_put h]
  exact putL_sorted (Mb.smono hs m.n) m
/-- what Hear gives: what is wrong, the members, and whether it was news -/
def hearM (l : List Mb) (m : Mb) : Int × List Mb × Bool :=
  if ckMb l ≠ 0 then (ckMb l, [], false) else if m.err ≠ 0 then (m.err, [], false) else if 20 < (upd Mb.kf Mb.nw l m).length then (2, [], false) else (0, upd Mb.kf Mb.nw l m, hearF Mb.kf Mb.nw l m)
theorem hearM_ck {l : List Mb} {m : Mb} (h : ckMb l ≠ 0) : hearM l m = (ckMb l, [], false) := by simp [hearM, h]
theorem hearM_one {l : List Mb} {m : Mb} (h : ckMb l = 0) (h1 : m.err ≠ 0) : hearM l m = (m.err, [], false) := by simp [hearM, h, h1]
theorem hearM_many {l : List Mb} {m : Mb} (h : ckMb l = 0) (h1 : m.err = 0) (h2 : 20 < (upd Mb.kf Mb.nw l m).length) : hearM l m = (2, [], false) := by simp [hearM, h, h1, h2]
theorem hearM_ok {l : List Mb} {m : Mb} (h : ckMb l = 0) (h1 : m.err = 0) (h2 : ¬ 20 < (upd Mb.kf Mb.nw l m).length) : hearM l m = (0, upd Mb.kf Mb.nw l m, hearF Mb.kf Mb.nw l m) := by simp [hearM, h, h1, h2]
/-- what Join gives -/
def joinM (a b : List Mb) : Int × List Mb :=
  if ckMb a ≠ 0 then (ckMb a, []) else if ckMb b ≠ 0 then (ckMb b, []) else if 20 < (joinL Mb.kf Mb.nw a b).length then (2, []) else (0, joinL Mb.kf Mb.nw a b)
theorem joinM_bad {a b : List Mb} (h : firstErr ckMb [a, b] ≠ 0) : joinM a b = (firstErr ckMb [a, b], []) := by
  by_cases h1 : ckMb a = 0
  · by_cases h2 : ckMb b = 0
    · simp [firstErr, h1, h2] at h
    · simp [joinM, firstErr, h1, h2]
  · simp [joinM, firstErr, h1]
theorem first_two {α : Type} {e : α → Int} {a b : α} (h : firstErr e [a, b] = 0) : e a = 0 ∧ e b = 0 := by
  by_cases h1 : e a = 0
  · by_cases h2 : e b = 0
    · exact ⟨h1, h2⟩
    · simp [firstErr, h1, h2] at h
  · simp [firstErr, h1] at h
theorem joinM_many {a b : List Mb} (h : ckMb a = 0) (h1 : ckMb b = 0) (h2 : 20 < (joinL Mb.kf Mb.nw a b).length) : joinM a b = (2, []) := by simp [joinM, h, h1, h2]
theorem joinM_ok {a b : List Mb} (h : ckMb a = 0) (h1 : ckMb b = 0) (h2 : ¬ 20 < (joinL Mb.kf Mb.nw a b).length) : joinM a b = (0, joinL Mb.kf Mb.nw a b) := by simp [joinM, h, h1, h2]
/-- one that lives again -/
def Mb.up (x : Mb) : Mb := ⟨x.n, 1, x.lf + 1, x.ad, x.sv⟩
theorem Mb.up_nw (x : Mb) : Mb.nw x.up x = true := by
  have h : x.up.lf ≠ x.lf := by show x.lf + 1 ≠ x.lf; omega
  unfold Mb.nw Mb.cmp
  rw [nz_ne (by simpa using h)]
  exact decide_eq_true (by show x.lf < x.lf + 1; omega)
/-- what Refute gives, of members that are right -/
def refR (l : List Mb) (me : ByteArray) : Int × List Mb × Bool := match l[low (Mb.cf me) l]? with
  | some x => if hit (Mb.cf me) l = true then (if x.st = 1 then (0, l, false) else if x.st = 4 then (0, l, false) else if x.lf = 1000000 then (3, [], false) else (0, l.set (low (Mb.cf me) l) x.up, true)) else (0, l, false)
  | none => (0, l, false)
def refM (l : List Mb) (me : ByteArray) : Int × List Mb × Bool :=
  if ckMb l ≠ 0 then (ckMb l, [], false) else if lab me.data.toList = false then (1, [], false) else refR l me
theorem refR_miss {l : List Mb} {me : ByteArray} (h : hit (Mb.cf me) l = false) : refR l me = (0, l, false) := by unfold refR; split <;> simp [h]
theorem refR_hit {l : List Mb} {me : ByteArray} (h : hit (Mb.cf me) l = true) : refR l me = (if (l[low (Mb.cf me) l]'(hit_lt h)).st = 1 then (0, l, false) else if (l[low (Mb.cf me) l]'(hit_lt h)).st = 4 then (0, l, false) else if (l[low (Mb.cf me) l]'(hit_lt h)).lf = 1000000 then (3, [], false) else (0, l.set (low (Mb.cf me) l) (l[low (Mb.cf me) l]'(hit_lt h)).up, true)) := by
  unfold refR; rw [List.getElem?_eq_getElem (hit_lt h)]; simp [h]
theorem refM_ck {l : List Mb} {me : ByteArray} (h : ckMb l ≠ 0) : refM l me = (ckMb l, [], false) := by simp [refM, h]
theorem refM_lab {l : List Mb} {me : ByteArray} (h : ckMb l = 0) (h1 : lab me.data.toList = false) : refM l me = (1, [], false) := by simp [refM, h, h1]
theorem refM_ok {l : List Mb} {me : ByteArray} (h : ckMb l = 0) (h1 : lab me.data.toList = true) : refM l me = refR l me := by simp [refM, h, h1]
/-- the same key: the same place -/
theorem Mb.up_upd {l : List Mb} {me : ByteArray} (h : hit (Mb.cf me) l = true) : upd Mb.kf Mb.nw l (l[low (Mb.cf me) l]'(hit_lt h)).up = l.set (low (Mb.cf me) l) (l[low (Mb.cf me) l]'(hit_lt h)).up := by
  have h0 : (l[low (Mb.cf me) l]'(hit_lt h)).n = me := scmp_zero.1 (hit_zero h)
  have e : Mb.kf (l[low (Mb.cf me) l]'(hit_lt h)).up = Mb.cf me := by funext x; show Mb.cf (l[low (Mb.cf me) l]'(hit_lt h)).n x = _; rw [h0]
  have h1 : hit (Mb.kf (l[low (Mb.cf me) l]'(hit_lt h)).up) l = true := by rw [e]; exact h
  have hlow : low (Mb.kf (l[low (Mb.cf me) l]'(hit_lt h)).up) l = low (Mb.cf me) l := by rw [e]
  have := upd_set (nw := Mb.nw) (cf := Mb.kf) hlow (hit_lt h) (Mb.up_nw _)
  rw [this]; simp only [putAt, h1, hlow, if_true]
theorem Mb.up_hear {l : List Mb} {me : ByteArray} (h : hit (Mb.cf me) l = true) : hearF Mb.kf Mb.nw l (l[low (Mb.cf me) l]'(hit_lt h)).up = true := by
  have h0 : (l[low (Mb.cf me) l]'(hit_lt h)).n = me := scmp_zero.1 (hit_zero h)
  have e : Mb.kf (l[low (Mb.cf me) l]'(hit_lt h)).up = Mb.cf me := by funext x; show Mb.cf (l[low (Mb.cf me) l]'(hit_lt h)).n x = _; rw [h0]
  unfold hearF
  rw [e, List.getElem?_eq_getElem (hit_lt h)]
  simp [h, Mb.up_nw]
def liveS (l : List Mb) : List ByteArray := (l.filter fun m => decide (m.st ≤ 2)).map (·.n)
theorem liveS_next {l : List Mb} {k : Nat} (hk : k < l.length) : liveS (l.take (k + 1)) = if (l[k]).st ≤ 2 then liveS (l.take k) ++ [(l[k]).n] else liveS (l.take k) := by
  unfold liveS
  rw [take_snoc_ hk, List.filter_append, List.map_append]
  split <;> rename_i h <;> simp [h]
theorem liveS_len (l : List Mb) : (liveS l).length ≤ l.length := by unfold liveS; rw [List.length_map]; exact List.length_filter_le _ _
def liveM (l : List Mb) : Int × List ByteArray := if ckMb l ≠ 0 then (ckMb l, []) else (0, liveS l)
theorem Mb.err_inv {m : Mb} (h : m.err = 0) : lab m.n.data.toList = true ∧ (1 ≤ m.st ∧ m.st ≤ 4) ∧ (1 ≤ m.lf ∧ m.lf ≤ 1000000) ∧ (0 ≤ m.ad ∧ m.ad ≤ 4294967295) := by
  unfold Mb.err at h
  split at h
  · rename_i h1
    split at h
    · rename_i h2
      split at h
      · rename_i h3
        rw [Bool.and_eq_true, wi_iff, wi_iff] at h3
        exact ⟨h1, wi_iff.1 h2, h3⟩
      · omega
    · omega
  · omega
theorem refM_a {A : ByteArray} (h : lab A.data.toList = true) : refM [⟨A, 2, 1, 0, false⟩] A = (0, [⟨A, 1, 2, 0, false⟩], true) := by
  have h0 : ckMb [⟨A, 2, 1, 0, false⟩] = 0 := by
    simp [ckMb, ckL, firstErr, sorted, Mb.err, h, wi]
  rw [refM_ok h0 h]
  simp [refR, low, hit, Mb.cf, scmp_eq, Mb.up]
theorem mb_dec (row : List V) (h : Fits [.s, .i, .i, .i, .b] row) : ∃ m : Mb, row = m.row ∧ m.ok := by
  obtain ⟨u0, _, rfl, f0, h⟩ := fits_cons h
  obtain ⟨u1, _, rfl, f1, h⟩ := fits_cons h
  obtain ⟨u2, _, rfl, f2, h⟩ := fits_cons h
  obtain ⟨u3, _, rfl, f3, h⟩ := fits_cons h
  obtain ⟨u4, _, rfl, f4, h⟩ := fits_cons h
  obtain rfl := fits_nil h
  obtain ⟨n, rfl, hn⟩ := fit_s f0
  obtain ⟨a, rfl, _⟩ := fit_i f1
  obtain ⟨b, rfl, _⟩ := fit_i f2
  obtain ⟨c, rfl, _⟩ := fit_i f3
  obtain ⟨d, rfl⟩ := fit_b f4
  exact ⟨⟨n, a, b, c, d⟩, rfl, hn⟩
end Go.Proofs.Ytjhdlcmecbngkaa.Pl
/- Plain: rumors, as rows. -/
namespace Go.Proofs.Ytjhdlcmecbngkaa.Pl
set_option linter.unusedVariables false
structure Ru where
  m : Mb
  t : Int
def Ru.row (r : Ru) : List V := [.v (.string r.m.n), .v (.int .i64 r.m.st), .v (.int .i64 r.m.lf), .v (.int .i64 r.m.ad), .v (.bool r.m.sv), .v (.int .i64 r.t)]
instance : FlatRow Ru.row := ⟨fun x u hu => by simp [Ru.row] at hu; rcases hu with rfl | rfl | rfl | rfl | rfl | rfl <;> exact ⟨_, rfl⟩⟩
instance : OneRow Ru.row 6 := ⟨fun _ => rfl, fun x u hu => by simp [Ru.row] at hu; rcases hu with rfl | rfl | rfl | rfl | rfl | rfl <;> exact ⟨_, rfl, rfl⟩⟩
instance : OneRow Mb.row 5 := ⟨fun _ => rfl, fun x u hu => by simp [Mb.row] at hu; rcases hu with rfl | rfl | rfl | rfl | rfl <;> exact ⟨_, rfl, rfl⟩⟩
def Ru.ok (r : Ru) : Prop := r.m.ok
theorem ru_dec (row : List V) (h : Fits [.s, .i, .i, .i, .b, .i] row) : ∃ m : Ru, row = m.row ∧ m.ok := by
  obtain ⟨u0, _, rfl, f0, h⟩ := fits_cons h
  obtain ⟨u1, _, rfl, f1, h⟩ := fits_cons h
  obtain ⟨u2, _, rfl, f2, h⟩ := fits_cons h
  obtain ⟨u3, _, rfl, f3, h⟩ := fits_cons h
  obtain ⟨u4, _, rfl, f4, h⟩ := fits_cons h
  obtain ⟨u5, _, rfl, f5, h⟩ := fits_cons h
  obtain rfl := fits_nil h
  obtain ⟨n, rfl, hn⟩ := fit_s f0
  obtain ⟨a, rfl, _⟩ := fit_i f1
  obtain ⟨b, rfl, _⟩ := fit_i f2
  obtain ⟨c, rfl, _⟩ := fit_i f3
  obtain ⟨d, rfl⟩ := fit_b f4
  obtain ⟨e, rfl, _⟩ := fit_i f5
  exact ⟨⟨⟨n, a, b, c, d⟩, e⟩, rfl, hn⟩
end Go.Proofs.Ytjhdlcmecbngkaa.Pl
/- Plain: rumors. No program in sight (but for the order of texts). -/
namespace Go.Proofs.Ytjhdlcmecbngkaa.Pl
set_option linter.unusedVariables false
def Ru.err (r : Ru) : Int := r.m.err
def Ru.bad (r : Ru) : Bool := !(wi r.t 0 100)
def Ru.nm (r : Ru) : ByteArray := r.m.n
def Ru.is (n : ByteArray) (r : Ru) : Bool := r.m.n.toList == n.toList
open Classical in
/-- what is wrong with rumors -/
noncomputable def ckRu (l : List Ru) : Int := if 20 < l.length then 2 else if firstErr Ru.err l ≠ 0 then firstErr Ru.err l else if l.any Ru.bad = true then 3 else if (l.map Ru.nm).Nodup then 0 else 6
theorem ckRu_many {l : List Ru} (h : 20 < l.length) : ckRu l = 2 := by simp [ckRu, h]
theorem ckRu_each {l : List Ru} (h : ¬ 20 < l.length) (h2 : firstErr Ru.err l ≠ 0) : ckRu l = firstErr Ru.err l := by simp [ckRu, h, h2]
theorem ckRu_rng {l : List Ru} (h : ¬ 20 < l.length) (h2 : firstErr Ru.err l = 0) (h3 : l.any Ru.bad = true) : ckRu l = 3 := by simp only [ckRu, h, h2, h3, if_false, if_true, ne_eq, not_true]
theorem ckRu_two {l : List Ru} (h : ¬ 20 < l.length) (h2 : firstErr Ru.err l = 0) (h3 : l.any Ru.bad = false) (h4 : ¬ (l.map Ru.nm).Nodup) : ckRu l = 6 := by simp only [ckRu, h, h2, h3, h4, if_false, ne_eq, not_true, Bool.false_eq_true]
theorem ckRu_ok {l : List Ru} (h : ¬ 20 < l.length) (h2 : firstErr Ru.err l = 0) (h3 : l.any Ru.bad = false) (h4 : (l.map Ru.nm).Nodup) : ckRu l = 0 := by simp only [ckRu, h, h2, h3, h4, if_false, if_true, ne_eq, not_true, Bool.false_eq_true]
structure RuOk (l : List Ru) : Prop where
  len : l.length ≤ 20
  each : firstErr Ru.err l = 0
  rng : ∀ i, (h : i < l.length) → 0 ≤ l[i].t ∧ l[i].t ≤ 100
  nd : (l.map Ru.nm).Nodup
theorem Ru.bad_iff (r : Ru) : r.bad = false ↔ 0 ≤ r.t ∧ r.t ≤ 100 := by simp [Ru.bad, wi]
theorem ckRu_inv {l : List Ru} (h : ckRu l = 0) : RuOk l := by
  unfold ckRu at h
  split at h
  · omega
  · split at h
    · rename_i h2; exact absurd h h2
    · split at h
      · omega
      · split at h
        · rename_i h1 h2 h3 h4
          refine ⟨by omega, Classical.byContradiction h2, fun i hi => ?_, h4⟩
          rw [← Ru.bad_iff]
          cases q : l[i].bad with
          | false => rfl
          | true => exact absurd (List.any_eq_true.2 ⟨_, List.getElem_mem hi, q⟩) h3
        · omega
/-! ### Put -/
def putFin (l : List Ru) (m : Mb) : Int × List Ru := if l.length = 20 then (2, []) else (0, l ++ [⟨m, 0⟩])
def putR (l : List Ru) (m : Mb) : Int × List Ru := match l[(at_ (Ru.is m.n) l).toNat]? with
  | some r => if 0 ≤ at_ (Ru.is m.n) l then (if Mb.cmp m r.m ≤ 0 then (0, l) else putFin (l.eraseIdx (at_ (Ru.is m.n) l).toNat) m) else putFin l m
  | none => putFin l m
noncomputable def putRu (l : List Ru) (m : Mb) : Int × List Ru := if ckRu l ≠ 0 then (ckRu l, []) else if m.err ≠ 0 then (m.err, []) else putR l m
theorem putRu_ck {l : List Ru} {m : Mb} (h : ckRu l ≠ 0) : putRu l m = (ckRu l, []) := by simp [putRu, h]
theorem putRu_one {l : List Ru} {m : Mb} (h : ckRu l = 0) (h1 : m.err ≠ 0) : putRu l m = (m.err, []) := by simp [putRu, h, h1]
theorem putRu_ok {l : List Ru} {m : Mb} (h : ckRu l = 0) (h1 : m.err = 0) : putRu l m = putR l m := by simp [putRu, h, h1]
theorem putR_no {l : List Ru} {m : Mb} (h : ¬ 0 ≤ at_ (Ru.is m.n) l) : putR l m = putFin l m := by
  unfold putR
  split
  · rw [if_neg h]
  · rfl
theorem putR_old {l : List Ru} {m : Mb} {r : Ru} (h : 0 ≤ at_ (Ru.is m.n) l) (hr : l[(at_ (Ru.is m.n) l).toNat]? = some r) (hc : Mb.cmp m r.m ≤ 0) : putR l m = (0, l) := by
  unfold putR; rw [hr]; simp only [if_pos h, if_pos hc]
theorem putR_new {l : List Ru} {m : Mb} {r : Ru} (h : 0 ≤ at_ (Ru.is m.n) l) (hr : l[(at_ (Ru.is m.n) l).toNat]? = some r) (hc : ¬ Mb.cmp m r.m ≤ 0) : putR l m = putFin (l.eraseIdx (at_ (Ru.is m.n) l).toNat) m := by
  unfold putR; rw [hr]; simp only [if_pos h, if_neg hc]
theorem Ru.is_iff {n : ByteArray} {r : Ru} : Ru.is n r = true ↔ r.nm = n := by
  unfold Ru.is Ru.nm
  constructor
  · intro h; exact toList_inj (by simpa using h)
  · intro h; rw [h]; simp
theorem nd_inj {α : Type} {l : List α} (h : l.Nodup) {i j : Nat} (hi : i < l.length) (hj : j < l.length) (e : l[i] = l[j]) : i = j := by
  have := List.pairwise_iff_getElem.1 h
  rcases (by omega : i < j ∨ i = j ∨ j < i) with q | q | q
  · exact absurd e (this i j hi hj q)
  · exact q
  · exact absurd e.symm (this j i hj hi q)
theorem nd_get {l : List Ru} (h : (l.map Ru.nm).Nodup) {i j : Nat} (hi : i < l.length) (hj : j < l.length) (e : l[i].nm = l[j].nm) : i = j :=
  nd_inj h (by simpa using hi) (by simpa using hj) (by simpa using e)
/-- those of other names -/
def others (n : ByteArray) (l : List Ru) : List Ru := l.filter fun r => !(Ru.is n r)
theorem others_none {n : ByteArray} {l : List Ru} (h : ∀ r ∈ l, Ru.is n r = false) : others n l = l := by
  unfold others; rw [List.filter_eq_self]; intro r hr; simp [h r hr]
theorem others_erase {n : ByteArray} : ∀ {l : List Ru} (i : Nat) (hi : i < l.length), (l.map Ru.nm).Nodup → Ru.is n l[i] = true → others n l = l.eraseIdx i
  | r :: l, 0, hi, hn, h => by
    have h : Ru.is n r = true := h
    have : ∀ x ∈ l, Ru.is n x = false := fun x hx => by
      cases q : Ru.is n x with
      | false => rfl
      | true =>
        have e1 := Ru.is_iff.1 h
        have e2 := Ru.is_iff.1 q
        rw [List.map_cons, List.nodup_cons] at hn
        exact absurd (List.mem_map.2 ⟨x, hx, e2.trans e1.symm⟩) hn.1
    have e := others_none this
    unfold others at e ⊢
    simp only [List.filter_cons, h, Bool.not_true, Bool.false_eq_true, if_false, List.eraseIdx_cons_zero]
    exact e
  | r :: l, i + 1, hi, hn, h => by
    rw [List.map_cons, List.nodup_cons] at hn
    have hi' : i < l.length := by simpa using hi
    have h : Ru.is n l[i] = true := h
    have hr : Ru.is n r = false := by
      cases q : Ru.is n r with
      | false => rfl
      | true => exact absurd (List.mem_map.2 ⟨l[i], List.getElem_mem _, (Ru.is_iff.1 h).trans (Ru.is_iff.1 q).symm⟩) hn.1
    have e := others_erase i hi' hn.2 h
    unfold others at e ⊢
    simp only [List.filter_cons, hr, Bool.not_false, if_true, List.eraseIdx_cons_succ]
    rw [e]
theorem others_take {n : ByteArray} {l : List Ru} {k : Nat} (h : k < l.length) : others n (l.take (k + 1)) = if Ru.is n l[k] = true then others n (l.take k) else others n (l.take k) ++ [l[k]] := by
  unfold others
  rw [List.take_add_one, List.getElem?_eq_getElem h, List.filter_append]
  cases q : Ru.is n l[k] <;> simp [q]
/-! ### Take -/
def tt (l : List Ru) (i : Nat) : Int := (l[i]?.map Ru.t).getD 0
theorem tt_at {l : List Ru} {i : Nat} (h : i < l.length) : tt l i = l[i].t := by simp [tt, h]
def befB (l : List Ru) (i k : Nat) : Bool := decide (tt l i < tt l k) || (tt l i == tt l k && decide (k < i))
theorem befB_iff {l : List Ru} {i k : Nat} : befB l i k = true ↔ tt l i < tt l k ∨ (tt l i = tt l k ∧ k < i) := by simp [befB]
structure Ordd (l : List Ru) (o : List Nat) : Prop where
  len : o.length = l.length
  nd : o.Nodup
  mem : ∀ i, i ∈ o ↔ i < l.length
  pw : ∀ (i j : Nat) (hi : i < o.length) (hj : j < o.length), i < j → befB l o[i] o[j] = true
/-- told once more, those of these places -/
def bumpS (l : List Ru) (s : List Nat) : List Ru := l.mapIdx fun i r => if i ∈ s then ⟨r.m, r.t + 1⟩ else r
theorem bumpS_len (l : List Ru) (s : List Nat) : (bumpS l s).length = l.length := by simp [bumpS]
theorem bumpS_nil (l : List Ru) : bumpS l [] = l := by
  apply List.ext_getElem?; intro i; simp [bumpS]
theorem bumpS_at {l : List Ru} {s : List Nat} {i : Nat} (h : i < l.length) : (bumpS l s)[i]'(by rw [bumpS_len]; exact h) = if i ∈ s then ⟨l[i].m, l[i].t + 1⟩ else l[i] := by simp [bumpS]
theorem bumpS_set {l : List Ru} {s : List Nat} {i : Nat} (h : i < l.length) : (bumpS l s).set i ⟨l[i].m, l[i].t + 1⟩ = bumpS l (s ++ [i]) := by
  apply List.ext_getElem
  · simp [bumpS]
  · intro j h1 h2
    have hj : j < l.length := by simpa [bumpS] using h1
    rw [List.getElem_set, bumpS_at hj, bumpS_at hj]
    by_cases e : i = j
    · subst e; simp
    · have e' : ¬ j = i := fun q => e q.symm
      simp [e, e']
def toldL (l : List Ru) (s : List Nat) : List Mb := s.filterMap fun i => l[i]?.map Ru.m
theorem toldL_snoc {l : List Ru} {s : List Nat} {i : Nat} (h : i < l.length) : toldL l (s ++ [i]) = toldL l s ++ [l[i].m] := by simp [toldL, List.filterMap_append, h]
def restL (l : List Ru) (times : Int) : List Ru := l.filter fun r => decide (r.t < times)
def takeR (l : List Ru) (o : List Nat) (most times : Int) : List Mb × List Ru :=
  (toldL l (o.take (min most.toNat l.length)), restL (bumpS l (o.take (min most.toNat l.length))) times)
/-- what is told first: the first of the order that was not yet taken -/
theorem first_of {l : List Ru} {o : List Nat} (h : Ordd l o) {k b : Nat} (hk : k < o.length) (hb : b < l.length) (hn : b ∉ o.take k)
    (hall : ∀ j, j < l.length → j ∉ o.take k → j = b ∨ befB l b j = true) : b = o[k] := by
  obtain ⟨m, hm, rfl⟩ := List.mem_iff_getElem.1 ((h.mem b).2 hb)
  have hmk : k ≤ m := Classical.byContradiction fun q => hn (by
    rw [List.mem_iff_getElem]
    exact ⟨m, by simp; omega, by simp⟩)
  have hok : o[k] < l.length := (h.mem _).1 (List.getElem_mem hk)
  have hnk : o[k] ∉ o.take k := fun q => by
    obtain ⟨j, hj, e⟩ := List.mem_iff_getElem.1 q
    simp only [List.getElem_take] at e
    have hj' : j < k := by simp at hj; omega
    have := nd_inj h.nd (by omega) hk e
    omega
  rcases hall _ hok hnk with e | e
  · exact e.symm
  · rcases (by omega : k = m ∨ k < m) with q | q
    · subst q; rfl
    · have := h.pw k m hk hm q
      rw [befB_iff] at e this
      omega
theorem take_snoc {o : List Nat} {k : Nat} (h : k < o.length) : o.take (k + 1) = o.take k ++ [o[k]] := by
  rw [List.take_add_one, List.getElem?_eq_getElem h]; rfl
theorem not_took {o : List Nat} (hn : o.Nodup) {k : Nat} (hk : k < o.length) : o[k] ∉ o.take k := fun q => by
  obtain ⟨j, hj, e⟩ := List.mem_iff_getElem.1 q
  simp only [List.getElem_take] at e
  have hj' : j < k := by simp at hj; omega
  have := nd_inj hn (by omega) hk e
  omega
/-- thrice the bits of a number -/
def timesL (n : Int) : Int := if n < 1 then 0 else if n < 2 then 3 else if n < 4 then 6 else if n < 8 then 9 else if n < 16 then 12 else 15
end Go.Proofs.Ytjhdlcmecbngkaa.Pl
/- Contracts of the functions of members: one by itself, two of one name. -/
namespace Go.Proofs.Ytjhdlcmecbngkaa
open Go.RowKit Pl
set_option linter.unusedVariables false
theorem mwithin_fun (n a b : Int) : Fun Try.prog 78 [.c (.v (.int .i64 n)), .c (.v (.int .i64 a)), .c (.v (.int .i64 b))] [.c (.v (.bool (wi n a b)))] := by
  refine fun_x ck_member_within rfl ?_
  ((conv => whnf); repeat' ((first | refine ⟨rfl, ?_⟩ | refine ⟨_, row_map (by assumption), ?_⟩ | refine ⟨_, (by exact some_rfl), ?_⟩ | refine ⟨_, wrap_ok (by omega) (by omega), ?_⟩ | refine ⟨_, wrap_u64 (by omega) (by omega), ?_⟩ | refine ⟨by decide, _, fdiv_half (by omega), ?_⟩ | (intro gg)); (conv => whnf)))
  (refine bIf_of (fun h => ?_) (fun h => ?_) <;> rw [h])
  · ((conv => whnf); repeat' ((first | refine ⟨rfl, ?_⟩ | refine ⟨_, row_map (by assumption), ?_⟩ | refine ⟨_, (by exact some_rfl), ?_⟩ | refine ⟨_, wrap_ok (by omega) (by omega), ?_⟩ | refine ⟨_, wrap_u64 (by omega) (by omega), ?_⟩ | refine ⟨by decide, _, fdiv_half (by omega), ?_⟩ | (intro gg)); (conv => whnf)))
    rw [wi_t h]
    (exact ⟨[], by (repeat' (first | exact ArgsOk.nil _ | exact argsOk_cells (by assumption) | refine ArgsOk.same (by first | exact cl_b rfl | exact cl_list | exact cl_nil | exact cl_one | exact cl_ll1 | exact cl_ll2 | exact cl_clo (by assumption)) ?_ | refine ArgsOk.nilsl _ ?_ | refine ArgsOk.nilown _ _ (by decide) ?_ | refine ArgsOk.borp rfl rfl rfl (cl_row rfl) (by decide) ?_ | refine ArgsOk.borc (by %caps) ?_ | refine ArgsOk.bor rfl rfl (deref_flat (by first | exact cl_rs rfl | exact cl_rows | exact cl_setB rfl | exact cl_setG (cl_setB rfl) rfl | exact cl_appB cl_rows (cl_rs rfl) | exact cl_rl1 | exact cl_rl2)) (by decide) ?_ | refine give' rfl (by first | exact cl_rs rfl | exact cl_rows | exact cl_setB rfl | exact cl_setG (cl_setB rfl) rfl | exact cl_appB cl_rows (cl_rs rfl) | exact cl_rl1 | exact cl_rl2) (by decide) (by decide) ?_))⟩)
  · ((conv => whnf); repeat' ((first | refine ⟨rfl, ?_⟩ | refine ⟨_, row_map (by assumption), ?_⟩ | refine ⟨_, (by exact some_rfl), ?_⟩ | refine ⟨_, wrap_ok (by omega) (by omega), ?_⟩ | refine ⟨_, wrap_u64 (by omega) (by omega), ?_⟩ | refine ⟨by decide, _, fdiv_half (by omega), ?_⟩ | (intro gg)); (conv => whnf)))
    rw [wi_f h]
    (exact ⟨[], by (repeat' (first | exact ArgsOk.nil _ | exact argsOk_cells (by assumption) | refine ArgsOk.same (by first | exact cl_b rfl | exact cl_list | exact cl_nil | exact cl_one | exact cl_ll1 | exact cl_ll2 | exact cl_clo (by assumption)) ?_ | refine ArgsOk.nilsl _ ?_ | refine ArgsOk.nilown _ _ (by decide) ?_ | refine ArgsOk.borp rfl rfl rfl (cl_row rfl) (by decide) ?_ | refine ArgsOk.borc (by %caps) ?_ | refine ArgsOk.bor rfl rfl (deref_flat (by first | exact cl_rs rfl | exact cl_rows | exact cl_setB rfl | exact cl_setG (cl_setB rfl) rfl | exact cl_appB cl_rows (cl_rs rfl) | exact cl_rl1 | exact cl_rl2)) (by decide) ?_ | refine give' rfl (by first | exact cl_rs rfl | exact cl_rows | exact cl_setB rfl | exact cl_setG (cl_setB rfl) rfl | exact cl_appB cl_rows (cl_rs rfl) | exact cl_rl1 | exact cl_rl2) (by decide) (by decide) ?_))⟩)
theorem mone_fun (m : Mb) (hm : m.ok) : Fun Try.prog 63 [.c (.agg m.row)] [.c (.v (.int .i64 m.err))] := by
  refine fun_x ck_member_one rfl ?_
  ((conv => whnf); repeat' ((first | refine ⟨rfl, ?_⟩ | refine ⟨_, row_map (by assumption), ?_⟩ | refine ⟨_, (by exact some_rfl), ?_⟩ | refine ⟨_, wrap_ok (by omega) (by omega), ?_⟩ | refine ⟨_, wrap_u64 (by omega) (by omega), ?_⟩ | refine ⟨by decide, _, fdiv_half (by omega), ?_⟩ | (intro gg)); (conv => whnf)))
  (refine .inl ⟨_, _, false, [], (by (repeat' (first | exact ArgsOk.nil _ | exact argsOk_cells (by assumption) | refine ArgsOk.same (by first | exact cl_b rfl | exact cl_list | exact cl_nil | exact cl_one | exact cl_ll1 | exact cl_ll2 | exact cl_clo (by assumption)) ?_ | refine ArgsOk.nilsl _ ?_ | refine ArgsOk.nilown _ _ (by decide) ?_ | refine ArgsOk.borp rfl rfl rfl (cl_row rfl) (by decide) ?_ | refine ArgsOk.borc (by (repeat' (first | exact cap_n | refine cap_p rfl rfl rfl (by first | exact cl_row rfl | exact cl_r1 rfl | exact cl_r1b) ?_ ?_ | refine cap_m rfl (by decide) ?_ | refine cap_c (by first | exact cl_b rfl | exact cl_list | exact cl_nil | exact cl_one | exact cl_ll1 | exact cl_ll2 | exact cl_clo (by assumption)) ?_ | decide))) ?_ | refine ArgsOk.bor rfl rfl (deref_flat (by first | exact cl_rs rfl | exact cl_rows | exact cl_setB rfl | exact cl_setG (cl_setB rfl) rfl | exact cl_appB cl_rows (cl_rs rfl) | exact cl_rl1 | exact cl_rl2)) (by decide) ?_ | refine give' rfl (by first | exact cl_rs rfl | exact cl_rows | exact cl_setB rfl | exact cl_setG (cl_setB rfl) rfl | exact cl_appB cl_rows (cl_rs rfl) | exact cl_rl1 | exact cl_rl2) (by decide) (by decide) ?_))), label_fun _ hm, nobor, (by exact Nat.le_of_ble_eq_true rfl), ?_⟩)
  ((conv => whnf); repeat' ((first | refine ⟨rfl, ?_⟩ | refine ⟨_, row_map (by assumption), ?_⟩ | refine ⟨_, (by exact some_rfl), ?_⟩ | refine ⟨_, wrap_ok (by omega) (by omega), ?_⟩ | refine ⟨_, wrap_u64 (by omega) (by omega), ?_⟩ | refine ⟨by decide, _, fdiv_half (by omega), ?_⟩ | (intro gg)); (conv => whnf)))
  (refine bIf_of (fun h1 => ?_) (fun h1 => ?_) <;> rw [h1])
  · ((conv => whnf); repeat' ((first | refine ⟨rfl, ?_⟩ | refine ⟨_, row_map (by assumption), ?_⟩ | refine ⟨_, (by exact some_rfl), ?_⟩ | refine ⟨_, wrap_ok (by omega) (by omega), ?_⟩ | refine ⟨_, wrap_u64 (by omega) (by omega), ?_⟩ | refine ⟨by decide, _, fdiv_half (by omega), ?_⟩ | (intro gg)); (conv => whnf)))
    (rw [show m.err = 1 from by (first | (simp_all ; done) | (unfold Mb.err; simp_all))]; (exact ⟨[], by (repeat' (first | exact ArgsOk.nil _ | exact argsOk_cells (by assumption) | refine ArgsOk.same (by first | exact cl_b rfl | exact cl_list | exact cl_nil | exact cl_one | exact cl_ll1 | exact cl_ll2 | exact cl_clo (by assumption)) ?_ | refine ArgsOk.nilsl _ ?_ | refine ArgsOk.nilown _ _ (by decide) ?_ | refine ArgsOk.borp rfl rfl rfl (cl_row rfl) (by decide) ?_ | refine ArgsOk.borc (by %caps) ?_ | refine ArgsOk.bor rfl rfl (deref_flat (by first | exact cl_rs rfl | exact cl_rows | exact cl_setB rfl | exact cl_setG (cl_setB rfl) rfl | exact cl_appB cl_rows (cl_rs rfl) | exact cl_rl1 | exact cl_rl2)) (by decide) ?_ | refine give' rfl (by first | exact cl_rs rfl | exact cl_rows | exact cl_setB rfl | exact cl_setG (cl_setB rfl) rfl | exact cl_appB cl_rows (cl_rs rfl) | exact cl_rl1 | exact cl_rl2) (by decide) (by decide) ?_))⟩))
  · ((conv => whnf); repeat' ((first | refine ⟨rfl, ?_⟩ | refine ⟨_, row_map (by assumption), ?_⟩ | refine ⟨_, (by exact some_rfl), ?_⟩ | refine ⟨_, wrap_ok (by omega) (by omega), ?_⟩ | refine ⟨_, wrap_u64 (by omega) (by omega), ?_⟩ | refine ⟨by decide, _, fdiv_half (by omega), ?_⟩ | (intro gg)); (conv => whnf)))
    (refine .inl ⟨_, _, false, [], (by (repeat' (first | exact ArgsOk.nil _ | exact argsOk_cells (by assumption) | refine ArgsOk.same (by first | exact cl_b rfl | exact cl_list | exact cl_nil | exact cl_one | exact cl_ll1 | exact cl_ll2 | exact cl_clo (by assumption)) ?_ | refine ArgsOk.nilsl _ ?_ | refine ArgsOk.nilown _ _ (by decide) ?_ | refine ArgsOk.borp rfl rfl rfl (cl_row rfl) (by decide) ?_ | refine ArgsOk.borc (by (repeat' (first | exact cap_n | refine cap_p rfl rfl rfl (by first | exact cl_row rfl | exact cl_r1 rfl | exact cl_r1b) ?_ ?_ | refine cap_m rfl (by decide) ?_ | refine cap_c (by first | exact cl_b rfl | exact cl_list | exact cl_nil | exact cl_one | exact cl_ll1 | exact cl_ll2 | exact cl_clo (by assumption)) ?_ | decide))) ?_ | refine ArgsOk.bor rfl rfl (deref_flat (by first | exact cl_rs rfl | exact cl_rows | exact cl_setB rfl | exact cl_setG (cl_setB rfl) rfl | exact cl_appB cl_rows (cl_rs rfl) | exact cl_rl1 | exact cl_rl2)) (by decide) ?_ | refine give' rfl (by first | exact cl_rs rfl | exact cl_rows | exact cl_setB rfl | exact cl_setG (cl_setB rfl) rfl | exact cl_appB cl_rows (cl_rs rfl) | exact cl_rl1 | exact cl_rl2) (by decide) (by decide) ?_))), mwithin_fun _ _ _, nobor, (by exact Nat.le_of_ble_eq_true rfl), ?_⟩)
    ((conv => whnf); repeat' ((first | refine ⟨rfl, ?_⟩ | refine ⟨_, row_map (by assumption), ?_⟩ | refine ⟨_, (by exact some_rfl), ?_⟩ | refine ⟨_, wrap_ok (by omega) (by omega), ?_⟩ | refine ⟨_, wrap_u64 (by omega) (by omega), ?_⟩ | refine ⟨by decide, _, fdiv_half (by omega), ?_⟩ | (intro gg)); (conv => whnf)))
    (refine bIf_of (fun h2 => ?_) (fun h2 => ?_) <;> rw [h2])
    · ((conv => whnf); repeat' ((first | refine ⟨rfl, ?_⟩ | refine ⟨_, row_map (by assumption), ?_⟩ | refine ⟨_, (by exact some_rfl), ?_⟩ | refine ⟨_, wrap_ok (by omega) (by omega), ?_⟩ | refine ⟨_, wrap_u64 (by omega) (by omega), ?_⟩ | refine ⟨by decide, _, fdiv_half (by omega), ?_⟩ | (intro gg)); (conv => whnf)))
      (rw [show m.err = 7 from by (first | (simp_all ; done) | (unfold Mb.err; simp_all))]; (exact ⟨[], by (repeat' (first | exact ArgsOk.nil _ | exact argsOk_cells (by assumption) | refine ArgsOk.same (by first | exact cl_b rfl | exact cl_list | exact cl_nil | exact cl_one | exact cl_ll1 | exact cl_ll2 | exact cl_clo (by assumption)) ?_ | refine ArgsOk.nilsl _ ?_ | refine ArgsOk.nilown _ _ (by decide) ?_ | refine ArgsOk.borp rfl rfl rfl (cl_row rfl) (by decide) ?_ | refine ArgsOk.borc (by %caps) ?_ | refine ArgsOk.bor rfl rfl (deref_flat (by first | exact cl_rs rfl | exact cl_rows | exact cl_setB rfl | exact cl_setG (cl_setB rfl) rfl | exact cl_appB cl_rows (cl_rs rfl) | exact cl_rl1 | exact cl_rl2)) (by decide) ?_ | refine give' rfl (by first | exact cl_rs rfl | exact cl_rows | exact cl_setB rfl | exact cl_setG (cl_setB rfl) rfl | exact cl_appB cl_rows (cl_rs rfl) | exact cl_rl1 | exact cl_rl2) (by decide) (by decide) ?_))⟩))
    · ((conv => whnf); repeat' ((first | refine ⟨rfl, ?_⟩ | refine ⟨_, row_map (by assumption), ?_⟩ | refine ⟨_, (by exact some_rfl), ?_⟩ | refine ⟨_, wrap_ok (by omega) (by omega), ?_⟩ | refine ⟨_, wrap_u64 (by omega) (by omega), ?_⟩ | refine ⟨by decide, _, fdiv_half (by omega), ?_⟩ | (intro gg)); (conv => whnf)))
      (refine .inl ⟨_, _, false, [], (by (repeat' (first | exact ArgsOk.nil _ | exact argsOk_cells (by assumption) | refine ArgsOk.same (by first | exact cl_b rfl | exact cl_list | exact cl_nil | exact cl_one | exact cl_ll1 | exact cl_ll2 | exact cl_clo (by assumption)) ?_ | refine ArgsOk.nilsl _ ?_ | refine ArgsOk.nilown _ _ (by decide) ?_ | refine ArgsOk.borp rfl rfl rfl (cl_row rfl) (by decide) ?_ | refine ArgsOk.borc (by (repeat' (first | exact cap_n | refine cap_p rfl rfl rfl (by first | exact cl_row rfl | exact cl_r1 rfl | exact cl_r1b) ?_ ?_ | refine cap_m rfl (by decide) ?_ | refine cap_c (by first | exact cl_b rfl | exact cl_list | exact cl_nil | exact cl_one | exact cl_ll1 | exact cl_ll2 | exact cl_clo (by assumption)) ?_ | decide))) ?_ | refine ArgsOk.bor rfl rfl (deref_flat (by first | exact cl_rs rfl | exact cl_rows | exact cl_setB rfl | exact cl_setG (cl_setB rfl) rfl | exact cl_appB cl_rows (cl_rs rfl) | exact cl_rl1 | exact cl_rl2)) (by decide) ?_ | refine give' rfl (by first | exact cl_rs rfl | exact cl_rows | exact cl_setB rfl | exact cl_setG (cl_setB rfl) rfl | exact cl_appB cl_rows (cl_rs rfl) | exact cl_rl1 | exact cl_rl2) (by decide) (by decide) ?_))), mwithin_fun _ _ _, nobor, (by exact Nat.le_of_ble_eq_true rfl), ?_⟩)
      ((conv => whnf); repeat' ((first | refine ⟨rfl, ?_⟩ | refine ⟨_, row_map (by assumption), ?_⟩ | refine ⟨_, (by exact some_rfl), ?_⟩ | refine ⟨_, wrap_ok (by omega) (by omega), ?_⟩ | refine ⟨_, wrap_u64 (by omega) (by omega), ?_⟩ | refine ⟨by decide, _, fdiv_half (by omega), ?_⟩ | (intro gg)); (conv => whnf)))
      (refine bIf_of (fun h3 => ?_) (fun h3 => ?_) <;> rw [h3])
      · ((conv => whnf); repeat' ((first | refine ⟨rfl, ?_⟩ | refine ⟨_, row_map (by assumption), ?_⟩ | refine ⟨_, (by exact some_rfl), ?_⟩ | refine ⟨_, wrap_ok (by omega) (by omega), ?_⟩ | refine ⟨_, wrap_u64 (by omega) (by omega), ?_⟩ | refine ⟨by decide, _, fdiv_half (by omega), ?_⟩ | (intro gg)); (conv => whnf)))
        (rw [show m.err = 3 from by (first | (simp_all ; done) | (unfold Mb.err; simp_all))]; (exact ⟨[], by (repeat' (first | exact ArgsOk.nil _ | exact argsOk_cells (by assumption) | refine ArgsOk.same (by first | exact cl_b rfl | exact cl_list | exact cl_nil | exact cl_one | exact cl_ll1 | exact cl_ll2 | exact cl_clo (by assumption)) ?_ | refine ArgsOk.nilsl _ ?_ | refine ArgsOk.nilown _ _ (by decide) ?_ | refine ArgsOk.borp rfl rfl rfl (cl_row rfl) (by decide) ?_ | refine ArgsOk.borc (by %caps) ?_ | refine ArgsOk.bor rfl rfl (deref_flat (by first | exact cl_rs rfl | exact cl_rows | exact cl_setB rfl | exact cl_setG (cl_setB rfl) rfl | exact cl_appB cl_rows (cl_rs rfl) | exact cl_rl1 | exact cl_rl2)) (by decide) ?_ | refine give' rfl (by first | exact cl_rs rfl | exact cl_rows | exact cl_setB rfl | exact cl_setG (cl_setB rfl) rfl | exact cl_appB cl_rows (cl_rs rfl) | exact cl_rl1 | exact cl_rl2) (by decide) (by decide) ?_))⟩))
      · ((conv => whnf); repeat' ((first | refine ⟨rfl, ?_⟩ | refine ⟨_, row_map (by assumption), ?_⟩ | refine ⟨_, (by exact some_rfl), ?_⟩ | refine ⟨_, wrap_ok (by omega) (by omega), ?_⟩ | refine ⟨_, wrap_u64 (by omega) (by omega), ?_⟩ | refine ⟨by decide, _, fdiv_half (by omega), ?_⟩ | (intro gg)); (conv => whnf)))
        (refine .inl ⟨_, _, false, [], (by (repeat' (first | exact ArgsOk.nil _ | exact argsOk_cells (by assumption) | refine ArgsOk.same (by first | exact cl_b rfl | exact cl_list | exact cl_nil | exact cl_one | exact cl_ll1 | exact cl_ll2 | exact cl_clo (by assumption)) ?_ | refine ArgsOk.nilsl _ ?_ | refine ArgsOk.nilown _ _ (by decide) ?_ | refine ArgsOk.borp rfl rfl rfl (cl_row rfl) (by decide) ?_ | refine ArgsOk.borc (by (repeat' (first | exact cap_n | refine cap_p rfl rfl rfl (by first | exact cl_row rfl | exact cl_r1 rfl | exact cl_r1b) ?_ ?_ | refine cap_m rfl (by decide) ?_ | refine cap_c (by first | exact cl_b rfl | exact cl_list | exact cl_nil | exact cl_one | exact cl_ll1 | exact cl_ll2 | exact cl_clo (by assumption)) ?_ | decide))) ?_ | refine ArgsOk.bor rfl rfl (deref_flat (by first | exact cl_rs rfl | exact cl_rows | exact cl_setB rfl | exact cl_setG (cl_setB rfl) rfl | exact cl_appB cl_rows (cl_rs rfl) | exact cl_rl1 | exact cl_rl2)) (by decide) ?_ | refine give' rfl (by first | exact cl_rs rfl | exact cl_rows | exact cl_setB rfl | exact cl_setG (cl_setB rfl) rfl | exact cl_appB cl_rows (cl_rs rfl) | exact cl_rl1 | exact cl_rl2) (by decide) (by decide) ?_))), mwithin_fun _ _ _, nobor, (by exact Nat.le_of_ble_eq_true rfl), ?_⟩)
        ((conv => whnf); repeat' ((first | refine ⟨rfl, ?_⟩ | refine ⟨_, row_map (by assumption), ?_⟩ | refine ⟨_, (by exact some_rfl), ?_⟩ | refine ⟨_, wrap_ok (by omega) (by omega), ?_⟩ | refine ⟨_, wrap_u64 (by omega) (by omega), ?_⟩ | refine ⟨by decide, _, fdiv_half (by omega), ?_⟩ | (intro gg)); (conv => whnf)))
        (refine bIf_of (fun h4 => ?_) (fun h4 => ?_) <;> rw [h4])
        · ((conv => whnf); repeat' ((first | refine ⟨rfl, ?_⟩ | refine ⟨_, row_map (by assumption), ?_⟩ | refine ⟨_, (by exact some_rfl), ?_⟩ | refine ⟨_, wrap_ok (by omega) (by omega), ?_⟩ | refine ⟨_, wrap_u64 (by omega) (by omega), ?_⟩ | refine ⟨by decide, _, fdiv_half (by omega), ?_⟩ | (intro gg)); (conv => whnf)))
          (rw [show m.err = 3 from by (first | (simp_all ; done) | (unfold Mb.err; simp_all))]; (exact ⟨[], by (repeat' (first | exact ArgsOk.nil _ | exact argsOk_cells (by assumption) | refine ArgsOk.same (by first | exact cl_b rfl | exact cl_list | exact cl_nil | exact cl_one | exact cl_ll1 | exact cl_ll2 | exact cl_clo (by assumption)) ?_ | refine ArgsOk.nilsl _ ?_ | refine ArgsOk.nilown _ _ (by decide) ?_ | refine ArgsOk.borp rfl rfl rfl (cl_row rfl) (by decide) ?_ | refine ArgsOk.borc (by %caps) ?_ | refine ArgsOk.bor rfl rfl (deref_flat (by first | exact cl_rs rfl | exact cl_rows | exact cl_setB rfl | exact cl_setG (cl_setB rfl) rfl | exact cl_appB cl_rows (cl_rs rfl) | exact cl_rl1 | exact cl_rl2)) (by decide) ?_ | refine give' rfl (by first | exact cl_rs rfl | exact cl_rows | exact cl_setB rfl | exact cl_setG (cl_setB rfl) rfl | exact cl_appB cl_rows (cl_rs rfl) | exact cl_rl1 | exact cl_rl2) (by decide) (by decide) ?_))⟩))
        · ((conv => whnf); repeat' ((first | refine ⟨rfl, ?_⟩ | refine ⟨_, row_map (by assumption), ?_⟩ | refine ⟨_, (by exact some_rfl), ?_⟩ | refine ⟨_, wrap_ok (by omega) (by omega), ?_⟩ | refine ⟨_, wrap_u64 (by omega) (by omega), ?_⟩ | refine ⟨by decide, _, fdiv_half (by omega), ?_⟩ | (intro gg)); (conv => whnf)))
          (rw [show m.err = 0 from by (first | (simp_all ; done) | (unfold Mb.err; simp_all))]; (exact ⟨[], by (repeat' (first | exact ArgsOk.nil _ | exact argsOk_cells (by assumption) | refine ArgsOk.same (by first | exact cl_b rfl | exact cl_list | exact cl_nil | exact cl_one | exact cl_ll1 | exact cl_ll2 | exact cl_clo (by assumption)) ?_ | refine ArgsOk.nilsl _ ?_ | refine ArgsOk.nilown _ _ (by decide) ?_ | refine ArgsOk.borp rfl rfl rfl (cl_row rfl) (by decide) ?_ | refine ArgsOk.borc (by %caps) ?_ | refine ArgsOk.bor rfl rfl (deref_flat (by first | exact cl_rs rfl | exact cl_rows | exact cl_setB rfl | exact cl_setG (cl_setB rfl) rfl | exact cl_appB cl_rows (cl_rs rfl) | exact cl_rl1 | exact cl_rl2)) (by decide) ?_ | refine give' rfl (by first | exact cl_rs rfl | exact cl_rows | exact cl_setB rfl | exact cl_setG (cl_setB rfl) rfl | exact cl_appB cl_rows (cl_rs rfl) | exact cl_rl1 | exact cl_rl2) (by decide) (by decide) ?_))⟩))
theorem rone_fun (m : Mb) (hm : m.ok) : Fun Try.prog 15 [.c (.agg m.row)] [.c (.v (.int .i64 m.err))] := by
  refine fun_x ck_hearsayref_OneMember rfl ?_
  ((conv => whnf); repeat' ((first | refine ⟨rfl, ?_⟩ | refine ⟨_, row_map (by assumption), ?_⟩ | refine ⟨_, (by exact some_rfl), ?_⟩ | refine ⟨_, wrap_ok (by omega) (by omega), ?_⟩ | refine ⟨_, wrap_u64 (by omega) (by omega), ?_⟩ | refine ⟨by decide, _, fdiv_half (by omega), ?_⟩ | (intro gg)); (conv => whnf)))
  (refine .inl ⟨_, _, false, [], (by (repeat' (first | exact ArgsOk.nil _ | exact argsOk_cells (by assumption) | refine ArgsOk.same (by first | exact cl_b rfl | exact cl_list | exact cl_nil | exact cl_one | exact cl_ll1 | exact cl_ll2 | exact cl_clo (by assumption)) ?_ | refine ArgsOk.nilsl _ ?_ | refine ArgsOk.nilown _ _ (by decide) ?_ | refine ArgsOk.borp rfl rfl rfl (cl_row rfl) (by decide) ?_ | refine ArgsOk.borc (by (repeat' (first | exact cap_n | refine cap_p rfl rfl rfl (by first | exact cl_row rfl | exact cl_r1 rfl | exact cl_r1b) ?_ ?_ | refine cap_m rfl (by decide) ?_ | refine cap_c (by first | exact cl_b rfl | exact cl_list | exact cl_nil | exact cl_one | exact cl_ll1 | exact cl_ll2 | exact cl_clo (by assumption)) ?_ | decide))) ?_ | refine ArgsOk.bor rfl rfl (deref_flat (by first | exact cl_rs rfl | exact cl_rows | exact cl_setB rfl | exact cl_setG (cl_setB rfl) rfl | exact cl_appB cl_rows (cl_rs rfl) | exact cl_rl1 | exact cl_rl2)) (by decide) ?_ | refine give' rfl (by first | exact cl_rs rfl | exact cl_rows | exact cl_setB rfl | exact cl_setG (cl_setB rfl) rfl | exact cl_appB cl_rows (cl_rs rfl) | exact cl_rl1 | exact cl_rl2) (by decide) (by decide) ?_))), rlabel_fun _ hm, nobor, (by exact Nat.le_of_ble_eq_true rfl), ?_⟩)
  ((conv => whnf); repeat' ((first | refine ⟨rfl, ?_⟩ | refine ⟨_, row_map (by assumption), ?_⟩ | refine ⟨_, (by exact some_rfl), ?_⟩ | refine ⟨_, wrap_ok (by omega) (by omega), ?_⟩ | refine ⟨_, wrap_u64 (by omega) (by omega), ?_⟩ | refine ⟨by decide, _, fdiv_half (by omega), ?_⟩ | (intro gg)); (conv => whnf)))
  (refine bIf_of (fun h1 => ?_) (fun h1 => ?_) <;> rw [h1])
  · ((conv => whnf); repeat' ((first | refine ⟨rfl, ?_⟩ | refine ⟨_, row_map (by assumption), ?_⟩ | refine ⟨_, (by exact some_rfl), ?_⟩ | refine ⟨_, wrap_ok (by omega) (by omega), ?_⟩ | refine ⟨_, wrap_u64 (by omega) (by omega), ?_⟩ | refine ⟨by decide, _, fdiv_half (by omega), ?_⟩ | (intro gg)); (conv => whnf)))
    (rw [show m.err = 1 from by (first | (simp_all ; done) | (unfold Mb.err; simp_all))]; (exact ⟨[], by (repeat' (first | exact ArgsOk.nil _ | exact argsOk_cells (by assumption) | refine ArgsOk.same (by first | exact cl_b rfl | exact cl_list | exact cl_nil | exact cl_one | exact cl_ll1 | exact cl_ll2 | exact cl_clo (by assumption)) ?_ | refine ArgsOk.nilsl _ ?_ | refine ArgsOk.nilown _ _ (by decide) ?_ | refine ArgsOk.borp rfl rfl rfl (cl_row rfl) (by decide) ?_ | refine ArgsOk.borc (by %caps) ?_ | refine ArgsOk.bor rfl rfl (deref_flat (by first | exact cl_rs rfl | exact cl_rows | exact cl_setB rfl | exact cl_setG (cl_setB rfl) rfl | exact cl_appB cl_rows (cl_rs rfl) | exact cl_rl1 | exact cl_rl2)) (by decide) ?_ | refine give' rfl (by first | exact cl_rs rfl | exact cl_rows | exact cl_setB rfl | exact cl_setG (cl_setB rfl) rfl | exact cl_appB cl_rows (cl_rs rfl) | exact cl_rl1 | exact cl_rl2) (by decide) (by decide) ?_))⟩))
  · ((conv => whnf); repeat' ((first | refine ⟨rfl, ?_⟩ | refine ⟨_, row_map (by assumption), ?_⟩ | refine ⟨_, (by exact some_rfl), ?_⟩ | refine ⟨_, wrap_ok (by omega) (by omega), ?_⟩ | refine ⟨_, wrap_u64 (by omega) (by omega), ?_⟩ | refine ⟨by decide, _, fdiv_half (by omega), ?_⟩ | (intro gg)); (conv => whnf)))
    (refine .inl ⟨_, _, false, [], (by (repeat' (first | exact ArgsOk.nil _ | exact argsOk_cells (by assumption) | refine ArgsOk.same (by first | exact cl_b rfl | exact cl_list | exact cl_nil | exact cl_one | exact cl_ll1 | exact cl_ll2 | exact cl_clo (by assumption)) ?_ | refine ArgsOk.nilsl _ ?_ | refine ArgsOk.nilown _ _ (by decide) ?_ | refine ArgsOk.borp rfl rfl rfl (cl_row rfl) (by decide) ?_ | refine ArgsOk.borc (by (repeat' (first | exact cap_n | refine cap_p rfl rfl rfl (by first | exact cl_row rfl | exact cl_r1 rfl | exact cl_r1b) ?_ ?_ | refine cap_m rfl (by decide) ?_ | refine cap_c (by first | exact cl_b rfl | exact cl_list | exact cl_nil | exact cl_one | exact cl_ll1 | exact cl_ll2 | exact cl_clo (by assumption)) ?_ | decide))) ?_ | refine ArgsOk.bor rfl rfl (deref_flat (by first | exact cl_rs rfl | exact cl_rows | exact cl_setB rfl | exact cl_setG (cl_setB rfl) rfl | exact cl_appB cl_rows (cl_rs rfl) | exact cl_rl1 | exact cl_rl2)) (by decide) ?_ | refine give' rfl (by first | exact cl_rs rfl | exact cl_rows | exact cl_setB rfl | exact cl_setG (cl_setB rfl) rfl | exact cl_appB cl_rows (cl_rs rfl) | exact cl_rl1 | exact cl_rl2) (by decide) (by decide) ?_))), between_fun _ _ _, nobor, (by exact Nat.le_of_ble_eq_true rfl), ?_⟩)
    ((conv => whnf); repeat' ((first | refine ⟨rfl, ?_⟩ | refine ⟨_, row_map (by assumption), ?_⟩ | refine ⟨_, (by exact some_rfl), ?_⟩ | refine ⟨_, wrap_ok (by omega) (by omega), ?_⟩ | refine ⟨_, wrap_u64 (by omega) (by omega), ?_⟩ | refine ⟨by decide, _, fdiv_half (by omega), ?_⟩ | (intro gg)); (conv => whnf)))
    (refine bIf_of (fun h2 => ?_) (fun h2 => ?_) <;> rw [h2])
    · ((conv => whnf); repeat' ((first | refine ⟨rfl, ?_⟩ | refine ⟨_, row_map (by assumption), ?_⟩ | refine ⟨_, (by exact some_rfl), ?_⟩ | refine ⟨_, wrap_ok (by omega) (by omega), ?_⟩ | refine ⟨_, wrap_u64 (by omega) (by omega), ?_⟩ | refine ⟨by decide, _, fdiv_half (by omega), ?_⟩ | (intro gg)); (conv => whnf)))
      (rw [show m.err = 7 from by (first | (simp_all ; done) | (unfold Mb.err; simp_all))]; (exact ⟨[], by (repeat' (first | exact ArgsOk.nil _ | exact argsOk_cells (by assumption) | refine ArgsOk.same (by first | exact cl_b rfl | exact cl_list | exact cl_nil | exact cl_one | exact cl_ll1 | exact cl_ll2 | exact cl_clo (by assumption)) ?_ | refine ArgsOk.nilsl _ ?_ | refine ArgsOk.nilown _ _ (by decide) ?_ | refine ArgsOk.borp rfl rfl rfl (cl_row rfl) (by decide) ?_ | refine ArgsOk.borc (by %caps) ?_ | refine ArgsOk.bor rfl rfl (deref_flat (by first | exact cl_rs rfl | exact cl_rows | exact cl_setB rfl | exact cl_setG (cl_setB rfl) rfl | exact cl_appB cl_rows (cl_rs rfl) | exact cl_rl1 | exact cl_rl2)) (by decide) ?_ | refine give' rfl (by first | exact cl_rs rfl | exact cl_rows | exact cl_setB rfl | exact cl_setG (cl_setB rfl) rfl | exact cl_appB cl_rows (cl_rs rfl) | exact cl_rl1 | exact cl_rl2) (by decide) (by decide) ?_))⟩))
    · ((conv => whnf); repeat' ((first | refine ⟨rfl, ?_⟩ | refine ⟨_, row_map (by assumption), ?_⟩ | refine ⟨_, (by exact some_rfl), ?_⟩ | refine ⟨_, wrap_ok (by omega) (by omega), ?_⟩ | refine ⟨_, wrap_u64 (by omega) (by omega), ?_⟩ | refine ⟨by decide, _, fdiv_half (by omega), ?_⟩ | (intro gg)); (conv => whnf)))
      (refine .inl ⟨_, _, false, [], (by (repeat' (first | exact ArgsOk.nil _ | exact argsOk_cells (by assumption) | refine ArgsOk.same (by first | exact cl_b rfl | exact cl_list | exact cl_nil | exact cl_one | exact cl_ll1 | exact cl_ll2 | exact cl_clo (by assumption)) ?_ | refine ArgsOk.nilsl _ ?_ | refine ArgsOk.nilown _ _ (by decide) ?_ | refine ArgsOk.borp rfl rfl rfl (cl_row rfl) (by decide) ?_ | refine ArgsOk.borc (by (repeat' (first | exact cap_n | refine cap_p rfl rfl rfl (by first | exact cl_row rfl | exact cl_r1 rfl | exact cl_r1b) ?_ ?_ | refine cap_m rfl (by decide) ?_ | refine cap_c (by first | exact cl_b rfl | exact cl_list | exact cl_nil | exact cl_one | exact cl_ll1 | exact cl_ll2 | exact cl_clo (by assumption)) ?_ | decide))) ?_ | refine ArgsOk.bor rfl rfl (deref_flat (by first | exact cl_rs rfl | exact cl_rows | exact cl_setB rfl | exact cl_setG (cl_setB rfl) rfl | exact cl_appB cl_rows (cl_rs rfl) | exact cl_rl1 | exact cl_rl2)) (by decide) ?_ | refine give' rfl (by first | exact cl_rs rfl | exact cl_rows | exact cl_setB rfl | exact cl_setG (cl_setB rfl) rfl | exact cl_appB cl_rows (cl_rs rfl) | exact cl_rl1 | exact cl_rl2) (by decide) (by decide) ?_))), between_fun _ _ _, nobor, (by exact Nat.le_of_ble_eq_true rfl), ?_⟩)
      ((conv => whnf); repeat' ((first | refine ⟨rfl, ?_⟩ | refine ⟨_, row_map (by assumption), ?_⟩ | refine ⟨_, (by exact some_rfl), ?_⟩ | refine ⟨_, wrap_ok (by omega) (by omega), ?_⟩ | refine ⟨_, wrap_u64 (by omega) (by omega), ?_⟩ | refine ⟨by decide, _, fdiv_half (by omega), ?_⟩ | (intro gg)); (conv => whnf)))
      (refine bIf_of (fun h3 => ?_) (fun h3 => ?_) <;> rw [h3])
      · ((conv => whnf); repeat' ((first | refine ⟨rfl, ?_⟩ | refine ⟨_, row_map (by assumption), ?_⟩ | refine ⟨_, (by exact some_rfl), ?_⟩ | refine ⟨_, wrap_ok (by omega) (by omega), ?_⟩ | refine ⟨_, wrap_u64 (by omega) (by omega), ?_⟩ | refine ⟨by decide, _, fdiv_half (by omega), ?_⟩ | (intro gg)); (conv => whnf)))
        (rw [show m.err = 3 from by (first | (simp_all ; done) | (unfold Mb.err; simp_all))]; (exact ⟨[], by (repeat' (first | exact ArgsOk.nil _ | exact argsOk_cells (by assumption) | refine ArgsOk.same (by first | exact cl_b rfl | exact cl_list | exact cl_nil | exact cl_one | exact cl_ll1 | exact cl_ll2 | exact cl_clo (by assumption)) ?_ | refine ArgsOk.nilsl _ ?_ | refine ArgsOk.nilown _ _ (by decide) ?_ | refine ArgsOk.borp rfl rfl rfl (cl_row rfl) (by decide) ?_ | refine ArgsOk.borc (by %caps) ?_ | refine ArgsOk.bor rfl rfl (deref_flat (by first | exact cl_rs rfl | exact cl_rows | exact cl_setB rfl | exact cl_setG (cl_setB rfl) rfl | exact cl_appB cl_rows (cl_rs rfl) | exact cl_rl1 | exact cl_rl2)) (by decide) ?_ | refine give' rfl (by first | exact cl_rs rfl | exact cl_rows | exact cl_setB rfl | exact cl_setG (cl_setB rfl) rfl | exact cl_appB cl_rows (cl_rs rfl) | exact cl_rl1 | exact cl_rl2) (by decide) (by decide) ?_))⟩))
      · ((conv => whnf); repeat' ((first | refine ⟨rfl, ?_⟩ | refine ⟨_, row_map (by assumption), ?_⟩ | refine ⟨_, (by exact some_rfl), ?_⟩ | refine ⟨_, wrap_ok (by omega) (by omega), ?_⟩ | refine ⟨_, wrap_u64 (by omega) (by omega), ?_⟩ | refine ⟨by decide, _, fdiv_half (by omega), ?_⟩ | (intro gg)); (conv => whnf)))
        (refine .inl ⟨_, _, false, [], (by (repeat' (first | exact ArgsOk.nil _ | exact argsOk_cells (by assumption) | refine ArgsOk.same (by first | exact cl_b rfl | exact cl_list | exact cl_nil | exact cl_one | exact cl_ll1 | exact cl_ll2 | exact cl_clo (by assumption)) ?_ | refine ArgsOk.nilsl _ ?_ | refine ArgsOk.nilown _ _ (by decide) ?_ | refine ArgsOk.borp rfl rfl rfl (cl_row rfl) (by decide) ?_ | refine ArgsOk.borc (by (repeat' (first | exact cap_n | refine cap_p rfl rfl rfl (by first | exact cl_row rfl | exact cl_r1 rfl | exact cl_r1b) ?_ ?_ | refine cap_m rfl (by decide) ?_ | refine cap_c (by first | exact cl_b rfl | exact cl_list | exact cl_nil | exact cl_one | exact cl_ll1 | exact cl_ll2 | exact cl_clo (by assumption)) ?_ | decide))) ?_ | refine ArgsOk.bor rfl rfl (deref_flat (by first | exact cl_rs rfl | exact cl_rows | exact cl_setB rfl | exact cl_setG (cl_setB rfl) rfl | exact cl_appB cl_rows (cl_rs rfl) | exact cl_rl1 | exact cl_rl2)) (by decide) ?_ | refine give' rfl (by first | exact cl_rs rfl | exact cl_rows | exact cl_setB rfl | exact cl_setG (cl_setB rfl) rfl | exact cl_appB cl_rows (cl_rs rfl) | exact cl_rl1 | exact cl_rl2) (by decide) (by decide) ?_))), address_fun _, nobor, (by exact Nat.le_of_ble_eq_true rfl), ?_⟩)
        ((conv => whnf); repeat' ((first | refine ⟨rfl, ?_⟩ | refine ⟨_, row_map (by assumption), ?_⟩ | refine ⟨_, (by exact some_rfl), ?_⟩ | refine ⟨_, wrap_ok (by omega) (by omega), ?_⟩ | refine ⟨_, wrap_u64 (by omega) (by omega), ?_⟩ | refine ⟨by decide, _, fdiv_half (by omega), ?_⟩ | (intro gg)); (conv => whnf)))
        (refine bIf_of (fun h4 => ?_) (fun h4 => ?_) <;> rw [h4])
        · ((conv => whnf); repeat' ((first | refine ⟨rfl, ?_⟩ | refine ⟨_, row_map (by assumption), ?_⟩ | refine ⟨_, (by exact some_rfl), ?_⟩ | refine ⟨_, wrap_ok (by omega) (by omega), ?_⟩ | refine ⟨_, wrap_u64 (by omega) (by omega), ?_⟩ | refine ⟨by decide, _, fdiv_half (by omega), ?_⟩ | (intro gg)); (conv => whnf)))
          (rw [show m.err = 3 from by (first | (simp_all ; done) | (unfold Mb.err; simp_all))]; (exact ⟨[], by (repeat' (first | exact ArgsOk.nil _ | exact argsOk_cells (by assumption) | refine ArgsOk.same (by first | exact cl_b rfl | exact cl_list | exact cl_nil | exact cl_one | exact cl_ll1 | exact cl_ll2 | exact cl_clo (by assumption)) ?_ | refine ArgsOk.nilsl _ ?_ | refine ArgsOk.nilown _ _ (by decide) ?_ | refine ArgsOk.borp rfl rfl rfl (cl_row rfl) (by decide) ?_ | refine ArgsOk.borc (by %caps) ?_ | refine ArgsOk.bor rfl rfl (deref_flat (by first | exact cl_rs rfl | exact cl_rows | exact cl_setB rfl | exact cl_setG (cl_setB rfl) rfl | exact cl_appB cl_rows (cl_rs rfl) | exact cl_rl1 | exact cl_rl2)) (by decide) ?_ | refine give' rfl (by first | exact cl_rs rfl | exact cl_rows | exact cl_setB rfl | exact cl_setG (cl_setB rfl) rfl | exact cl_appB cl_rows (cl_rs rfl) | exact cl_rl1 | exact cl_rl2) (by decide) (by decide) ?_))⟩))
        · ((conv => whnf); repeat' ((first | refine ⟨rfl, ?_⟩ | refine ⟨_, row_map (by assumption), ?_⟩ | refine ⟨_, (by exact some_rfl), ?_⟩ | refine ⟨_, wrap_ok (by omega) (by omega), ?_⟩ | refine ⟨_, wrap_u64 (by omega) (by omega), ?_⟩ | refine ⟨by decide, _, fdiv_half (by omega), ?_⟩ | (intro gg)); (conv => whnf)))
          (rw [show m.err = 0 from by (first | (simp_all ; done) | (unfold Mb.err; simp_all))]; (exact ⟨[], by (repeat' (first | exact ArgsOk.nil _ | exact argsOk_cells (by assumption) | refine ArgsOk.same (by first | exact cl_b rfl | exact cl_list | exact cl_nil | exact cl_one | exact cl_ll1 | exact cl_ll2 | exact cl_clo (by assumption)) ?_ | refine ArgsOk.nilsl _ ?_ | refine ArgsOk.nilown _ _ (by decide) ?_ | refine ArgsOk.borp rfl rfl rfl (cl_row rfl) (by decide) ?_ | refine ArgsOk.borc (by %caps) ?_ | refine ArgsOk.bor rfl rfl (deref_flat (by first | exact cl_rs rfl | exact cl_rows | exact cl_setB rfl | exact cl_setG (cl_setB rfl) rfl | exact cl_appB cl_rows (cl_rs rfl) | exact cl_rl1 | exact cl_rl2)) (by decide) ?_ | refine give' rfl (by first | exact cl_rs rfl | exact cl_rows | exact cl_setB rfl | exact cl_setG (cl_setB rfl) rfl | exact cl_appB cl_rows (cl_rs rfl) | exact cl_rl1 | exact cl_rl2) (by decide) (by decide) ?_))⟩))
theorem mnumber_fun (b : Bool) : Fun Try.prog 64 [.c (.v (.bool b))] [.c (.v (.int .i64 (b2i b)))] := by
  refine fun_x ck_member_number rfl ?_
  ((conv => whnf); repeat' ((first | refine ⟨rfl, ?_⟩ | refine ⟨_, row_map (by assumption), ?_⟩ | refine ⟨_, (by exact some_rfl), ?_⟩ | refine ⟨_, wrap_ok (by omega) (by omega), ?_⟩ | refine ⟨_, wrap_u64 (by omega) (by omega), ?_⟩ | refine ⟨by decide, _, fdiv_half (by omega), ?_⟩ | (intro gg)); (conv => whnf)))
  (refine bIf_of (fun h => ?_) (fun h => ?_) <;> rw [h])
  · ((conv => whnf); repeat' ((first | refine ⟨rfl, ?_⟩ | refine ⟨_, row_map (by assumption), ?_⟩ | refine ⟨_, (by exact some_rfl), ?_⟩ | refine ⟨_, wrap_ok (by omega) (by omega), ?_⟩ | refine ⟨_, wrap_u64 (by omega) (by omega), ?_⟩ | refine ⟨by decide, _, fdiv_half (by omega), ?_⟩ | (intro gg)); (conv => whnf)))
    (exact ⟨[], by (repeat' (first | exact ArgsOk.nil _ | exact argsOk_cells (by assumption) | refine ArgsOk.same (by first | exact cl_b rfl | exact cl_list | exact cl_nil | exact cl_one | exact cl_ll1 | exact cl_ll2 | exact cl_clo (by assumption)) ?_ | refine ArgsOk.nilsl _ ?_ | refine ArgsOk.nilown _ _ (by decide) ?_ | refine ArgsOk.borp rfl rfl rfl (cl_row rfl) (by decide) ?_ | refine ArgsOk.borc (by %caps) ?_ | refine ArgsOk.bor rfl rfl (deref_flat (by first | exact cl_rs rfl | exact cl_rows | exact cl_setB rfl | exact cl_setG (cl_setB rfl) rfl | exact cl_appB cl_rows (cl_rs rfl) | exact cl_rl1 | exact cl_rl2)) (by decide) ?_ | refine give' rfl (by first | exact cl_rs rfl | exact cl_rows | exact cl_setB rfl | exact cl_setG (cl_setB rfl) rfl | exact cl_appB cl_rows (cl_rs rfl) | exact cl_rl1 | exact cl_rl2) (by decide) (by decide) ?_))⟩)
  · ((conv => whnf); repeat' ((first | refine ⟨rfl, ?_⟩ | refine ⟨_, row_map (by assumption), ?_⟩ | refine ⟨_, (by exact some_rfl), ?_⟩ | refine ⟨_, wrap_ok (by omega) (by omega), ?_⟩ | refine ⟨_, wrap_u64 (by omega) (by omega), ?_⟩ | refine ⟨by decide, _, fdiv_half (by omega), ?_⟩ | (intro gg)); (conv => whnf)))
    (exact ⟨[], by (repeat' (first | exact ArgsOk.nil _ | exact argsOk_cells (by assumption) | refine ArgsOk.same (by first | exact cl_b rfl | exact cl_list | exact cl_nil | exact cl_one | exact cl_ll1 | exact cl_ll2 | exact cl_clo (by assumption)) ?_ | refine ArgsOk.nilsl _ ?_ | refine ArgsOk.nilown _ _ (by decide) ?_ | refine ArgsOk.borp rfl rfl rfl (cl_row rfl) (by decide) ?_ | refine ArgsOk.borc (by %caps) ?_ | refine ArgsOk.bor rfl rfl (deref_flat (by first | exact cl_rs rfl | exact cl_rows | exact cl_setB rfl | exact cl_setG (cl_setB rfl) rfl | exact cl_appB cl_rows (cl_rs rfl) | exact cl_rl1 | exact cl_rl2)) (by decide) ?_ | refine give' rfl (by first | exact cl_rs rfl | exact cl_rows | exact cl_setB rfl | exact cl_setG (cl_setB rfl) rfl | exact cl_appB cl_rows (cl_rs rfl) | exact cl_rl1 | exact cl_rl2) (by decide) (by decide) ?_))⟩)
theorem mcmp_fun (g x : Mb) : Fun Try.prog 42 [.c (.agg g.row), .c (.agg x.row)] [.c (.v (.int .i64 (Mb.cmp g x)))] := by
  refine fun_x ck_member_Compare rfl ?_
  ((conv => whnf); repeat' ((first | refine ⟨rfl, ?_⟩ | refine ⟨_, row_map (by assumption), ?_⟩ | refine ⟨_, (by exact some_rfl), ?_⟩ | refine ⟨_, wrap_ok (by omega) (by omega), ?_⟩ | refine ⟨_, wrap_u64 (by omega) (by omega), ?_⟩ | refine ⟨by decide, _, fdiv_half (by omega), ?_⟩ | (intro gg)); (conv => whnf)))
  (refine ⟨_, _, false, (by (repeat' (first | exact ArgsOk.nil _ | exact argsOk_cells (by assumption) | refine ArgsOk.same (by first | exact cl_b rfl | exact cl_list | exact cl_nil | exact cl_one | exact cl_ll1 | exact cl_ll2 | exact cl_clo (by assumption)) ?_ | refine ArgsOk.nilsl _ ?_ | refine ArgsOk.nilown _ _ (by decide) ?_ | refine ArgsOk.borp rfl rfl rfl (cl_row rfl) (by decide) ?_ | refine ArgsOk.borc (by (repeat' (first | exact cap_n | refine cap_p rfl rfl rfl (by first | exact cl_row rfl | exact cl_r1 rfl | exact cl_r1b) ?_ ?_ | refine cap_m rfl (by decide) ?_ | refine cap_c (by first | exact cl_b rfl | exact cl_list | exact cl_nil | exact cl_one | exact cl_ll1 | exact cl_ll2 | exact cl_clo (by assumption)) ?_ | decide))) ?_ | refine ArgsOk.bor rfl rfl (deref_flat (by first | exact cl_rs rfl | exact cl_rows | exact cl_setB rfl | exact cl_setG (cl_setB rfl) rfl | exact cl_appB cl_rows (cl_rs rfl) | exact cl_rl1 | exact cl_rl2)) (by decide) ?_ | refine give' rfl (by first | exact cl_rs rfl | exact cl_rows | exact cl_setB rfl | exact cl_setG (cl_setB rfl) rfl | exact cl_appB cl_rows (cl_rs rfl) | exact cl_rl1 | exact cl_rl2) (by decide) (by decide) ?_))), cmpi_fun _ _, nobor, (by exact Nat.le_of_ble_eq_true rfl), ?_⟩)
  ((conv => whnf); repeat' ((first | refine ⟨rfl, ?_⟩ | refine ⟨_, row_map (by assumption), ?_⟩ | refine ⟨_, (by exact some_rfl), ?_⟩ | refine ⟨_, wrap_ok (by omega) (by omega), ?_⟩ | refine ⟨_, wrap_u64 (by omega) (by omega), ?_⟩ | refine ⟨by decide, _, fdiv_half (by omega), ?_⟩ | (intro gg)); (conv => whnf)))
  (refine ⟨_, _, false, (by (repeat' (first | exact ArgsOk.nil _ | exact argsOk_cells (by assumption) | refine ArgsOk.same (by first | exact cl_b rfl | exact cl_list | exact cl_nil | exact cl_one | exact cl_ll1 | exact cl_ll2 | exact cl_clo (by assumption)) ?_ | refine ArgsOk.nilsl _ ?_ | refine ArgsOk.nilown _ _ (by decide) ?_ | refine ArgsOk.borp rfl rfl rfl (cl_row rfl) (by decide) ?_ | refine ArgsOk.borc (by (repeat' (first | exact cap_n | refine cap_p rfl rfl rfl (by first | exact cl_row rfl | exact cl_r1 rfl | exact cl_r1b) ?_ ?_ | refine cap_m rfl (by decide) ?_ | refine cap_c (by first | exact cl_b rfl | exact cl_list | exact cl_nil | exact cl_one | exact cl_ll1 | exact cl_ll2 | exact cl_clo (by assumption)) ?_ | decide))) ?_ | refine ArgsOk.bor rfl rfl (deref_flat (by first | exact cl_rs rfl | exact cl_rows | exact cl_setB rfl | exact cl_setG (cl_setB rfl) rfl | exact cl_appB cl_rows (cl_rs rfl) | exact cl_rl1 | exact cl_rl2)) (by decide) ?_ | refine give' rfl (by first | exact cl_rs rfl | exact cl_rows | exact cl_setB rfl | exact cl_setG (cl_setB rfl) rfl | exact cl_appB cl_rows (cl_rs rfl) | exact cl_rl1 | exact cl_rl2) (by decide) (by decide) ?_))), cmpi_fun _ _, nobor, (by exact Nat.le_of_ble_eq_true rfl), ?_⟩)
  ((conv => whnf); repeat' ((first | refine ⟨rfl, ?_⟩ | refine ⟨_, row_map (by assumption), ?_⟩ | refine ⟨_, (by exact some_rfl), ?_⟩ | refine ⟨_, wrap_ok (by omega) (by omega), ?_⟩ | refine ⟨_, wrap_u64 (by omega) (by omega), ?_⟩ | refine ⟨by decide, _, fdiv_half (by omega), ?_⟩ | (intro gg)); (conv => whnf)))
  (refine ⟨_, _, false, (by (repeat' (first | exact ArgsOk.nil _ | exact argsOk_cells (by assumption) | refine ArgsOk.same (by first | exact cl_b rfl | exact cl_list | exact cl_nil | exact cl_one | exact cl_ll1 | exact cl_ll2 | exact cl_clo (by assumption)) ?_ | refine ArgsOk.nilsl _ ?_ | refine ArgsOk.nilown _ _ (by decide) ?_ | refine ArgsOk.borp rfl rfl rfl (cl_row rfl) (by decide) ?_ | refine ArgsOk.borc (by (repeat' (first | exact cap_n | refine cap_p rfl rfl rfl (by first | exact cl_row rfl | exact cl_r1 rfl | exact cl_r1b) ?_ ?_ | refine cap_m rfl (by decide) ?_ | refine cap_c (by first | exact cl_b rfl | exact cl_list | exact cl_nil | exact cl_one | exact cl_ll1 | exact cl_ll2 | exact cl_clo (by assumption)) ?_ | decide))) ?_ | refine ArgsOk.bor rfl rfl (deref_flat (by first | exact cl_rs rfl | exact cl_rows | exact cl_setB rfl | exact cl_setG (cl_setB rfl) rfl | exact cl_appB cl_rows (cl_rs rfl) | exact cl_rl1 | exact cl_rl2)) (by decide) ?_ | refine give' rfl (by first | exact cl_rs rfl | exact cl_rows | exact cl_setB rfl | exact cl_setG (cl_setB rfl) rfl | exact cl_appB cl_rows (cl_rs rfl) | exact cl_rl1 | exact cl_rl2) (by decide) (by decide) ?_))), cmpi_fun _ _, nobor, (by exact Nat.le_of_ble_eq_true rfl), ?_⟩)
  ((conv => whnf); repeat' ((first | refine ⟨rfl, ?_⟩ | refine ⟨_, row_map (by assumption), ?_⟩ | refine ⟨_, (by exact some_rfl), ?_⟩ | refine ⟨_, wrap_ok (by omega) (by omega), ?_⟩ | refine ⟨_, wrap_u64 (by omega) (by omega), ?_⟩ | refine ⟨by decide, _, fdiv_half (by omega), ?_⟩ | (intro gg)); (conv => whnf)))
  (refine ⟨_, _, false, (by (repeat' (first | exact ArgsOk.nil _ | exact argsOk_cells (by assumption) | refine ArgsOk.same (by first | exact cl_b rfl | exact cl_list | exact cl_nil | exact cl_one | exact cl_ll1 | exact cl_ll2 | exact cl_clo (by assumption)) ?_ | refine ArgsOk.nilsl _ ?_ | refine ArgsOk.nilown _ _ (by decide) ?_ | refine ArgsOk.borp rfl rfl rfl (cl_row rfl) (by decide) ?_ | refine ArgsOk.borc (by (repeat' (first | exact cap_n | refine cap_p rfl rfl rfl (by first | exact cl_row rfl | exact cl_r1 rfl | exact cl_r1b) ?_ ?_ | refine cap_m rfl (by decide) ?_ | refine cap_c (by first | exact cl_b rfl | exact cl_list | exact cl_nil | exact cl_one | exact cl_ll1 | exact cl_ll2 | exact cl_clo (by assumption)) ?_ | decide))) ?_ | refine ArgsOk.bor rfl rfl (deref_flat (by first | exact cl_rs rfl | exact cl_rows | exact cl_setB rfl | exact cl_setG (cl_setB rfl) rfl | exact cl_appB cl_rows (cl_rs rfl) | exact cl_rl1 | exact cl_rl2)) (by decide) ?_ | refine give' rfl (by first | exact cl_rs rfl | exact cl_rows | exact cl_setB rfl | exact cl_setG (cl_setB rfl) rfl | exact cl_appB cl_rows (cl_rs rfl) | exact cl_rl1 | exact cl_rl2) (by decide) (by decide) ?_))), mnumber_fun _, nobor, (by exact Nat.le_of_ble_eq_true rfl), ?_⟩)
  ((conv => whnf); repeat' ((first | refine ⟨rfl, ?_⟩ | refine ⟨_, row_map (by assumption), ?_⟩ | refine ⟨_, (by exact some_rfl), ?_⟩ | refine ⟨_, wrap_ok (by omega) (by omega), ?_⟩ | refine ⟨_, wrap_u64 (by omega) (by omega), ?_⟩ | refine ⟨by decide, _, fdiv_half (by omega), ?_⟩ | (intro gg)); (conv => whnf)))
  (refine .inl ⟨_, _, false, [], (by (repeat' (first | exact ArgsOk.nil _ | exact argsOk_cells (by assumption) | refine ArgsOk.same (by first | exact cl_b rfl | exact cl_list | exact cl_nil | exact cl_one | exact cl_ll1 | exact cl_ll2 | exact cl_clo (by assumption)) ?_ | refine ArgsOk.nilsl _ ?_ | refine ArgsOk.nilown _ _ (by decide) ?_ | refine ArgsOk.borp rfl rfl rfl (cl_row rfl) (by decide) ?_ | refine ArgsOk.borc (by (repeat' (first | exact cap_n | refine cap_p rfl rfl rfl (by first | exact cl_row rfl | exact cl_r1 rfl | exact cl_r1b) ?_ ?_ | refine cap_m rfl (by decide) ?_ | refine cap_c (by first | exact cl_b rfl | exact cl_list | exact cl_nil | exact cl_one | exact cl_ll1 | exact cl_ll2 | exact cl_clo (by assumption)) ?_ | decide))) ?_ | refine ArgsOk.bor rfl rfl (deref_flat (by first | exact cl_rs rfl | exact cl_rows | exact cl_setB rfl | exact cl_setG (cl_setB rfl) rfl | exact cl_appB cl_rows (cl_rs rfl) | exact cl_rl1 | exact cl_rl2)) (by decide) ?_ | refine give' rfl (by first | exact cl_rs rfl | exact cl_rows | exact cl_setB rfl | exact cl_setG (cl_setB rfl) rfl | exact cl_appB cl_rows (cl_rs rfl) | exact cl_rl1 | exact cl_rl2) (by decide) (by decide) ?_))), mnumber_fun _, nobor, (by exact Nat.le_of_ble_eq_true rfl), ?_⟩)
  ((conv => whnf); repeat' ((first | refine ⟨rfl, ?_⟩ | refine ⟨_, row_map (by assumption), ?_⟩ | refine ⟨_, (by exact some_rfl), ?_⟩ | refine ⟨_, wrap_ok (by omega) (by omega), ?_⟩ | refine ⟨_, wrap_u64 (by omega) (by omega), ?_⟩ | refine ⟨by decide, _, fdiv_half (by omega), ?_⟩ | (intro gg)); (conv => whnf)))
  (refine .inl ⟨_, _, false, [], (by (repeat' (first | exact ArgsOk.nil _ | exact argsOk_cells (by assumption) | refine ArgsOk.same (by first | exact cl_b rfl | exact cl_list | exact cl_nil | exact cl_one | exact cl_ll1 | exact cl_ll2 | exact cl_clo (by assumption)) ?_ | refine ArgsOk.nilsl _ ?_ | refine ArgsOk.nilown _ _ (by decide) ?_ | refine ArgsOk.borp rfl rfl rfl (cl_row rfl) (by decide) ?_ | refine ArgsOk.borc (by (repeat' (first | exact cap_n | refine cap_p rfl rfl rfl (by first | exact cl_row rfl | exact cl_r1 rfl | exact cl_r1b) ?_ ?_ | refine cap_m rfl (by decide) ?_ | refine cap_c (by first | exact cl_b rfl | exact cl_list | exact cl_nil | exact cl_one | exact cl_ll1 | exact cl_ll2 | exact cl_clo (by assumption)) ?_ | decide))) ?_ | refine ArgsOk.bor rfl rfl (deref_flat (by first | exact cl_rs rfl | exact cl_rows | exact cl_setB rfl | exact cl_setG (cl_setB rfl) rfl | exact cl_appB cl_rows (cl_rs rfl) | exact cl_rl1 | exact cl_rl2)) (by decide) ?_ | refine give' rfl (by first | exact cl_rs rfl | exact cl_rows | exact cl_setB rfl | exact cl_setG (cl_setB rfl) rfl | exact cl_appB cl_rows (cl_rs rfl) | exact cl_rl1 | exact cl_rl2) (by decide) (by decide) ?_))), cmpi_fun _ _, nobor, (by exact Nat.le_of_ble_eq_true rfl), ?_⟩)
  ((conv => whnf); repeat' ((first | refine ⟨rfl, ?_⟩ | refine ⟨_, row_map (by assumption), ?_⟩ | refine ⟨_, (by exact some_rfl), ?_⟩ | refine ⟨_, wrap_ok (by omega) (by omega), ?_⟩ | refine ⟨_, wrap_u64 (by omega) (by omega), ?_⟩ | refine ⟨by decide, _, fdiv_half (by omega), ?_⟩ | (intro gg)); (conv => whnf)))
  (refine .inl ⟨_, _, true, [], (by (repeat' (first | exact ArgsOk.nil _ | exact argsOk_cells (by assumption) | refine ArgsOk.same (by first | exact cl_b rfl | exact cl_list | exact cl_nil | exact cl_one | exact cl_ll1 | exact cl_ll2 | exact cl_clo (by assumption)) ?_ | refine ArgsOk.nilsl _ ?_ | refine ArgsOk.nilown _ _ (by decide) ?_ | refine ArgsOk.borp rfl rfl rfl (cl_row rfl) (by decide) ?_ | refine ArgsOk.borc (by (repeat' (first | exact cap_n | refine cap_p rfl rfl rfl (by first | exact cl_row rfl | exact cl_r1 rfl | exact cl_r1b) ?_ ?_ | refine cap_m rfl (by decide) ?_ | refine cap_c (by first | exact cl_b rfl | exact cl_list | exact cl_nil | exact cl_one | exact cl_ll1 | exact cl_ll2 | exact cl_clo (by assumption)) ?_ | decide))) ?_ | refine ArgsOk.bor rfl rfl (deref_flat (by first | exact cl_rs rfl | exact cl_rows | exact cl_setB rfl | exact cl_setG (cl_setB rfl) rfl | exact cl_appB cl_rows (cl_rs rfl) | exact cl_rl1 | exact cl_rl2)) (by decide) ?_ | refine give' rfl (by first | exact cl_rs rfl | exact cl_rows | exact cl_setB rfl | exact cl_setG (cl_setB rfl) rfl | exact cl_appB cl_rows (cl_rs rfl) | exact cl_rl1 | exact cl_rl2) (by decide) (by decide) ?_))), or_fun false [icmp g.lf x.lf, icmp g.st x.st, icmp g.ad x.ad, icmp (b2i g.sv) (b2i x.sv)] (by simp), (fun _ => by (first | exact flat_b rfl | exact flat_own | exact flat_own1 rfl | exact flat_own2 rfl)), (by exact Nat.le_of_ble_eq_true rfl), ?_⟩)
  ((conv => whnf); repeat' ((first | refine ⟨rfl, ?_⟩ | refine ⟨_, row_map (by assumption), ?_⟩ | refine ⟨_, (by exact some_rfl), ?_⟩ | refine ⟨_, wrap_ok (by omega) (by omega), ?_⟩ | refine ⟨_, wrap_u64 (by omega) (by omega), ?_⟩ | refine ⟨by decide, _, fdiv_half (by omega), ?_⟩ | (intro gg)); (conv => whnf)))
  (exact ⟨[], by (repeat' (first | exact ArgsOk.nil _ | exact argsOk_cells (by assumption) | refine ArgsOk.same (by first | exact cl_b rfl | exact cl_list | exact cl_nil | exact cl_one | exact cl_ll1 | exact cl_ll2 | exact cl_clo (by assumption)) ?_ | refine ArgsOk.nilsl _ ?_ | refine ArgsOk.nilown _ _ (by decide) ?_ | refine ArgsOk.borp rfl rfl rfl (cl_row rfl) (by decide) ?_ | refine ArgsOk.borc (by %caps) ?_ | refine ArgsOk.bor rfl rfl (deref_flat (by first | exact cl_rs rfl | exact cl_rows | exact cl_setB rfl | exact cl_setG (cl_setB rfl) rfl | exact cl_appB cl_rows (cl_rs rfl) | exact cl_rl1 | exact cl_rl2)) (by decide) ?_ | refine give' rfl (by first | exact cl_rs rfl | exact cl_rows | exact cl_setB rfl | exact cl_setG (cl_setB rfl) rfl | exact cl_appB cl_rows (cl_rs rfl) | exact cl_rl1 | exact cl_rl2) (by decide) (by decide) ?_))⟩)
theorem rnewer_fun (g x : Mb) : Fun Try.prog 46 [.c (.agg g.row), .c (.agg x.row)] [.c (.v (.bool (Mb.nw g x)))] := by
  refine fun_x ck_hearsayref_NewerMember rfl ?_
  ((conv => whnf); repeat' ((first | refine ⟨rfl, ?_⟩ | refine ⟨_, row_map (by assumption), ?_⟩ | refine ⟨_, (by exact some_rfl), ?_⟩ | refine ⟨_, wrap_ok (by omega) (by omega), ?_⟩ | refine ⟨_, wrap_u64 (by omega) (by omega), ?_⟩ | refine ⟨by decide, _, fdiv_half (by omega), ?_⟩ | (intro gg)); (conv => whnf)))
  (refine bIf_of (fun h1 => ?_) (fun h1 => ?_) <;> rw [h1])
  · ((conv => whnf); repeat' ((first | refine ⟨rfl, ?_⟩ | refine ⟨_, row_map (by assumption), ?_⟩ | refine ⟨_, (by exact some_rfl), ?_⟩ | refine ⟨_, wrap_ok (by omega) (by omega), ?_⟩ | refine ⟨_, wrap_u64 (by omega) (by omega), ?_⟩ | refine ⟨by decide, _, fdiv_half (by omega), ?_⟩ | (intro gg)); (conv => whnf)))
    rw [show Mb.nw g x = decide (x.lf < g.lf) from nz_ne h1]
    (exact ⟨[], by (repeat' (first | exact ArgsOk.nil _ | exact argsOk_cells (by assumption) | refine ArgsOk.same (by first | exact cl_b rfl | exact cl_list | exact cl_nil | exact cl_one | exact cl_ll1 | exact cl_ll2 | exact cl_clo (by assumption)) ?_ | refine ArgsOk.nilsl _ ?_ | refine ArgsOk.nilown _ _ (by decide) ?_ | refine ArgsOk.borp rfl rfl rfl (cl_row rfl) (by decide) ?_ | refine ArgsOk.borc (by %caps) ?_ | refine ArgsOk.bor rfl rfl (deref_flat (by first | exact cl_rs rfl | exact cl_rows | exact cl_setB rfl | exact cl_setG (cl_setB rfl) rfl | exact cl_appB cl_rows (cl_rs rfl) | exact cl_rl1 | exact cl_rl2)) (by decide) ?_ | refine give' rfl (by first | exact cl_rs rfl | exact cl_rows | exact cl_setB rfl | exact cl_setG (cl_setB rfl) rfl | exact cl_appB cl_rows (cl_rs rfl) | exact cl_rl1 | exact cl_rl2) (by decide) (by decide) ?_))⟩)
  · have e1 : Mb.nw g x = decide (0 < firstNZ [icmp g.st x.st, icmp g.ad x.ad, icmp (b2i g.sv) (b2i x.sv)]) := by unfold Mb.nw Mb.cmp; rw [nz_eq h1]
    ((conv => whnf); repeat' ((first | refine ⟨rfl, ?_⟩ | refine ⟨_, row_map (by assumption), ?_⟩ | refine ⟨_, (by exact some_rfl), ?_⟩ | refine ⟨_, wrap_ok (by omega) (by omega), ?_⟩ | refine ⟨_, wrap_u64 (by omega) (by omega), ?_⟩ | refine ⟨by decide, _, fdiv_half (by omega), ?_⟩ | (intro gg)); (conv => whnf)))
    (refine bIf_of (fun h2 => ?_) (fun h2 => ?_) <;> rw [h2])
    · ((conv => whnf); repeat' ((first | refine ⟨rfl, ?_⟩ | refine ⟨_, row_map (by assumption), ?_⟩ | refine ⟨_, (by exact some_rfl), ?_⟩ | refine ⟨_, wrap_ok (by omega) (by omega), ?_⟩ | refine ⟨_, wrap_u64 (by omega) (by omega), ?_⟩ | refine ⟨by decide, _, fdiv_half (by omega), ?_⟩ | (intro gg)); (conv => whnf)))
      rw [e1, nz_ne h2]
      (exact ⟨[], by (repeat' (first | exact ArgsOk.nil _ | exact argsOk_cells (by assumption) | refine ArgsOk.same (by first | exact cl_b rfl | exact cl_list | exact cl_nil | exact cl_one | exact cl_ll1 | exact cl_ll2 | exact cl_clo (by assumption)) ?_ | refine ArgsOk.nilsl _ ?_ | refine ArgsOk.nilown _ _ (by decide) ?_ | refine ArgsOk.borp rfl rfl rfl (cl_row rfl) (by decide) ?_ | refine ArgsOk.borc (by %caps) ?_ | refine ArgsOk.bor rfl rfl (deref_flat (by first | exact cl_rs rfl | exact cl_rows | exact cl_setB rfl | exact cl_setG (cl_setB rfl) rfl | exact cl_appB cl_rows (cl_rs rfl) | exact cl_rl1 | exact cl_rl2)) (by decide) ?_ | refine give' rfl (by first | exact cl_rs rfl | exact cl_rows | exact cl_setB rfl | exact cl_setG (cl_setB rfl) rfl | exact cl_appB cl_rows (cl_rs rfl) | exact cl_rl1 | exact cl_rl2) (by decide) (by decide) ?_))⟩)
    · rw [nz_eq h2] at e1
      ((conv => whnf); repeat' ((first | refine ⟨rfl, ?_⟩ | refine ⟨_, row_map (by assumption), ?_⟩ | refine ⟨_, (by exact some_rfl), ?_⟩ | refine ⟨_, wrap_ok (by omega) (by omega), ?_⟩ | refine ⟨_, wrap_u64 (by omega) (by omega), ?_⟩ | refine ⟨by decide, _, fdiv_half (by omega), ?_⟩ | (intro gg)); (conv => whnf)))
      (refine bIf_of (fun h3 => ?_) (fun h3 => ?_) <;> rw [h3])
      · ((conv => whnf); repeat' ((first | refine ⟨rfl, ?_⟩ | refine ⟨_, row_map (by assumption), ?_⟩ | refine ⟨_, (by exact some_rfl), ?_⟩ | refine ⟨_, wrap_ok (by omega) (by omega), ?_⟩ | refine ⟨_, wrap_u64 (by omega) (by omega), ?_⟩ | refine ⟨by decide, _, fdiv_half (by omega), ?_⟩ | (intro gg)); (conv => whnf)))
        rw [e1, nz_ne h3]
        (exact ⟨[], by (repeat' (first | exact ArgsOk.nil _ | exact argsOk_cells (by assumption) | refine ArgsOk.same (by first | exact cl_b rfl | exact cl_list | exact cl_nil | exact cl_one | exact cl_ll1 | exact cl_ll2 | exact cl_clo (by assumption)) ?_ | refine ArgsOk.nilsl _ ?_ | refine ArgsOk.nilown _ _ (by decide) ?_ | refine ArgsOk.borp rfl rfl rfl (cl_row rfl) (by decide) ?_ | refine ArgsOk.borc (by %caps) ?_ | refine ArgsOk.bor rfl rfl (deref_flat (by first | exact cl_rs rfl | exact cl_rows | exact cl_setB rfl | exact cl_setG (cl_setB rfl) rfl | exact cl_appB cl_rows (cl_rs rfl) | exact cl_rl1 | exact cl_rl2)) (by decide) ?_ | refine give' rfl (by first | exact cl_rs rfl | exact cl_rows | exact cl_setB rfl | exact cl_setG (cl_setB rfl) rfl | exact cl_appB cl_rows (cl_rs rfl) | exact cl_rl1 | exact cl_rl2) (by decide) (by decide) ?_))⟩)
      · rw [nz_eq h3, nzb_last] at e1
        ((conv => whnf); repeat' ((first | refine ⟨rfl, ?_⟩ | refine ⟨_, row_map (by assumption), ?_⟩ | refine ⟨_, (by exact some_rfl), ?_⟩ | refine ⟨_, wrap_ok (by omega) (by omega), ?_⟩ | refine ⟨_, wrap_u64 (by omega) (by omega), ?_⟩ | refine ⟨by decide, _, fdiv_half (by omega), ?_⟩ | (intro gg)); (conv => whnf)))
        (refine bIf_of (fun h4 => ?_) (fun h4 => ?_) <;> rw [h4])
        · ((conv => whnf); repeat' ((first | refine ⟨rfl, ?_⟩ | refine ⟨_, row_map (by assumption), ?_⟩ | refine ⟨_, (by exact some_rfl), ?_⟩ | refine ⟨_, wrap_ok (by omega) (by omega), ?_⟩ | refine ⟨_, wrap_u64 (by omega) (by omega), ?_⟩ | refine ⟨by decide, _, fdiv_half (by omega), ?_⟩ | (intro gg)); (conv => whnf)))
          rw [e1, h4, Bool.true_and]
          (exact ⟨[], by (repeat' (first | exact ArgsOk.nil _ | exact argsOk_cells (by assumption) | refine ArgsOk.same (by first | exact cl_b rfl | exact cl_list | exact cl_nil | exact cl_one | exact cl_ll1 | exact cl_ll2 | exact cl_clo (by assumption)) ?_ | refine ArgsOk.nilsl _ ?_ | refine ArgsOk.nilown _ _ (by decide) ?_ | refine ArgsOk.borp rfl rfl rfl (cl_row rfl) (by decide) ?_ | refine ArgsOk.borc (by %caps) ?_ | refine ArgsOk.bor rfl rfl (deref_flat (by first | exact cl_rs rfl | exact cl_rows | exact cl_setB rfl | exact cl_setG (cl_setB rfl) rfl | exact cl_appB cl_rows (cl_rs rfl) | exact cl_rl1 | exact cl_rl2)) (by decide) ?_ | refine give' rfl (by first | exact cl_rs rfl | exact cl_rows | exact cl_setB rfl | exact cl_setG (cl_setB rfl) rfl | exact cl_appB cl_rows (cl_rs rfl) | exact cl_rl1 | exact cl_rl2) (by decide) (by decide) ?_))⟩)
        · ((conv => whnf); repeat' ((first | refine ⟨rfl, ?_⟩ | refine ⟨_, row_map (by assumption), ?_⟩ | refine ⟨_, (by exact some_rfl), ?_⟩ | refine ⟨_, wrap_ok (by omega) (by omega), ?_⟩ | refine ⟨_, wrap_u64 (by omega) (by omega), ?_⟩ | refine ⟨by decide, _, fdiv_half (by omega), ?_⟩ | (intro gg)); (conv => whnf)))
          rw [e1, h4, Bool.false_and]
          (exact ⟨[], by (repeat' (first | exact ArgsOk.nil _ | exact argsOk_cells (by assumption) | refine ArgsOk.same (by first | exact cl_b rfl | exact cl_list | exact cl_nil | exact cl_one | exact cl_ll1 | exact cl_ll2 | exact cl_clo (by assumption)) ?_ | refine ArgsOk.nilsl _ ?_ | refine ArgsOk.nilown _ _ (by decide) ?_ | refine ArgsOk.borp rfl rfl rfl (cl_row rfl) (by decide) ?_ | refine ArgsOk.borc (by %caps) ?_ | refine ArgsOk.bor rfl rfl (deref_flat (by first | exact cl_rs rfl | exact cl_rows | exact cl_setB rfl | exact cl_setG (cl_setB rfl) rfl | exact cl_appB cl_rows (cl_rs rfl) | exact cl_rl1 | exact cl_rl2)) (by decide) ?_ | refine give' rfl (by first | exact cl_rs rfl | exact cl_rows | exact cl_setB rfl | exact cl_setG (cl_setB rfl) rfl | exact cl_appB cl_rows (cl_rs rfl) | exact cl_rl1 | exact cl_rl2) (by decide) (by decide) ?_))⟩)
end Go.Proofs.Ytjhdlcmecbngkaa
/- slices.Clone, IndexFunc, ContainsFunc, Delete, DeleteFunc at hearsay/api.Rumor. -/
namespace Go.Proofs.Ytjhdlcmecbngkaa
open Go.RowKit Pl
set_option linter.unusedVariables false
theorem cloneRu_fun (cl : Bool) (l : List Ru) (hl : l.length ≤ 1000) : Fun Try.prog 39 [.c (.sl cl (l.map Ru.row))] [.o 55 6 (l.map Ru.row)] := by
  refine fun_x ck_slices_Clone_api_Rumor_api_Rumor rfl ?_
  ((conv => whnf); repeat' ((first | refine ⟨rfl, ?_⟩ | refine ⟨_, row_map (by assumption), ?_⟩ | refine ⟨_, (by exact some_rfl), ?_⟩ | refine ⟨_, wrap_ok (by omega) (by omega), ?_⟩ | refine ⟨_, wrap_u64 (by omega) (by omega), ?_⟩ | refine ⟨by decide, _, fdiv_half (by omega), ?_⟩ | (intro gg)); (conv => whnf)))
  rename_i b
  have hb := gg
  cases b with
  | true =>
    have e : l.map Ru.row = [] := hb rfl
    ((conv => whnf); repeat' ((first | refine ⟨rfl, ?_⟩ | refine ⟨_, row_map (by assumption), ?_⟩ | refine ⟨_, (by exact some_rfl), ?_⟩ | refine ⟨_, wrap_ok (by omega) (by omega), ?_⟩ | refine ⟨_, wrap_u64 (by omega) (by omega), ?_⟩ | refine ⟨by decide, _, fdiv_half (by omega), ?_⟩ | (intro gg)); (conv => whnf)))
    rw [e]
    (exact ⟨[], by (repeat' (first | exact ArgsOk.nil _ | exact argsOk_cells (by assumption) | refine ArgsOk.same (by first | exact cl_b rfl | exact cl_list | exact cl_nil | exact cl_one | exact cl_ll1 | exact cl_ll2 | exact cl_clo (by assumption)) ?_ | refine ArgsOk.nilsl _ ?_ | refine ArgsOk.nilown _ _ (by decide) ?_ | refine ArgsOk.borp rfl rfl rfl (cl_row rfl) (by decide) ?_ | refine ArgsOk.borc (by %caps) ?_ | refine ArgsOk.bor rfl rfl (deref_flat (by first | exact cl_rs rfl | exact cl_rows | exact cl_setB rfl | exact cl_setG (cl_setB rfl) rfl | exact cl_appB cl_rows (cl_rs rfl) | exact cl_rl1 | exact cl_rl2)) (by decide) ?_ | refine give' rfl (by first | exact cl_rs rfl | exact cl_rows | exact cl_setB rfl | exact cl_setG (cl_setB rfl) rfl | exact cl_appB cl_rows (cl_rs rfl) | exact cl_rl1 | exact cl_rl2) (by decide) (by decide) ?_))⟩)
  | false =>
    ((conv => whnf); repeat' ((first | refine ⟨rfl, ?_⟩ | refine ⟨_, row_map (by assumption), ?_⟩ | refine ⟨_, (by exact some_rfl), ?_⟩ | refine ⟨_, wrap_ok (by omega) (by omega), ?_⟩ | refine ⟨_, wrap_u64 (by omega) (by omega), ?_⟩ | refine ⟨by decide, _, fdiv_half (by omega), ?_⟩ | (intro gg)); (conv => whnf)))
    refine ⟨ones_rows, ?_⟩
    ((conv => whnf); repeat' ((first | refine ⟨rfl, ?_⟩ | refine ⟨_, row_map (by assumption), ?_⟩ | refine ⟨_, (by exact some_rfl), ?_⟩ | refine ⟨_, wrap_ok (by omega) (by omega), ?_⟩ | refine ⟨_, wrap_u64 (by omega) (by omega), ?_⟩ | refine ⟨by decide, _, fdiv_half (by omega), ?_⟩ | (intro gg)); (conv => whnf)))
    refine ⟨(by simp only [List.length_map, List.length_append, List.length_cons, List.length_nil, List.length_set, List.length_replicate, maxLen]; omega), (by simp only [List.length_map, List.length_append, List.length_cons, List.length_nil, List.length_set, List.length_replicate]; omega), ?_⟩
    ((conv => whnf); repeat' ((first | refine ⟨rfl, ?_⟩ | refine ⟨_, row_map (by assumption), ?_⟩ | refine ⟨_, (by exact some_rfl), ?_⟩ | refine ⟨_, wrap_ok (by omega) (by omega), ?_⟩ | refine ⟨_, wrap_u64 (by omega) (by omega), ?_⟩ | refine ⟨by decide, _, fdiv_half (by omega), ?_⟩ | (intro gg)); (conv => whnf)))
    (exact ⟨[80], by (repeat' (first | exact ArgsOk.nil _ | exact argsOk_cells (by assumption) | refine ArgsOk.same (by first | exact cl_b rfl | exact cl_list | exact cl_nil | exact cl_one | exact cl_ll1 | exact cl_ll2 | exact cl_clo (by assumption)) ?_ | refine ArgsOk.nilsl _ ?_ | refine ArgsOk.nilown _ _ (by decide) ?_ | refine ArgsOk.borp rfl rfl rfl (cl_row rfl) (by decide) ?_ | refine ArgsOk.borc (by %caps) ?_ | refine ArgsOk.bor rfl rfl (deref_flat (by first | exact cl_rs rfl | exact cl_rows | exact cl_setB rfl | exact cl_setG (cl_setB rfl) rfl | exact cl_appB cl_rows (cl_rs rfl) | exact cl_rl1 | exact cl_rl2)) (by decide) ?_ | refine give' rfl (by first | exact cl_rs rfl | exact cl_rows | exact cl_setB rfl | exact cl_setG (cl_setB rfl) rfl | exact cl_appB cl_rows (cl_rs rfl) | exact cl_rl1 | exact cl_rl2) (by decide) (by decide) ?_))⟩)
theorem indexRu_fun (cl : Bool) (l : List Ru) (f : FuncId) (caps : List V) (hcaps : ∀ u ∈ caps, Cl u) (p : Ru → Bool) (hl : l.length ≤ 1000) (hf : ∀ x ∈ l, Fun Try.prog f (.c (.agg (Ru.row x)) :: caps.map .c) [.c (.v (.bool (p x)))]) :
    Fun Try.prog 40 [.c (.sl cl (l.map Ru.row)), .c (.clo f caps)] [.c (.v (.int .i64 (at_ p l)))] := by
  refine fun_x ck_slices_IndexFunc_api_Rumor_api_Rumor rfl ?_
  ((conv => whnf); repeat' ((first | refine ⟨rfl, ?_⟩ | refine ⟨_, row_map (by assumption), ?_⟩ | refine ⟨_, (by exact some_rfl), ?_⟩ | refine ⟨_, wrap_ok (by omega) (by omega), ?_⟩ | refine ⟨_, wrap_u64 (by omega) (by omega), ?_⟩ | refine ⟨by decide, _, fdiv_half (by omega), ?_⟩ | (intro gg)); (conv => whnf)))
  rw [List.length_map]
  (refine ⟨[], none, {k : Nat // k ≤ l.length ∧ ∀ j, (h : j < l.length) → j < k → p l[j] = false}, [0, 1, 7], fun ⟨k, hk, h0⟩ => [(8, .v (.int .i64 k))], [], fun ⟨k, hk, h0⟩ => [], fun ⟨k, hk, h0⟩ => l.length - k, trivial, fun _ => ⟨trivial, fun _ => ⟨⟨0, by omega, fun j _ h => by omega⟩, by (repeat' (first | exact trivial | refine ⟨rfl, ?_⟩)), keptE_refl _ _, by (repeat' (first | exact trivial | refine ⟨rfl, ?_⟩)), keptH_refl _ _⟩⟩, fun ⟨k, hk, h0⟩ => ?_⟩)
  ((conv => whnf); repeat' ((first | refine ⟨rfl, ?_⟩ | refine ⟨_, row_map (by assumption), ?_⟩ | refine ⟨_, (by exact some_rfl), ?_⟩ | refine ⟨_, wrap_ok (by omega) (by omega), ?_⟩ | refine ⟨_, wrap_u64 (by omega) (by omega), ?_⟩ | refine ⟨by decide, _, fdiv_half (by omega), ?_⟩ | (intro gg)); (conv => whnf)))
  (refine bIf_of (fun h => ?_) (fun h => ?_) <;> rw [h])
  · have hlt : k < l.length := (by have := of_decide_eq_true h; omega)
    ((conv => whnf); repeat' ((first | refine ⟨rfl, ?_⟩ | refine ⟨_, row_map (by assumption), ?_⟩ | refine ⟨_, (by exact some_rfl), ?_⟩ | refine ⟨_, wrap_ok (by omega) (by omega), ?_⟩ | refine ⟨_, wrap_u64 (by omega) (by omega), ?_⟩ | refine ⟨by decide, _, fdiv_half (by omega), ?_⟩ | (intro gg)); (conv => whnf)))
    refine ⟨k, _, rfl, row_map hlt, ?_⟩
    ((conv => whnf); repeat' ((first | refine ⟨rfl, ?_⟩ | refine ⟨_, row_map (by assumption), ?_⟩ | refine ⟨_, (by exact some_rfl), ?_⟩ | refine ⟨_, wrap_ok (by omega) (by omega), ?_⟩ | refine ⟨_, wrap_u64 (by omega) (by omega), ?_⟩ | refine ⟨by decide, _, fdiv_half (by omega), ?_⟩ | (intro gg)); (conv => whnf)))
    (refine .inl ⟨_, _, false, [], (by (repeat' (first | exact ArgsOk.nil _ | exact argsOk_cells (by assumption) | refine ArgsOk.same (by first | exact cl_b rfl | exact cl_list | exact cl_nil | exact cl_one | exact cl_ll1 | exact cl_ll2 | exact cl_clo (by assumption)) ?_ | refine ArgsOk.nilsl _ ?_ | refine ArgsOk.nilown _ _ (by decide) ?_ | refine ArgsOk.borp rfl rfl rfl (cl_row rfl) (by decide) ?_ | refine ArgsOk.borc (by (repeat' (first | exact cap_n | refine cap_p rfl rfl rfl (by first | exact cl_row rfl | exact cl_r1 rfl | exact cl_r1b) ?_ ?_ | refine cap_m rfl (by decide) ?_ | refine cap_c (by first | exact cl_b rfl | exact cl_list | exact cl_nil | exact cl_one | exact cl_ll1 | exact cl_ll2 | exact cl_clo (by assumption)) ?_ | decide))) ?_ | refine ArgsOk.bor rfl rfl (deref_flat (by first | exact cl_rs rfl | exact cl_rows | exact cl_setB rfl | exact cl_setG (cl_setB rfl) rfl | exact cl_appB cl_rows (cl_rs rfl) | exact cl_rl1 | exact cl_rl2)) (by decide) ?_ | refine give' rfl (by first | exact cl_rs rfl | exact cl_rows | exact cl_setB rfl | exact cl_setG (cl_setB rfl) rfl | exact cl_appB cl_rows (cl_rs rfl) | exact cl_rl1 | exact cl_rl2) (by decide) (by decide) ?_))), hf _ (List.getElem_mem hlt), nobor, (by exact Nat.le_of_ble_eq_true rfl), ?_⟩)
    ((conv => whnf); repeat' ((first | refine ⟨rfl, ?_⟩ | refine ⟨_, row_map (by assumption), ?_⟩ | refine ⟨_, (by exact some_rfl), ?_⟩ | refine ⟨_, wrap_ok (by omega) (by omega), ?_⟩ | refine ⟨_, wrap_u64 (by omega) (by omega), ?_⟩ | refine ⟨by decide, _, fdiv_half (by omega), ?_⟩ | (intro gg)); (conv => whnf)))
    (refine bIf_of (fun h2 => ?_) (fun h2 => ?_) <;> rw [h2])
    · ((conv => whnf); repeat' ((first | refine ⟨rfl, ?_⟩ | refine ⟨_, row_map (by assumption), ?_⟩ | refine ⟨_, (by exact some_rfl), ?_⟩ | refine ⟨_, wrap_ok (by omega) (by omega), ?_⟩ | refine ⟨_, wrap_u64 (by omega) (by omega), ?_⟩ | refine ⟨by decide, _, fdiv_half (by omega), ?_⟩ | (intro gg)); (conv => whnf)))
      rw [at_yes hlt h0 h2]
      (exact ⟨[], by (repeat' (first | exact ArgsOk.nil _ | exact argsOk_cells (by assumption) | refine ArgsOk.same (by first | exact cl_b rfl | exact cl_list | exact cl_nil | exact cl_one | exact cl_ll1 | exact cl_ll2 | exact cl_clo (by assumption)) ?_ | refine ArgsOk.nilsl _ ?_ | refine ArgsOk.nilown _ _ (by decide) ?_ | refine ArgsOk.borp rfl rfl rfl (cl_row rfl) (by decide) ?_ | refine ArgsOk.borc (by %caps) ?_ | refine ArgsOk.bor rfl rfl (deref_flat (by first | exact cl_rs rfl | exact cl_rows | exact cl_setB rfl | exact cl_setG (cl_setB rfl) rfl | exact cl_appB cl_rows (cl_rs rfl) | exact cl_rl1 | exact cl_rl2)) (by decide) ?_ | refine give' rfl (by first | exact cl_rs rfl | exact cl_rows | exact cl_setB rfl | exact cl_setG (cl_setB rfl) rfl | exact cl_appB cl_rows (cl_rs rfl) | exact cl_rl1 | exact cl_rl2) (by decide) (by decide) ?_))⟩)
    · ((conv => whnf); repeat' ((first | refine ⟨rfl, ?_⟩ | refine ⟨_, row_map (by assumption), ?_⟩ | refine ⟨_, (by exact some_rfl), ?_⟩ | refine ⟨_, wrap_ok (by omega) (by omega), ?_⟩ | refine ⟨_, wrap_u64 (by omega) (by omega), ?_⟩ | refine ⟨by decide, _, fdiv_half (by omega), ?_⟩ | (intro gg)); (conv => whnf)))
      (exact ⟨none, trivial, fun _ => ⟨⟨k + 1, by omega, up1 (p := fun j h => p l[j] = false) h0 (fun _ => h2)⟩, by show l.length - (k + 1) < l.length - k; omega, by (repeat' (first | exact trivial | refine ⟨rfl, ?_⟩)), by (repeat' (first | exact trivial | refine ⟨rfl, ?_⟩)), by (repeat' (first | exact trivial | refine ⟨rfl, ?_⟩)), by (repeat' (first | exact trivial | refine ⟨rfl, ?_⟩))⟩⟩)
  · have hge : ¬ k < l.length := (by have := of_decide_eq_false h; omega)
    ((conv => whnf); repeat' ((first | refine ⟨rfl, ?_⟩ | refine ⟨_, row_map (by assumption), ?_⟩ | refine ⟨_, (by exact some_rfl), ?_⟩ | refine ⟨_, wrap_ok (by omega) (by omega), ?_⟩ | refine ⟨_, wrap_u64 (by omega) (by omega), ?_⟩ | refine ⟨by decide, _, fdiv_half (by omega), ?_⟩ | (intro gg)); (conv => whnf)))
    rw [at_no (p := p) (l := l) (fun i hi => h0 i hi (by omega))]
    (exact ⟨[], by (repeat' (first | exact ArgsOk.nil _ | exact argsOk_cells (by assumption) | refine ArgsOk.same (by first | exact cl_b rfl | exact cl_list | exact cl_nil | exact cl_one | exact cl_ll1 | exact cl_ll2 | exact cl_clo (by assumption)) ?_ | refine ArgsOk.nilsl _ ?_ | refine ArgsOk.nilown _ _ (by decide) ?_ | refine ArgsOk.borp rfl rfl rfl (cl_row rfl) (by decide) ?_ | refine ArgsOk.borc (by %caps) ?_ | refine ArgsOk.bor rfl rfl (deref_flat (by first | exact cl_rs rfl | exact cl_rows | exact cl_setB rfl | exact cl_setG (cl_setB rfl) rfl | exact cl_appB cl_rows (cl_rs rfl) | exact cl_rl1 | exact cl_rl2)) (by decide) ?_ | refine give' rfl (by first | exact cl_rs rfl | exact cl_rows | exact cl_setB rfl | exact cl_setG (cl_setB rfl) rfl | exact cl_appB cl_rows (cl_rs rfl) | exact cl_rl1 | exact cl_rl2) (by decide) (by decide) ?_))⟩)
theorem indexVRu_fun (cl : Bool) (l : List Ru) (f : FuncId) (p : Ru → Bool) (hl : l.length ≤ 1000) (hf : ∀ x ∈ l, Fun Try.prog f [.c (.agg (Ru.row x))] [.c (.v (.bool (p x)))]) :
    Fun Try.prog 40 [.c (.sl cl (l.map Ru.row)), .c (.v (.func (.func f) #[] #[]))] [.c (.v (.int .i64 (at_ p l)))] := by
  refine fun_x ck_slices_IndexFunc_api_Rumor_api_Rumor rfl ?_
  ((conv => whnf); repeat' ((first | refine ⟨rfl, ?_⟩ | refine ⟨_, row_map (by assumption), ?_⟩ | refine ⟨_, (by exact some_rfl), ?_⟩ | refine ⟨_, wrap_ok (by omega) (by omega), ?_⟩ | refine ⟨_, wrap_u64 (by omega) (by omega), ?_⟩ | refine ⟨by decide, _, fdiv_half (by omega), ?_⟩ | (intro gg)); (conv => whnf)))
  rw [List.length_map]
  (refine ⟨[], none, {k : Nat // k ≤ l.length ∧ ∀ j, (h : j < l.length) → j < k → p l[j] = false}, [0, 1, 7], fun ⟨k, hk, h0⟩ => [(8, .v (.int .i64 k))], [], fun ⟨k, hk, h0⟩ => [], fun ⟨k, hk, h0⟩ => l.length - k, trivial, fun _ => ⟨trivial, fun _ => ⟨⟨0, by omega, fun j _ h => by omega⟩, by (repeat' (first | exact trivial | refine ⟨rfl, ?_⟩)), keptE_refl _ _, by (repeat' (first | exact trivial | refine ⟨rfl, ?_⟩)), keptH_refl _ _⟩⟩, fun ⟨k, hk, h0⟩ => ?_⟩)
  ((conv => whnf); repeat' ((first | refine ⟨rfl, ?_⟩ | refine ⟨_, row_map (by assumption), ?_⟩ | refine ⟨_, (by exact some_rfl), ?_⟩ | refine ⟨_, wrap_ok (by omega) (by omega), ?_⟩ | refine ⟨_, wrap_u64 (by omega) (by omega), ?_⟩ | refine ⟨by decide, _, fdiv_half (by omega), ?_⟩ | (intro gg)); (conv => whnf)))
  (refine bIf_of (fun h => ?_) (fun h => ?_) <;> rw [h])
  · have hlt : k < l.length := (by have := of_decide_eq_true h; omega)
    ((conv => whnf); repeat' ((first | refine ⟨rfl, ?_⟩ | refine ⟨_, row_map (by assumption), ?_⟩ | refine ⟨_, (by exact some_rfl), ?_⟩ | refine ⟨_, wrap_ok (by omega) (by omega), ?_⟩ | refine ⟨_, wrap_u64 (by omega) (by omega), ?_⟩ | refine ⟨by decide, _, fdiv_half (by omega), ?_⟩ | (intro gg)); (conv => whnf)))
    refine ⟨k, _, rfl, row_map hlt, ?_⟩
    ((conv => whnf); repeat' ((first | refine ⟨rfl, ?_⟩ | refine ⟨_, row_map (by assumption), ?_⟩ | refine ⟨_, (by exact some_rfl), ?_⟩ | refine ⟨_, wrap_ok (by omega) (by omega), ?_⟩ | refine ⟨_, wrap_u64 (by omega) (by omega), ?_⟩ | refine ⟨by decide, _, fdiv_half (by omega), ?_⟩ | (intro gg)); (conv => whnf)))
    (refine .inl ⟨_, _, false, [], (by (repeat' (first | exact ArgsOk.nil _ | exact argsOk_cells (by assumption) | refine ArgsOk.same (by first | exact cl_b rfl | exact cl_list | exact cl_nil | exact cl_one | exact cl_ll1 | exact cl_ll2 | exact cl_clo (by assumption)) ?_ | refine ArgsOk.nilsl _ ?_ | refine ArgsOk.nilown _ _ (by decide) ?_ | refine ArgsOk.borp rfl rfl rfl (cl_row rfl) (by decide) ?_ | refine ArgsOk.borc (by (repeat' (first | exact cap_n | refine cap_p rfl rfl rfl (by first | exact cl_row rfl | exact cl_r1 rfl | exact cl_r1b) ?_ ?_ | refine cap_m rfl (by decide) ?_ | refine cap_c (by first | exact cl_b rfl | exact cl_list | exact cl_nil | exact cl_one | exact cl_ll1 | exact cl_ll2 | exact cl_clo (by assumption)) ?_ | decide))) ?_ | refine ArgsOk.bor rfl rfl (deref_flat (by first | exact cl_rs rfl | exact cl_rows | exact cl_setB rfl | exact cl_setG (cl_setB rfl) rfl | exact cl_appB cl_rows (cl_rs rfl) | exact cl_rl1 | exact cl_rl2)) (by decide) ?_ | refine give' rfl (by first | exact cl_rs rfl | exact cl_rows | exact cl_setB rfl | exact cl_setG (cl_setB rfl) rfl | exact cl_appB cl_rows (cl_rs rfl) | exact cl_rl1 | exact cl_rl2) (by decide) (by decide) ?_))), hf _ (List.getElem_mem hlt), nobor, (by exact Nat.le_of_ble_eq_true rfl), ?_⟩)
    ((conv => whnf); repeat' ((first | refine ⟨rfl, ?_⟩ | refine ⟨_, row_map (by assumption), ?_⟩ | refine ⟨_, (by exact some_rfl), ?_⟩ | refine ⟨_, wrap_ok (by omega) (by omega), ?_⟩ | refine ⟨_, wrap_u64 (by omega) (by omega), ?_⟩ | refine ⟨by decide, _, fdiv_half (by omega), ?_⟩ | (intro gg)); (conv => whnf)))
    (refine bIf_of (fun h2 => ?_) (fun h2 => ?_) <;> rw [h2])
    · ((conv => whnf); repeat' ((first | refine ⟨rfl, ?_⟩ | refine ⟨_, row_map (by assumption), ?_⟩ | refine ⟨_, (by exact some_rfl), ?_⟩ | refine ⟨_, wrap_ok (by omega) (by omega), ?_⟩ | refine ⟨_, wrap_u64 (by omega) (by omega), ?_⟩ | refine ⟨by decide, _, fdiv_half (by omega), ?_⟩ | (intro gg)); (conv => whnf)))
      rw [at_yes hlt h0 h2]
      (exact ⟨[], by (repeat' (first | exact ArgsOk.nil _ | exact argsOk_cells (by assumption) | refine ArgsOk.same (by first | exact cl_b rfl | exact cl_list | exact cl_nil | exact cl_one | exact cl_ll1 | exact cl_ll2 | exact cl_clo (by assumption)) ?_ | refine ArgsOk.nilsl _ ?_ | refine ArgsOk.nilown _ _ (by decide) ?_ | refine ArgsOk.borp rfl rfl rfl (cl_row rfl) (by decide) ?_ | refine ArgsOk.borc (by %caps) ?_ | refine ArgsOk.bor rfl rfl (deref_flat (by first | exact cl_rs rfl | exact cl_rows | exact cl_setB rfl | exact cl_setG (cl_setB rfl) rfl | exact cl_appB cl_rows (cl_rs rfl) | exact cl_rl1 | exact cl_rl2)) (by decide) ?_ | refine give' rfl (by first | exact cl_rs rfl | exact cl_rows | exact cl_setB rfl | exact cl_setG (cl_setB rfl) rfl | exact cl_appB cl_rows (cl_rs rfl) | exact cl_rl1 | exact cl_rl2) (by decide) (by decide) ?_))⟩)
    · ((conv => whnf); repeat' ((first | refine ⟨rfl, ?_⟩ | refine ⟨_, row_map (by assumption), ?_⟩ | refine ⟨_, (by exact some_rfl), ?_⟩ | refine ⟨_, wrap_ok (by omega) (by omega), ?_⟩ | refine ⟨_, wrap_u64 (by omega) (by omega), ?_⟩ | refine ⟨by decide, _, fdiv_half (by omega), ?_⟩ | (intro gg)); (conv => whnf)))
      (exact ⟨none, trivial, fun _ => ⟨⟨k + 1, by omega, up1 (p := fun j h => p l[j] = false) h0 (fun _ => h2)⟩, by show l.length - (k + 1) < l.length - k; omega, by (repeat' (first | exact trivial | refine ⟨rfl, ?_⟩)), by (repeat' (first | exact trivial | refine ⟨rfl, ?_⟩)), by (repeat' (first | exact trivial | refine ⟨rfl, ?_⟩)), by (repeat' (first | exact trivial | refine ⟨rfl, ?_⟩))⟩⟩)
  · have hge : ¬ k < l.length := (by have := of_decide_eq_false h; omega)
    ((conv => whnf); repeat' ((first | refine ⟨rfl, ?_⟩ | refine ⟨_, row_map (by assumption), ?_⟩ | refine ⟨_, (by exact some_rfl), ?_⟩ | refine ⟨_, wrap_ok (by omega) (by omega), ?_⟩ | refine ⟨_, wrap_u64 (by omega) (by omega), ?_⟩ | refine ⟨by decide, _, fdiv_half (by omega), ?_⟩ | (intro gg)); (conv => whnf)))
    rw [at_no (p := p) (l := l) (fun i hi => h0 i hi (by omega))]
    (exact ⟨[], by (repeat' (first | exact ArgsOk.nil _ | exact argsOk_cells (by assumption) | refine ArgsOk.same (by first | exact cl_b rfl | exact cl_list | exact cl_nil | exact cl_one | exact cl_ll1 | exact cl_ll2 | exact cl_clo (by assumption)) ?_ | refine ArgsOk.nilsl _ ?_ | refine ArgsOk.nilown _ _ (by decide) ?_ | refine ArgsOk.borp rfl rfl rfl (cl_row rfl) (by decide) ?_ | refine ArgsOk.borc (by %caps) ?_ | refine ArgsOk.bor rfl rfl (deref_flat (by first | exact cl_rs rfl | exact cl_rows | exact cl_setB rfl | exact cl_setG (cl_setB rfl) rfl | exact cl_appB cl_rows (cl_rs rfl) | exact cl_rl1 | exact cl_rl2)) (by decide) ?_ | refine give' rfl (by first | exact cl_rs rfl | exact cl_rows | exact cl_setB rfl | exact cl_setG (cl_setB rfl) rfl | exact cl_appB cl_rows (cl_rs rfl) | exact cl_rl1 | exact cl_rl2) (by decide) (by decide) ?_))⟩)
theorem containsRu_fun (cl : Bool) (l : List Ru) (f : FuncId) (caps : List V) (hcaps : ∀ u ∈ caps, Cl u) (p : Ru → Bool) (hl : l.length ≤ 1000) (hf : ∀ x ∈ l, Fun Try.prog f (.c (.agg (Ru.row x)) :: caps.map .c) [.c (.v (.bool (p x)))]) :
    Fun Try.prog 47 [.c (.sl cl (l.map Ru.row)), .c (.clo f caps)] [.c (.v (.bool (l.any p)))] := by
  refine fun_x ck_slices_ContainsFunc_api_Rumor_api_Rumor rfl ?_
  ((conv => whnf); repeat' ((first | refine ⟨rfl, ?_⟩ | refine ⟨_, row_map (by assumption), ?_⟩ | refine ⟨_, (by exact some_rfl), ?_⟩ | refine ⟨_, wrap_ok (by omega) (by omega), ?_⟩ | refine ⟨_, wrap_u64 (by omega) (by omega), ?_⟩ | refine ⟨by decide, _, fdiv_half (by omega), ?_⟩ | (intro gg)); (conv => whnf)))
  (refine .inl ⟨_, _, false, [], (by (repeat' (first | exact ArgsOk.nil _ | exact argsOk_cells (by assumption) | refine ArgsOk.same (by first | exact cl_b rfl | exact cl_list | exact cl_nil | exact cl_one | exact cl_ll1 | exact cl_ll2 | exact cl_clo (by assumption)) ?_ | refine ArgsOk.nilsl _ ?_ | refine ArgsOk.nilown _ _ (by decide) ?_ | refine ArgsOk.borp rfl rfl rfl (cl_row rfl) (by decide) ?_ | refine ArgsOk.borc (by (repeat' (first | exact cap_n | refine cap_p rfl rfl rfl (by first | exact cl_row rfl | exact cl_r1 rfl | exact cl_r1b) ?_ ?_ | refine cap_m rfl (by decide) ?_ | refine cap_c (by first | exact cl_b rfl | exact cl_list | exact cl_nil | exact cl_one | exact cl_ll1 | exact cl_ll2 | exact cl_clo (by assumption)) ?_ | decide))) ?_ | refine ArgsOk.bor rfl rfl (deref_flat (by first | exact cl_rs rfl | exact cl_rows | exact cl_setB rfl | exact cl_setG (cl_setB rfl) rfl | exact cl_appB cl_rows (cl_rs rfl) | exact cl_rl1 | exact cl_rl2)) (by decide) ?_ | refine give' rfl (by first | exact cl_rs rfl | exact cl_rows | exact cl_setB rfl | exact cl_setG (cl_setB rfl) rfl | exact cl_appB cl_rows (cl_rs rfl) | exact cl_rl1 | exact cl_rl2) (by decide) (by decide) ?_))), indexRu_fun cl l f caps hcaps p hl hf, nobor, (by exact Nat.le_of_ble_eq_true rfl), ?_⟩)
  ((conv => whnf); repeat' ((first | refine ⟨rfl, ?_⟩ | refine ⟨_, row_map (by assumption), ?_⟩ | refine ⟨_, (by exact some_rfl), ?_⟩ | refine ⟨_, wrap_ok (by omega) (by omega), ?_⟩ | refine ⟨_, wrap_u64 (by omega) (by omega), ?_⟩ | refine ⟨by decide, _, fdiv_half (by omega), ?_⟩ | (intro gg)); (conv => whnf)))
  rw [any_at]
  (exact ⟨[], by (repeat' (first | exact ArgsOk.nil _ | exact argsOk_cells (by assumption) | refine ArgsOk.same (by first | exact cl_b rfl | exact cl_list | exact cl_nil | exact cl_one | exact cl_ll1 | exact cl_ll2 | exact cl_clo (by assumption)) ?_ | refine ArgsOk.nilsl _ ?_ | refine ArgsOk.nilown _ _ (by decide) ?_ | refine ArgsOk.borp rfl rfl rfl (cl_row rfl) (by decide) ?_ | refine ArgsOk.borc (by %caps) ?_ | refine ArgsOk.bor rfl rfl (deref_flat (by first | exact cl_rs rfl | exact cl_rows | exact cl_setB rfl | exact cl_setG (cl_setB rfl) rfl | exact cl_appB cl_rows (cl_rs rfl) | exact cl_rl1 | exact cl_rl2)) (by decide) ?_ | refine give' rfl (by first | exact cl_rs rfl | exact cl_rows | exact cl_setB rfl | exact cl_setG (cl_setB rfl) rfl | exact cl_appB cl_rows (cl_rs rfl) | exact cl_rl1 | exact cl_rl2) (by decide) (by decide) ?_))⟩)
theorem containsVRu_fun (cl : Bool) (l : List Ru) (f : FuncId) (p : Ru → Bool) (hl : l.length ≤ 1000) (hf : ∀ x ∈ l, Fun Try.prog f [.c (.agg (Ru.row x))] [.c (.v (.bool (p x)))]) :
    Fun Try.prog 47 [.c (.sl cl (l.map Ru.row)), .c (.v (.func (.func f) #[] #[]))] [.c (.v (.bool (l.any p)))] := by
  have hI := indexVRu_fun cl l f p hl hf
  refine fun_x ck_slices_ContainsFunc_api_Rumor_api_Rumor rfl ?_
  ((conv => whnf); repeat' ((first | refine ⟨rfl, ?_⟩ | refine ⟨_, row_map (by assumption), ?_⟩ | refine ⟨_, (by exact some_rfl), ?_⟩ | refine ⟨_, wrap_ok (by omega) (by omega), ?_⟩ | refine ⟨_, wrap_u64 (by omega) (by omega), ?_⟩ | refine ⟨by decide, _, fdiv_half (by omega), ?_⟩ | (intro gg)); (conv => whnf)))
  (refine .inl ⟨_, _, false, [], (by (repeat' (first | exact ArgsOk.nil _ | exact argsOk_cells (by assumption) | refine ArgsOk.same (by first | exact cl_b rfl | exact cl_list | exact cl_nil | exact cl_one | exact cl_ll1 | exact cl_ll2 | exact cl_clo (by assumption)) ?_ | refine ArgsOk.nilsl _ ?_ | refine ArgsOk.nilown _ _ (by decide) ?_ | refine ArgsOk.borp rfl rfl rfl (cl_row rfl) (by decide) ?_ | refine ArgsOk.borc (by (repeat' (first | exact cap_n | refine cap_p rfl rfl rfl (by first | exact cl_row rfl | exact cl_r1 rfl | exact cl_r1b) ?_ ?_ | refine cap_m rfl (by decide) ?_ | refine cap_c (by first | exact cl_b rfl | exact cl_list | exact cl_nil | exact cl_one | exact cl_ll1 | exact cl_ll2 | exact cl_clo (by assumption)) ?_ | decide))) ?_ | refine ArgsOk.bor rfl rfl (deref_flat (by first | exact cl_rs rfl | exact cl_rows | exact cl_setB rfl | exact cl_setG (cl_setB rfl) rfl | exact cl_appB cl_rows (cl_rs rfl) | exact cl_rl1 | exact cl_rl2)) (by decide) ?_ | refine give' rfl (by first | exact cl_rs rfl | exact cl_rows | exact cl_setB rfl | exact cl_setG (cl_setB rfl) rfl | exact cl_appB cl_rows (cl_rs rfl) | exact cl_rl1 | exact cl_rl2) (by decide) (by decide) ?_))), hI, nobor, (by exact Nat.le_of_ble_eq_true rfl), ?_⟩)
  ((conv => whnf); repeat' ((first | refine ⟨rfl, ?_⟩ | refine ⟨_, row_map (by assumption), ?_⟩ | refine ⟨_, (by exact some_rfl), ?_⟩ | refine ⟨_, wrap_ok (by omega) (by omega), ?_⟩ | refine ⟨_, wrap_u64 (by omega) (by omega), ?_⟩ | refine ⟨by decide, _, fdiv_half (by omega), ?_⟩ | (intro gg)); (conv => whnf)))
  rw [any_at]
  (exact ⟨[], by (repeat' (first | exact ArgsOk.nil _ | exact argsOk_cells (by assumption) | refine ArgsOk.same (by first | exact cl_b rfl | exact cl_list | exact cl_nil | exact cl_one | exact cl_ll1 | exact cl_ll2 | exact cl_clo (by assumption)) ?_ | refine ArgsOk.nilsl _ ?_ | refine ArgsOk.nilown _ _ (by decide) ?_ | refine ArgsOk.borp rfl rfl rfl (cl_row rfl) (by decide) ?_ | refine ArgsOk.borc (by %caps) ?_ | refine ArgsOk.bor rfl rfl (deref_flat (by first | exact cl_rs rfl | exact cl_rows | exact cl_setB rfl | exact cl_setG (cl_setB rfl) rfl | exact cl_appB cl_rows (cl_rs rfl) | exact cl_rl1 | exact cl_rl2)) (by decide) ?_ | refine give' rfl (by first | exact cl_rs rfl | exact cl_rows | exact cl_setB rfl | exact cl_setG (cl_setB rfl) rfl | exact cl_appB cl_rows (cl_rs rfl) | exact cl_rl1 | exact cl_rl2) (by decide) (by decide) ?_))⟩)
/-- one cut out, in place -/
theorem delRu_fun (l : List Ru) (i : Nat) (hi : i < l.length) (hl : l.length ≤ 1000) : Fun Try.prog 43 [.o 55 6 (l.map Ru.row), .c (.v (.int .i64 i)), .c (.v (.int .i64 ((i : Int) + 1)))] [.o 55 6 ((l.eraseIdx i).map Ru.row)] := by
  have hlen : (l.map Ru.row).length = l.length := by simp
  refine fun_x ck_slices_Delete_api_Rumor_api_Rumor rfl ?_
  ((conv => whnf); repeat' ((first | refine ⟨rfl, ?_⟩ | refine ⟨_, row_map (by assumption), ?_⟩ | refine ⟨_, (by exact some_rfl), ?_⟩ | refine ⟨_, wrap_ok (by omega) (by omega), ?_⟩ | refine ⟨_, wrap_u64 (by omega) (by omega), ?_⟩ | refine ⟨by decide, _, fdiv_half (by omega), ?_⟩ | (intro gg)); (conv => whnf)))
  refine ⟨2, i, i + 1, rfl, ⟨_, rfl⟩, ⟨_, rfl⟩, by omega, by show i + 1 ≤ (l.map Ru.row).length; omega, ?_⟩
  refine ⟨_, l.length, .i64, rfl, rfl, by rw [← hlen]; rfl, by omega, by show l.length ≤ (l.map Ru.row).length; omega, ?_⟩
  ((conv => whnf); repeat' ((first | refine ⟨rfl, ?_⟩ | refine ⟨_, row_map (by assumption), ?_⟩ | refine ⟨_, (by exact some_rfl), ?_⟩ | refine ⟨_, wrap_ok (by omega) (by omega), ?_⟩ | refine ⟨_, wrap_u64 (by omega) (by omega), ?_⟩ | refine ⟨by decide, _, fdiv_half (by omega), ?_⟩ | (intro gg)); (conv => whnf)))
  rw [show (((i : Int) == (i : Int) + 1) = false) from by simp; omega]
  ((conv => whnf); repeat' ((first | refine ⟨rfl, ?_⟩ | refine ⟨_, row_map (by assumption), ?_⟩ | refine ⟨_, (by exact some_rfl), ?_⟩ | refine ⟨_, wrap_ok (by omega) (by omega), ?_⟩ | refine ⟨_, wrap_u64 (by omega) (by omega), ?_⟩ | refine ⟨by decide, _, fdiv_half (by omega), ?_⟩ | (intro gg)); (conv => whnf)))
  refine ⟨0, i, rfl, rfl, ⟨_, rfl⟩, by omega, by show i ≤ (l.map Ru.row).length; omega, rfl, ?_⟩
  ((conv => whnf); repeat' ((first | refine ⟨rfl, ?_⟩ | refine ⟨_, row_map (by assumption), ?_⟩ | refine ⟨_, (by exact some_rfl), ?_⟩ | refine ⟨_, wrap_ok (by omega) (by omega), ?_⟩ | refine ⟨_, wrap_u64 (by omega) (by omega), ?_⟩ | refine ⟨by decide, _, fdiv_half (by omega), ?_⟩ | (intro gg)); (conv => whnf)))
  refine ⟨i + 1, (l.map Ru.row).length, rfl, ⟨_, rfl⟩, rfl, by show i + 1 ≤ (l.map Ru.row).length; omega, by show (l.map Ru.row).length ≤ (l.map Ru.row).length; omega, rfl, ?_⟩
  ((conv => whnf); repeat' ((first | refine ⟨rfl, ?_⟩ | refine ⟨_, row_map (by assumption), ?_⟩ | refine ⟨_, (by exact some_rfl), ?_⟩ | refine ⟨_, wrap_ok (by omega) (by omega), ?_⟩ | refine ⟨_, wrap_u64 (by omega) (by omega), ?_⟩ | refine ⟨by decide, _, fdiv_half (by omega), ?_⟩ | (intro gg)); (conv => whnf)))
  refine ⟨by omega, by omega, by show (l.map Ru.row).length ≤ (l.map Ru.row).length; omega, ?_⟩
  ((conv => whnf); repeat' ((first | refine ⟨rfl, ?_⟩ | refine ⟨_, row_map (by assumption), ?_⟩ | refine ⟨_, (by exact some_rfl), ?_⟩ | refine ⟨_, wrap_ok (by omega) (by omega), ?_⟩ | refine ⟨_, wrap_u64 (by omega) (by omega), ?_⟩ | refine ⟨by decide, _, fdiv_half (by omega), ?_⟩ | (intro gg)); (conv => whnf)))
  have e2 : ((l.map Ru.row).take i ++ ((l.map Ru.row).drop (i + 1)).take ((l.map Ru.row).length - (i + 1)) ++ (l.map Ru.row).drop (i + ((l.map Ru.row).length - (i + 1)))).length = l.length := by
    simp only [List.length_append, List.length_take, List.length_drop, hlen]; omega
  refine ⟨i + ((l.map Ru.row).length - (i + 1)), (l.map Ru.row).length, rfl, ⟨_, rfl⟩, ⟨_, rfl⟩, by omega, ?_, rfl, by omega, ?_⟩
  · show 0 + (l.map Ru.row).length ≤ ((l.map Ru.row).take i ++ ((l.map Ru.row).drop (i + 1)).take ((l.map Ru.row).length - (i + 1)) ++ (l.map Ru.row).drop (i + ((l.map Ru.row).length - (i + 1)))).length
    rw [Nat.zero_add, hlen]; rw [hlen] at e2; exact Nat.le_of_eq e2.symm
  ((conv => whnf); repeat' ((first | refine ⟨rfl, ?_⟩ | refine ⟨_, row_map (by assumption), ?_⟩ | refine ⟨_, (by exact some_rfl), ?_⟩ | refine ⟨_, wrap_ok (by omega) (by omega), ?_⟩ | refine ⟨_, wrap_u64 (by omega) (by omega), ?_⟩ | refine ⟨by decide, _, fdiv_half (by omega), ?_⟩ | (intro gg)); (conv => whnf)))
  refine ⟨by omega, ?_, ?_⟩
  · show 0 + (l.map Ru.row).length ≤ ((l.map Ru.row).take i ++ ((l.map Ru.row).drop (i + 1)).take ((l.map Ru.row).length - (i + 1)) ++ (l.map Ru.row).drop (i + ((l.map Ru.row).length - (i + 1)))).length
    rw [Nat.zero_add, hlen]; rw [hlen] at e2; exact Nat.le_of_eq e2.symm
  ((conv => whnf); repeat' ((first | refine ⟨rfl, ?_⟩ | refine ⟨_, row_map (by assumption), ?_⟩ | refine ⟨_, (by exact some_rfl), ?_⟩ | refine ⟨_, wrap_ok (by omega) (by omega), ?_⟩ | refine ⟨_, wrap_u64 (by omega) (by omega), ?_⟩ | refine ⟨by decide, _, fdiv_half (by omega), ?_⟩ | (intro gg)); (conv => whnf)))
  refine ⟨[0], ret_osub rfl rfl rfl rfl rfl ?_ ?_ ?_⟩
  · refine Nat.le_trans ?_ (Nat.le_of_eq (congrArg List.length (List.append_assoc _ _ _)).symm)
    rw [List.length_append, List.length_take]
    refine Nat.le_trans (m := i + ((l.map Ru.row).length - (i + 1))) (by omega) (Nat.le_trans (Nat.le_min.2 ⟨by omega, ?_⟩) (Nat.le_add_right _ _))
    show _ ≤ ((l.map Ru.row).take i ++ ((l.map Ru.row).drop (i + 1)).take ((l.map Ru.row).length - (i + 1)) ++ (l.map Ru.row).drop (i + ((l.map Ru.row).length - (i + 1)))).length
    rw [hlen]; rw [hlen] at e2; rw [e2]; omega
  · repeat' (first | exact cl_rows | exact cr_repl rfl | apply cr_app | apply cr_take | apply cr_drop)
  · exact erase_rows hi
theorem deleteFRu_fun (l : List Ru) (f : FuncId) (caps : List V) (hcaps : ∀ u ∈ caps, Cl u) (p : Ru → Bool) (hl : l.length ≤ 1000) (hf : ∀ x ∈ l, Fun Try.prog f (.c (.agg (Ru.row x)) :: caps.map .c) [.c (.v (.bool (p x)))]) :
    Fun Try.prog 51 [.o 55 6 (l.map Ru.row), .c (.clo f caps)] [.o 55 6 ((keep p l).map Ru.row)] := by
  refine fun_x ck_slices_DeleteFunc_api_Rumor_api_Rumor rfl ?_
  ((conv => whnf); repeat' ((first | refine ⟨rfl, ?_⟩ | refine ⟨_, row_map (by assumption), ?_⟩ | refine ⟨_, (by exact some_rfl), ?_⟩ | refine ⟨_, wrap_ok (by omega) (by omega), ?_⟩ | refine ⟨_, wrap_u64 (by omega) (by omega), ?_⟩ | refine ⟨by decide, _, fdiv_half (by omega), ?_⟩ | (intro gg)); (conv => whnf)))
  (refine .inl ⟨_, _, true, [], (by (repeat' (first | exact ArgsOk.nil _ | exact argsOk_cells (by assumption) | refine ArgsOk.same (by first | exact cl_b rfl | exact cl_list | exact cl_nil | exact cl_one | exact cl_ll1 | exact cl_ll2 | exact cl_clo (by assumption)) ?_ | refine ArgsOk.nilsl _ ?_ | refine ArgsOk.nilown _ _ (by decide) ?_ | refine ArgsOk.borp rfl rfl rfl (cl_row rfl) (by decide) ?_ | refine ArgsOk.borc (by (repeat' (first | exact cap_n | refine cap_p rfl rfl rfl (by first | exact cl_row rfl | exact cl_r1 rfl | exact cl_r1b) ?_ ?_ | refine cap_m rfl (by decide) ?_ | refine cap_c (by first | exact cl_b rfl | exact cl_list | exact cl_nil | exact cl_one | exact cl_ll1 | exact cl_ll2 | exact cl_clo (by assumption)) ?_ | decide))) ?_ | refine ArgsOk.bor rfl rfl (deref_flat (by first | exact cl_rs rfl | exact cl_rows | exact cl_setB rfl | exact cl_setG (cl_setB rfl) rfl | exact cl_appB cl_rows (cl_rs rfl) | exact cl_rl1 | exact cl_rl2)) (by decide) ?_ | refine give' rfl (by first | exact cl_rs rfl | exact cl_rows | exact cl_setB rfl | exact cl_setG (cl_setB rfl) rfl | exact cl_appB cl_rows (cl_rs rfl) | exact cl_rl1 | exact cl_rl2) (by decide) (by decide) ?_))), indexRu_fun false l f caps hcaps p hl hf, (fun _ => by (first | exact flat_b rfl | exact flat_own | exact flat_own1 rfl | exact flat_own2 rfl)), (by exact Nat.le_of_ble_eq_true rfl), ?_⟩)
  rcases at_inv (p := p) (l := l) with ⟨h1, h2⟩ | ⟨k, hk, h1, h2, h3⟩
  · rw [h1, Pl.keep_all (p := p) (l := l) h2]
    ((conv => whnf); repeat' ((first | refine ⟨rfl, ?_⟩ | refine ⟨_, row_map (by assumption), ?_⟩ | refine ⟨_, (by exact some_rfl), ?_⟩ | refine ⟨_, wrap_ok (by omega) (by omega), ?_⟩ | refine ⟨_, wrap_u64 (by omega) (by omega), ?_⟩ | refine ⟨by decide, _, fdiv_half (by omega), ?_⟩ | (intro gg)); (conv => whnf)))
    (exact ⟨[0], by (repeat' (first | exact ArgsOk.nil _ | exact argsOk_cells (by assumption) | refine ArgsOk.same (by first | exact cl_b rfl | exact cl_list | exact cl_nil | exact cl_one | exact cl_ll1 | exact cl_ll2 | exact cl_clo (by assumption)) ?_ | refine ArgsOk.nilsl _ ?_ | refine ArgsOk.nilown _ _ (by decide) ?_ | refine ArgsOk.borp rfl rfl rfl (cl_row rfl) (by decide) ?_ | refine ArgsOk.borc (by %caps) ?_ | refine ArgsOk.bor rfl rfl (deref_flat (by first | exact cl_rs rfl | exact cl_rows | exact cl_setB rfl | exact cl_setG (cl_setB rfl) rfl | exact cl_appB cl_rows (cl_rs rfl) | exact cl_rl1 | exact cl_rl2)) (by decide) ?_ | refine give' rfl (by first | exact cl_rs rfl | exact cl_rows | exact cl_setB rfl | exact cl_setG (cl_setB rfl) rfl | exact cl_appB cl_rows (cl_rs rfl) | exact cl_rl1 | exact cl_rl2) (by decide) (by decide) ?_))⟩)
  · rw [h1]
    ((conv => whnf); repeat' ((first | refine ⟨rfl, ?_⟩ | refine ⟨_, row_map (by assumption), ?_⟩ | refine ⟨_, (by exact some_rfl), ?_⟩ | refine ⟨_, wrap_ok (by omega) (by omega), ?_⟩ | refine ⟨_, wrap_u64 (by omega) (by omega), ?_⟩ | refine ⟨by decide, _, fdiv_half (by omega), ?_⟩ | (intro gg)); (conv => whnf)))
    (refine ⟨[], none, {q : List Ru × Nat × Nat // Moved p l q.1 q.2.1 q.2.2}, [0, 1, 36, 37, 39, 40, 41], fun ⟨⟨l', i, j⟩, hm⟩ => [(5, .v (.int .i64 i)), (6, .v (.int .i64 j))], [], fun ⟨⟨l', i, j⟩, hm⟩ => [(0, ⟨0, 55, 6, l'.map Ru.row⟩)], fun ⟨⟨l', i, j⟩, hm⟩ => l.length - j, trivial, fun _ => ⟨trivial, fun _ => ⟨⟨(l, k, k + 1), Moved.start hk h2 h3⟩, by (repeat' (first | exact trivial | refine ⟨rfl, ?_⟩)), keptE_refl _ _, by (repeat' (first | exact trivial | refine ⟨rfl, ?_⟩)), keptH_refl _ _⟩⟩, fun ⟨⟨l', i, j⟩, hm⟩ => ?_⟩)
    ((conv => whnf); repeat' ((first | refine ⟨rfl, ?_⟩ | refine ⟨_, row_map (by assumption), ?_⟩ | refine ⟨_, (by exact some_rfl), ?_⟩ | refine ⟨_, wrap_ok (by omega) (by omega), ?_⟩ | refine ⟨_, wrap_u64 (by omega) (by omega), ?_⟩ | refine ⟨by decide, _, fdiv_half (by omega), ?_⟩ | (intro gg)); (conv => whnf)))
    have hm : Moved p l l' i j := hm
    have hlen : l'.length = l.length := hm.len
    (refine bIf_of (fun h => ?_) (fun h => ?_) <;> rw [h])
    · have hlt : j < l'.length := by have := of_decide_eq_true h; simpa using this
      ((conv => whnf); repeat' ((first | refine ⟨rfl, ?_⟩ | refine ⟨_, row_map (by assumption), ?_⟩ | refine ⟨_, (by exact some_rfl), ?_⟩ | refine ⟨_, wrap_ok (by omega) (by omega), ?_⟩ | refine ⟨_, wrap_u64 (by omega) (by omega), ?_⟩ | refine ⟨by decide, _, fdiv_half (by omega), ?_⟩ | (intro gg)); (conv => whnf)))
      refine ⟨j, _, rfl, row_map hlt, ?_⟩
      ((conv => whnf); repeat' ((first | refine ⟨rfl, ?_⟩ | refine ⟨_, row_map (by assumption), ?_⟩ | refine ⟨_, (by exact some_rfl), ?_⟩ | refine ⟨_, wrap_ok (by omega) (by omega), ?_⟩ | refine ⟨_, wrap_u64 (by omega) (by omega), ?_⟩ | refine ⟨by decide, _, fdiv_half (by omega), ?_⟩ | (intro gg)); (conv => whnf)))
      have hj : j < l.length := by omega
      have hx : l'[j] = l[j] := hm.behind j hj (Nat.le_refl _)
      rw [hx]
      (refine .inl ⟨_, _, false, [], (by (repeat' (first | exact ArgsOk.nil _ | exact argsOk_cells (by assumption) | refine ArgsOk.same (by first | exact cl_b rfl | exact cl_list | exact cl_nil | exact cl_one | exact cl_ll1 | exact cl_ll2 | exact cl_clo (by assumption)) ?_ | refine ArgsOk.nilsl _ ?_ | refine ArgsOk.nilown _ _ (by decide) ?_ | refine ArgsOk.borp rfl rfl rfl (cl_row rfl) (by decide) ?_ | refine ArgsOk.borc (by (repeat' (first | exact cap_n | refine cap_p rfl rfl rfl (by first | exact cl_row rfl | exact cl_r1 rfl | exact cl_r1b) ?_ ?_ | refine cap_m rfl (by decide) ?_ | refine cap_c (by first | exact cl_b rfl | exact cl_list | exact cl_nil | exact cl_one | exact cl_ll1 | exact cl_ll2 | exact cl_clo (by assumption)) ?_ | decide))) ?_ | refine ArgsOk.bor rfl rfl (deref_flat (by first | exact cl_rs rfl | exact cl_rows | exact cl_setB rfl | exact cl_setG (cl_setB rfl) rfl | exact cl_appB cl_rows (cl_rs rfl) | exact cl_rl1 | exact cl_rl2)) (by decide) ?_ | refine give' rfl (by first | exact cl_rs rfl | exact cl_rows | exact cl_setB rfl | exact cl_setG (cl_setB rfl) rfl | exact cl_appB cl_rows (cl_rs rfl) | exact cl_rl1 | exact cl_rl2) (by decide) (by decide) ?_))), hf _ (List.getElem_mem hj), nobor, (by exact Nat.le_of_ble_eq_true rfl), ?_⟩)
      ((conv => whnf); repeat' ((first | refine ⟨rfl, ?_⟩ | refine ⟨_, row_map (by assumption), ?_⟩ | refine ⟨_, (by exact some_rfl), ?_⟩ | refine ⟨_, wrap_ok (by omega) (by omega), ?_⟩ | refine ⟨_, wrap_u64 (by omega) (by omega), ?_⟩ | refine ⟨by decide, _, fdiv_half (by omega), ?_⟩ | (intro gg)); (conv => whnf)))
      (refine bIf_of (fun h4 => ?_) (fun h4 => ?_) <;> rw [h4])
      · have h4' : p l[j] = false := not_t h4
        have hi : i < l'.length := by have := hm.ij; omega
        ((conv => whnf); repeat' ((first | refine ⟨rfl, ?_⟩ | refine ⟨_, row_map (by assumption), ?_⟩ | refine ⟨_, (by exact some_rfl), ?_⟩ | refine ⟨_, wrap_ok (by omega) (by omega), ?_⟩ | refine ⟨_, wrap_u64 (by omega) (by omega), ?_⟩ | refine ⟨by decide, _, fdiv_half (by omega), ?_⟩ | (intro gg)); (conv => whnf)))
        refine ⟨i, _, rfl, row_map hi, ?_⟩
        ((conv => whnf); repeat' ((first | refine ⟨rfl, ?_⟩ | refine ⟨_, row_map (by assumption), ?_⟩ | refine ⟨_, (by exact some_rfl), ?_⟩ | refine ⟨_, wrap_ok (by omega) (by omega), ?_⟩ | refine ⟨_, wrap_u64 (by omega) (by omega), ?_⟩ | refine ⟨by decide, _, fdiv_half (by omega), ?_⟩ | (intro gg)); (conv => whnf)))
        have e : (l'.map Ru.row).set i (Ru.row l[j]) = (l'.set i l[j]).map Ru.row := List.map_set.symm
        exact ⟨none, trivial, fun gr => ⟨⟨(l'.set i l[j], i + 1, j + 1), hm.stays hj h4'⟩, by show l.length - (j + 1) < l.length - j; omega, by (repeat' (first | exact trivial | refine ⟨rfl, ?_⟩)), by (repeat' (first | exact trivial | refine ⟨rfl, ?_⟩)), ⟨congrArg (fun r => some (Ent.mk 0 55 6 r)) e, trivial⟩, by (repeat' (first | exact trivial | refine ⟨rfl, ?_⟩))⟩⟩
      · have h4' : p l[j] = true := not_f h4
        ((conv => whnf); repeat' ((first | refine ⟨rfl, ?_⟩ | refine ⟨_, row_map (by assumption), ?_⟩ | refine ⟨_, (by exact some_rfl), ?_⟩ | refine ⟨_, wrap_ok (by omega) (by omega), ?_⟩ | refine ⟨_, wrap_u64 (by omega) (by omega), ?_⟩ | refine ⟨by decide, _, fdiv_half (by omega), ?_⟩ | (intro gg)); (conv => whnf)))
        (exact ⟨none, trivial, fun _ => ⟨⟨(l', i, j + 1), hm.gone hj h4'⟩, by show l.length - (j + 1) < l.length - j; omega, by (repeat' (first | exact trivial | refine ⟨rfl, ?_⟩)), by (repeat' (first | exact trivial | refine ⟨rfl, ?_⟩)), by (repeat' (first | exact trivial | refine ⟨rfl, ?_⟩)), by (repeat' (first | exact trivial | refine ⟨rfl, ?_⟩))⟩⟩)
    · have hge : ¬ j < l'.length := by have := of_decide_eq_false h; simpa using this
      have hi : i ≤ l'.length := by have := hm.ij; have := hm.jl; omega
      ((conv => whnf); repeat' ((first | refine ⟨rfl, ?_⟩ | refine ⟨_, row_map (by assumption), ?_⟩ | refine ⟨_, (by exact some_rfl), ?_⟩ | refine ⟨_, wrap_ok (by omega) (by omega), ?_⟩ | refine ⟨_, wrap_u64 (by omega) (by omega), ?_⟩ | refine ⟨by decide, _, fdiv_half (by omega), ?_⟩ | (intro gg)); (conv => whnf)))
      refine ⟨1, i, (l'.map Ru.row).length, rfl, ⟨_, rfl⟩, rfl, by simpa using hi, Nat.le_refl _, ?_⟩
      ((conv => whnf); repeat' ((first | refine ⟨rfl, ?_⟩ | refine ⟨_, row_map (by assumption), ?_⟩ | refine ⟨_, (by exact some_rfl), ?_⟩ | refine ⟨_, wrap_ok (by omega) (by omega), ?_⟩ | refine ⟨_, wrap_u64 (by omega) (by omega), ?_⟩ | refine ⟨by decide, _, fdiv_half (by omega), ?_⟩ | (intro gg)); (conv => whnf)))
      refine ⟨by simpa using hi, Nat.le_refl _, ?_⟩
      ((conv => whnf); repeat' ((first | refine ⟨rfl, ?_⟩ | refine ⟨_, row_map (by assumption), ?_⟩ | refine ⟨_, (by exact some_rfl), ?_⟩ | refine ⟨_, wrap_ok (by omega) (by omega), ?_⟩ | refine ⟨_, wrap_u64 (by omega) (by omega), ?_⟩ | refine ⟨by decide, _, fdiv_half (by omega), ?_⟩ | (intro gg)); (conv => whnf)))
      refine ⟨0, 0, i, rfl, rfl, ⟨_, rfl⟩, Nat.zero_le _, ?_, rfl, rfl, fun g => ?_⟩
      · show i ≤ ((l'.map Ru.row).take i ++ List.replicate ((l'.map Ru.row).length - i) _ ++ (l'.map Ru.row).drop (l'.map Ru.row).length).length
        simp only [List.length_append, List.length_take, List.length_map, List.length_replicate]; omega
      ((conv => whnf); repeat' ((first | refine ⟨rfl, ?_⟩ | refine ⟨_, row_map (by assumption), ?_⟩ | refine ⟨_, (by exact some_rfl), ?_⟩ | refine ⟨_, wrap_ok (by omega) (by omega), ?_⟩ | refine ⟨_, wrap_u64 (by omega) (by omega), ?_⟩ | refine ⟨by decide, _, fdiv_half (by omega), ?_⟩ | (intro gg)); (conv => whnf)))
      refine ⟨[0], ret_own rfl rfl rfl rfl rfl cl_rows ?_⟩
      show ((l'.map Ru.row).take i ++ List.replicate ((l'.map Ru.row).length - i) _ ++ (l'.map Ru.row).drop (l'.map Ru.row).length).take i = (keep p l).map Ru.row
      rw [List.append_assoc, List.take_append_of_le_length (by simp; omega), List.take_take, Nat.min_self, ← hm.fin (by omega), List.map_take]
end Go.Proofs.Ytjhdlcmecbngkaa
/- Contracts of the functions of rumors: checking, putting, counting; the reference's too. -/
namespace Go.Proofs.Ytjhdlcmecbngkaa
open Go.RowKit Pl
set_option linter.unusedVariables false
def Ru.fits (r : Ru) : Prop := r.m.ok
theorem mOne_fun (m : Mb) (hm : m.ok) : Fun Try.prog 38 [.c (.agg m.row)] [.c (.v (.int .i64 m.err))] := by
  refine fun_x ck_member_One rfl ?_
  ((conv => whnf); repeat' ((first | refine ⟨rfl, ?_⟩ | refine ⟨_, row_map (by assumption), ?_⟩ | refine ⟨_, (by exact some_rfl), ?_⟩ | refine ⟨_, wrap_ok (by omega) (by omega), ?_⟩ | refine ⟨_, wrap_u64 (by omega) (by omega), ?_⟩ | refine ⟨by decide, _, fdiv_half (by omega), ?_⟩ | (intro gg)); (conv => whnf)))
  (refine .inl ⟨_, _, false, [], (by (repeat' (first | exact ArgsOk.nil _ | exact argsOk_cells (by assumption) | refine ArgsOk.same (by first | exact cl_b rfl | exact cl_list | exact cl_nil | exact cl_one | exact cl_ll1 | exact cl_ll2 | exact cl_clo (by assumption)) ?_ | refine ArgsOk.nilsl _ ?_ | refine ArgsOk.nilown _ _ (by decide) ?_ | refine ArgsOk.borp rfl rfl rfl (cl_row rfl) (by decide) ?_ | refine ArgsOk.borc (by (repeat' (first | exact cap_n | refine cap_p rfl rfl rfl (by first | exact cl_row rfl | exact cl_r1 rfl | exact cl_r1b) ?_ ?_ | refine cap_m rfl (by decide) ?_ | refine cap_c (by first | exact cl_b rfl | exact cl_list | exact cl_nil | exact cl_one | exact cl_ll1 | exact cl_ll2 | exact cl_clo (by assumption)) ?_ | decide))) ?_ | refine ArgsOk.bor rfl rfl (deref_flat (by first | exact cl_rs rfl | exact cl_rows | exact cl_setB rfl | exact cl_setG (cl_setB rfl) rfl | exact cl_appB cl_rows (cl_rs rfl) | exact cl_rl1 | exact cl_rl2)) (by decide) ?_ | refine give' rfl (by first | exact cl_rs rfl | exact cl_rows | exact cl_setB rfl | exact cl_setG (cl_setB rfl) rfl | exact cl_appB cl_rows (cl_rs rfl) | exact cl_rl1 | exact cl_rl2) (by decide) (by decide) ?_))), mone_fun m hm, nobor, (by exact Nat.le_of_ble_eq_true rfl), ?_⟩)
  ((conv => whnf); repeat' ((first | refine ⟨rfl, ?_⟩ | refine ⟨_, row_map (by assumption), ?_⟩ | refine ⟨_, (by exact some_rfl), ?_⟩ | refine ⟨_, wrap_ok (by omega) (by omega), ?_⟩ | refine ⟨_, wrap_u64 (by omega) (by omega), ?_⟩ | refine ⟨by decide, _, fdiv_half (by omega), ?_⟩ | (intro gg)); (conv => whnf)))
  (exact ⟨[], by (repeat' (first | exact ArgsOk.nil _ | exact argsOk_cells (by assumption) | refine ArgsOk.same (by first | exact cl_b rfl | exact cl_list | exact cl_nil | exact cl_one | exact cl_ll1 | exact cl_ll2 | exact cl_clo (by assumption)) ?_ | refine ArgsOk.nilsl _ ?_ | refine ArgsOk.nilown _ _ (by decide) ?_ | refine ArgsOk.borp rfl rfl rfl (cl_row rfl) (by decide) ?_ | refine ArgsOk.borc (by %caps) ?_ | refine ArgsOk.bor rfl rfl (deref_flat (by first | exact cl_rs rfl | exact cl_rows | exact cl_setB rfl | exact cl_setG (cl_setB rfl) rfl | exact cl_appB cl_rows (cl_rs rfl) | exact cl_rl1 | exact cl_rl2)) (by decide) ?_ | refine give' rfl (by first | exact cl_rs rfl | exact cl_rows | exact cl_setB rfl | exact cl_setG (cl_setB rfl) rfl | exact cl_appB cl_rows (cl_rs rfl) | exact cl_rl1 | exact cl_rl2) (by decide) (by decide) ?_))⟩)
theorem ruBad_fun (r : Ru) : Fun Try.prog 48 [.c (.agg r.row)] [.c (.v (.bool r.bad))] := by
  refine fun_x ck_rumor_Check_1 rfl ?_
  ((conv => whnf); repeat' ((first | refine ⟨rfl, ?_⟩ | refine ⟨_, row_map (by assumption), ?_⟩ | refine ⟨_, (by exact some_rfl), ?_⟩ | refine ⟨_, wrap_ok (by omega) (by omega), ?_⟩ | refine ⟨_, wrap_u64 (by omega) (by omega), ?_⟩ | refine ⟨by decide, _, fdiv_half (by omega), ?_⟩ | (intro gg)); (conv => whnf)))
  (refine bIf_of (fun h => ?_) (fun h => ?_) <;> rw [h])
  · have e : r.bad = true := by have := of_decide_eq_true h; simp [Ru.bad, wi]; omega
    ((conv => whnf); repeat' ((first | refine ⟨rfl, ?_⟩ | refine ⟨_, row_map (by assumption), ?_⟩ | refine ⟨_, (by exact some_rfl), ?_⟩ | refine ⟨_, wrap_ok (by omega) (by omega), ?_⟩ | refine ⟨_, wrap_u64 (by omega) (by omega), ?_⟩ | refine ⟨by decide, _, fdiv_half (by omega), ?_⟩ | (intro gg)); (conv => whnf)))
    rw [e]
    (exact ⟨[], by (repeat' (first | exact ArgsOk.nil _ | exact argsOk_cells (by assumption) | refine ArgsOk.same (by first | exact cl_b rfl | exact cl_list | exact cl_nil | exact cl_one | exact cl_ll1 | exact cl_ll2 | exact cl_clo (by assumption)) ?_ | refine ArgsOk.nilsl _ ?_ | refine ArgsOk.nilown _ _ (by decide) ?_ | refine ArgsOk.borp rfl rfl rfl (cl_row rfl) (by decide) ?_ | refine ArgsOk.borc (by %caps) ?_ | refine ArgsOk.bor rfl rfl (deref_flat (by first | exact cl_rs rfl | exact cl_rows | exact cl_setB rfl | exact cl_setG (cl_setB rfl) rfl | exact cl_appB cl_rows (cl_rs rfl) | exact cl_rl1 | exact cl_rl2)) (by decide) ?_ | refine give' rfl (by first | exact cl_rs rfl | exact cl_rows | exact cl_setB rfl | exact cl_setG (cl_setB rfl) rfl | exact cl_appB cl_rows (cl_rs rfl) | exact cl_rl1 | exact cl_rl2) (by decide) (by decide) ?_))⟩)
  · have e : r.bad = decide (100 < r.t) := by
      have h0 : 0 ≤ r.t := by have := of_decide_eq_false h; omega
      unfold Ru.bad wi
      rw [decide_eq_true h0, Bool.true_and]
      by_cases q : 100 < r.t
      · rw [decide_eq_true q, decide_eq_false (by omega)]; rfl
      · rw [decide_eq_false q, decide_eq_true (by omega)]; rfl
    ((conv => whnf); repeat' ((first | refine ⟨rfl, ?_⟩ | refine ⟨_, row_map (by assumption), ?_⟩ | refine ⟨_, (by exact some_rfl), ?_⟩ | refine ⟨_, wrap_ok (by omega) (by omega), ?_⟩ | refine ⟨_, wrap_u64 (by omega) (by omega), ?_⟩ | refine ⟨by decide, _, fdiv_half (by omega), ?_⟩ | (intro gg)); (conv => whnf)))
    rw [e]
    (exact ⟨[], by (repeat' (first | exact ArgsOk.nil _ | exact argsOk_cells (by assumption) | refine ArgsOk.same (by first | exact cl_b rfl | exact cl_list | exact cl_nil | exact cl_one | exact cl_ll1 | exact cl_ll2 | exact cl_clo (by assumption)) ?_ | refine ArgsOk.nilsl _ ?_ | refine ArgsOk.nilown _ _ (by decide) ?_ | refine ArgsOk.borp rfl rfl rfl (cl_row rfl) (by decide) ?_ | refine ArgsOk.borc (by %caps) ?_ | refine ArgsOk.bor rfl rfl (deref_flat (by first | exact cl_rs rfl | exact cl_rows | exact cl_setB rfl | exact cl_setG (cl_setB rfl) rfl | exact cl_appB cl_rows (cl_rs rfl) | exact cl_rl1 | exact cl_rl2)) (by decide) ?_ | refine give' rfl (by first | exact cl_rs rfl | exact cl_rows | exact cl_setB rfl | exact cl_setG (cl_setB rfl) rfl | exact cl_appB cl_rows (cl_rs rfl) | exact cl_rl1 | exact cl_rl2) (by decide) (by decide) ?_))⟩)
theorem ruCheck_fun (cl : Bool) (l : List Ru) (hl : l.length ≤ 9223372036854775807) (hw : ∀ r ∈ l, r.m.ok) : Fun Try.prog 18 [.c (.sl cl (l.map Ru.row))] [.c (.v (.int .i64 (ckRu l)))] := by
  refine fun_x ck_rumor_Check rfl ?_
  ((conv => whnf); repeat' ((first | refine ⟨rfl, ?_⟩ | refine ⟨_, row_map (by assumption), ?_⟩ | refine ⟨_, (by exact some_rfl), ?_⟩ | refine ⟨_, wrap_ok (by omega) (by omega), ?_⟩ | refine ⟨_, wrap_u64 (by omega) (by omega), ?_⟩ | refine ⟨by decide, _, fdiv_half (by omega), ?_⟩ | (intro gg)); (conv => whnf)))
  rw [List.length_map]
  (refine bIf_of (fun h => ?_) (fun h => ?_) <;> rw [h])
  · have h1 : 20 < l.length := (by have := of_decide_eq_true h; omega)
    ((conv => whnf); repeat' ((first | refine ⟨rfl, ?_⟩ | refine ⟨_, row_map (by assumption), ?_⟩ | refine ⟨_, (by exact some_rfl), ?_⟩ | refine ⟨_, wrap_ok (by omega) (by omega), ?_⟩ | refine ⟨_, wrap_u64 (by omega) (by omega), ?_⟩ | refine ⟨by decide, _, fdiv_half (by omega), ?_⟩ | (intro gg)); (conv => whnf)))
    rw [ckRu_many h1]
    (exact ⟨[], by (repeat' (first | exact ArgsOk.nil _ | exact argsOk_cells (by assumption) | refine ArgsOk.same (by first | exact cl_b rfl | exact cl_list | exact cl_nil | exact cl_one | exact cl_ll1 | exact cl_ll2 | exact cl_clo (by assumption)) ?_ | refine ArgsOk.nilsl _ ?_ | refine ArgsOk.nilown _ _ (by decide) ?_ | refine ArgsOk.borp rfl rfl rfl (cl_row rfl) (by decide) ?_ | refine ArgsOk.borc (by %caps) ?_ | refine ArgsOk.bor rfl rfl (deref_flat (by first | exact cl_rs rfl | exact cl_rows | exact cl_setB rfl | exact cl_setG (cl_setB rfl) rfl | exact cl_appB cl_rows (cl_rs rfl) | exact cl_rl1 | exact cl_rl2)) (by decide) ?_ | refine give' rfl (by first | exact cl_rs rfl | exact cl_rows | exact cl_setB rfl | exact cl_setG (cl_setB rfl) rfl | exact cl_appB cl_rows (cl_rs rfl) | exact cl_rl1 | exact cl_rl2) (by decide) (by decide) ?_))⟩)
  · have h1 : ¬ 20 < l.length := (by have := of_decide_eq_false h; omega)
    ((conv => whnf); repeat' ((first | refine ⟨rfl, ?_⟩ | refine ⟨_, row_map (by assumption), ?_⟩ | refine ⟨_, (by exact some_rfl), ?_⟩ | refine ⟨_, wrap_ok (by omega) (by omega), ?_⟩ | refine ⟨_, wrap_u64 (by omega) (by omega), ?_⟩ | refine ⟨by decide, _, fdiv_half (by omega), ?_⟩ | (intro gg)); (conv => whnf)))
    rename Nat => g0
    (refine ⟨[], none, {q : Nat × List (ByteArray × V) // q.1 ≤ l.length ∧ (∀ j, (h : j < l.length) → j < q.1 → (l[j]).err = 0) ∧ Names q.2 ((l.take q.1).map Ru.nm)}, [0, 3, 11, 12], fun ⟨⟨k, E⟩, hk, h0, hE⟩ => [(13, .v (.int .i64 k))], [], fun ⟨⟨k, E⟩, hk, h0, hE⟩ => [(160, ⟨g0, .q (mapI (ents E)), 0, []⟩)], fun ⟨⟨k, E⟩, hk, h0, hE⟩ => l.length - k, trivial, fun _ => ⟨trivial, fun _ => ⟨⟨(0, []), Nat.zero_le _, fun j _ h => absurd h (Nat.not_lt_zero _), Names.nil⟩, by (repeat' (first | exact trivial | refine ⟨rfl, ?_⟩)), keptE_refl _ _, by (repeat' (first | exact trivial | refine ⟨rfl, ?_⟩)), keptH_refl _ _⟩⟩, fun ⟨⟨k, E⟩, hk, h0, hE⟩ => ?_⟩)
    ((conv => whnf); repeat' ((first | refine ⟨rfl, ?_⟩ | refine ⟨_, row_map (by assumption), ?_⟩ | refine ⟨_, (by exact some_rfl), ?_⟩ | refine ⟨_, wrap_ok (by omega) (by omega), ?_⟩ | refine ⟨_, wrap_u64 (by omega) (by omega), ?_⟩ | refine ⟨by decide, _, fdiv_half (by omega), ?_⟩ | (intro gg)); (conv => whnf)))
    (refine bIf_of (fun h2 => ?_) (fun h2 => ?_) <;> rw [h2])
    · have hlt : k < l.length := by have := of_decide_eq_true h2; simpa using this
      ((conv => whnf); repeat' ((first | refine ⟨rfl, ?_⟩ | refine ⟨_, row_map (by assumption), ?_⟩ | refine ⟨_, (by exact some_rfl), ?_⟩ | refine ⟨_, wrap_ok (by omega) (by omega), ?_⟩ | refine ⟨_, wrap_u64 (by omega) (by omega), ?_⟩ | refine ⟨by decide, _, fdiv_half (by omega), ?_⟩ | (intro gg)); (conv => whnf)))
      refine ⟨k, _, rfl, row_map hlt, ?_⟩
      ((conv => whnf); repeat' ((first | refine ⟨rfl, ?_⟩ | refine ⟨_, row_map (by assumption), ?_⟩ | refine ⟨_, (by exact some_rfl), ?_⟩ | refine ⟨_, wrap_ok (by omega) (by omega), ?_⟩ | refine ⟨_, wrap_u64 (by omega) (by omega), ?_⟩ | refine ⟨by decide, _, fdiv_half (by omega), ?_⟩ | (intro gg)); (conv => whnf)))
      (refine .inl ⟨_, _, false, [], (by (repeat' (first | exact ArgsOk.nil _ | exact argsOk_cells (by assumption) | refine ArgsOk.same (by first | exact cl_b rfl | exact cl_list | exact cl_nil | exact cl_one | exact cl_ll1 | exact cl_ll2 | exact cl_clo (by assumption)) ?_ | refine ArgsOk.nilsl _ ?_ | refine ArgsOk.nilown _ _ (by decide) ?_ | refine ArgsOk.borp rfl rfl rfl (cl_row rfl) (by decide) ?_ | refine ArgsOk.borc (by (repeat' (first | exact cap_n | refine cap_p rfl rfl rfl (by first | exact cl_row rfl | exact cl_r1 rfl | exact cl_r1b) ?_ ?_ | refine cap_m rfl (by decide) ?_ | refine cap_c (by first | exact cl_b rfl | exact cl_list | exact cl_nil | exact cl_one | exact cl_ll1 | exact cl_ll2 | exact cl_clo (by assumption)) ?_ | decide))) ?_ | refine ArgsOk.bor rfl rfl (deref_flat (by first | exact cl_rs rfl | exact cl_rows | exact cl_setB rfl | exact cl_setG (cl_setB rfl) rfl | exact cl_appB cl_rows (cl_rs rfl) | exact cl_rl1 | exact cl_rl2)) (by decide) ?_ | refine give' rfl (by first | exact cl_rs rfl | exact cl_rows | exact cl_setB rfl | exact cl_setG (cl_setB rfl) rfl | exact cl_appB cl_rows (cl_rs rfl) | exact cl_rl1 | exact cl_rl2) (by decide) (by decide) ?_))), mOne_fun (l[k]).m (hw _ (List.getElem_mem hlt)), nobor, (by exact Nat.le_of_ble_eq_true rfl), ?_⟩)
      ((conv => whnf); repeat' ((first | refine ⟨rfl, ?_⟩ | refine ⟨_, row_map (by assumption), ?_⟩ | refine ⟨_, (by exact some_rfl), ?_⟩ | refine ⟨_, wrap_ok (by omega) (by omega), ?_⟩ | refine ⟨_, wrap_u64 (by omega) (by omega), ?_⟩ | refine ⟨by decide, _, fdiv_half (by omega), ?_⟩ | (intro gg)); (conv => whnf)))
      (refine bIf_of (fun h3 => ?_) (fun h3 => ?_) <;> rw [h3])
      · ((conv => whnf); repeat' ((first | refine ⟨rfl, ?_⟩ | refine ⟨_, row_map (by assumption), ?_⟩ | refine ⟨_, (by exact some_rfl), ?_⟩ | refine ⟨_, wrap_ok (by omega) (by omega), ?_⟩ | refine ⟨_, wrap_u64 (by omega) (by omega), ?_⟩ | refine ⟨by decide, _, fdiv_half (by omega), ?_⟩ | (intro gg)); (conv => whnf)))
        have e : ckRu l = l[k].m.err := by
          have e1 := firstErr_at (e := Ru.err) hlt h0 (by simpa [Ru.err] using h3)
          rw [ckRu_each h1 (by rw [e1]; simpa [Ru.err] using h3), e1]; rfl
        rw [e]
        (exact ⟨[], by (repeat' (first | exact ArgsOk.nil _ | exact argsOk_cells (by assumption) | refine ArgsOk.same (by first | exact cl_b rfl | exact cl_list | exact cl_nil | exact cl_one | exact cl_ll1 | exact cl_ll2 | exact cl_clo (by assumption)) ?_ | refine ArgsOk.nilsl _ ?_ | refine ArgsOk.nilown _ _ (by decide) ?_ | refine ArgsOk.borp rfl rfl rfl (cl_row rfl) (by decide) ?_ | refine ArgsOk.borc (by %caps) ?_ | refine ArgsOk.bor rfl rfl (deref_flat (by first | exact cl_rs rfl | exact cl_rows | exact cl_setB rfl | exact cl_setG (cl_setB rfl) rfl | exact cl_appB cl_rows (cl_rs rfl) | exact cl_rl1 | exact cl_rl2)) (by decide) ?_ | refine give' rfl (by first | exact cl_rs rfl | exact cl_rows | exact cl_setB rfl | exact cl_setG (cl_setB rfl) rfl | exact cl_appB cl_rows (cl_rs rfl) | exact cl_rl1 | exact cl_rl2) (by decide) (by decide) ?_))⟩)
      · ((conv => whnf); repeat' ((first | refine ⟨rfl, ?_⟩ | refine ⟨_, row_map (by assumption), ?_⟩ | refine ⟨_, (by exact some_rfl), ?_⟩ | refine ⟨_, wrap_ok (by omega) (by omega), ?_⟩ | refine ⟨_, wrap_u64 (by omega) (by omega), ?_⟩ | refine ⟨by decide, _, fdiv_half (by omega), ?_⟩ | (intro gg)); (conv => whnf)))
        refine ⟨_, _, rfl, cl_b rfl, findE_str _ _ _, ?_⟩
        ((conv => whnf); repeat' ((first | refine ⟨rfl, ?_⟩ | refine ⟨_, row_map (by assumption), ?_⟩ | refine ⟨_, (by exact some_rfl), ?_⟩ | refine ⟨_, wrap_ok (by omega) (by omega), ?_⟩ | refine ⟨_, wrap_u64 (by omega) (by omega), ?_⟩ | refine ⟨by decide, _, fdiv_half (by omega), ?_⟩ | (intro gg)); (conv => whnf)))
        have e := putE_str E l[k].m.n (.v (.bool true))
        have hE' : Names (put E l[k].m.n (.v (.bool true))) ((l.take (k + 1)).map Ru.nm) := by
          rw [List.take_add_one, List.getElem?_eq_getElem hlt, List.map_append]
          exact hE.put _ _ (cl_b rfl)
        (exact ⟨none, trivial, fun gr => ⟨⟨(k + 1, put E l[k].m.n (.v (.bool true))), by dsimp only; omega, up1 (p := fun j h => (l[j]).err = 0) h0 (fun _ => by simpa [Ru.err] using h3), hE'⟩, by show l.length - (k + 1) < l.length - k; omega, by (repeat' (first | exact trivial | refine ⟨rfl, ?_⟩)), by (repeat' (first | exact trivial | refine ⟨rfl, ?_⟩)), ⟨congrArg (fun x => some (Ent.mk g0 (.q (mapI x)) 0 [])) e, trivial⟩, by (repeat' (first | exact trivial | refine ⟨rfl, ?_⟩))⟩⟩)
    · have hge : ¬ k < l.length := by have := of_decide_eq_false h2; simpa using this
      have hz := firstErr_zero (e := Ru.err) (l := l) (fun i hi => h0 i hi (by dsimp only; omega))
      rw [List.take_of_length_le (by dsimp only; omega)] at hE
      have hE : Names E (l.map Ru.nm) := hE
      have hc := containsVRu_fun cl l 48 Ru.bad (by omega) (fun x _ => ruBad_fun x)
      ((conv => whnf); repeat' ((first | refine ⟨rfl, ?_⟩ | refine ⟨_, row_map (by assumption), ?_⟩ | refine ⟨_, (by exact some_rfl), ?_⟩ | refine ⟨_, wrap_ok (by omega) (by omega), ?_⟩ | refine ⟨_, wrap_u64 (by omega) (by omega), ?_⟩ | refine ⟨by decide, _, fdiv_half (by omega), ?_⟩ | (intro gg)); (conv => whnf)))
      (refine .inl ⟨_, _, false, [], (by (repeat' (first | exact ArgsOk.nil _ | exact argsOk_cells (by assumption) | refine ArgsOk.same (by first | exact cl_b rfl | exact cl_list | exact cl_nil | exact cl_one | exact cl_ll1 | exact cl_ll2 | exact cl_clo (by assumption)) ?_ | refine ArgsOk.nilsl _ ?_ | refine ArgsOk.nilown _ _ (by decide) ?_ | refine ArgsOk.borp rfl rfl rfl (cl_row rfl) (by decide) ?_ | refine ArgsOk.borc (by (repeat' (first | exact cap_n | refine cap_p rfl rfl rfl (by first | exact cl_row rfl | exact cl_r1 rfl | exact cl_r1b) ?_ ?_ | refine cap_m rfl (by decide) ?_ | refine cap_c (by first | exact cl_b rfl | exact cl_list | exact cl_nil | exact cl_one | exact cl_ll1 | exact cl_ll2 | exact cl_clo (by assumption)) ?_ | decide))) ?_ | refine ArgsOk.bor rfl rfl (deref_flat (by first | exact cl_rs rfl | exact cl_rows | exact cl_setB rfl | exact cl_setG (cl_setB rfl) rfl | exact cl_appB cl_rows (cl_rs rfl) | exact cl_rl1 | exact cl_rl2)) (by decide) ?_ | refine give' rfl (by first | exact cl_rs rfl | exact cl_rows | exact cl_setB rfl | exact cl_setG (cl_setB rfl) rfl | exact cl_appB cl_rows (cl_rs rfl) | exact cl_rl1 | exact cl_rl2) (by decide) (by decide) ?_))), hc, nobor, (by exact Nat.le_of_ble_eq_true rfl), ?_⟩)
      ((conv => whnf); repeat' ((first | refine ⟨rfl, ?_⟩ | refine ⟨_, row_map (by assumption), ?_⟩ | refine ⟨_, (by exact some_rfl), ?_⟩ | refine ⟨_, wrap_ok (by omega) (by omega), ?_⟩ | refine ⟨_, wrap_u64 (by omega) (by omega), ?_⟩ | refine ⟨by decide, _, fdiv_half (by omega), ?_⟩ | (intro gg)); (conv => whnf)))
      (refine bIf_of (fun h3 => ?_) (fun h3 => ?_) <;> rw [h3])
      · ((conv => whnf); repeat' ((first | refine ⟨rfl, ?_⟩ | refine ⟨_, row_map (by assumption), ?_⟩ | refine ⟨_, (by exact some_rfl), ?_⟩ | refine ⟨_, wrap_ok (by omega) (by omega), ?_⟩ | refine ⟨_, wrap_u64 (by omega) (by omega), ?_⟩ | refine ⟨by decide, _, fdiv_half (by omega), ?_⟩ | (intro gg)); (conv => whnf)))
        rw [ckRu_rng h1 hz h3]
        (exact ⟨[], by (repeat' (first | exact ArgsOk.nil _ | exact argsOk_cells (by assumption) | refine ArgsOk.same (by first | exact cl_b rfl | exact cl_list | exact cl_nil | exact cl_one | exact cl_ll1 | exact cl_ll2 | exact cl_clo (by assumption)) ?_ | refine ArgsOk.nilsl _ ?_ | refine ArgsOk.nilown _ _ (by decide) ?_ | refine ArgsOk.borp rfl rfl rfl (cl_row rfl) (by decide) ?_ | refine ArgsOk.borc (by %caps) ?_ | refine ArgsOk.bor rfl rfl (deref_flat (by first | exact cl_rs rfl | exact cl_rows | exact cl_setB rfl | exact cl_setG (cl_setB rfl) rfl | exact cl_appB cl_rows (cl_rs rfl) | exact cl_rl1 | exact cl_rl2)) (by decide) ?_ | refine give' rfl (by first | exact cl_rs rfl | exact cl_rows | exact cl_setB rfl | exact cl_setG (cl_setB rfl) rfl | exact cl_appB cl_rows (cl_rs rfl) | exact cl_rl1 | exact cl_rl2) (by decide) (by decide) ?_))⟩)
      · ((conv => whnf); repeat' ((first | refine ⟨rfl, ?_⟩ | refine ⟨_, row_map (by assumption), ?_⟩ | refine ⟨_, (by exact some_rfl), ?_⟩ | refine ⟨_, wrap_ok (by omega) (by omega), ?_⟩ | refine ⟨_, wrap_u64 (by omega) (by omega), ?_⟩ | refine ⟨by decide, _, fdiv_half (by omega), ?_⟩ | (intro gg)); (conv => whnf)))
        refine ⟨_, rfl, ?_⟩
        ((conv => whnf); repeat' ((first | refine ⟨rfl, ?_⟩ | refine ⟨_, row_map (by assumption), ?_⟩ | refine ⟨_, (by exact some_rfl), ?_⟩ | refine ⟨_, wrap_ok (by omega) (by omega), ?_⟩ | refine ⟨_, wrap_u64 (by omega) (by omega), ?_⟩ | refine ⟨by decide, _, fdiv_half (by omega), ?_⟩ | (intro gg)); (conv => whnf)))
        rw [ents_len, List.length_map]
        have ha := hE.all
        have hle := hE.le
        rw [List.length_map] at ha hle
        (refine bIf_of (fun h4 => ?_) (fun h4 => ?_) <;> rw [h4])
        · have h4' : E.length < l.length := (by have := of_decide_eq_true h4; omega)
          ((conv => whnf); repeat' ((first | refine ⟨rfl, ?_⟩ | refine ⟨_, row_map (by assumption), ?_⟩ | refine ⟨_, (by exact some_rfl), ?_⟩ | refine ⟨_, wrap_ok (by omega) (by omega), ?_⟩ | refine ⟨_, wrap_u64 (by omega) (by omega), ?_⟩ | refine ⟨by decide, _, fdiv_half (by omega), ?_⟩ | (intro gg)); (conv => whnf)))
          rw [ckRu_two h1 hz h3 (fun q => by have := ha.2 q; omega)]
          (exact ⟨[], by (repeat' (first | exact ArgsOk.nil _ | exact argsOk_cells (by assumption) | refine ArgsOk.same (by first | exact cl_b rfl | exact cl_list | exact cl_nil | exact cl_one | exact cl_ll1 | exact cl_ll2 | exact cl_clo (by assumption)) ?_ | refine ArgsOk.nilsl _ ?_ | refine ArgsOk.nilown _ _ (by decide) ?_ | refine ArgsOk.borp rfl rfl rfl (cl_row rfl) (by decide) ?_ | refine ArgsOk.borc (by %caps) ?_ | refine ArgsOk.bor rfl rfl (deref_flat (by first | exact cl_rs rfl | exact cl_rows | exact cl_setB rfl | exact cl_setG (cl_setB rfl) rfl | exact cl_appB cl_rows (cl_rs rfl) | exact cl_rl1 | exact cl_rl2)) (by decide) ?_ | refine give' rfl (by first | exact cl_rs rfl | exact cl_rows | exact cl_setB rfl | exact cl_setG (cl_setB rfl) rfl | exact cl_appB cl_rows (cl_rs rfl) | exact cl_rl1 | exact cl_rl2) (by decide) (by decide) ?_))⟩)
        · have h4' : ¬ E.length < l.length := (by have := of_decide_eq_false h4; omega)
          ((conv => whnf); repeat' ((first | refine ⟨rfl, ?_⟩ | refine ⟨_, row_map (by assumption), ?_⟩ | refine ⟨_, (by exact some_rfl), ?_⟩ | refine ⟨_, wrap_ok (by omega) (by omega), ?_⟩ | refine ⟨_, wrap_u64 (by omega) (by omega), ?_⟩ | refine ⟨by decide, _, fdiv_half (by omega), ?_⟩ | (intro gg)); (conv => whnf)))
          rw [ckRu_ok h1 hz h3 (ha.1 (by omega))]
          (exact ⟨[], by (repeat' (first | exact ArgsOk.nil _ | exact argsOk_cells (by assumption) | refine ArgsOk.same (by first | exact cl_b rfl | exact cl_list | exact cl_nil | exact cl_one | exact cl_ll1 | exact cl_ll2 | exact cl_clo (by assumption)) ?_ | refine ArgsOk.nilsl _ ?_ | refine ArgsOk.nilown _ _ (by decide) ?_ | refine ArgsOk.borp rfl rfl rfl (cl_row rfl) (by decide) ?_ | refine ArgsOk.borc (by %caps) ?_ | refine ArgsOk.bor rfl rfl (deref_flat (by first | exact cl_rs rfl | exact cl_rows | exact cl_setB rfl | exact cl_setG (cl_setB rfl) rfl | exact cl_appB cl_rows (cl_rs rfl) | exact cl_rl1 | exact cl_rl2)) (by decide) ?_ | refine give' rfl (by first | exact cl_rs rfl | exact cl_rows | exact cl_setB rfl | exact cl_setG (cl_setB rfl) rfl | exact cl_appB cl_rows (cl_rs rfl) | exact cl_rl1 | exact cl_rl2) (by decide) (by decide) ?_))⟩)
theorem rruCheck_fun (cl : Bool) (l : List Ru) (hl : l.length ≤ 9223372036854775807) (hw : ∀ r ∈ l, r.m.ok) : Fun Try.prog 14 [.c (.sl cl (l.map Ru.row))] [.c (.v (.int .i64 (ckRu l)))] := by
  refine fun_x ck_hearsayref_CheckRumors rfl ?_
  ((conv => whnf); repeat' ((first | refine ⟨rfl, ?_⟩ | refine ⟨_, row_map (by assumption), ?_⟩ | refine ⟨_, (by exact some_rfl), ?_⟩ | refine ⟨_, wrap_ok (by omega) (by omega), ?_⟩ | refine ⟨_, wrap_u64 (by omega) (by omega), ?_⟩ | refine ⟨by decide, _, fdiv_half (by omega), ?_⟩ | (intro gg)); (conv => whnf)))
  rw [List.length_map]
  (refine bIf_of (fun h => ?_) (fun h => ?_) <;> rw [h])
  · have h1 : 20 < l.length := (by have := of_decide_eq_true h; omega)
    ((conv => whnf); repeat' ((first | refine ⟨rfl, ?_⟩ | refine ⟨_, row_map (by assumption), ?_⟩ | refine ⟨_, (by exact some_rfl), ?_⟩ | refine ⟨_, wrap_ok (by omega) (by omega), ?_⟩ | refine ⟨_, wrap_u64 (by omega) (by omega), ?_⟩ | refine ⟨by decide, _, fdiv_half (by omega), ?_⟩ | (intro gg)); (conv => whnf)))
    rw [ckRu_many h1]
    (exact ⟨[], by (repeat' (first | exact ArgsOk.nil _ | exact argsOk_cells (by assumption) | refine ArgsOk.same (by first | exact cl_b rfl | exact cl_list | exact cl_nil | exact cl_one | exact cl_ll1 | exact cl_ll2 | exact cl_clo (by assumption)) ?_ | refine ArgsOk.nilsl _ ?_ | refine ArgsOk.nilown _ _ (by decide) ?_ | refine ArgsOk.borp rfl rfl rfl (cl_row rfl) (by decide) ?_ | refine ArgsOk.borc (by %caps) ?_ | refine ArgsOk.bor rfl rfl (deref_flat (by first | exact cl_rs rfl | exact cl_rows | exact cl_setB rfl | exact cl_setG (cl_setB rfl) rfl | exact cl_appB cl_rows (cl_rs rfl) | exact cl_rl1 | exact cl_rl2)) (by decide) ?_ | refine give' rfl (by first | exact cl_rs rfl | exact cl_rows | exact cl_setB rfl | exact cl_setG (cl_setB rfl) rfl | exact cl_appB cl_rows (cl_rs rfl) | exact cl_rl1 | exact cl_rl2) (by decide) (by decide) ?_))⟩)
  · have h1 : ¬ 20 < l.length := (by have := of_decide_eq_false h; omega)
    ((conv => whnf); repeat' ((first | refine ⟨rfl, ?_⟩ | refine ⟨_, row_map (by assumption), ?_⟩ | refine ⟨_, (by exact some_rfl), ?_⟩ | refine ⟨_, wrap_ok (by omega) (by omega), ?_⟩ | refine ⟨_, wrap_u64 (by omega) (by omega), ?_⟩ | refine ⟨by decide, _, fdiv_half (by omega), ?_⟩ | (intro gg)); (conv => whnf)))
    (refine ⟨[], none, {k : Nat // k ≤ l.length ∧ ∀ j, (h : j < l.length) → j < k → (l[j]).err = 0}, [0, 5, 6, 7], fun ⟨k, hk, h0⟩ => [(3, .v (.int .i64 k))], [], fun ⟨k, hk, h0⟩ => [], fun ⟨k, hk, h0⟩ => l.length - k, trivial, fun _ => ⟨trivial, fun _ => ⟨⟨0, by omega, fun j _ h => by omega⟩, by (repeat' (first | exact trivial | refine ⟨rfl, ?_⟩)), keptE_refl _ _, by (repeat' (first | exact trivial | refine ⟨rfl, ?_⟩)), keptH_refl _ _⟩⟩, fun ⟨k, hk, h0⟩ => ?_⟩)
    ((conv => whnf); repeat' ((first | refine ⟨rfl, ?_⟩ | refine ⟨_, row_map (by assumption), ?_⟩ | refine ⟨_, (by exact some_rfl), ?_⟩ | refine ⟨_, wrap_ok (by omega) (by omega), ?_⟩ | refine ⟨_, wrap_u64 (by omega) (by omega), ?_⟩ | refine ⟨by decide, _, fdiv_half (by omega), ?_⟩ | (intro gg)); (conv => whnf)))
    (refine bIf_of (fun h2 => ?_) (fun h2 => ?_) <;> rw [h2])
    · have hlt : k < l.length := by have := of_decide_eq_true h2; simpa using this
      ((conv => whnf); repeat' ((first | refine ⟨rfl, ?_⟩ | refine ⟨_, row_map (by assumption), ?_⟩ | refine ⟨_, (by exact some_rfl), ?_⟩ | refine ⟨_, wrap_ok (by omega) (by omega), ?_⟩ | refine ⟨_, wrap_u64 (by omega) (by omega), ?_⟩ | refine ⟨by decide, _, fdiv_half (by omega), ?_⟩ | (intro gg)); (conv => whnf)))
      refine ⟨k, _, rfl, row_map hlt, ?_⟩
      ((conv => whnf); repeat' ((first | refine ⟨rfl, ?_⟩ | refine ⟨_, row_map (by assumption), ?_⟩ | refine ⟨_, (by exact some_rfl), ?_⟩ | refine ⟨_, wrap_ok (by omega) (by omega), ?_⟩ | refine ⟨_, wrap_u64 (by omega) (by omega), ?_⟩ | refine ⟨by decide, _, fdiv_half (by omega), ?_⟩ | (intro gg)); (conv => whnf)))
      (refine .inl ⟨_, _, false, [], (by (repeat' (first | exact ArgsOk.nil _ | exact argsOk_cells (by assumption) | refine ArgsOk.same (by first | exact cl_b rfl | exact cl_list | exact cl_nil | exact cl_one | exact cl_ll1 | exact cl_ll2 | exact cl_clo (by assumption)) ?_ | refine ArgsOk.nilsl _ ?_ | refine ArgsOk.nilown _ _ (by decide) ?_ | refine ArgsOk.borp rfl rfl rfl (cl_row rfl) (by decide) ?_ | refine ArgsOk.borc (by (repeat' (first | exact cap_n | refine cap_p rfl rfl rfl (by first | exact cl_row rfl | exact cl_r1 rfl | exact cl_r1b) ?_ ?_ | refine cap_m rfl (by decide) ?_ | refine cap_c (by first | exact cl_b rfl | exact cl_list | exact cl_nil | exact cl_one | exact cl_ll1 | exact cl_ll2 | exact cl_clo (by assumption)) ?_ | decide))) ?_ | refine ArgsOk.bor rfl rfl (deref_flat (by first | exact cl_rs rfl | exact cl_rows | exact cl_setB rfl | exact cl_setG (cl_setB rfl) rfl | exact cl_appB cl_rows (cl_rs rfl) | exact cl_rl1 | exact cl_rl2)) (by decide) ?_ | refine give' rfl (by first | exact cl_rs rfl | exact cl_rows | exact cl_setB rfl | exact cl_setG (cl_setB rfl) rfl | exact cl_appB cl_rows (cl_rs rfl) | exact cl_rl1 | exact cl_rl2) (by decide) (by decide) ?_))), rone_fun (l[k]).m (hw _ (List.getElem_mem hlt)), nobor, (by exact Nat.le_of_ble_eq_true rfl), ?_⟩)
      ((conv => whnf); repeat' ((first | refine ⟨rfl, ?_⟩ | refine ⟨_, row_map (by assumption), ?_⟩ | refine ⟨_, (by exact some_rfl), ?_⟩ | refine ⟨_, wrap_ok (by omega) (by omega), ?_⟩ | refine ⟨_, wrap_u64 (by omega) (by omega), ?_⟩ | refine ⟨by decide, _, fdiv_half (by omega), ?_⟩ | (intro gg)); (conv => whnf)))
      (refine bIf_of (fun h3 => ?_) (fun h3 => ?_) <;> rw [h3])
      · ((conv => whnf); repeat' ((first | refine ⟨rfl, ?_⟩ | refine ⟨_, row_map (by assumption), ?_⟩ | refine ⟨_, (by exact some_rfl), ?_⟩ | refine ⟨_, wrap_ok (by omega) (by omega), ?_⟩ | refine ⟨_, wrap_u64 (by omega) (by omega), ?_⟩ | refine ⟨by decide, _, fdiv_half (by omega), ?_⟩ | (intro gg)); (conv => whnf)))
        have e : ckRu l = l[k].m.err := by
          have e1 := firstErr_at (e := Ru.err) hlt h0 (by simpa [Ru.err] using h3)
          rw [ckRu_each h1 (by rw [e1]; simpa [Ru.err] using h3), e1]; rfl
        rw [e]
        (exact ⟨[], by (repeat' (first | exact ArgsOk.nil _ | exact argsOk_cells (by assumption) | refine ArgsOk.same (by first | exact cl_b rfl | exact cl_list | exact cl_nil | exact cl_one | exact cl_ll1 | exact cl_ll2 | exact cl_clo (by assumption)) ?_ | refine ArgsOk.nilsl _ ?_ | refine ArgsOk.nilown _ _ (by decide) ?_ | refine ArgsOk.borp rfl rfl rfl (cl_row rfl) (by decide) ?_ | refine ArgsOk.borc (by %caps) ?_ | refine ArgsOk.bor rfl rfl (deref_flat (by first | exact cl_rs rfl | exact cl_rows | exact cl_setB rfl | exact cl_setG (cl_setB rfl) rfl | exact cl_appB cl_rows (cl_rs rfl) | exact cl_rl1 | exact cl_rl2)) (by decide) ?_ | refine give' rfl (by first | exact cl_rs rfl | exact cl_rows | exact cl_setB rfl | exact cl_setG (cl_setB rfl) rfl | exact cl_appB cl_rows (cl_rs rfl) | exact cl_rl1 | exact cl_rl2) (by decide) (by decide) ?_))⟩)
      · ((conv => whnf); repeat' ((first | refine ⟨rfl, ?_⟩ | refine ⟨_, row_map (by assumption), ?_⟩ | refine ⟨_, (by exact some_rfl), ?_⟩ | refine ⟨_, wrap_ok (by omega) (by omega), ?_⟩ | refine ⟨_, wrap_u64 (by omega) (by omega), ?_⟩ | refine ⟨by decide, _, fdiv_half (by omega), ?_⟩ | (intro gg)); (conv => whnf)))
        (exact ⟨none, trivial, fun _ => ⟨⟨k + 1, by omega, up1 (p := fun j h => (l[j]).err = 0) h0 (fun _ => by simpa [Ru.err] using h3)⟩, by show l.length - (k + 1) < l.length - k; omega, by (repeat' (first | exact trivial | refine ⟨rfl, ?_⟩)), by (repeat' (first | exact trivial | refine ⟨rfl, ?_⟩)), by (repeat' (first | exact trivial | refine ⟨rfl, ?_⟩)), by (repeat' (first | exact trivial | refine ⟨rfl, ?_⟩))⟩⟩)
    · have hge : ¬ k < l.length := by have := of_decide_eq_false h2; simpa using this
      have hz := firstErr_zero (e := Ru.err) (l := l) (fun i hi => h0 i hi (by omega))
      ((conv => whnf); repeat' ((first | refine ⟨rfl, ?_⟩ | refine ⟨_, row_map (by assumption), ?_⟩ | refine ⟨_, (by exact some_rfl), ?_⟩ | refine ⟨_, wrap_ok (by omega) (by omega), ?_⟩ | refine ⟨_, wrap_u64 (by omega) (by omega), ?_⟩ | refine ⟨by decide, _, fdiv_half (by omega), ?_⟩ | (intro gg)); (conv => whnf)))
      (refine ⟨[], none, {k : Nat // k ≤ l.length ∧ ∀ j, (h : j < l.length) → j < k → (l[j]).bad = false}, [0, 6, 7], fun ⟨k, hk, h0⟩ => [(5, .v (.int .i64 k))], [], fun ⟨k, hk, h0⟩ => [], fun ⟨k, hk, h0⟩ => l.length - k, trivial, fun _ => ⟨trivial, fun _ => ⟨⟨0, by omega, fun j _ h => by omega⟩, by (repeat' (first | exact trivial | refine ⟨rfl, ?_⟩)), keptE_refl _ _, by (repeat' (first | exact trivial | refine ⟨rfl, ?_⟩)), keptH_refl _ _⟩⟩, fun ⟨k, hk, h0⟩ => ?_⟩)
      ((conv => whnf); repeat' ((first | refine ⟨rfl, ?_⟩ | refine ⟨_, row_map (by assumption), ?_⟩ | refine ⟨_, (by exact some_rfl), ?_⟩ | refine ⟨_, wrap_ok (by omega) (by omega), ?_⟩ | refine ⟨_, wrap_u64 (by omega) (by omega), ?_⟩ | refine ⟨by decide, _, fdiv_half (by omega), ?_⟩ | (intro gg)); (conv => whnf)))
      (refine bIf_of (fun h2 => ?_) (fun h2 => ?_) <;> rw [h2])
      · have hlt : k < l.length := by have := of_decide_eq_true h2; simpa using this
        ((conv => whnf); repeat' ((first | refine ⟨rfl, ?_⟩ | refine ⟨_, row_map (by assumption), ?_⟩ | refine ⟨_, (by exact some_rfl), ?_⟩ | refine ⟨_, wrap_ok (by omega) (by omega), ?_⟩ | refine ⟨_, wrap_u64 (by omega) (by omega), ?_⟩ | refine ⟨by decide, _, fdiv_half (by omega), ?_⟩ | (intro gg)); (conv => whnf)))
        refine ⟨k, _, rfl, row_map hlt, ?_⟩
        ((conv => whnf); repeat' ((first | refine ⟨rfl, ?_⟩ | refine ⟨_, row_map (by assumption), ?_⟩ | refine ⟨_, (by exact some_rfl), ?_⟩ | refine ⟨_, wrap_ok (by omega) (by omega), ?_⟩ | refine ⟨_, wrap_u64 (by omega) (by omega), ?_⟩ | refine ⟨by decide, _, fdiv_half (by omega), ?_⟩ | (intro gg)); (conv => whnf)))
        (refine .inl ⟨_, _, false, [], (by (repeat' (first | exact ArgsOk.nil _ | exact argsOk_cells (by assumption) | refine ArgsOk.same (by first | exact cl_b rfl | exact cl_list | exact cl_nil | exact cl_one | exact cl_ll1 | exact cl_ll2 | exact cl_clo (by assumption)) ?_ | refine ArgsOk.nilsl _ ?_ | refine ArgsOk.nilown _ _ (by decide) ?_ | refine ArgsOk.borp rfl rfl rfl (cl_row rfl) (by decide) ?_ | refine ArgsOk.borc (by (repeat' (first | exact cap_n | refine cap_p rfl rfl rfl (by first | exact cl_row rfl | exact cl_r1 rfl | exact cl_r1b) ?_ ?_ | refine cap_m rfl (by decide) ?_ | refine cap_c (by first | exact cl_b rfl | exact cl_list | exact cl_nil | exact cl_one | exact cl_ll1 | exact cl_ll2 | exact cl_clo (by assumption)) ?_ | decide))) ?_ | refine ArgsOk.bor rfl rfl (deref_flat (by first | exact cl_rs rfl | exact cl_rows | exact cl_setB rfl | exact cl_setG (cl_setB rfl) rfl | exact cl_appB cl_rows (cl_rs rfl) | exact cl_rl1 | exact cl_rl2)) (by decide) ?_ | refine give' rfl (by first | exact cl_rs rfl | exact cl_rows | exact cl_setB rfl | exact cl_setG (cl_setB rfl) rfl | exact cl_appB cl_rows (cl_rs rfl) | exact cl_rl1 | exact cl_rl2) (by decide) (by decide) ?_))), between_fun _ _ _, nobor, (by exact Nat.le_of_ble_eq_true rfl), ?_⟩)
        ((conv => whnf); repeat' ((first | refine ⟨rfl, ?_⟩ | refine ⟨_, row_map (by assumption), ?_⟩ | refine ⟨_, (by exact some_rfl), ?_⟩ | refine ⟨_, wrap_ok (by omega) (by omega), ?_⟩ | refine ⟨_, wrap_u64 (by omega) (by omega), ?_⟩ | refine ⟨by decide, _, fdiv_half (by omega), ?_⟩ | (intro gg)); (conv => whnf)))
        (refine bIf_of (fun h3 => ?_) (fun h3 => ?_) <;> rw [h3])
        · ((conv => whnf); repeat' ((first | refine ⟨rfl, ?_⟩ | refine ⟨_, row_map (by assumption), ?_⟩ | refine ⟨_, (by exact some_rfl), ?_⟩ | refine ⟨_, wrap_ok (by omega) (by omega), ?_⟩ | refine ⟨_, wrap_u64 (by omega) (by omega), ?_⟩ | refine ⟨by decide, _, fdiv_half (by omega), ?_⟩ | (intro gg)); (conv => whnf)))
          rw [ckRu_rng h1 hz (List.any_eq_true.2 ⟨_, List.getElem_mem hlt, h3⟩)]
          (exact ⟨[], by (repeat' (first | exact ArgsOk.nil _ | exact argsOk_cells (by assumption) | refine ArgsOk.same (by first | exact cl_b rfl | exact cl_list | exact cl_nil | exact cl_one | exact cl_ll1 | exact cl_ll2 | exact cl_clo (by assumption)) ?_ | refine ArgsOk.nilsl _ ?_ | refine ArgsOk.nilown _ _ (by decide) ?_ | refine ArgsOk.borp rfl rfl rfl (cl_row rfl) (by decide) ?_ | refine ArgsOk.borc (by %caps) ?_ | refine ArgsOk.bor rfl rfl (deref_flat (by first | exact cl_rs rfl | exact cl_rows | exact cl_setB rfl | exact cl_setG (cl_setB rfl) rfl | exact cl_appB cl_rows (cl_rs rfl) | exact cl_rl1 | exact cl_rl2)) (by decide) ?_ | refine give' rfl (by first | exact cl_rs rfl | exact cl_rows | exact cl_setB rfl | exact cl_setG (cl_setB rfl) rfl | exact cl_appB cl_rows (cl_rs rfl) | exact cl_rl1 | exact cl_rl2) (by decide) (by decide) ?_))⟩)
        · ((conv => whnf); repeat' ((first | refine ⟨rfl, ?_⟩ | refine ⟨_, row_map (by assumption), ?_⟩ | refine ⟨_, (by exact some_rfl), ?_⟩ | refine ⟨_, wrap_ok (by omega) (by omega), ?_⟩ | refine ⟨_, wrap_u64 (by omega) (by omega), ?_⟩ | refine ⟨by decide, _, fdiv_half (by omega), ?_⟩ | (intro gg)); (conv => whnf)))
          (exact ⟨none, trivial, fun _ => ⟨⟨k + 1, by omega, up1 (p := fun j h => (l[j]).bad = false) h0 (fun _ => h3)⟩, by show l.length - (k + 1) < l.length - k; omega, by (repeat' (first | exact trivial | refine ⟨rfl, ?_⟩)), by (repeat' (first | exact trivial | refine ⟨rfl, ?_⟩)), by (repeat' (first | exact trivial | refine ⟨rfl, ?_⟩)), by (repeat' (first | exact trivial | refine ⟨rfl, ?_⟩))⟩⟩)
      · have hge : ¬ k < l.length := by have := of_decide_eq_false h2; simpa using this
        have ha : l.any Ru.bad = false := by
          rw [List.any_eq_false]; intro x hx
          obtain ⟨i, hi, rfl⟩ := List.getElem_of_mem hx
          rw [h0 i hi (by omega)]; simp
        ((conv => whnf); repeat' ((first | refine ⟨rfl, ?_⟩ | refine ⟨_, row_map (by assumption), ?_⟩ | refine ⟨_, (by exact some_rfl), ?_⟩ | refine ⟨_, wrap_ok (by omega) (by omega), ?_⟩ | refine ⟨_, wrap_u64 (by omega) (by omega), ?_⟩ | refine ⟨by decide, _, fdiv_half (by omega), ?_⟩ | (intro gg)); (conv => whnf)))
        (refine ⟨[], none, {k : Nat // k ≤ l.length ∧ ∀ i, (h : i < l.length) → i < k → ∀ j, (g : j < i) → (l[j]).nm ≠ l[i].nm}, [0], fun ⟨k, hk, h0⟩ => [(6, .v (.int .i64 k))], [], fun ⟨k, hk, h0⟩ => [], fun ⟨k, hk, h0⟩ => l.length - k, trivial, fun _ => ⟨trivial, fun _ => ⟨⟨0, by omega, fun j _ h => by omega⟩, by (repeat' (first | exact trivial | refine ⟨rfl, ?_⟩)), keptE_refl _ _, by (repeat' (first | exact trivial | refine ⟨rfl, ?_⟩)), keptH_refl _ _⟩⟩, fun ⟨k, hk, h0⟩ => ?_⟩)
        ((conv => whnf); repeat' ((first | refine ⟨rfl, ?_⟩ | refine ⟨_, row_map (by assumption), ?_⟩ | refine ⟨_, (by exact some_rfl), ?_⟩ | refine ⟨_, wrap_ok (by omega) (by omega), ?_⟩ | refine ⟨_, wrap_u64 (by omega) (by omega), ?_⟩ | refine ⟨by decide, _, fdiv_half (by omega), ?_⟩ | (intro gg)); (conv => whnf)))
        (refine bIf_of (fun h2 => ?_) (fun h2 => ?_) <;> rw [h2])
        · have hlt : k < l.length := by have := of_decide_eq_true h2; simpa using this
          ((conv => whnf); repeat' ((first | refine ⟨rfl, ?_⟩ | refine ⟨_, row_map (by assumption), ?_⟩ | refine ⟨_, (by exact some_rfl), ?_⟩ | refine ⟨_, wrap_ok (by omega) (by omega), ?_⟩ | refine ⟨_, wrap_u64 (by omega) (by omega), ?_⟩ | refine ⟨by decide, _, fdiv_half (by omega), ?_⟩ | (intro gg)); (conv => whnf)))
          (refine ⟨[], none, {q : Nat // q ≤ k ∧ ∀ j, (h : j < k) → j < q → (l[j]).nm ≠ l[k].nm}, [0, 6], fun ⟨q, hq, h0'⟩ => [(7, .v (.int .i64 q))], [], fun ⟨q, hq, h0'⟩ => [], fun ⟨q, hq, h0'⟩ => k - q, trivial, fun _ => ⟨trivial, fun _ => ⟨⟨0, by omega, fun j _ h => by omega⟩, by (repeat' (first | exact trivial | refine ⟨rfl, ?_⟩)), keptE_refl _ _, by (repeat' (first | exact trivial | refine ⟨rfl, ?_⟩)), keptH_refl _ _⟩⟩, fun ⟨q, hq, h0'⟩ => ?_⟩)
          ((conv => whnf); repeat' ((first | refine ⟨rfl, ?_⟩ | refine ⟨_, row_map (by assumption), ?_⟩ | refine ⟨_, (by exact some_rfl), ?_⟩ | refine ⟨_, wrap_ok (by omega) (by omega), ?_⟩ | refine ⟨_, wrap_u64 (by omega) (by omega), ?_⟩ | refine ⟨by decide, _, fdiv_half (by omega), ?_⟩ | (intro gg)); (conv => whnf)))
          (refine bIf_of (fun h3 => ?_) (fun h3 => ?_) <;> rw [h3])
          · have hqk : q < k := by have := of_decide_eq_true h3; omega
            have hql : q < l.length := by omega
            ((conv => whnf); repeat' ((first | refine ⟨rfl, ?_⟩ | refine ⟨_, row_map (by assumption), ?_⟩ | refine ⟨_, (by exact some_rfl), ?_⟩ | refine ⟨_, wrap_ok (by omega) (by omega), ?_⟩ | refine ⟨_, wrap_u64 (by omega) (by omega), ?_⟩ | refine ⟨by decide, _, fdiv_half (by omega), ?_⟩ | (intro gg)); (conv => whnf)))
            refine ⟨q, _, rfl, row_map hql, ?_⟩
            ((conv => whnf); repeat' ((first | refine ⟨rfl, ?_⟩ | refine ⟨_, row_map (by assumption), ?_⟩ | refine ⟨_, (by exact some_rfl), ?_⟩ | refine ⟨_, wrap_ok (by omega) (by omega), ?_⟩ | refine ⟨_, wrap_u64 (by omega) (by omega), ?_⟩ | refine ⟨by decide, _, fdiv_half (by omega), ?_⟩ | (intro gg)); (conv => whnf)))
            refine ⟨k, _, rfl, row_map hlt, ?_⟩
            ((conv => whnf); repeat' ((first | refine ⟨rfl, ?_⟩ | refine ⟨_, row_map (by assumption), ?_⟩ | refine ⟨_, (by exact some_rfl), ?_⟩ | refine ⟨_, wrap_ok (by omega) (by omega), ?_⟩ | refine ⟨_, wrap_u64 (by omega) (by omega), ?_⟩ | refine ⟨by decide, _, fdiv_half (by omega), ?_⟩ | (intro gg)); (conv => whnf)))
            (refine bIf_of (fun h4 => ?_) (fun h4 => ?_) <;> rw [h4])
            · have h4' : l[q].nm = l[k].nm := Ru.is_iff.1 h4
              ((conv => whnf); repeat' ((first | refine ⟨rfl, ?_⟩ | refine ⟨_, row_map (by assumption), ?_⟩ | refine ⟨_, (by exact some_rfl), ?_⟩ | refine ⟨_, wrap_ok (by omega) (by omega), ?_⟩ | refine ⟨_, wrap_u64 (by omega) (by omega), ?_⟩ | refine ⟨by decide, _, fdiv_half (by omega), ?_⟩ | (intro gg)); (conv => whnf)))
              rw [ckRu_two h1 hz ha (fun hn => by have := nd_get hn hql hlt h4'; omega)]
              (exact ⟨[], by (repeat' (first | exact ArgsOk.nil _ | exact argsOk_cells (by assumption) | refine ArgsOk.same (by first | exact cl_b rfl | exact cl_list | exact cl_nil | exact cl_one | exact cl_ll1 | exact cl_ll2 | exact cl_clo (by assumption)) ?_ | refine ArgsOk.nilsl _ ?_ | refine ArgsOk.nilown _ _ (by decide) ?_ | refine ArgsOk.borp rfl rfl rfl (cl_row rfl) (by decide) ?_ | refine ArgsOk.borc (by %caps) ?_ | refine ArgsOk.bor rfl rfl (deref_flat (by first | exact cl_rs rfl | exact cl_rows | exact cl_setB rfl | exact cl_setG (cl_setB rfl) rfl | exact cl_appB cl_rows (cl_rs rfl) | exact cl_rl1 | exact cl_rl2)) (by decide) ?_ | refine give' rfl (by first | exact cl_rs rfl | exact cl_rows | exact cl_setB rfl | exact cl_setG (cl_setB rfl) rfl | exact cl_appB cl_rows (cl_rs rfl) | exact cl_rl1 | exact cl_rl2) (by decide) (by decide) ?_))⟩)
            · have h4' : l[q].nm ≠ l[k].nm := fun e => by rw [show (l[q].m.n.toList == l[k].m.n.toList) = true from Ru.is_iff.2 e] at h4; cases h4
              ((conv => whnf); repeat' ((first | refine ⟨rfl, ?_⟩ | refine ⟨_, row_map (by assumption), ?_⟩ | refine ⟨_, (by exact some_rfl), ?_⟩ | refine ⟨_, wrap_ok (by omega) (by omega), ?_⟩ | refine ⟨_, wrap_u64 (by omega) (by omega), ?_⟩ | refine ⟨by decide, _, fdiv_half (by omega), ?_⟩ | (intro gg)); (conv => whnf)))
              (exact ⟨none, trivial, fun _ => ⟨⟨q + 1, by omega, up1 (p := fun j h => (l[j]).nm ≠ l[k].nm) h0' (fun _ => h4')⟩, by show k - (q + 1) < k - q; omega, by (repeat' (first | exact trivial | refine ⟨rfl, ?_⟩)), by (repeat' (first | exact trivial | refine ⟨rfl, ?_⟩)), by (repeat' (first | exact trivial | refine ⟨rfl, ?_⟩)), by (repeat' (first | exact trivial | refine ⟨rfl, ?_⟩))⟩⟩)
          · have hqk : ¬ q < k := by have := of_decide_eq_false h3; omega
            ((conv => whnf); repeat' ((first | refine ⟨rfl, ?_⟩ | refine ⟨_, row_map (by assumption), ?_⟩ | refine ⟨_, (by exact some_rfl), ?_⟩ | refine ⟨_, wrap_ok (by omega) (by omega), ?_⟩ | refine ⟨_, wrap_u64 (by omega) (by omega), ?_⟩ | refine ⟨by decide, _, fdiv_half (by omega), ?_⟩ | (intro gg)); (conv => whnf)))
            (exact ⟨none, trivial, fun _ => ⟨⟨k + 1, by omega, up1 (p := fun i h => ∀ j, (g : j < i) → (l[j]).nm ≠ l[i].nm) h0 (fun _ j g => h0' j g (by omega))⟩, by show l.length - (k + 1) < l.length - k; omega, by (repeat' (first | exact trivial | refine ⟨rfl, ?_⟩)), by (repeat' (first | exact trivial | refine ⟨rfl, ?_⟩)), by (repeat' (first | exact trivial | refine ⟨rfl, ?_⟩)), by (repeat' (first | exact trivial | refine ⟨rfl, ?_⟩))⟩⟩)
        · have hge : ¬ k < l.length := by have := of_decide_eq_false h2; simpa using this
          ((conv => whnf); repeat' ((first | refine ⟨rfl, ?_⟩ | refine ⟨_, row_map (by assumption), ?_⟩ | refine ⟨_, (by exact some_rfl), ?_⟩ | refine ⟨_, wrap_ok (by omega) (by omega), ?_⟩ | refine ⟨_, wrap_u64 (by omega) (by omega), ?_⟩ | refine ⟨by decide, _, fdiv_half (by omega), ?_⟩ | (intro gg)); (conv => whnf)))
          rw [ckRu_ok h1 hz ha (List.pairwise_iff_getElem.2 fun i j hi hj hij => by
            simp only [List.getElem_map]
            exact h0 j (by simpa using hj) (by simp at hj; omega) i hij)]
          (exact ⟨[], by (repeat' (first | exact ArgsOk.nil _ | exact argsOk_cells (by assumption) | refine ArgsOk.same (by first | exact cl_b rfl | exact cl_list | exact cl_nil | exact cl_one | exact cl_ll1 | exact cl_ll2 | exact cl_clo (by assumption)) ?_ | refine ArgsOk.nilsl _ ?_ | refine ArgsOk.nilown _ _ (by decide) ?_ | refine ArgsOk.borp rfl rfl rfl (cl_row rfl) (by decide) ?_ | refine ArgsOk.borc (by %caps) ?_ | refine ArgsOk.bor rfl rfl (deref_flat (by first | exact cl_rs rfl | exact cl_rows | exact cl_setB rfl | exact cl_setG (cl_setB rfl) rfl | exact cl_appB cl_rows (cl_rs rfl) | exact cl_rl1 | exact cl_rl2)) (by decide) ?_ | refine give' rfl (by first | exact cl_rs rfl | exact cl_rows | exact cl_setB rfl | exact cl_setG (cl_setB rfl) rfl | exact cl_appB cl_rows (cl_rs rfl) | exact cl_rl1 | exact cl_rl2) (by decide) (by decide) ?_))⟩)
def Ru.same (g h : Ru) : Bool := (g.m.n.toList == h.m.n.toList) && ((g.m.st == h.m.st) && ((g.m.lf == h.m.lf) && ((g.m.ad == h.m.ad) && ((g.m.sv == h.m.sv) && ((g.t == h.t) && true)))))
theorem Ru.same_iff {g h : Ru} : Ru.same g h = true ↔ g = h := by
  obtain ⟨⟨a, b, c, d, e⟩, f⟩ := g
  obtain ⟨⟨a', b', c', d', e'⟩, f'⟩ := h
  have tl : ∀ a b : ByteArray, a.toList = b.toList ↔ a = b := fun a b => ⟨toList_inj, fun h => by rw [h]⟩
  simp only [Ru.same, Bool.and_true, Bool.and_eq_true, beq_iff_eq, tl, Ru.mk.injEq, Mb.mk.injEq, and_assoc]
theorem ruSame_fun (c d : Bool) (a b : List Ru) (ha : a.length ≤ 9223372036854775807) : Fun Try.prog 19 [.c (.sl c (a.map Ru.row)), .c (.sl d (b.map Ru.row))] [.c (.v (.bool (sameL Ru.same a b)))] := by
  refine fun_x ck_hearsayref_SameRumors rfl ?_
  ((conv => whnf); repeat' ((first | refine ⟨rfl, ?_⟩ | refine ⟨_, row_map (by assumption), ?_⟩ | refine ⟨_, (by exact some_rfl), ?_⟩ | refine ⟨_, wrap_ok (by omega) (by omega), ?_⟩ | refine ⟨_, wrap_u64 (by omega) (by omega), ?_⟩ | refine ⟨by decide, _, fdiv_half (by omega), ?_⟩ | (intro gg)); (conv => whnf)))
  rw [List.length_map, List.length_map]
  (refine bIf_of (fun h => ?_) (fun h => ?_) <;> rw [h])
  · ((conv => whnf); repeat' ((first | refine ⟨rfl, ?_⟩ | refine ⟨_, row_map (by assumption), ?_⟩ | refine ⟨_, (by exact some_rfl), ?_⟩ | refine ⟨_, wrap_ok (by omega) (by omega), ?_⟩ | refine ⟨_, wrap_u64 (by omega) (by omega), ?_⟩ | refine ⟨by decide, _, fdiv_half (by omega), ?_⟩ | (intro gg)); (conv => whnf)))
    rw [sameL_no (fun e => by rw [e] at h; simp at h)]
    (exact ⟨[], by (repeat' (first | exact ArgsOk.nil _ | exact argsOk_cells (by assumption) | refine ArgsOk.same (by first | exact cl_b rfl | exact cl_list | exact cl_nil | exact cl_one | exact cl_ll1 | exact cl_ll2 | exact cl_clo (by assumption)) ?_ | refine ArgsOk.nilsl _ ?_ | refine ArgsOk.nilown _ _ (by decide) ?_ | refine ArgsOk.borp rfl rfl rfl (cl_row rfl) (by decide) ?_ | refine ArgsOk.borc (by %caps) ?_ | refine ArgsOk.bor rfl rfl (deref_flat (by first | exact cl_rs rfl | exact cl_rows | exact cl_setB rfl | exact cl_setG (cl_setB rfl) rfl | exact cl_appB cl_rows (cl_rs rfl) | exact cl_rl1 | exact cl_rl2)) (by decide) ?_ | refine give' rfl (by first | exact cl_rs rfl | exact cl_rows | exact cl_setB rfl | exact cl_setG (cl_setB rfl) rfl | exact cl_appB cl_rows (cl_rs rfl) | exact cl_rl1 | exact cl_rl2) (by decide) (by decide) ?_))⟩)
  · have hab : a.length = b.length := by have h' : ((a.length : Int) != (b.length : Int)) = false := h
                                         simp at h'; omega
    ((conv => whnf); repeat' ((first | refine ⟨rfl, ?_⟩ | refine ⟨_, row_map (by assumption), ?_⟩ | refine ⟨_, (by exact some_rfl), ?_⟩ | refine ⟨_, wrap_ok (by omega) (by omega), ?_⟩ | refine ⟨_, wrap_u64 (by omega) (by omega), ?_⟩ | refine ⟨by decide, _, fdiv_half (by omega), ?_⟩ | (intro gg)); (conv => whnf)))
    (refine ⟨[], none, {k : Nat // k ≤ a.length ∧ ∀ j, (h : j < a.length) → j < k → Ru.same a[j] (b[j]'(by omega)) = true}, [0, 1], fun ⟨k, hk, h0⟩ => [(5, .v (.int .i64 k))], [], fun ⟨k, hk, h0⟩ => [], fun ⟨k, hk, h0⟩ => a.length - k, trivial, fun _ => ⟨trivial, fun _ => ⟨⟨0, by omega, fun j _ h => by omega⟩, by (repeat' (first | exact trivial | refine ⟨rfl, ?_⟩)), keptE_refl _ _, by (repeat' (first | exact trivial | refine ⟨rfl, ?_⟩)), keptH_refl _ _⟩⟩, fun ⟨k, hk, h0⟩ => ?_⟩)
    ((conv => whnf); repeat' ((first | refine ⟨rfl, ?_⟩ | refine ⟨_, row_map (by assumption), ?_⟩ | refine ⟨_, (by exact some_rfl), ?_⟩ | refine ⟨_, wrap_ok (by omega) (by omega), ?_⟩ | refine ⟨_, wrap_u64 (by omega) (by omega), ?_⟩ | refine ⟨by decide, _, fdiv_half (by omega), ?_⟩ | (intro gg)); (conv => whnf)))
    rw [List.length_map]
    (refine bIf_of (fun h2 => ?_) (fun h2 => ?_) <;> rw [h2])
    · have hlt : k < a.length := (by have := of_decide_eq_true h2; omega)
      have hlt' : k < b.length := by omega
      ((conv => whnf); repeat' ((first | refine ⟨rfl, ?_⟩ | refine ⟨_, row_map (by assumption), ?_⟩ | refine ⟨_, (by exact some_rfl), ?_⟩ | refine ⟨_, wrap_ok (by omega) (by omega), ?_⟩ | refine ⟨_, wrap_u64 (by omega) (by omega), ?_⟩ | refine ⟨by decide, _, fdiv_half (by omega), ?_⟩ | (intro gg)); (conv => whnf)))
      refine ⟨k, _, rfl, row_map hlt, ?_⟩
      ((conv => whnf); repeat' ((first | refine ⟨rfl, ?_⟩ | refine ⟨_, row_map (by assumption), ?_⟩ | refine ⟨_, (by exact some_rfl), ?_⟩ | refine ⟨_, wrap_ok (by omega) (by omega), ?_⟩ | refine ⟨_, wrap_u64 (by omega) (by omega), ?_⟩ | refine ⟨by decide, _, fdiv_half (by omega), ?_⟩ | (intro gg)); (conv => whnf)))
      refine ⟨k, _, rfl, row_map hlt', ?_⟩
      ((conv => whnf); repeat' ((first | refine ⟨rfl, ?_⟩ | refine ⟨_, row_map (by assumption), ?_⟩ | refine ⟨_, (by exact some_rfl), ?_⟩ | refine ⟨_, wrap_ok (by omega) (by omega), ?_⟩ | refine ⟨_, wrap_u64 (by omega) (by omega), ?_⟩ | refine ⟨by decide, _, fdiv_half (by omega), ?_⟩ | (intro gg)); (conv => whnf)))
      (refine bIf_of (fun h3 => ?_) (fun h3 => ?_) <;> rw [h3])
      · ((conv => whnf); repeat' ((first | refine ⟨rfl, ?_⟩ | refine ⟨_, row_map (by assumption), ?_⟩ | refine ⟨_, (by exact some_rfl), ?_⟩ | refine ⟨_, wrap_ok (by omega) (by omega), ?_⟩ | refine ⟨_, wrap_u64 (by omega) (by omega), ?_⟩ | refine ⟨by decide, _, fdiv_half (by omega), ?_⟩ | (intro gg)); (conv => whnf)))
        rw [sameL_at hlt hlt' (not_t (b := Ru.same a[k] b[k]) h3)]
        (exact ⟨[], by (repeat' (first | exact ArgsOk.nil _ | exact argsOk_cells (by assumption) | refine ArgsOk.same (by first | exact cl_b rfl | exact cl_list | exact cl_nil | exact cl_one | exact cl_ll1 | exact cl_ll2 | exact cl_clo (by assumption)) ?_ | refine ArgsOk.nilsl _ ?_ | refine ArgsOk.nilown _ _ (by decide) ?_ | refine ArgsOk.borp rfl rfl rfl (cl_row rfl) (by decide) ?_ | refine ArgsOk.borc (by %caps) ?_ | refine ArgsOk.bor rfl rfl (deref_flat (by first | exact cl_rs rfl | exact cl_rows | exact cl_setB rfl | exact cl_setG (cl_setB rfl) rfl | exact cl_appB cl_rows (cl_rs rfl) | exact cl_rl1 | exact cl_rl2)) (by decide) ?_ | refine give' rfl (by first | exact cl_rs rfl | exact cl_rows | exact cl_setB rfl | exact cl_setG (cl_setB rfl) rfl | exact cl_appB cl_rows (cl_rs rfl) | exact cl_rl1 | exact cl_rl2) (by decide) (by decide) ?_))⟩)
      · ((conv => whnf); repeat' ((first | refine ⟨rfl, ?_⟩ | refine ⟨_, row_map (by assumption), ?_⟩ | refine ⟨_, (by exact some_rfl), ?_⟩ | refine ⟨_, wrap_ok (by omega) (by omega), ?_⟩ | refine ⟨_, wrap_u64 (by omega) (by omega), ?_⟩ | refine ⟨by decide, _, fdiv_half (by omega), ?_⟩ | (intro gg)); (conv => whnf)))
        (exact ⟨none, trivial, fun _ => ⟨⟨k + 1, by omega, up1 (p := fun j h => Ru.same a[j] (b[j]'(by omega)) = true) h0 (fun _ => not_f (b := Ru.same a[k] b[k]) h3)⟩, by show a.length - (k + 1) < a.length - k; omega, by (repeat' (first | exact trivial | refine ⟨rfl, ?_⟩)), by (repeat' (first | exact trivial | refine ⟨rfl, ?_⟩)), by (repeat' (first | exact trivial | refine ⟨rfl, ?_⟩)), by (repeat' (first | exact trivial | refine ⟨rfl, ?_⟩))⟩⟩)
    · have hge : ¬ k < a.length := (by have := of_decide_eq_false h2; omega)
      ((conv => whnf); repeat' ((first | refine ⟨rfl, ?_⟩ | refine ⟨_, row_map (by assumption), ?_⟩ | refine ⟨_, (by exact some_rfl), ?_⟩ | refine ⟨_, wrap_ok (by omega) (by omega), ?_⟩ | refine ⟨_, wrap_u64 (by omega) (by omega), ?_⟩ | refine ⟨by decide, _, fdiv_half (by omega), ?_⟩ | (intro gg)); (conv => whnf)))
      rw [sameL_yes hab (fun i hi _ => h0 i hi (by omega))]
      (exact ⟨[], by (repeat' (first | exact ArgsOk.nil _ | exact argsOk_cells (by assumption) | refine ArgsOk.same (by first | exact cl_b rfl | exact cl_list | exact cl_nil | exact cl_one | exact cl_ll1 | exact cl_ll2 | exact cl_clo (by assumption)) ?_ | refine ArgsOk.nilsl _ ?_ | refine ArgsOk.nilown _ _ (by decide) ?_ | refine ArgsOk.borp rfl rfl rfl (cl_row rfl) (by decide) ?_ | refine ArgsOk.borc (by %caps) ?_ | refine ArgsOk.bor rfl rfl (deref_flat (by first | exact cl_rs rfl | exact cl_rows | exact cl_setB rfl | exact cl_setG (cl_setB rfl) rfl | exact cl_appB cl_rows (cl_rs rfl) | exact cl_rl1 | exact cl_rl2)) (by decide) ?_ | refine give' rfl (by first | exact cl_rs rfl | exact cl_rows | exact cl_setB rfl | exact cl_setG (cl_setB rfl) rfl | exact cl_appB cl_rows (cl_rs rfl) | exact cl_rl1 | exact cl_rl2) (by decide) (by decide) ?_))⟩)
end Go.Proofs.Ytjhdlcmecbngkaa
/- Contracts of the functions of rumors: putting, counting; the reference's too. -/
namespace Go.Proofs.Ytjhdlcmecbngkaa
open Go.RowKit Pl
set_option linter.unusedVariables false
theorem putC_fun (m : Mb) (x : Ru) : Fun Try.prog 41 [.c (.agg x.row), .c (.rptr m.row 0)] [.c (.v (.bool (Ru.is m.n x)))] := by
  refine fun_x ck_rumor_Put_1 rfl ?_
  ((conv => whnf); repeat' ((first | refine ⟨rfl, ?_⟩ | refine ⟨_, row_map (by assumption), ?_⟩ | refine ⟨_, (by exact some_rfl), ?_⟩ | refine ⟨_, wrap_ok (by omega) (by omega), ?_⟩ | refine ⟨_, wrap_u64 (by omega) (by omega), ?_⟩ | refine ⟨by decide, _, fdiv_half (by omega), ?_⟩ | (intro gg)); (conv => whnf)))
  (exact ⟨[], by (repeat' (first | exact ArgsOk.nil _ | exact argsOk_cells (by assumption) | refine ArgsOk.same (by first | exact cl_b rfl | exact cl_list | exact cl_nil | exact cl_one | exact cl_ll1 | exact cl_ll2 | exact cl_clo (by assumption)) ?_ | refine ArgsOk.nilsl _ ?_ | refine ArgsOk.nilown _ _ (by decide) ?_ | refine ArgsOk.borp rfl rfl rfl (cl_row rfl) (by decide) ?_ | refine ArgsOk.borc (by %caps) ?_ | refine ArgsOk.bor rfl rfl (deref_flat (by first | exact cl_rs rfl | exact cl_rows | exact cl_setB rfl | exact cl_setG (cl_setB rfl) rfl | exact cl_appB cl_rows (cl_rs rfl) | exact cl_rl1 | exact cl_rl2)) (by decide) ?_ | refine give' rfl (by first | exact cl_rs rfl | exact cl_rows | exact cl_setB rfl | exact cl_setG (cl_setB rfl) rfl | exact cl_appB cl_rows (cl_rs rfl) | exact cl_rl1 | exact cl_rl2) (by decide) (by decide) ?_))⟩)
theorem cl_rptr1 {α : Type} {enc : α → List V} [FlatRow enc] {x : α} {o : Nat} : ∀ u ∈ [V.rptr (enc x) o], Cl u := fun u hu => by
  simp only [List.mem_cons, List.not_mem_nil, or_false] at hu; subst hu
  exact cl_rptr cl_rowF
theorem idxRu (cl : Bool) (l : List Ru) (m : Mb) (hl : l.length ≤ 1000) : Fun Try.prog 40 [.c (.sl cl (l.map Ru.row)), .c (.clo 41 [.rptr m.row 0])] [.c (.v (.int .i64 (at_ (Ru.is m.n) l)))] :=
  indexRu_fun cl l _ _ cl_rptr1 (Ru.is m.n) hl fun x _ => putC_fun m x
theorem ruPut_fun (cl : Bool) (l : List Ru) (m : Mb) (hl : l.length ≤ 9223372036854775807) (hw : ∀ r ∈ l, r.m.ok) (hm : m.ok) : Fun Try.prog 13 [.c (.sl cl (l.map Ru.row)), .c (.agg m.row)] [.o 55 6 ((putRu l m).2.map Ru.row), .c (.v (.int .i64 (putRu l m).1))] := by
  refine fun_x ck_rumor_Put rfl ?_
  ((conv => whnf); repeat' ((first | refine ⟨rfl, ?_⟩ | refine ⟨_, row_map (by assumption), ?_⟩ | refine ⟨_, (by exact some_rfl), ?_⟩ | refine ⟨_, wrap_ok (by omega) (by omega), ?_⟩ | refine ⟨_, wrap_u64 (by omega) (by omega), ?_⟩ | refine ⟨by decide, _, fdiv_half (by omega), ?_⟩ | (intro gg)); (conv => whnf)))
  (refine .inl ⟨_, _, false, [], (by (repeat' (first | exact ArgsOk.nil _ | exact argsOk_cells (by assumption) | refine ArgsOk.same (by first | exact cl_b rfl | exact cl_list | exact cl_nil | exact cl_one | exact cl_ll1 | exact cl_ll2 | exact cl_clo (by assumption)) ?_ | refine ArgsOk.nilsl _ ?_ | refine ArgsOk.nilown _ _ (by decide) ?_ | refine ArgsOk.borp rfl rfl rfl (cl_row rfl) (by decide) ?_ | refine ArgsOk.borc (by (repeat' (first | exact cap_n | refine cap_p rfl rfl rfl (by first | exact cl_row rfl | exact cl_r1 rfl | exact cl_r1b) ?_ ?_ | refine cap_m rfl (by decide) ?_ | refine cap_c (by first | exact cl_b rfl | exact cl_list | exact cl_nil | exact cl_one | exact cl_ll1 | exact cl_ll2 | exact cl_clo (by assumption)) ?_ | decide))) ?_ | refine ArgsOk.bor rfl rfl (deref_flat (by first | exact cl_rs rfl | exact cl_rows | exact cl_setB rfl | exact cl_setG (cl_setB rfl) rfl | exact cl_appB cl_rows (cl_rs rfl) | exact cl_rl1 | exact cl_rl2)) (by decide) ?_ | refine give' rfl (by first | exact cl_rs rfl | exact cl_rows | exact cl_setB rfl | exact cl_setG (cl_setB rfl) rfl | exact cl_appB cl_rows (cl_rs rfl) | exact cl_rl1 | exact cl_rl2) (by decide) (by decide) ?_))), ruCheck_fun cl l hl hw, nobor, (by exact Nat.le_of_ble_eq_true rfl), ?_⟩)
  ((conv => whnf); repeat' ((first | refine ⟨rfl, ?_⟩ | refine ⟨_, row_map (by assumption), ?_⟩ | refine ⟨_, (by exact some_rfl), ?_⟩ | refine ⟨_, wrap_ok (by omega) (by omega), ?_⟩ | refine ⟨_, wrap_u64 (by omega) (by omega), ?_⟩ | refine ⟨by decide, _, fdiv_half (by omega), ?_⟩ | (intro gg)); (conv => whnf)))
  (refine bIf_of (fun h1 => ?_) (fun h1 => ?_) <;> rw [h1])
  · have h1' : ckRu l = 0 := by simpa using h1
    have hi := ckRu_inv h1'
    have hlen := hi.len
    rw [h1']
    ((conv => whnf); repeat' ((first | refine ⟨rfl, ?_⟩ | refine ⟨_, row_map (by assumption), ?_⟩ | refine ⟨_, (by exact some_rfl), ?_⟩ | refine ⟨_, wrap_ok (by omega) (by omega), ?_⟩ | refine ⟨_, wrap_u64 (by omega) (by omega), ?_⟩ | refine ⟨by decide, _, fdiv_half (by omega), ?_⟩ | (intro gg)); (conv => whnf)))
    (refine .inl ⟨_, _, false, [], (by (repeat' (first | exact ArgsOk.nil _ | exact argsOk_cells (by assumption) | refine ArgsOk.same (by first | exact cl_b rfl | exact cl_list | exact cl_nil | exact cl_one | exact cl_ll1 | exact cl_ll2 | exact cl_clo (by assumption)) ?_ | refine ArgsOk.nilsl _ ?_ | refine ArgsOk.nilown _ _ (by decide) ?_ | refine ArgsOk.borp rfl rfl rfl (cl_row rfl) (by decide) ?_ | refine ArgsOk.borc (by (repeat' (first | exact cap_n | refine cap_p rfl rfl rfl (by first | exact cl_row rfl | exact cl_r1 rfl | exact cl_r1b) ?_ ?_ | refine cap_m rfl (by decide) ?_ | refine cap_c (by first | exact cl_b rfl | exact cl_list | exact cl_nil | exact cl_one | exact cl_ll1 | exact cl_ll2 | exact cl_clo (by assumption)) ?_ | decide))) ?_ | refine ArgsOk.bor rfl rfl (deref_flat (by first | exact cl_rs rfl | exact cl_rows | exact cl_setB rfl | exact cl_setG (cl_setB rfl) rfl | exact cl_appB cl_rows (cl_rs rfl) | exact cl_rl1 | exact cl_rl2)) (by decide) ?_ | refine give' rfl (by first | exact cl_rs rfl | exact cl_rows | exact cl_setB rfl | exact cl_setG (cl_setB rfl) rfl | exact cl_appB cl_rows (cl_rs rfl) | exact cl_rl1 | exact cl_rl2) (by decide) (by decide) ?_))), mOne_fun m hm, nobor, (by exact Nat.le_of_ble_eq_true rfl), ?_⟩)
    ((conv => whnf); repeat' ((first | refine ⟨rfl, ?_⟩ | refine ⟨_, row_map (by assumption), ?_⟩ | refine ⟨_, (by exact some_rfl), ?_⟩ | refine ⟨_, wrap_ok (by omega) (by omega), ?_⟩ | refine ⟨_, wrap_u64 (by omega) (by omega), ?_⟩ | refine ⟨by decide, _, fdiv_half (by omega), ?_⟩ | (intro gg)); (conv => whnf)))
    (refine bIf_of (fun h2 => ?_) (fun h2 => ?_) <;> rw [h2])
    · have h2' : m.err ≠ 0 := by simpa using h2
      rw [putRu_one h1' h2']
      ((conv => whnf); repeat' ((first | refine ⟨rfl, ?_⟩ | refine ⟨_, row_map (by assumption), ?_⟩ | refine ⟨_, (by exact some_rfl), ?_⟩ | refine ⟨_, wrap_ok (by omega) (by omega), ?_⟩ | refine ⟨_, wrap_u64 (by omega) (by omega), ?_⟩ | refine ⟨by decide, _, fdiv_half (by omega), ?_⟩ | (intro gg)); (conv => whnf)))
      (exact ⟨[], by (repeat' (first | exact ArgsOk.nil _ | exact argsOk_cells (by assumption) | refine ArgsOk.same (by first | exact cl_b rfl | exact cl_list | exact cl_nil | exact cl_one | exact cl_ll1 | exact cl_ll2 | exact cl_clo (by assumption)) ?_ | refine ArgsOk.nilsl _ ?_ | refine ArgsOk.nilown _ _ (by decide) ?_ | refine ArgsOk.borp rfl rfl rfl (cl_row rfl) (by decide) ?_ | refine ArgsOk.borc (by %caps) ?_ | refine ArgsOk.bor rfl rfl (deref_flat (by first | exact cl_rs rfl | exact cl_rows | exact cl_setB rfl | exact cl_setG (cl_setB rfl) rfl | exact cl_appB cl_rows (cl_rs rfl) | exact cl_rl1 | exact cl_rl2)) (by decide) ?_ | refine give' rfl (by first | exact cl_rs rfl | exact cl_rows | exact cl_setB rfl | exact cl_setG (cl_setB rfl) rfl | exact cl_appB cl_rows (cl_rs rfl) | exact cl_rl1 | exact cl_rl2) (by decide) (by decide) ?_))⟩)
    · have h2' : m.err = 0 := by simpa using h2
      rw [putRu_ok h1' h2']
      ((conv => whnf); repeat' ((first | refine ⟨rfl, ?_⟩ | refine ⟨_, row_map (by assumption), ?_⟩ | refine ⟨_, (by exact some_rfl), ?_⟩ | refine ⟨_, wrap_ok (by omega) (by omega), ?_⟩ | refine ⟨_, wrap_u64 (by omega) (by omega), ?_⟩ | refine ⟨by decide, _, fdiv_half (by omega), ?_⟩ | (intro gg)); (conv => whnf)))
      (refine .inl ⟨_, _, false, [], (by (repeat' (first | exact ArgsOk.nil _ | exact argsOk_cells (by assumption) | refine ArgsOk.same (by first | exact cl_b rfl | exact cl_list | exact cl_nil | exact cl_one | exact cl_ll1 | exact cl_ll2 | exact cl_clo (by assumption)) ?_ | refine ArgsOk.nilsl _ ?_ | refine ArgsOk.nilown _ _ (by decide) ?_ | refine ArgsOk.borp rfl rfl rfl (cl_row rfl) (by decide) ?_ | refine ArgsOk.borc (by (repeat' (first | exact cap_n | refine cap_p rfl rfl rfl (by first | exact cl_row rfl | exact cl_r1 rfl | exact cl_r1b) ?_ ?_ | refine cap_m rfl (by decide) ?_ | refine cap_c (by first | exact cl_b rfl | exact cl_list | exact cl_nil | exact cl_one | exact cl_ll1 | exact cl_ll2 | exact cl_clo (by assumption)) ?_ | decide))) ?_ | refine ArgsOk.bor rfl rfl (deref_flat (by first | exact cl_rs rfl | exact cl_rows | exact cl_setB rfl | exact cl_setG (cl_setB rfl) rfl | exact cl_appB cl_rows (cl_rs rfl) | exact cl_rl1 | exact cl_rl2)) (by decide) ?_ | refine give' rfl (by first | exact cl_rs rfl | exact cl_rows | exact cl_setB rfl | exact cl_setG (cl_setB rfl) rfl | exact cl_appB cl_rows (cl_rs rfl) | exact cl_rl1 | exact cl_rl2) (by decide) (by decide) ?_))), cloneRu_fun cl l (by omega), nobor, (by exact Nat.le_of_ble_eq_true rfl), ?_⟩)
      ((conv => whnf); repeat' ((first | refine ⟨rfl, ?_⟩ | refine ⟨_, row_map (by assumption), ?_⟩ | refine ⟨_, (by exact some_rfl), ?_⟩ | refine ⟨_, wrap_ok (by omega) (by omega), ?_⟩ | refine ⟨_, wrap_u64 (by omega) (by omega), ?_⟩ | refine ⟨by decide, _, fdiv_half (by omega), ?_⟩ | (intro gg)); (conv => whnf)))
      (refine .inl ⟨_, _, true, [], (by (repeat' (first | exact ArgsOk.nil _ | exact argsOk_cells (by assumption) | refine ArgsOk.same (by first | exact cl_b rfl | exact cl_list | exact cl_nil | exact cl_one | exact cl_ll1 | exact cl_ll2 | exact cl_clo (by assumption)) ?_ | refine ArgsOk.nilsl _ ?_ | refine ArgsOk.nilown _ _ (by decide) ?_ | refine ArgsOk.borp rfl rfl rfl (cl_row rfl) (by decide) ?_ | refine ArgsOk.borc (by (repeat' (first | exact cap_n | refine cap_p rfl rfl rfl (by first | exact cl_row rfl | exact cl_r1 rfl | exact cl_r1b) ?_ ?_ | refine cap_m rfl (by decide) ?_ | refine cap_c (by first | exact cl_b rfl | exact cl_list | exact cl_nil | exact cl_one | exact cl_ll1 | exact cl_ll2 | exact cl_clo (by assumption)) ?_ | decide))) ?_ | refine ArgsOk.bor rfl rfl (deref_flat (by first | exact cl_rs rfl | exact cl_rows | exact cl_setB rfl | exact cl_setG (cl_setB rfl) rfl | exact cl_appB cl_rows (cl_rs rfl) | exact cl_rl1 | exact cl_rl2)) (by decide) ?_ | refine give' rfl (by first | exact cl_rs rfl | exact cl_rows | exact cl_setB rfl | exact cl_setG (cl_setB rfl) rfl | exact cl_appB cl_rows (cl_rs rfl) | exact cl_rl1 | exact cl_rl2) (by decide) (by decide) ?_))), idxRu false l m (by omega), (fun _ => by (first | exact flat_b rfl | exact flat_own | exact flat_own1 rfl | exact flat_own2 rfl)), (by exact Nat.le_of_ble_eq_true rfl), ?_⟩)
      rcases at_inv (p := Ru.is m.n) (l := l) with ⟨q1, q2⟩ | ⟨k, hk, q1, q2, q3⟩
      · have e : putR l m = putFin l m := putR_no (by rw [q1]; decide)
        rw [q1, e]
        ((conv => whnf); repeat' ((first | refine ⟨rfl, ?_⟩ | refine ⟨_, row_map (by assumption), ?_⟩ | refine ⟨_, (by exact some_rfl), ?_⟩ | refine ⟨_, wrap_ok (by omega) (by omega), ?_⟩ | refine ⟨_, wrap_u64 (by omega) (by omega), ?_⟩ | refine ⟨by decide, _, fdiv_half (by omega), ?_⟩ | (intro gg)); (conv => whnf)))
        (refine bIf_of (fun h3 => ?_) (fun h3 => ?_) <;> rw [h3])
        · have h3' : (l).length = 20 := by have := beq_iff_eq.1 h3; simp only [List.length_map] at this; omega
          have e2 : putFin (l) m = (2, []) := by simp [putFin, h3']
          rw [e2]
          ((conv => whnf); repeat' ((first | refine ⟨rfl, ?_⟩ | refine ⟨_, row_map (by assumption), ?_⟩ | refine ⟨_, (by exact some_rfl), ?_⟩ | refine ⟨_, wrap_ok (by omega) (by omega), ?_⟩ | refine ⟨_, wrap_u64 (by omega) (by omega), ?_⟩ | refine ⟨by decide, _, fdiv_half (by omega), ?_⟩ | (intro gg)); (conv => whnf)))
          (exact ⟨[], by (repeat' (first | exact ArgsOk.nil _ | exact argsOk_cells (by assumption) | refine ArgsOk.same (by first | exact cl_b rfl | exact cl_list | exact cl_nil | exact cl_one | exact cl_ll1 | exact cl_ll2 | exact cl_clo (by assumption)) ?_ | refine ArgsOk.nilsl _ ?_ | refine ArgsOk.nilown _ _ (by decide) ?_ | refine ArgsOk.borp rfl rfl rfl (cl_row rfl) (by decide) ?_ | refine ArgsOk.borc (by %caps) ?_ | refine ArgsOk.bor rfl rfl (deref_flat (by first | exact cl_rs rfl | exact cl_rows | exact cl_setB rfl | exact cl_setG (cl_setB rfl) rfl | exact cl_appB cl_rows (cl_rs rfl) | exact cl_rl1 | exact cl_rl2)) (by decide) ?_ | refine give' rfl (by first | exact cl_rs rfl | exact cl_rows | exact cl_setB rfl | exact cl_setG (cl_setB rfl) rfl | exact cl_appB cl_rows (cl_rs rfl) | exact cl_rl1 | exact cl_rl2) (by decide) (by decide) ?_))⟩)
        · have h3' : (l).length ≠ 20 := fun q => by rw [show (((((l).map Ru.row).length : Nat) : Int) == 20) = true from by rw [List.length_map, q]; rfl] at h3; cases h3
          have e2 : putFin (l) m = (0, l ++ [⟨m, 0⟩]) := by simp [putFin, h3']
          rw [e2, List.map_append]
          ((conv => whnf); repeat' ((first | refine ⟨rfl, ?_⟩ | refine ⟨_, row_map (by assumption), ?_⟩ | refine ⟨_, (by exact some_rfl), ?_⟩ | refine ⟨_, wrap_ok (by omega) (by omega), ?_⟩ | refine ⟨_, wrap_u64 (by omega) (by omega), ?_⟩ | refine ⟨by decide, _, fdiv_half (by omega), ?_⟩ | (intro gg)); (conv => whnf)))
          refine ⟨(by simp only [List.length_map, List.length_append, List.length_cons, List.length_nil, List.length_set, List.length_replicate, maxLen]; omega), (by simp only [List.length_map, List.length_append, List.length_cons, List.length_nil, List.length_set, List.length_replicate]; omega), ?_⟩
          ((conv => whnf); repeat' ((first | refine ⟨rfl, ?_⟩ | refine ⟨_, row_map (by assumption), ?_⟩ | refine ⟨_, (by exact some_rfl), ?_⟩ | refine ⟨_, wrap_ok (by omega) (by omega), ?_⟩ | refine ⟨_, wrap_u64 (by omega) (by omega), ?_⟩ | refine ⟨by decide, _, fdiv_half (by omega), ?_⟩ | (intro gg)); (conv => whnf)))
          (exact ⟨[288], by (repeat' (first | exact ArgsOk.nil _ | exact argsOk_cells (by assumption) | refine ArgsOk.same (by first | exact cl_b rfl | exact cl_list | exact cl_nil | exact cl_one | exact cl_ll1 | exact cl_ll2 | exact cl_clo (by assumption)) ?_ | refine ArgsOk.nilsl _ ?_ | refine ArgsOk.nilown _ _ (by decide) ?_ | refine ArgsOk.borp rfl rfl rfl (cl_row rfl) (by decide) ?_ | refine ArgsOk.borc (by %caps) ?_ | refine ArgsOk.bor rfl rfl (deref_flat (by first | exact cl_rs rfl | exact cl_rows | exact cl_setB rfl | exact cl_setG (cl_setB rfl) rfl | exact cl_appB cl_rows (cl_rs rfl) | exact cl_rl1 | exact cl_rl2)) (by decide) ?_ | refine give' rfl (by first | exact cl_rs rfl | exact cl_rows | exact cl_setB rfl | exact cl_setG (cl_setB rfl) rfl | exact cl_appB cl_rows (cl_rs rfl) | exact cl_rl1 | exact cl_rl2) (by decide) (by decide) ?_))⟩)
      · have hg : 0 ≤ at_ (Ru.is m.n) l := by rw [q1]; exact Int.natCast_nonneg k
        have hr : l[(at_ (Ru.is m.n) l).toNat]? = some l[k] := by rw [q1, Int.toNat_natCast]; exact List.getElem?_eq_getElem hk
        rw [q1]
        ((conv => whnf); repeat' ((first | refine ⟨rfl, ?_⟩ | refine ⟨_, row_map (by assumption), ?_⟩ | refine ⟨_, (by exact some_rfl), ?_⟩ | refine ⟨_, wrap_ok (by omega) (by omega), ?_⟩ | refine ⟨_, wrap_u64 (by omega) (by omega), ?_⟩ | refine ⟨by decide, _, fdiv_half (by omega), ?_⟩ | (intro gg)); (conv => whnf)))
        refine ⟨k, _, rfl, row_map hk, ?_⟩
        ((conv => whnf); repeat' ((first | refine ⟨rfl, ?_⟩ | refine ⟨_, row_map (by assumption), ?_⟩ | refine ⟨_, (by exact some_rfl), ?_⟩ | refine ⟨_, wrap_ok (by omega) (by omega), ?_⟩ | refine ⟨_, wrap_u64 (by omega) (by omega), ?_⟩ | refine ⟨by decide, _, fdiv_half (by omega), ?_⟩ | (intro gg)); (conv => whnf)))
        (refine .inl ⟨_, _, false, [], (by (repeat' (first | exact ArgsOk.nil _ | exact argsOk_cells (by assumption) | refine ArgsOk.same (by first | exact cl_b rfl | exact cl_list | exact cl_nil | exact cl_one | exact cl_ll1 | exact cl_ll2 | exact cl_clo (by assumption)) ?_ | refine ArgsOk.nilsl _ ?_ | refine ArgsOk.nilown _ _ (by decide) ?_ | refine ArgsOk.borp rfl rfl rfl (cl_row rfl) (by decide) ?_ | refine ArgsOk.borc (by (repeat' (first | exact cap_n | refine cap_p rfl rfl rfl (by first | exact cl_row rfl | exact cl_r1 rfl | exact cl_r1b) ?_ ?_ | refine cap_m rfl (by decide) ?_ | refine cap_c (by first | exact cl_b rfl | exact cl_list | exact cl_nil | exact cl_one | exact cl_ll1 | exact cl_ll2 | exact cl_clo (by assumption)) ?_ | decide))) ?_ | refine ArgsOk.bor rfl rfl (deref_flat (by first | exact cl_rs rfl | exact cl_rows | exact cl_setB rfl | exact cl_setG (cl_setB rfl) rfl | exact cl_appB cl_rows (cl_rs rfl) | exact cl_rl1 | exact cl_rl2)) (by decide) ?_ | refine give' rfl (by first | exact cl_rs rfl | exact cl_rows | exact cl_setB rfl | exact cl_setG (cl_setB rfl) rfl | exact cl_appB cl_rows (cl_rs rfl) | exact cl_rl1 | exact cl_rl2) (by decide) (by decide) ?_))), mcmp_fun m (l[k]).m, nobor, (by exact Nat.le_of_ble_eq_true rfl), ?_⟩)
        ((conv => whnf); repeat' ((first | refine ⟨rfl, ?_⟩ | refine ⟨_, row_map (by assumption), ?_⟩ | refine ⟨_, (by exact some_rfl), ?_⟩ | refine ⟨_, wrap_ok (by omega) (by omega), ?_⟩ | refine ⟨_, wrap_u64 (by omega) (by omega), ?_⟩ | refine ⟨by decide, _, fdiv_half (by omega), ?_⟩ | (intro gg)); (conv => whnf)))
        (refine bIf_of (fun h4 => ?_) (fun h4 => ?_) <;> rw [h4])
        · have h4' : Mb.cmp m (l[k]).m ≤ 0 := (by have := of_decide_eq_true h4; omega)
          rw [putR_old hg hr h4']
          ((conv => whnf); repeat' ((first | refine ⟨rfl, ?_⟩ | refine ⟨_, row_map (by assumption), ?_⟩ | refine ⟨_, (by exact some_rfl), ?_⟩ | refine ⟨_, wrap_ok (by omega) (by omega), ?_⟩ | refine ⟨_, wrap_u64 (by omega) (by omega), ?_⟩ | refine ⟨by decide, _, fdiv_half (by omega), ?_⟩ | (intro gg)); (conv => whnf)))
          (exact ⟨[288], by (repeat' (first | exact ArgsOk.nil _ | exact argsOk_cells (by assumption) | refine ArgsOk.same (by first | exact cl_b rfl | exact cl_list | exact cl_nil | exact cl_one | exact cl_ll1 | exact cl_ll2 | exact cl_clo (by assumption)) ?_ | refine ArgsOk.nilsl _ ?_ | refine ArgsOk.nilown _ _ (by decide) ?_ | refine ArgsOk.borp rfl rfl rfl (cl_row rfl) (by decide) ?_ | refine ArgsOk.borc (by %caps) ?_ | refine ArgsOk.bor rfl rfl (deref_flat (by first | exact cl_rs rfl | exact cl_rows | exact cl_setB rfl | exact cl_setG (cl_setB rfl) rfl | exact cl_appB cl_rows (cl_rs rfl) | exact cl_rl1 | exact cl_rl2)) (by decide) ?_ | refine give' rfl (by first | exact cl_rs rfl | exact cl_rows | exact cl_setB rfl | exact cl_setG (cl_setB rfl) rfl | exact cl_appB cl_rows (cl_rs rfl) | exact cl_rl1 | exact cl_rl2) (by decide) (by decide) ?_))⟩)
        · have h4' : ¬ Mb.cmp m (l[k]).m ≤ 0 := (by have := of_decide_eq_false h4; omega)
          have e : putR l m = putFin (l.eraseIdx k) m := by rw [putR_new hg hr h4', q1, Int.toNat_natCast]
          rw [e]
          have hle : (l.eraseIdx k).length ≤ 20 := by rw [List.length_eraseIdx_of_lt hk]; omega
          ((conv => whnf); repeat' ((first | refine ⟨rfl, ?_⟩ | refine ⟨_, row_map (by assumption), ?_⟩ | refine ⟨_, (by exact some_rfl), ?_⟩ | refine ⟨_, wrap_ok (by omega) (by omega), ?_⟩ | refine ⟨_, wrap_u64 (by omega) (by omega), ?_⟩ | refine ⟨by decide, _, fdiv_half (by omega), ?_⟩ | (intro gg)); (conv => whnf)))
          (refine .inl ⟨_, _, true, [288], (by (repeat' (first | exact ArgsOk.nil _ | exact argsOk_cells (by assumption) | refine ArgsOk.same (by first | exact cl_b rfl | exact cl_list | exact cl_nil | exact cl_one | exact cl_ll1 | exact cl_ll2 | exact cl_clo (by assumption)) ?_ | refine ArgsOk.nilsl _ ?_ | refine ArgsOk.nilown _ _ (by decide) ?_ | refine ArgsOk.borp rfl rfl rfl (cl_row rfl) (by decide) ?_ | refine ArgsOk.borc (by (repeat' (first | exact cap_n | refine cap_p rfl rfl rfl (by first | exact cl_row rfl | exact cl_r1 rfl | exact cl_r1b) ?_ ?_ | refine cap_m rfl (by decide) ?_ | refine cap_c (by first | exact cl_b rfl | exact cl_list | exact cl_nil | exact cl_one | exact cl_ll1 | exact cl_ll2 | exact cl_clo (by assumption)) ?_ | decide))) ?_ | refine ArgsOk.bor rfl rfl (deref_flat (by first | exact cl_rs rfl | exact cl_rows | exact cl_setB rfl | exact cl_setG (cl_setB rfl) rfl | exact cl_appB cl_rows (cl_rs rfl) | exact cl_rl1 | exact cl_rl2)) (by decide) ?_ | refine give' rfl (by first | exact cl_rs rfl | exact cl_rows | exact cl_setB rfl | exact cl_setG (cl_setB rfl) rfl | exact cl_appB cl_rows (cl_rs rfl) | exact cl_rl1 | exact cl_rl2) (by decide) (by decide) ?_))), delRu_fun l k hk (by omega), (fun _ => by (first | exact flat_b rfl | exact flat_own | exact flat_own1 rfl | exact flat_own2 rfl)), (by exact Nat.le_of_ble_eq_true rfl), ?_⟩)
          ((conv => whnf); repeat' ((first | refine ⟨rfl, ?_⟩ | refine ⟨_, row_map (by assumption), ?_⟩ | refine ⟨_, (by exact some_rfl), ?_⟩ | refine ⟨_, wrap_ok (by omega) (by omega), ?_⟩ | refine ⟨_, wrap_u64 (by omega) (by omega), ?_⟩ | refine ⟨by decide, _, fdiv_half (by omega), ?_⟩ | (intro gg)); (conv => whnf)))
          (refine bIf_of (fun h3 => ?_) (fun h3 => ?_) <;> rw [h3])
          · have h3' : (l.eraseIdx k).length = 20 := by have := beq_iff_eq.1 h3; simp only [List.length_map] at this; omega
            have e2 : putFin (l.eraseIdx k) m = (2, []) := by simp [putFin, h3']
            rw [e2]
            ((conv => whnf); repeat' ((first | refine ⟨rfl, ?_⟩ | refine ⟨_, row_map (by assumption), ?_⟩ | refine ⟨_, (by exact some_rfl), ?_⟩ | refine ⟨_, wrap_ok (by omega) (by omega), ?_⟩ | refine ⟨_, wrap_u64 (by omega) (by omega), ?_⟩ | refine ⟨by decide, _, fdiv_half (by omega), ?_⟩ | (intro gg)); (conv => whnf)))
            (exact ⟨[], by (repeat' (first | exact ArgsOk.nil _ | exact argsOk_cells (by assumption) | refine ArgsOk.same (by first | exact cl_b rfl | exact cl_list | exact cl_nil | exact cl_one | exact cl_ll1 | exact cl_ll2 | exact cl_clo (by assumption)) ?_ | refine ArgsOk.nilsl _ ?_ | refine ArgsOk.nilown _ _ (by decide) ?_ | refine ArgsOk.borp rfl rfl rfl (cl_row rfl) (by decide) ?_ | refine ArgsOk.borc (by %caps) ?_ | refine ArgsOk.bor rfl rfl (deref_flat (by first | exact cl_rs rfl | exact cl_rows | exact cl_setB rfl | exact cl_setG (cl_setB rfl) rfl | exact cl_appB cl_rows (cl_rs rfl) | exact cl_rl1 | exact cl_rl2)) (by decide) ?_ | refine give' rfl (by first | exact cl_rs rfl | exact cl_rows | exact cl_setB rfl | exact cl_setG (cl_setB rfl) rfl | exact cl_appB cl_rows (cl_rs rfl) | exact cl_rl1 | exact cl_rl2) (by decide) (by decide) ?_))⟩)
          · have h3' : (l.eraseIdx k).length ≠ 20 := fun q => by rw [show (((((l.eraseIdx k).map Ru.row).length : Nat) : Int) == 20) = true from by rw [List.length_map, q]; rfl] at h3; cases h3
            have e2 : putFin (l.eraseIdx k) m = (0, l.eraseIdx k ++ [⟨m, 0⟩]) := by simp [putFin, h3']
            rw [e2, List.map_append]
            ((conv => whnf); repeat' ((first | refine ⟨rfl, ?_⟩ | refine ⟨_, row_map (by assumption), ?_⟩ | refine ⟨_, (by exact some_rfl), ?_⟩ | refine ⟨_, wrap_ok (by omega) (by omega), ?_⟩ | refine ⟨_, wrap_u64 (by omega) (by omega), ?_⟩ | refine ⟨by decide, _, fdiv_half (by omega), ?_⟩ | (intro gg)); (conv => whnf)))
            refine ⟨(by simp only [List.length_map, List.length_append, List.length_cons, List.length_nil, List.length_set, List.length_replicate, maxLen]; omega), (by simp only [List.length_map, List.length_append, List.length_cons, List.length_nil, List.length_set, List.length_replicate]; omega), ?_⟩
            ((conv => whnf); repeat' ((first | refine ⟨rfl, ?_⟩ | refine ⟨_, row_map (by assumption), ?_⟩ | refine ⟨_, (by exact some_rfl), ?_⟩ | refine ⟨_, wrap_ok (by omega) (by omega), ?_⟩ | refine ⟨_, wrap_u64 (by omega) (by omega), ?_⟩ | refine ⟨by decide, _, fdiv_half (by omega), ?_⟩ | (intro gg)); (conv => whnf)))
            (exact ⟨[592], by (repeat' (first | exact ArgsOk.nil _ | exact argsOk_cells (by assumption) | refine ArgsOk.same (by first | exact cl_b rfl | exact cl_list | exact cl_nil | exact cl_one | exact cl_ll1 | exact cl_ll2 | exact cl_clo (by assumption)) ?_ | refine ArgsOk.nilsl _ ?_ | refine ArgsOk.nilown _ _ (by decide) ?_ | refine ArgsOk.borp rfl rfl rfl (cl_row rfl) (by decide) ?_ | refine ArgsOk.borc (by %caps) ?_ | refine ArgsOk.bor rfl rfl (deref_flat (by first | exact cl_rs rfl | exact cl_rows | exact cl_setB rfl | exact cl_setG (cl_setB rfl) rfl | exact cl_appB cl_rows (cl_rs rfl) | exact cl_rl1 | exact cl_rl2)) (by decide) ?_ | refine give' rfl (by first | exact cl_rs rfl | exact cl_rows | exact cl_setB rfl | exact cl_setG (cl_setB rfl) rfl | exact cl_appB cl_rows (cl_rs rfl) | exact cl_rl1 | exact cl_rl2) (by decide) (by decide) ?_))⟩)
  · have h1' : ckRu l ≠ 0 := by simpa using h1
    rw [putRu_ck h1']
    ((conv => whnf); repeat' ((first | refine ⟨rfl, ?_⟩ | refine ⟨_, row_map (by assumption), ?_⟩ | refine ⟨_, (by exact some_rfl), ?_⟩ | refine ⟨_, wrap_ok (by omega) (by omega), ?_⟩ | refine ⟨_, wrap_u64 (by omega) (by omega), ?_⟩ | refine ⟨by decide, _, fdiv_half (by omega), ?_⟩ | (intro gg)); (conv => whnf)))
    rw [show (ckRu l != 0) = true from by simpa using h1']
    ((conv => whnf); repeat' ((first | refine ⟨rfl, ?_⟩ | refine ⟨_, row_map (by assumption), ?_⟩ | refine ⟨_, (by exact some_rfl), ?_⟩ | refine ⟨_, wrap_ok (by omega) (by omega), ?_⟩ | refine ⟨_, wrap_u64 (by omega) (by omega), ?_⟩ | refine ⟨by decide, _, fdiv_half (by omega), ?_⟩ | (intro gg)); (conv => whnf)))
    (exact ⟨[], by (repeat' (first | exact ArgsOk.nil _ | exact argsOk_cells (by assumption) | refine ArgsOk.same (by first | exact cl_b rfl | exact cl_list | exact cl_nil | exact cl_one | exact cl_ll1 | exact cl_ll2 | exact cl_clo (by assumption)) ?_ | refine ArgsOk.nilsl _ ?_ | refine ArgsOk.nilown _ _ (by decide) ?_ | refine ArgsOk.borp rfl rfl rfl (cl_row rfl) (by decide) ?_ | refine ArgsOk.borc (by %caps) ?_ | refine ArgsOk.bor rfl rfl (deref_flat (by first | exact cl_rs rfl | exact cl_rows | exact cl_setB rfl | exact cl_setG (cl_setB rfl) rfl | exact cl_appB cl_rows (cl_rs rfl) | exact cl_rl1 | exact cl_rl2)) (by decide) ?_ | refine give' rfl (by first | exact cl_rs rfl | exact cl_rows | exact cl_setB rfl | exact cl_setG (cl_setB rfl) rfl | exact cl_appB cl_rows (cl_rs rfl) | exact cl_rl1 | exact cl_rl2) (by decide) (by decide) ?_))⟩)
/-- the reference -/
theorem rputRu_fun (l : List Ru) (m : Mb) (hi : RuOk l) : Fun Try.prog 16 [.c (.sl false (l.map Ru.row)), .c (.agg m.row)] [.c (.sl false ((putR l m).2.map Ru.row)), .c (.v (.int .i64 (putR l m).1))] := by
  have hlen := hi.len
  refine fun_x ck_hearsayref_PutRumor rfl ?_
  ((conv => whnf); repeat' ((first | refine ⟨rfl, ?_⟩ | refine ⟨_, row_map (by assumption), ?_⟩ | refine ⟨_, (by exact some_rfl), ?_⟩ | refine ⟨_, wrap_ok (by omega) (by omega), ?_⟩ | refine ⟨_, wrap_u64 (by omega) (by omega), ?_⟩ | refine ⟨by decide, _, fdiv_half (by omega), ?_⟩ | (intro gg)); (conv => whnf)))
  (refine ⟨[(6, 96, 55, 6)], none, {p : Nat × Nat // p.1 ≤ l.length ∧ ∀ j, (h : j < l.length) → j < p.1 → Ru.is m.n l[j] = true → 0 < Mb.cmp m l[j].m}, [0, 3], fun ⟨⟨k, g⟩, hk, h0⟩ => [(6, .own 96 g), (7, .v (.int .i64 k))], [48], fun ⟨⟨k, g⟩, hk, h0⟩ => [(96, ⟨g, 55, 6, (others m.n (l.take k)).map Ru.row⟩)], fun ⟨⟨k, g⟩, hk, h0⟩ => l.length - k, (by exact ⟨rfl, by decide, (fun _ _ _ _ h => by cases h), trivial⟩), fun gs => ⟨trivial, fun _ => ⟨⟨(0, gs 96), Nat.zero_le _, fun j _ h => absurd h (Nat.not_lt_zero _)⟩, by (repeat' (first | exact trivial | refine ⟨rfl, ?_⟩)), by (repeat' (first | exact trivial | refine ⟨rfl, ?_⟩)), by (repeat' (first | exact trivial | refine ⟨rfl, ?_⟩)), by (repeat' (first | exact trivial | refine ⟨rfl, ?_⟩))⟩⟩, fun ⟨⟨k, g⟩, hk, h0⟩ => ?_⟩)
  ((conv => whnf); repeat' ((first | refine ⟨rfl, ?_⟩ | refine ⟨_, row_map (by assumption), ?_⟩ | refine ⟨_, (by exact some_rfl), ?_⟩ | refine ⟨_, wrap_ok (by omega) (by omega), ?_⟩ | refine ⟨_, wrap_u64 (by omega) (by omega), ?_⟩ | refine ⟨by decide, _, fdiv_half (by omega), ?_⟩ | (intro gg)); (conv => whnf)))
  (refine bIf_of (fun h => ?_) (fun h => ?_) <;> rw [h])
  · have hlt : k < l.length := by have := of_decide_eq_true h; simpa using this
    have ho := others_take (n := m.n) hlt
    ((conv => whnf); repeat' ((first | refine ⟨rfl, ?_⟩ | refine ⟨_, row_map (by assumption), ?_⟩ | refine ⟨_, (by exact some_rfl), ?_⟩ | refine ⟨_, wrap_ok (by omega) (by omega), ?_⟩ | refine ⟨_, wrap_u64 (by omega) (by omega), ?_⟩ | refine ⟨by decide, _, fdiv_half (by omega), ?_⟩ | (intro gg)); (conv => whnf)))
    refine ⟨k, _, rfl, row_map hlt, ?_⟩
    ((conv => whnf); repeat' ((first | refine ⟨rfl, ?_⟩ | refine ⟨_, row_map (by assumption), ?_⟩ | refine ⟨_, (by exact some_rfl), ?_⟩ | refine ⟨_, wrap_ok (by omega) (by omega), ?_⟩ | refine ⟨_, wrap_u64 (by omega) (by omega), ?_⟩ | refine ⟨by decide, _, fdiv_half (by omega), ?_⟩ | (intro gg)); (conv => whnf)))
    (refine bIf_of (fun h2 => ?_) (fun h2 => ?_) <;> rw [h2])
    · have h2' : Ru.is m.n l[k] = false := not_t h2
      rw [h2', if_neg (by simp)] at ho
      have hle : (others m.n (l.take k)).length ≤ 20 := Nat.le_trans (List.length_filter_le _ _) (by simp; omega)
      ((conv => whnf); repeat' ((first | refine ⟨rfl, ?_⟩ | refine ⟨_, row_map (by assumption), ?_⟩ | refine ⟨_, (by exact some_rfl), ?_⟩ | refine ⟨_, wrap_ok (by omega) (by omega), ?_⟩ | refine ⟨_, wrap_u64 (by omega) (by omega), ?_⟩ | refine ⟨by decide, _, fdiv_half (by omega), ?_⟩ | (intro gg)); (conv => whnf)))
      refine ⟨k, _, rfl, row_map hlt, ?_⟩
      ((conv => whnf); repeat' ((first | refine ⟨rfl, ?_⟩ | refine ⟨_, row_map (by assumption), ?_⟩ | refine ⟨_, (by exact some_rfl), ?_⟩ | refine ⟨_, wrap_ok (by omega) (by omega), ?_⟩ | refine ⟨_, wrap_u64 (by omega) (by omega), ?_⟩ | refine ⟨by decide, _, fdiv_half (by omega), ?_⟩ | (intro gg)); (conv => whnf)))
      refine ⟨(by simp only [List.length_map, List.length_append, List.length_cons, List.length_nil, List.length_set, List.length_replicate, maxLen]; omega), (by simp only [List.length_map, List.length_append, List.length_cons, List.length_nil, List.length_set, List.length_replicate]; omega), ?_⟩
      ((conv => whnf); repeat' ((first | refine ⟨rfl, ?_⟩ | refine ⟨_, row_map (by assumption), ?_⟩ | refine ⟨_, (by exact some_rfl), ?_⟩ | refine ⟨_, wrap_ok (by omega) (by omega), ?_⟩ | refine ⟨_, wrap_u64 (by omega) (by omega), ?_⟩ | refine ⟨by decide, _, fdiv_half (by omega), ?_⟩ | (intro gg)); (conv => whnf)))
      have e : (others m.n (l.take k)).map Ru.row ++ [Ru.row l[k]] = (others m.n (l.take (k + 1))).map Ru.row := by rw [ho, List.map_append]; rfl
      (exact ⟨none, trivial, fun gr => ⟨⟨(k + 1, gg), by dsimp only; omega, up1 (p := fun j h => Ru.is m.n l[j] = true → 0 < Mb.cmp m l[j].m) h0 (fun _ q => by rw [h2'] at q; cases q)⟩, by show l.length - (k + 1) < l.length - k; omega, by (repeat' (first | exact trivial | refine ⟨rfl, ?_⟩)), by (repeat' (first | exact trivial | refine ⟨rfl, ?_⟩)), ⟨congrArg (fun r => some (Ent.mk gg (.t 55) 6 r)) e, trivial⟩, by (repeat' (first | exact trivial | refine ⟨rfl, ?_⟩))⟩⟩)
    · have h2' : Ru.is m.n l[k] = true := not_f h2
      rw [if_pos h2'] at ho
      ((conv => whnf); repeat' ((first | refine ⟨rfl, ?_⟩ | refine ⟨_, row_map (by assumption), ?_⟩ | refine ⟨_, (by exact some_rfl), ?_⟩ | refine ⟨_, wrap_ok (by omega) (by omega), ?_⟩ | refine ⟨_, wrap_u64 (by omega) (by omega), ?_⟩ | refine ⟨by decide, _, fdiv_half (by omega), ?_⟩ | (intro gg)); (conv => whnf)))
      refine ⟨k, _, rfl, row_map hlt, ?_⟩
      ((conv => whnf); repeat' ((first | refine ⟨rfl, ?_⟩ | refine ⟨_, row_map (by assumption), ?_⟩ | refine ⟨_, (by exact some_rfl), ?_⟩ | refine ⟨_, wrap_ok (by omega) (by omega), ?_⟩ | refine ⟨_, wrap_u64 (by omega) (by omega), ?_⟩ | refine ⟨by decide, _, fdiv_half (by omega), ?_⟩ | (intro gg)); (conv => whnf)))
      (refine .inl ⟨_, _, false, [], (by (repeat' (first | exact ArgsOk.nil _ | exact argsOk_cells (by assumption) | refine ArgsOk.same (by first | exact cl_b rfl | exact cl_list | exact cl_nil | exact cl_one | exact cl_ll1 | exact cl_ll2 | exact cl_clo (by assumption)) ?_ | refine ArgsOk.nilsl _ ?_ | refine ArgsOk.nilown _ _ (by decide) ?_ | refine ArgsOk.borp rfl rfl rfl (cl_row rfl) (by decide) ?_ | refine ArgsOk.borc (by (repeat' (first | exact cap_n | refine cap_p rfl rfl rfl (by first | exact cl_row rfl | exact cl_r1 rfl | exact cl_r1b) ?_ ?_ | refine cap_m rfl (by decide) ?_ | refine cap_c (by first | exact cl_b rfl | exact cl_list | exact cl_nil | exact cl_one | exact cl_ll1 | exact cl_ll2 | exact cl_clo (by assumption)) ?_ | decide))) ?_ | refine ArgsOk.bor rfl rfl (deref_flat (by first | exact cl_rs rfl | exact cl_rows | exact cl_setB rfl | exact cl_setG (cl_setB rfl) rfl | exact cl_appB cl_rows (cl_rs rfl) | exact cl_rl1 | exact cl_rl2)) (by decide) ?_ | refine give' rfl (by first | exact cl_rs rfl | exact cl_rows | exact cl_setB rfl | exact cl_setG (cl_setB rfl) rfl | exact cl_appB cl_rows (cl_rs rfl) | exact cl_rl1 | exact cl_rl2) (by decide) (by decide) ?_))), rnewer_fun m (l[k]).m, nobor, (by exact Nat.le_of_ble_eq_true rfl), ?_⟩)
      ((conv => whnf); repeat' ((first | refine ⟨rfl, ?_⟩ | refine ⟨_, row_map (by assumption), ?_⟩ | refine ⟨_, (by exact some_rfl), ?_⟩ | refine ⟨_, wrap_ok (by omega) (by omega), ?_⟩ | refine ⟨_, wrap_u64 (by omega) (by omega), ?_⟩ | refine ⟨by decide, _, fdiv_half (by omega), ?_⟩ | (intro gg)); (conv => whnf)))
      (refine bIf_of (fun h3 => ?_) (fun h3 => ?_) <;> rw [h3])
      · have h3' : ¬ 0 < Mb.cmp m (l[k]).m := of_decide_eq_false (not_t h3)
        have e : putR l m = (0, l) := by
          rcases at_inv (p := Ru.is m.n) (l := l) with ⟨q1, q2⟩ | ⟨i, hi', q1, q2, q3⟩
          · have := q2 k hlt; rw [h2'] at this; cases this
          · have e1 : i = k := nd_get hi.nd hi' hlt ((Ru.is_iff.1 q2).trans (Ru.is_iff.1 h2').symm)
            subst e1
            exact putR_old (r := l[i]) (by rw [q1]; exact Int.natCast_nonneg i) (by rw [q1, Int.toNat_natCast]; exact List.getElem?_eq_getElem hlt) (by omega)
        rw [e]
        ((conv => whnf); repeat' ((first | refine ⟨rfl, ?_⟩ | refine ⟨_, row_map (by assumption), ?_⟩ | refine ⟨_, (by exact some_rfl), ?_⟩ | refine ⟨_, wrap_ok (by omega) (by omega), ?_⟩ | refine ⟨_, wrap_u64 (by omega) (by omega), ?_⟩ | refine ⟨by decide, _, fdiv_half (by omega), ?_⟩ | (intro gg)); (conv => whnf)))
        (exact ⟨[], by (repeat' (first | exact ArgsOk.nil _ | exact argsOk_cells (by assumption) | refine ArgsOk.same (by first | exact cl_b rfl | exact cl_list | exact cl_nil | exact cl_one | exact cl_ll1 | exact cl_ll2 | exact cl_clo (by assumption)) ?_ | refine ArgsOk.nilsl _ ?_ | refine ArgsOk.nilown _ _ (by decide) ?_ | refine ArgsOk.borp rfl rfl rfl (cl_row rfl) (by decide) ?_ | refine ArgsOk.borc (by %caps) ?_ | refine ArgsOk.bor rfl rfl (deref_flat (by first | exact cl_rs rfl | exact cl_rows | exact cl_setB rfl | exact cl_setG (cl_setB rfl) rfl | exact cl_appB cl_rows (cl_rs rfl) | exact cl_rl1 | exact cl_rl2)) (by decide) ?_ | refine give' rfl (by first | exact cl_rs rfl | exact cl_rows | exact cl_setB rfl | exact cl_setG (cl_setB rfl) rfl | exact cl_appB cl_rows (cl_rs rfl) | exact cl_rl1 | exact cl_rl2) (by decide) (by decide) ?_))⟩)
      · have h3' : 0 < Mb.cmp m (l[k]).m := of_decide_eq_true (not_f h3)
        ((conv => whnf); repeat' ((first | refine ⟨rfl, ?_⟩ | refine ⟨_, row_map (by assumption), ?_⟩ | refine ⟨_, (by exact some_rfl), ?_⟩ | refine ⟨_, wrap_ok (by omega) (by omega), ?_⟩ | refine ⟨_, wrap_u64 (by omega) (by omega), ?_⟩ | refine ⟨by decide, _, fdiv_half (by omega), ?_⟩ | (intro gg)); (conv => whnf)))
        (exact ⟨none, trivial, fun gr => ⟨⟨(k + 1, g), by dsimp only; omega, up1 (p := fun j h => Ru.is m.n l[j] = true → 0 < Mb.cmp m l[j].m) h0 (fun _ _ => h3')⟩, by show l.length - (k + 1) < l.length - k; omega, by (repeat' (first | exact trivial | refine ⟨rfl, ?_⟩)), by (repeat' (first | exact trivial | refine ⟨rfl, ?_⟩)), ⟨congrArg (fun r => some (Ent.mk g (.t 55) 6 (List.map Ru.row r))) ho.symm, trivial⟩, by (repeat' (first | exact trivial | refine ⟨rfl, ?_⟩))⟩⟩)
  · have hge : ¬ k < l.length := by have := of_decide_eq_false h; simpa using this
    obtain rfl : k = l.length := by dsimp only at hk; omega
    have e0 : l.take l.length = l := List.take_length
    have e : putR l m = putFin (others m.n (l.take l.length)) m := by
      rw [e0]
      rcases at_inv (p := Ru.is m.n) (l := l) with ⟨q1, q2⟩ | ⟨i, hi', q1, q2, q3⟩
      · rw [others_none (fun r hr => by obtain ⟨i, h, rfl⟩ := List.getElem_of_mem hr; exact q2 i h)]
        exact putR_no (by rw [q1]; decide)
      · rw [others_erase i hi' hi.nd q2]
        have := h0 i hi' (by dsimp only; omega) q2
        rw [putR_new (r := l[i]) (by rw [q1]; exact Int.natCast_nonneg i) (by rw [q1, Int.toNat_natCast]; exact List.getElem?_eq_getElem hi') (by omega), q1, Int.toNat_natCast]
    have hle : (others m.n (l.take l.length)).length ≤ 20 := by rw [e0]; exact Nat.le_trans (List.length_filter_le _ _) hlen
    rw [e]
    ((conv => whnf); repeat' ((first | refine ⟨rfl, ?_⟩ | refine ⟨_, row_map (by assumption), ?_⟩ | refine ⟨_, (by exact some_rfl), ?_⟩ | refine ⟨_, wrap_ok (by omega) (by omega), ?_⟩ | refine ⟨_, wrap_u64 (by omega) (by omega), ?_⟩ | refine ⟨by decide, _, fdiv_half (by omega), ?_⟩ | (intro gg)); (conv => whnf)))
    (refine bIf_of (fun h3 => ?_) (fun h3 => ?_) <;> rw [h3])
    · have h3' : (others m.n (l.take l.length)).length = 20 := by have := beq_iff_eq.1 h3; simp only [List.length_map] at this; omega
      have e2 : putFin (others m.n (l.take l.length)) m = (2, []) := by simp only [putFin, h3', if_true]
      rw [e2]
      ((conv => whnf); repeat' ((first | refine ⟨rfl, ?_⟩ | refine ⟨_, row_map (by assumption), ?_⟩ | refine ⟨_, (by exact some_rfl), ?_⟩ | refine ⟨_, wrap_ok (by omega) (by omega), ?_⟩ | refine ⟨_, wrap_u64 (by omega) (by omega), ?_⟩ | refine ⟨by decide, _, fdiv_half (by omega), ?_⟩ | (intro gg)); (conv => whnf)))
      (exact ⟨[], by (repeat' (first | exact ArgsOk.nil _ | exact argsOk_cells (by assumption) | refine ArgsOk.same (by first | exact cl_b rfl | exact cl_list | exact cl_nil | exact cl_one | exact cl_ll1 | exact cl_ll2 | exact cl_clo (by assumption)) ?_ | refine ArgsOk.nilsl _ ?_ | refine ArgsOk.nilown _ _ (by decide) ?_ | refine ArgsOk.borp rfl rfl rfl (cl_row rfl) (by decide) ?_ | refine ArgsOk.borc (by %caps) ?_ | refine ArgsOk.bor rfl rfl (deref_flat (by first | exact cl_rs rfl | exact cl_rows | exact cl_setB rfl | exact cl_setG (cl_setB rfl) rfl | exact cl_appB cl_rows (cl_rs rfl) | exact cl_rl1 | exact cl_rl2)) (by decide) ?_ | refine give' rfl (by first | exact cl_rs rfl | exact cl_rows | exact cl_setB rfl | exact cl_setG (cl_setB rfl) rfl | exact cl_appB cl_rows (cl_rs rfl) | exact cl_rl1 | exact cl_rl2) (by decide) (by decide) ?_))⟩)
    · have h3' : (others m.n (l.take l.length)).length ≠ 20 := fun q => by rw [show (((((others m.n (l.take l.length)).map Ru.row).length : Nat) : Int) == 20) = true from by rw [List.length_map, q]; rfl] at h3; cases h3
      have e2 : putFin (others m.n (l.take l.length)) m = (0, others m.n (l.take l.length) ++ [⟨m, 0⟩]) := by simp only [putFin, h3', if_false]
      rw [e2, List.map_append]
      ((conv => whnf); repeat' ((first | refine ⟨rfl, ?_⟩ | refine ⟨_, row_map (by assumption), ?_⟩ | refine ⟨_, (by exact some_rfl), ?_⟩ | refine ⟨_, wrap_ok (by omega) (by omega), ?_⟩ | refine ⟨_, wrap_u64 (by omega) (by omega), ?_⟩ | refine ⟨by decide, _, fdiv_half (by omega), ?_⟩ | (intro gg)); (conv => whnf)))
      refine ⟨(by simp only [List.length_map, List.length_append, List.length_cons, List.length_nil, List.length_set, List.length_replicate, maxLen]; omega), (by simp only [List.length_map, List.length_append, List.length_cons, List.length_nil, List.length_set, List.length_replicate]; omega), ?_⟩
      ((conv => whnf); repeat' ((first | refine ⟨rfl, ?_⟩ | refine ⟨_, row_map (by assumption), ?_⟩ | refine ⟨_, (by exact some_rfl), ?_⟩ | refine ⟨_, wrap_ok (by omega) (by omega), ?_⟩ | refine ⟨_, wrap_u64 (by omega) (by omega), ?_⟩ | refine ⟨by decide, _, fdiv_half (by omega), ?_⟩ | (intro gg)); (conv => whnf)))
      (exact ⟨[], by (repeat' (first | exact ArgsOk.nil _ | exact argsOk_cells (by assumption) | refine ArgsOk.same (by first | exact cl_b rfl | exact cl_list | exact cl_nil | exact cl_one | exact cl_ll1 | exact cl_ll2 | exact cl_clo (by assumption)) ?_ | refine ArgsOk.nilsl _ ?_ | refine ArgsOk.nilown _ _ (by decide) ?_ | refine ArgsOk.borp rfl rfl rfl (cl_row rfl) (by decide) ?_ | refine ArgsOk.borc (by %caps) ?_ | refine ArgsOk.bor rfl rfl (deref_flat (by first | exact cl_rs rfl | exact cl_rows | exact cl_setB rfl | exact cl_setG (cl_setB rfl) rfl | exact cl_appB cl_rows (cl_rs rfl) | exact cl_rl1 | exact cl_rl2)) (by decide) ?_ | refine give' rfl (by first | exact cl_rs rfl | exact cl_rows | exact cl_setB rfl | exact cl_setG (cl_setB rfl) rfl | exact cl_appB cl_rows (cl_rs rfl) | exact cl_rl1 | exact cl_rl2) (by decide) (by decide) ?_))⟩)
theorem up0 {k : Nat} {p : Nat → Prop} (h0 : ∀ j, j < k → p j) (hk : p k) : ∀ j, j < k + 1 → p j := fun j hj => by
  rcases (by omega : j < k ∨ j = k) with q | rfl
  · exact h0 j q
  · exact hk
theorem pow_in : ∀ k : Nat, k < 6 → IntKind.i64.wrap (1 * 2 ^ (min (k : Int).toNat IntKind.i64.bits)) = ((2 ^ k : Nat) : Int) := by decide
theorem times_at : ∀ n : Nat, n < 21 → ∀ k : Nat, k < 6 → ¬ 2 ^ k ≤ n → (∀ j, j < k → 2 ^ j ≤ n) → timesL n = 3 * (k : Int) := by decide
theorem ruTimes_fun (n : Int) : Fun Try.prog 24 [.c (.v (.int .i64 n))] [.c (.v (.int .i64 (if n < 0 ∨ 20 < n then 0 else timesL n))), .c (.v (.int .i64 (if n < 0 ∨ 20 < n then 3 else 0)))] := by
  refine fun_x ck_rumor_Times rfl ?_
  ((conv => whnf); repeat' ((first | refine ⟨rfl, ?_⟩ | refine ⟨_, row_map (by assumption), ?_⟩ | refine ⟨_, (by exact some_rfl), ?_⟩ | refine ⟨_, wrap_ok (by omega) (by omega), ?_⟩ | refine ⟨_, wrap_u64 (by omega) (by omega), ?_⟩ | refine ⟨by decide, _, fdiv_half (by omega), ?_⟩ | (intro gg)); (conv => whnf)))
  (refine bIf_of (fun h => ?_) (fun h => ?_) <;> rw [h])
  · have h' : n < 0 ∨ 20 < n := .inl (of_decide_eq_true h)
    ((conv => whnf); repeat' ((first | refine ⟨rfl, ?_⟩ | refine ⟨_, row_map (by assumption), ?_⟩ | refine ⟨_, (by exact some_rfl), ?_⟩ | refine ⟨_, wrap_ok (by omega) (by omega), ?_⟩ | refine ⟨_, wrap_u64 (by omega) (by omega), ?_⟩ | refine ⟨by decide, _, fdiv_half (by omega), ?_⟩ | (intro gg)); (conv => whnf)))
    rw [if_pos h', if_pos h']
    (exact ⟨[], by (repeat' (first | exact ArgsOk.nil _ | exact argsOk_cells (by assumption) | refine ArgsOk.same (by first | exact cl_b rfl | exact cl_list | exact cl_nil | exact cl_one | exact cl_ll1 | exact cl_ll2 | exact cl_clo (by assumption)) ?_ | refine ArgsOk.nilsl _ ?_ | refine ArgsOk.nilown _ _ (by decide) ?_ | refine ArgsOk.borp rfl rfl rfl (cl_row rfl) (by decide) ?_ | refine ArgsOk.borc (by %caps) ?_ | refine ArgsOk.bor rfl rfl (deref_flat (by first | exact cl_rs rfl | exact cl_rows | exact cl_setB rfl | exact cl_setG (cl_setB rfl) rfl | exact cl_appB cl_rows (cl_rs rfl) | exact cl_rl1 | exact cl_rl2)) (by decide) ?_ | refine give' rfl (by first | exact cl_rs rfl | exact cl_rows | exact cl_setB rfl | exact cl_setG (cl_setB rfl) rfl | exact cl_appB cl_rows (cl_rs rfl) | exact cl_rl1 | exact cl_rl2) (by decide) (by decide) ?_))⟩)
  · have h1 : ¬ n < 0 := of_decide_eq_false h
    ((conv => whnf); repeat' ((first | refine ⟨rfl, ?_⟩ | refine ⟨_, row_map (by assumption), ?_⟩ | refine ⟨_, (by exact some_rfl), ?_⟩ | refine ⟨_, wrap_ok (by omega) (by omega), ?_⟩ | refine ⟨_, wrap_u64 (by omega) (by omega), ?_⟩ | refine ⟨by decide, _, fdiv_half (by omega), ?_⟩ | (intro gg)); (conv => whnf)))
    (refine bIf_of (fun h2 => ?_) (fun h2 => ?_) <;> rw [h2])
    · have h' : n < 0 ∨ 20 < n := .inr (of_decide_eq_true h2)
      ((conv => whnf); repeat' ((first | refine ⟨rfl, ?_⟩ | refine ⟨_, row_map (by assumption), ?_⟩ | refine ⟨_, (by exact some_rfl), ?_⟩ | refine ⟨_, wrap_ok (by omega) (by omega), ?_⟩ | refine ⟨_, wrap_u64 (by omega) (by omega), ?_⟩ | refine ⟨by decide, _, fdiv_half (by omega), ?_⟩ | (intro gg)); (conv => whnf)))
      rw [if_pos h', if_pos h']
      (exact ⟨[], by (repeat' (first | exact ArgsOk.nil _ | exact argsOk_cells (by assumption) | refine ArgsOk.same (by first | exact cl_b rfl | exact cl_list | exact cl_nil | exact cl_one | exact cl_ll1 | exact cl_ll2 | exact cl_clo (by assumption)) ?_ | refine ArgsOk.nilsl _ ?_ | refine ArgsOk.nilown _ _ (by decide) ?_ | refine ArgsOk.borp rfl rfl rfl (cl_row rfl) (by decide) ?_ | refine ArgsOk.borc (by %caps) ?_ | refine ArgsOk.bor rfl rfl (deref_flat (by first | exact cl_rs rfl | exact cl_rows | exact cl_setB rfl | exact cl_setG (cl_setB rfl) rfl | exact cl_appB cl_rows (cl_rs rfl) | exact cl_rl1 | exact cl_rl2)) (by decide) ?_ | refine give' rfl (by first | exact cl_rs rfl | exact cl_rows | exact cl_setB rfl | exact cl_setG (cl_setB rfl) rfl | exact cl_appB cl_rows (cl_rs rfl) | exact cl_rl1 | exact cl_rl2) (by decide) (by decide) ?_))⟩)
    · have h3 : ¬ 20 < n := of_decide_eq_false h2
      have h' : ¬ (n < 0 ∨ 20 < n) := by omega
      obtain ⟨m, rfl⟩ : ∃ m : Nat, n = m := ⟨n.toNat, by omega⟩
      rw [if_neg h', if_neg h']
      ((conv => whnf); repeat' ((first | refine ⟨rfl, ?_⟩ | refine ⟨_, row_map (by assumption), ?_⟩ | refine ⟨_, (by exact some_rfl), ?_⟩ | refine ⟨_, wrap_ok (by omega) (by omega), ?_⟩ | refine ⟨_, wrap_u64 (by omega) (by omega), ?_⟩ | refine ⟨by decide, _, fdiv_half (by omega), ?_⟩ | (intro gg)); (conv => whnf)))
      (refine ⟨[], none, {k : Nat // k < 6 ∧ ∀ j, j < k → 2 ^ j ≤ m}, [0], fun ⟨k, hk, h0⟩ => [(4, .v (.int .i64 k))], [], fun ⟨k, hk, h0⟩ => [], fun ⟨k, hk, h0⟩ => 6 - k, trivial, fun _ => ⟨trivial, fun _ => ⟨⟨0, by omega, fun j h => by omega⟩, by (repeat' (first | exact trivial | refine ⟨rfl, ?_⟩)), keptE_refl _ _, by (repeat' (first | exact trivial | refine ⟨rfl, ?_⟩)), keptH_refl _ _⟩⟩, fun ⟨k, hk, h0⟩ => ?_⟩)
      ((conv => whnf); repeat' ((first | refine ⟨rfl, ?_⟩ | refine ⟨_, row_map (by assumption), ?_⟩ | refine ⟨_, (by exact some_rfl), ?_⟩ | refine ⟨_, wrap_ok (by omega) (by omega), ?_⟩ | refine ⟨_, wrap_u64 (by omega) (by omega), ?_⟩ | refine ⟨by decide, _, fdiv_half (by omega), ?_⟩ | (intro gg)); (conv => whnf)))
      refine ⟨by omega, _, pow_in k hk, ?_⟩
      ((conv => whnf); repeat' ((first | refine ⟨rfl, ?_⟩ | refine ⟨_, row_map (by assumption), ?_⟩ | refine ⟨_, (by exact some_rfl), ?_⟩ | refine ⟨_, wrap_ok (by omega) (by omega), ?_⟩ | refine ⟨_, wrap_u64 (by omega) (by omega), ?_⟩ | refine ⟨by decide, _, fdiv_half (by omega), ?_⟩ | (intro gg)); (conv => whnf)))
      (refine bIf_of (fun h4 => ?_) (fun h4 => ?_) <;> rw [h4])
      · have h4' : 2 ^ k ≤ m := by have := of_decide_eq_true h4; omega
        have hk5 : k < 5 := by
          rcases (by omega : k < 5 ∨ k = 5) with q | q
          · exact q
          · subst q; omega
        ((conv => whnf); repeat' ((first | refine ⟨rfl, ?_⟩ | refine ⟨_, row_map (by assumption), ?_⟩ | refine ⟨_, (by exact some_rfl), ?_⟩ | refine ⟨_, wrap_ok (by omega) (by omega), ?_⟩ | refine ⟨_, wrap_u64 (by omega) (by omega), ?_⟩ | refine ⟨by decide, _, fdiv_half (by omega), ?_⟩ | (intro gg)); (conv => whnf)))
        (exact ⟨none, trivial, fun _ => ⟨⟨k + 1, by omega, up0 h0 h4'⟩, by show 6 - (k + 1) < 6 - k; omega, by (repeat' (first | exact trivial | refine ⟨rfl, ?_⟩)), by (repeat' (first | exact trivial | refine ⟨rfl, ?_⟩)), by (repeat' (first | exact trivial | refine ⟨rfl, ?_⟩)), by (repeat' (first | exact trivial | refine ⟨rfl, ?_⟩))⟩⟩)
      · have h4' : ¬ 2 ^ k ≤ m := by have := of_decide_eq_false h4; omega
        rw [times_at m (by omega) k hk h4' h0]
        ((conv => whnf); repeat' ((first | refine ⟨rfl, ?_⟩ | refine ⟨_, row_map (by assumption), ?_⟩ | refine ⟨_, (by exact some_rfl), ?_⟩ | refine ⟨_, wrap_ok (by omega) (by omega), ?_⟩ | refine ⟨_, wrap_u64 (by omega) (by omega), ?_⟩ | refine ⟨by decide, _, fdiv_half (by omega), ?_⟩ | (intro gg)); (conv => whnf)))
        (exact ⟨[], by (repeat' (first | exact ArgsOk.nil _ | exact argsOk_cells (by assumption) | refine ArgsOk.same (by first | exact cl_b rfl | exact cl_list | exact cl_nil | exact cl_one | exact cl_ll1 | exact cl_ll2 | exact cl_clo (by assumption)) ?_ | refine ArgsOk.nilsl _ ?_ | refine ArgsOk.nilown _ _ (by decide) ?_ | refine ArgsOk.borp rfl rfl rfl (cl_row rfl) (by decide) ?_ | refine ArgsOk.borc (by %caps) ?_ | refine ArgsOk.bor rfl rfl (deref_flat (by first | exact cl_rs rfl | exact cl_rows | exact cl_setB rfl | exact cl_setG (cl_setB rfl) rfl | exact cl_appB cl_rows (cl_rs rfl) | exact cl_rl1 | exact cl_rl2)) (by decide) ?_ | refine give' rfl (by first | exact cl_rs rfl | exact cl_rows | exact cl_setB rfl | exact cl_setG (cl_setB rfl) rfl | exact cl_appB cl_rows (cl_rs rfl) | exact cl_rl1 | exact cl_rl2) (by decide) (by decide) ?_))⟩)
theorem dbl (k : Nat) (h : 2 ^ k ≤ 20) : IntKind.i64.wrap (2 * ((2 ^ k : Nat) : Int)) = ((2 ^ (k + 1) : Nat) : Int) := by
  rw [Nat.pow_succ]; generalize (2 : Nat) ^ k = p at *; rw [wrap_ok (by omega) (by omega)]; omega
theorem rTimes_fun (m : Nat) (hm : m ≤ 20) : Fun Try.prog 25 [.c (.v (.int .i64 m))] [.c (.v (.int .i64 (timesL m)))] := by
  refine fun_x ck_hearsayref_TimesOf rfl ?_
  ((conv => whnf); repeat' ((first | refine ⟨rfl, ?_⟩ | refine ⟨_, row_map (by assumption), ?_⟩ | refine ⟨_, (by exact some_rfl), ?_⟩ | refine ⟨_, wrap_ok (by omega) (by omega), ?_⟩ | refine ⟨_, wrap_u64 (by omega) (by omega), ?_⟩ | refine ⟨by decide, _, fdiv_half (by omega), ?_⟩ | (intro gg)); (conv => whnf)))
  (refine ⟨[], none, {k : Nat // k < 6 ∧ ∀ j, j < k → 2 ^ j ≤ m}, [0], fun ⟨k, hk, h0⟩ => [(3, .v (.int .i64 k)), (4, .v (.int .i64 ((2 ^ k : Nat) : Int)))], [], fun ⟨k, hk, h0⟩ => [], fun ⟨k, hk, h0⟩ => 6 - k, trivial, fun _ => ⟨trivial, fun _ => ⟨⟨0, by omega, fun j h => by omega⟩, by (repeat' (first | exact trivial | refine ⟨rfl, ?_⟩)), keptE_refl _ _, by (repeat' (first | exact trivial | refine ⟨rfl, ?_⟩)), keptH_refl _ _⟩⟩, fun ⟨k, hk, h0⟩ => ?_⟩)
  ((conv => whnf); repeat' ((first | refine ⟨rfl, ?_⟩ | refine ⟨_, row_map (by assumption), ?_⟩ | refine ⟨_, (by exact some_rfl), ?_⟩ | refine ⟨_, wrap_ok (by omega) (by omega), ?_⟩ | refine ⟨_, wrap_u64 (by omega) (by omega), ?_⟩ | refine ⟨by decide, _, fdiv_half (by omega), ?_⟩ | (intro gg)); (conv => whnf)))
  (refine bIf_of (fun h4 => ?_) (fun h4 => ?_) <;> rw [h4])
  · have h4' : 2 ^ k ≤ m := by have := of_decide_eq_true h4; omega
    have hk5 : k < 5 := by
      rcases (by omega : k < 5 ∨ k = 5) with q | q
      · exact q
      · subst q; omega
    ((conv => whnf); repeat' ((first | refine ⟨rfl, ?_⟩ | refine ⟨_, row_map (by assumption), ?_⟩ | refine ⟨_, (by exact some_rfl), ?_⟩ | refine ⟨_, wrap_ok (by omega) (by omega), ?_⟩ | refine ⟨_, wrap_u64 (by omega) (by omega), ?_⟩ | refine ⟨by decide, _, fdiv_half (by omega), ?_⟩ | (intro gg)); (conv => whnf)))
    refine ⟨((2 ^ (k + 1) : Nat) : Int), dbl k (by omega), ?_⟩
    ((conv => whnf); repeat' ((first | refine ⟨rfl, ?_⟩ | refine ⟨_, row_map (by assumption), ?_⟩ | refine ⟨_, (by exact some_rfl), ?_⟩ | refine ⟨_, wrap_ok (by omega) (by omega), ?_⟩ | refine ⟨_, wrap_u64 (by omega) (by omega), ?_⟩ | refine ⟨by decide, _, fdiv_half (by omega), ?_⟩ | (intro gg)); (conv => whnf)))
    (exact ⟨none, trivial, fun _ => ⟨⟨k + 1, by omega, up0 h0 h4'⟩, by show 6 - (k + 1) < 6 - k; omega, by (repeat' (first | exact trivial | refine ⟨rfl, ?_⟩)), by (repeat' (first | exact trivial | refine ⟨rfl, ?_⟩)), by (repeat' (first | exact trivial | refine ⟨rfl, ?_⟩)), by (repeat' (first | exact trivial | refine ⟨rfl, ?_⟩))⟩⟩)
  · have h4' : ¬ 2 ^ k ≤ m := by have := of_decide_eq_false h4; omega
    rw [times_at m (by omega) k hk h4' h0]
    ((conv => whnf); repeat' ((first | refine ⟨rfl, ?_⟩ | refine ⟨_, row_map (by assumption), ?_⟩ | refine ⟨_, (by exact some_rfl), ?_⟩ | refine ⟨_, wrap_ok (by omega) (by omega), ?_⟩ | refine ⟨_, wrap_u64 (by omega) (by omega), ?_⟩ | refine ⟨by decide, _, fdiv_half (by omega), ?_⟩ | (intro gg)); (conv => whnf)))
    (exact ⟨[], by (repeat' (first | exact ArgsOk.nil _ | exact argsOk_cells (by assumption) | refine ArgsOk.same (by first | exact cl_b rfl | exact cl_list | exact cl_nil | exact cl_one | exact cl_ll1 | exact cl_ll2 | exact cl_clo (by assumption)) ?_ | refine ArgsOk.nilsl _ ?_ | refine ArgsOk.nilown _ _ (by decide) ?_ | refine ArgsOk.borp rfl rfl rfl (cl_row rfl) (by decide) ?_ | refine ArgsOk.borc (by %caps) ?_ | refine ArgsOk.bor rfl rfl (deref_flat (by first | exact cl_rs rfl | exact cl_rows | exact cl_setB rfl | exact cl_setG (cl_setB rfl) rfl | exact cl_appB cl_rows (cl_rs rfl) | exact cl_rl1 | exact cl_rl2)) (by decide) ?_ | refine give' rfl (by first | exact cl_rs rfl | exact cl_rows | exact cl_setB rfl | exact cl_setG (cl_setB rfl) rfl | exact cl_appB cl_rows (cl_rs rfl) | exact cl_rl1 | exact cl_rl2) (by decide) (by decide) ?_))⟩)
end Go.Proofs.Ytjhdlcmecbngkaa
