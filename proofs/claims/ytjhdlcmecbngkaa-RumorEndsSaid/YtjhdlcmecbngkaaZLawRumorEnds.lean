/- RumorEnds: each rumor is told as often as asked for, and no more; then none is left; no condition. -/
import Derived.SizedLaws
import Derived.Deep.Slices
import Derived.Test.YtjhdlcmecbngkaaZa
import Derived.Test.YtjhdlcmecbngkaaZb
/- Taking rumors. -/
namespace Go.Proofs.Ytjhdlcmecbngkaa
open Go.RowKit Pl
set_option linter.unusedVariables false
def iRow (i : Nat) : List V := [.v (.int .i64 (i : Int))]
instance : FlatRow iRow := ⟨fun x u hu => by simp [iRow] at hu; exact ⟨_, hu⟩⟩
noncomputable def takeRu (l : List Ru) (most times : Int) : Int × List Mb × List Ru :=
  if ckRu l ≠ 0 then (ckRu l, [], []) else if most < 1 ∨ 20 < most ∨ times < 1 ∨ 100 < times then (3, [], []) else (0, takeR l (ordL l) most times)
theorem takeRu_ck {l : List Ru} {most times : Int} (h : ckRu l ≠ 0) : takeRu l most times = (ckRu l, [], []) := by simp [takeRu, h]
theorem takeRu_rng {l : List Ru} {most times : Int} (h : ckRu l = 0) (h2 : most < 1 ∨ 20 < most ∨ times < 1 ∨ 100 < times) : takeRu l most times = (3, [], []) := by simp [takeRu, h, h2]
theorem takeRu_ok {l : List Ru} {most times : Int} (h : ckRu l = 0) (h2 : ¬ (most < 1 ∨ 20 < most ∨ times < 1 ∨ 100 < times)) : takeRu l most times = (0, takeR l (ordL l) most times) := by simp [takeRu, h, h2]
/-- the places, as they are laid -/
def upTo (n k : Nat) : List Nat := List.range k ++ List.replicate (n - k) 0
theorem upTo_zero (n : Nat) : upTo n 0 = List.replicate n 0 := by simp [upTo]
theorem upTo_full (n : Nat) : upTo n n = List.range n := by simp [upTo]
theorem upTo_len {n k : Nat} (h : k ≤ n) : (upTo n k).length = n := by simp [upTo]; omega
theorem upTo_set {n k : Nat} (h : k < n) : (upTo n k).set k k = upTo n (k + 1) := by
  unfold upTo
  rw [List.set_append_right _ _ (by simp), List.length_range, Nat.sub_self, List.range_succ, List.append_assoc]
  congr 1
  rw [show n - k = (n - (k + 1)) + 1 by omega, List.replicate_succ]; rfl
theorem ruTake_fun (l : List Ru) (most times : Int) (hl : l.length ≤ 9223372036854775807) (hw : ∀ r ∈ l, r.m.ok) : Fun Try.prog 20 [.c (.sl false (l.map Ru.row)), .c (.v (.int .i64 most)), .c (.v (.int .i64 times))]
    [.o 38 5 ((takeRu l most times).2.1.map Mb.row), .o 55 6 ((takeRu l most times).2.2.map Ru.row), .c (.v (.int .i64 (takeRu l most times).1))] := by
  have key := takeSort_fun false l
  refine fun_x ck_rumor_Take rfl ?_
  ((conv => whnf); repeat' ((first | refine ⟨rfl, ?_⟩ | refine ⟨_, row_map (by assumption), ?_⟩ | refine ⟨_, (by exact some_rfl), ?_⟩ | refine ⟨_, wrap_ok (by omega) (by omega), ?_⟩ | refine ⟨_, wrap_u64 (by omega) (by omega), ?_⟩ | refine ⟨by decide, _, fdiv_half (by omega), ?_⟩ | (intro gg)); (conv => whnf)))
  (refine .inl ⟨_, _, false, [], (by (repeat' (first | exact ArgsOk.nil _ | exact argsOk_cells (by assumption) | refine ArgsOk.same (by first | exact cl_b rfl | exact cl_list | exact cl_nil | exact cl_one | exact cl_ll1 | exact cl_ll2 | exact cl_clo (by assumption)) ?_ | refine ArgsOk.nilsl _ ?_ | refine ArgsOk.nilown _ _ (by decide) ?_ | refine ArgsOk.borp rfl rfl rfl (cl_row rfl) (by decide) ?_ | refine ArgsOk.borc (by (repeat' (first | exact cap_n | refine cap_p rfl rfl rfl (by first | exact cl_row rfl | exact cl_r1 rfl | exact cl_r1b) ?_ ?_ | refine cap_m rfl (by decide) ?_ | refine cap_c (by first | exact cl_b rfl | exact cl_list | exact cl_nil | exact cl_one | exact cl_ll1 | exact cl_ll2 | exact cl_clo (by assumption)) ?_ | decide))) ?_ | refine ArgsOk.bor rfl rfl (deref_flat (by first | exact cl_rs rfl | exact cl_rows | exact cl_setB rfl | exact cl_setG (cl_setB rfl) rfl | exact cl_appB cl_rows (cl_rs rfl) | exact cl_rl1 | exact cl_rl2)) (by decide) ?_ | refine give' rfl (by first | exact cl_rs rfl | exact cl_rows | exact cl_setB rfl | exact cl_setG (cl_setB rfl) rfl | exact cl_appB cl_rows (cl_rs rfl) | exact cl_rl1 | exact cl_rl2) (by decide) (by decide) ?_))), ruCheck_fun false l hl hw, nobor, (by exact Nat.le_of_ble_eq_true rfl), ?_⟩)
  ((conv => whnf); repeat' ((first | refine ⟨rfl, ?_⟩ | refine ⟨_, row_map (by assumption), ?_⟩ | refine ⟨_, (by exact some_rfl), ?_⟩ | refine ⟨_, wrap_ok (by omega) (by omega), ?_⟩ | refine ⟨_, wrap_u64 (by omega) (by omega), ?_⟩ | refine ⟨by decide, _, fdiv_half (by omega), ?_⟩ | (intro gg)); (conv => whnf)))
  (refine bIf_of (fun h1 => ?_) (fun h1 => ?_) <;> rw [h1])
  · have h1' : ckRu l ≠ 0 := by simpa using h1
    rw [takeRu_ck h1']
    ((conv => whnf); repeat' ((first | refine ⟨rfl, ?_⟩ | refine ⟨_, row_map (by assumption), ?_⟩ | refine ⟨_, (by exact some_rfl), ?_⟩ | refine ⟨_, wrap_ok (by omega) (by omega), ?_⟩ | refine ⟨_, wrap_u64 (by omega) (by omega), ?_⟩ | refine ⟨by decide, _, fdiv_half (by omega), ?_⟩ | (intro gg)); (conv => whnf)))
    (exact ⟨[], by (repeat' (first | exact ArgsOk.nil _ | exact argsOk_cells (by assumption) | refine ArgsOk.same (by first | exact cl_b rfl | exact cl_list | exact cl_nil | exact cl_one | exact cl_ll1 | exact cl_ll2 | exact cl_clo (by assumption)) ?_ | refine ArgsOk.nilsl _ ?_ | refine ArgsOk.nilown _ _ (by decide) ?_ | refine ArgsOk.borp rfl rfl rfl (cl_row rfl) (by decide) ?_ | refine ArgsOk.borc (by %caps) ?_ | refine ArgsOk.bor rfl rfl (deref_flat (by first | exact cl_rs rfl | exact cl_rows | exact cl_setB rfl | exact cl_setG (cl_setB rfl) rfl | exact cl_appB cl_rows (cl_rs rfl) | exact cl_rl1 | exact cl_rl2)) (by decide) ?_ | refine give' rfl (by first | exact cl_rs rfl | exact cl_rows | exact cl_setB rfl | exact cl_setG (cl_setB rfl) rfl | exact cl_appB cl_rows (cl_rs rfl) | exact cl_rl1 | exact cl_rl2) (by decide) (by decide) ?_))⟩)
  · have h1' : ckRu l = 0 := by simpa using h1
    have hi := ckRu_inv h1'
    have hlen := hi.len
    ((conv => whnf); repeat' ((first | refine ⟨rfl, ?_⟩ | refine ⟨_, row_map (by assumption), ?_⟩ | refine ⟨_, (by exact some_rfl), ?_⟩ | refine ⟨_, wrap_ok (by omega) (by omega), ?_⟩ | refine ⟨_, wrap_u64 (by omega) (by omega), ?_⟩ | refine ⟨by decide, _, fdiv_half (by omega), ?_⟩ | (intro gg)); (conv => whnf)))
    (refine bIf_of (fun q1 => ?_) (fun q1 => ?_) <;> rw [q1])
    · rw [takeRu_rng h1' (by have := of_decide_eq_true q1; omega)]
      ((conv => whnf); repeat' ((first | refine ⟨rfl, ?_⟩ | refine ⟨_, row_map (by assumption), ?_⟩ | refine ⟨_, (by exact some_rfl), ?_⟩ | refine ⟨_, wrap_ok (by omega) (by omega), ?_⟩ | refine ⟨_, wrap_u64 (by omega) (by omega), ?_⟩ | refine ⟨by decide, _, fdiv_half (by omega), ?_⟩ | (intro gg)); (conv => whnf)))
      (exact ⟨[], by (repeat' (first | exact ArgsOk.nil _ | exact argsOk_cells (by assumption) | refine ArgsOk.same (by first | exact cl_b rfl | exact cl_list | exact cl_nil | exact cl_one | exact cl_ll1 | exact cl_ll2 | exact cl_clo (by assumption)) ?_ | refine ArgsOk.nilsl _ ?_ | refine ArgsOk.nilown _ _ (by decide) ?_ | refine ArgsOk.borp rfl rfl rfl (cl_row rfl) (by decide) ?_ | refine ArgsOk.borc (by %caps) ?_ | refine ArgsOk.bor rfl rfl (deref_flat (by first | exact cl_rs rfl | exact cl_rows | exact cl_setB rfl | exact cl_setG (cl_setB rfl) rfl | exact cl_appB cl_rows (cl_rs rfl) | exact cl_rl1 | exact cl_rl2)) (by decide) ?_ | refine give' rfl (by first | exact cl_rs rfl | exact cl_rows | exact cl_setB rfl | exact cl_setG (cl_setB rfl) rfl | exact cl_appB cl_rows (cl_rs rfl) | exact cl_rl1 | exact cl_rl2) (by decide) (by decide) ?_))⟩)
    · have q1' : ¬ most < 1 := of_decide_eq_false q1
      ((conv => whnf); repeat' ((first | refine ⟨rfl, ?_⟩ | refine ⟨_, row_map (by assumption), ?_⟩ | refine ⟨_, (by exact some_rfl), ?_⟩ | refine ⟨_, wrap_ok (by omega) (by omega), ?_⟩ | refine ⟨_, wrap_u64 (by omega) (by omega), ?_⟩ | refine ⟨by decide, _, fdiv_half (by omega), ?_⟩ | (intro gg)); (conv => whnf)))
      (refine bIf_of (fun q2 => ?_) (fun q2 => ?_) <;> rw [q2])
      · rw [takeRu_rng h1' (by have := of_decide_eq_true q2; omega)]
        ((conv => whnf); repeat' ((first | refine ⟨rfl, ?_⟩ | refine ⟨_, row_map (by assumption), ?_⟩ | refine ⟨_, (by exact some_rfl), ?_⟩ | refine ⟨_, wrap_ok (by omega) (by omega), ?_⟩ | refine ⟨_, wrap_u64 (by omega) (by omega), ?_⟩ | refine ⟨by decide, _, fdiv_half (by omega), ?_⟩ | (intro gg)); (conv => whnf)))
        (exact ⟨[], by (repeat' (first | exact ArgsOk.nil _ | exact argsOk_cells (by assumption) | refine ArgsOk.same (by first | exact cl_b rfl | exact cl_list | exact cl_nil | exact cl_one | exact cl_ll1 | exact cl_ll2 | exact cl_clo (by assumption)) ?_ | refine ArgsOk.nilsl _ ?_ | refine ArgsOk.nilown _ _ (by decide) ?_ | refine ArgsOk.borp rfl rfl rfl (cl_row rfl) (by decide) ?_ | refine ArgsOk.borc (by %caps) ?_ | refine ArgsOk.bor rfl rfl (deref_flat (by first | exact cl_rs rfl | exact cl_rows | exact cl_setB rfl | exact cl_setG (cl_setB rfl) rfl | exact cl_appB cl_rows (cl_rs rfl) | exact cl_rl1 | exact cl_rl2)) (by decide) ?_ | refine give' rfl (by first | exact cl_rs rfl | exact cl_rows | exact cl_setB rfl | exact cl_setG (cl_setB rfl) rfl | exact cl_appB cl_rows (cl_rs rfl) | exact cl_rl1 | exact cl_rl2) (by decide) (by decide) ?_))⟩)
      · have q2' : ¬ 20 < most := of_decide_eq_false q2
        ((conv => whnf); repeat' ((first | refine ⟨rfl, ?_⟩ | refine ⟨_, row_map (by assumption), ?_⟩ | refine ⟨_, (by exact some_rfl), ?_⟩ | refine ⟨_, wrap_ok (by omega) (by omega), ?_⟩ | refine ⟨_, wrap_u64 (by omega) (by omega), ?_⟩ | refine ⟨by decide, _, fdiv_half (by omega), ?_⟩ | (intro gg)); (conv => whnf)))
        (refine bIf_of (fun q3 => ?_) (fun q3 => ?_) <;> rw [q3])
        · rw [takeRu_rng h1' (by have := of_decide_eq_true q3; omega)]
          ((conv => whnf); repeat' ((first | refine ⟨rfl, ?_⟩ | refine ⟨_, row_map (by assumption), ?_⟩ | refine ⟨_, (by exact some_rfl), ?_⟩ | refine ⟨_, wrap_ok (by omega) (by omega), ?_⟩ | refine ⟨_, wrap_u64 (by omega) (by omega), ?_⟩ | refine ⟨by decide, _, fdiv_half (by omega), ?_⟩ | (intro gg)); (conv => whnf)))
          (exact ⟨[], by (repeat' (first | exact ArgsOk.nil _ | exact argsOk_cells (by assumption) | refine ArgsOk.same (by first | exact cl_b rfl | exact cl_list | exact cl_nil | exact cl_one | exact cl_ll1 | exact cl_ll2 | exact cl_clo (by assumption)) ?_ | refine ArgsOk.nilsl _ ?_ | refine ArgsOk.nilown _ _ (by decide) ?_ | refine ArgsOk.borp rfl rfl rfl (cl_row rfl) (by decide) ?_ | refine ArgsOk.borc (by %caps) ?_ | refine ArgsOk.bor rfl rfl (deref_flat (by first | exact cl_rs rfl | exact cl_rows | exact cl_setB rfl | exact cl_setG (cl_setB rfl) rfl | exact cl_appB cl_rows (cl_rs rfl) | exact cl_rl1 | exact cl_rl2)) (by decide) ?_ | refine give' rfl (by first | exact cl_rs rfl | exact cl_rows | exact cl_setB rfl | exact cl_setG (cl_setB rfl) rfl | exact cl_appB cl_rows (cl_rs rfl) | exact cl_rl1 | exact cl_rl2) (by decide) (by decide) ?_))⟩)
        · have q3' : ¬ times < 1 := of_decide_eq_false q3
          ((conv => whnf); repeat' ((first | refine ⟨rfl, ?_⟩ | refine ⟨_, row_map (by assumption), ?_⟩ | refine ⟨_, (by exact some_rfl), ?_⟩ | refine ⟨_, wrap_ok (by omega) (by omega), ?_⟩ | refine ⟨_, wrap_u64 (by omega) (by omega), ?_⟩ | refine ⟨by decide, _, fdiv_half (by omega), ?_⟩ | (intro gg)); (conv => whnf)))
          (refine bIf_of (fun q4 => ?_) (fun q4 => ?_) <;> rw [q4])
          · rw [takeRu_rng h1' (by have := of_decide_eq_true q4; omega)]
            ((conv => whnf); repeat' ((first | refine ⟨rfl, ?_⟩ | refine ⟨_, row_map (by assumption), ?_⟩ | refine ⟨_, (by exact some_rfl), ?_⟩ | refine ⟨_, wrap_ok (by omega) (by omega), ?_⟩ | refine ⟨_, wrap_u64 (by omega) (by omega), ?_⟩ | refine ⟨by decide, _, fdiv_half (by omega), ?_⟩ | (intro gg)); (conv => whnf)))
            (exact ⟨[], by (repeat' (first | exact ArgsOk.nil _ | exact argsOk_cells (by assumption) | refine ArgsOk.same (by first | exact cl_b rfl | exact cl_list | exact cl_nil | exact cl_one | exact cl_ll1 | exact cl_ll2 | exact cl_clo (by assumption)) ?_ | refine ArgsOk.nilsl _ ?_ | refine ArgsOk.nilown _ _ (by decide) ?_ | refine ArgsOk.borp rfl rfl rfl (cl_row rfl) (by decide) ?_ | refine ArgsOk.borc (by %caps) ?_ | refine ArgsOk.bor rfl rfl (deref_flat (by first | exact cl_rs rfl | exact cl_rows | exact cl_setB rfl | exact cl_setG (cl_setB rfl) rfl | exact cl_appB cl_rows (cl_rs rfl) | exact cl_rl1 | exact cl_rl2)) (by decide) ?_ | refine give' rfl (by first | exact cl_rs rfl | exact cl_rows | exact cl_setB rfl | exact cl_setG (cl_setB rfl) rfl | exact cl_appB cl_rows (cl_rs rfl) | exact cl_rl1 | exact cl_rl2) (by decide) (by decide) ?_))⟩)
          · have q4' : ¬ 100 < times := of_decide_eq_false q4
            rw [takeRu_ok h1' (by omega)]
            have ho := ordL_ok l
            have hol := ho.len
            ((conv => whnf); repeat' ((first | refine ⟨rfl, ?_⟩ | refine ⟨_, row_map (by assumption), ?_⟩ | refine ⟨_, (by exact some_rfl), ?_⟩ | refine ⟨_, wrap_ok (by omega) (by omega), ?_⟩ | refine ⟨_, wrap_u64 (by omega) (by omega), ?_⟩ | refine ⟨by decide, _, fdiv_half (by omega), ?_⟩ | (intro gg)); (conv => whnf)))
            refine ⟨l.length, by simp, by simp, by simp only [maxLen]; omega, by omega, ?_⟩
            have e0 : List.replicate l.length ([Value.int .i64 0].map V.v) = (upTo l.length 0).map iRow := by simp [upTo, iRow]
            rw [e0]
            ((conv => whnf); repeat' ((first | refine ⟨rfl, ?_⟩ | refine ⟨_, row_map (by assumption), ?_⟩ | refine ⟨_, (by exact some_rfl), ?_⟩ | refine ⟨_, wrap_ok (by omega) (by omega), ?_⟩ | refine ⟨_, wrap_u64 (by omega) (by omega), ?_⟩ | refine ⟨by decide, _, fdiv_half (by omega), ?_⟩ | (intro gg)); (conv => whnf)))
            rename Nat => g0
            (refine ⟨[], none, {k : Nat // k ≤ l.length}, [1, 3, 5, 10, 38], fun ⟨k, hk⟩ => [(39, .v (.int .i64 k))], [48, 80], fun ⟨k, hk⟩ => [(576, ⟨g0, 3, 1, (upTo l.length k).map iRow⟩)], fun ⟨k, hk⟩ => l.length - k, trivial, fun _ => ⟨trivial, fun _ => ⟨⟨0, Nat.zero_le _⟩, by (repeat' (first | exact trivial | refine ⟨rfl, ?_⟩)), keptE_refl _ _, by (repeat' (first | exact trivial | refine ⟨rfl, ?_⟩)), keptH_refl _ _⟩⟩, fun ⟨k, hk⟩ => ?_⟩)
            ((conv => whnf); repeat' ((first | refine ⟨rfl, ?_⟩ | refine ⟨_, row_map (by assumption), ?_⟩ | refine ⟨_, (by exact some_rfl), ?_⟩ | refine ⟨_, wrap_ok (by omega) (by omega), ?_⟩ | refine ⟨_, wrap_u64 (by omega) (by omega), ?_⟩ | refine ⟨by decide, _, fdiv_half (by omega), ?_⟩ | (intro gg)); (conv => whnf)))
            have hul : ((upTo l.length 0).map iRow).length = l.length := by rw [List.length_map, upTo_len (Nat.zero_le _)]
            (refine bIf_of (fun h2 => ?_) (fun h2 => ?_) <;> rw [h2])
            · have hlt : k < l.length := by have := of_decide_eq_true h2; rw [hul] at this; omega
              ((conv => whnf); repeat' ((first | refine ⟨rfl, ?_⟩ | refine ⟨_, row_map (by assumption), ?_⟩ | refine ⟨_, (by exact some_rfl), ?_⟩ | refine ⟨_, wrap_ok (by omega) (by omega), ?_⟩ | refine ⟨_, wrap_u64 (by omega) (by omega), ?_⟩ | refine ⟨by decide, _, fdiv_half (by omega), ?_⟩ | (intro gg)); (conv => whnf)))
              have hku : k < (upTo l.length k).length := by rw [upTo_len hk]; exact hlt
              refine ⟨k, _, rfl, row_map hku, ?_⟩
              ((conv => whnf); repeat' ((first | refine ⟨rfl, ?_⟩ | refine ⟨_, row_map (by assumption), ?_⟩ | refine ⟨_, (by exact some_rfl), ?_⟩ | refine ⟨_, wrap_ok (by omega) (by omega), ?_⟩ | refine ⟨_, wrap_u64 (by omega) (by omega), ?_⟩ | refine ⟨by decide, _, fdiv_half (by omega), ?_⟩ | (intro gg)); (conv => whnf)))
              have e : ((upTo l.length k).map iRow).set k (iRow k) = (upTo l.length (k + 1)).map iRow := by rw [← upTo_set hlt, List.map_set]
              (exact ⟨none, trivial, fun gr => ⟨⟨k + 1, by omega⟩, by show l.length - (k + 1) < l.length - k; omega, by (repeat' (first | exact trivial | refine ⟨rfl, ?_⟩)), by (repeat' (first | exact trivial | refine ⟨rfl, ?_⟩)), ⟨congrArg (fun r => some (Ent.mk g0 (.t 3) 1 r)) e, trivial⟩, by (repeat' (first | exact trivial | refine ⟨rfl, ?_⟩))⟩⟩)
            · have hge : ¬ k < l.length := by have := of_decide_eq_false h2; rw [hul] at this; omega
              obtain rfl : k = l.length := by omega
              have key' : FunM Try.prog 49 [.ms 3 1 ((upTo l.length l.length).map iRow) ((ordL l).map iRow), .p (.c (.clo 50 [.rptr [.sl false (l.map Ru.row)] 0]))] [] := by
                rw [upTo_full]; exact key hlen
              have hc : Fun Try.prog 39 [.c (.sl false (l.map Ru.row))] [.o 55 6 ((bumpS l ((ordL l).take 0)).map Ru.row)] := by
                rw [List.take_zero, bumpS_nil]; exact cloneRu_fun false l (by omega)
              ((conv => whnf); repeat' ((first | refine ⟨rfl, ?_⟩ | refine ⟨_, row_map (by assumption), ?_⟩ | refine ⟨_, (by exact some_rfl), ?_⟩ | refine ⟨_, wrap_ok (by omega) (by omega), ?_⟩ | refine ⟨_, wrap_u64 (by omega) (by omega), ?_⟩ | refine ⟨by decide, _, fdiv_half (by omega), ?_⟩ | (intro gg)); (conv => whnf)))
              refine .inr (.inl ⟨_, _, true, [576], aM_ms rfl cl_rows (by decide) (by decide) (by rw [List.length_map, List.length_map, hol, upTo_len (Nat.le_refl _)]) (aM_borc (cap_p rfl rfl rfl cl_r1b (by decide) cap_n) (.nil _)), key', (fun _ => by (intro p hp; simp only [exitsP, List.nil_append, List.append_nil, List.mem_cons, List.not_mem_nil, or_false] at hp; subst hp; first | exact flat_own | exact flat_b rfl)), (by exact outs_b rfl), (by exact (by decide : ([576] : List Nat).Nodup)), ?_⟩)
              ((conv => whnf); repeat' ((first | refine ⟨rfl, ?_⟩ | refine ⟨_, row_map (by assumption), ?_⟩ | refine ⟨_, (by exact some_rfl), ?_⟩ | refine ⟨_, wrap_ok (by omega) (by omega), ?_⟩ | refine ⟨_, wrap_u64 (by omega) (by omega), ?_⟩ | refine ⟨by decide, _, fdiv_half (by omega), ?_⟩ | (intro gg)); (conv => whnf)))
              (refine .inl ⟨_, _, false, [], (by (repeat' (first | exact ArgsOk.nil _ | exact argsOk_cells (by assumption) | refine ArgsOk.same (by first | exact cl_b rfl | exact cl_list | exact cl_nil | exact cl_one | exact cl_ll1 | exact cl_ll2 | exact cl_clo (by assumption)) ?_ | refine ArgsOk.nilsl _ ?_ | refine ArgsOk.nilown _ _ (by decide) ?_ | refine ArgsOk.borp rfl rfl rfl (cl_row rfl) (by decide) ?_ | refine ArgsOk.borc (by (repeat' (first | exact cap_n | refine cap_p rfl rfl rfl (by first | exact cl_row rfl | exact cl_r1 rfl | exact cl_r1b) ?_ ?_ | refine cap_m rfl (by decide) ?_ | refine cap_c (by first | exact cl_b rfl | exact cl_list | exact cl_nil | exact cl_one | exact cl_ll1 | exact cl_ll2 | exact cl_clo (by assumption)) ?_ | decide))) ?_ | refine ArgsOk.bor rfl rfl (deref_flat (by first | exact cl_rs rfl | exact cl_rows | exact cl_setB rfl | exact cl_setG (cl_setB rfl) rfl | exact cl_appB cl_rows (cl_rs rfl) | exact cl_rl1 | exact cl_rl2)) (by decide) ?_ | refine give' rfl (by first | exact cl_rs rfl | exact cl_rows | exact cl_setB rfl | exact cl_setG (cl_setB rfl) rfl | exact cl_appB cl_rows (cl_rs rfl) | exact cl_rl1 | exact cl_rl2) (by decide) (by decide) ?_))), hc, nobor, (by exact Nat.le_of_ble_eq_true rfl), ?_⟩)
              ((conv => whnf); repeat' ((first | refine ⟨rfl, ?_⟩ | refine ⟨_, row_map (by assumption), ?_⟩ | refine ⟨_, (by exact some_rfl), ?_⟩ | refine ⟨_, wrap_ok (by omega) (by omega), ?_⟩ | refine ⟨_, wrap_u64 (by omega) (by omega), ?_⟩ | refine ⟨by decide, _, fdiv_half (by omega), ?_⟩ | (intro gg)); (conv => whnf)))
              rename Nat → Nat => g8
              have hbl : ((bumpS l ((ordL l).take 0)).map Ru.row).length = l.length := by rw [List.length_map, bumpS_len]
              have em : min most ((((bumpS l ((ordL l).take 0)).map Ru.row).length : Nat) : Int) = ((min most.toNat l.length : Nat) : Int) := by rw [hbl]; omega
              have hN1 : min most.toNat l.length ≤ l.length := Nat.min_le_right _ _
              unfold takeR
              generalize hN : min most.toNat l.length = N at *
              refine ⟨0, 0, N, rfl, rfl, ⟨.i64, congrArg (fun x => V.v (.int .i64 x)) em⟩, Nat.zero_le _, by show N ≤ ((ordL l).map iRow).length; rw [List.length_map, hol]; exact hN1, rfl, rfl, fun g => ?_⟩
              ((conv => whnf); repeat' ((first | refine ⟨rfl, ?_⟩ | refine ⟨_, row_map (by assumption), ?_⟩ | refine ⟨_, (by exact some_rfl), ?_⟩ | refine ⟨_, wrap_ok (by omega) (by omega), ?_⟩ | refine ⟨_, wrap_u64 (by omega) (by omega), ?_⟩ | refine ⟨by decide, _, fdiv_half (by omega), ?_⟩ | (intro gg)); (conv => whnf)))
              have hNl : (((ordL l).map iRow).take N).length = N := by rw [List.length_take, List.length_map, hol]; omega
              have hcg : ∀ k, (hk : k < (ordL l).length) → (ordL l)[k] < l.length := fun k hk => (ho.mem _).1 (List.getElem_mem hk)
              (refine ⟨[(12, 192, 38, 5)], none, {p : Nat × Nat // p.1 ≤ N}, [3, 5, 57, 58], fun ⟨⟨k, g2⟩, hk⟩ => [(12, .own 192 g2), (59, .v (.int .i64 k))], [48, 80, 576], fun ⟨⟨k, g2⟩, hk⟩ => [(192, ⟨g2, 38, 5, (toldL l ((ordL l).take k)).map Mb.row⟩), (816, ⟨g8 816, 55, 6, (bumpS l ((ordL l).take k)).map Ru.row⟩)], fun ⟨⟨k, g2⟩, hk⟩ => N - k, (by exact ⟨rfl, by decide, (fun _ _ _ _ h => by cases h), trivial⟩), fun gs => ⟨trivial, fun _ => ⟨⟨(0, gs 192), Nat.zero_le _⟩, by (repeat' (first | exact trivial | refine ⟨rfl, ?_⟩)), by (repeat' (first | exact trivial | refine ⟨rfl, ?_⟩)), by (repeat' (first | exact trivial | refine ⟨rfl, ?_⟩)), by (repeat' (first | exact trivial | refine ⟨rfl, ?_⟩))⟩⟩, fun ⟨⟨k, g2⟩, hk⟩ => ?_⟩)
              ((conv => whnf); repeat' ((first | refine ⟨rfl, ?_⟩ | refine ⟨_, row_map (by assumption), ?_⟩ | refine ⟨_, (by exact some_rfl), ?_⟩ | refine ⟨_, wrap_ok (by omega) (by omega), ?_⟩ | refine ⟨_, wrap_u64 (by omega) (by omega), ?_⟩ | refine ⟨by decide, _, fdiv_half (by omega), ?_⟩ | (intro gg)); (conv => whnf)))
              (refine bIf_of (fun h2 => ?_) (fun h2 => ?_) <;> rw [h2])
              · have hlt : k < N := by have := of_decide_eq_true h2; simp only [hNl] at this; omega
                have hko : k < (ordL l).length := by omega
                have hi' := hcg k hko
                have hb : (bumpS l ((ordL l).take k))[(ordL l)[k]]'(by rw [bumpS_len]; exact hi') = l[(ordL l)[k]] := by rw [bumpS_at hi', if_neg (not_took ho.nd hko)]
                have hrow : (((ordL l).map iRow).take N)[k]? = some (iRow (ordL l)[k]) := by rw [List.getElem?_take_of_lt hlt]; exact row_map hko
                have hrow2 : ((bumpS l ((ordL l).take k)).map Ru.row)[(ordL l)[k]]? = some (Ru.row l[(ordL l)[k]]) := by rw [row_map (by rw [bumpS_len]; exact hi'), hb]
                have ht := hi.rng _ hi'
                have htl : (toldL l ((ordL l).take k)).length ≤ 20 := Nat.le_trans (List.length_filterMap_le _ _) (by rw [List.length_take]; omega)
                have e1 : (toldL l ((ordL l).take k)).map Mb.row ++ [Mb.row (l[(ordL l)[k]]).m] = (toldL l ((ordL l).take (k + 1))).map Mb.row := by
                  rw [take_snoc hko, toldL_snoc hi', List.map_append]; rfl
                have e2 : ((bumpS l ((ordL l).take k)).map Ru.row).set (ordL l)[k] (Ru.row ⟨(l[(ordL l)[k]]).m, (l[(ordL l)[k]]).t + 1⟩) = (bumpS l ((ordL l).take (k + 1))).map Ru.row := by
                  rw [take_snoc hko, ← bumpS_set hi', List.map_set]
                ((conv => whnf); repeat' ((first | refine ⟨rfl, ?_⟩ | refine ⟨_, row_map (by assumption), ?_⟩ | refine ⟨_, (by exact some_rfl), ?_⟩ | refine ⟨_, wrap_ok (by omega) (by omega), ?_⟩ | refine ⟨_, wrap_u64 (by omega) (by omega), ?_⟩ | refine ⟨by decide, _, fdiv_half (by omega), ?_⟩ | (intro gg)); (conv => whnf)))
                refine ⟨k, _, rfl, hrow, ?_⟩
                ((conv => whnf); repeat' ((first | refine ⟨rfl, ?_⟩ | refine ⟨_, row_map (by assumption), ?_⟩ | refine ⟨_, (by exact some_rfl), ?_⟩ | refine ⟨_, wrap_ok (by omega) (by omega), ?_⟩ | refine ⟨_, wrap_u64 (by omega) (by omega), ?_⟩ | refine ⟨by decide, _, fdiv_half (by omega), ?_⟩ | (intro gg)); (conv => whnf)))
                refine ⟨_, hrow, ?_⟩
                ((conv => whnf); repeat' ((first | refine ⟨rfl, ?_⟩ | refine ⟨_, row_map (by assumption), ?_⟩ | refine ⟨_, (by exact some_rfl), ?_⟩ | refine ⟨_, wrap_ok (by omega) (by omega), ?_⟩ | refine ⟨_, wrap_u64 (by omega) (by omega), ?_⟩ | refine ⟨by decide, _, fdiv_half (by omega), ?_⟩ | (intro gg)); (conv => whnf)))
                refine ⟨(ordL l)[k], _, rfl, hrow2, ?_⟩
                ((conv => whnf); repeat' ((first | refine ⟨rfl, ?_⟩ | refine ⟨_, row_map (by assumption), ?_⟩ | refine ⟨_, (by exact some_rfl), ?_⟩ | refine ⟨_, wrap_ok (by omega) (by omega), ?_⟩ | refine ⟨_, wrap_u64 (by omega) (by omega), ?_⟩ | refine ⟨by decide, _, fdiv_half (by omega), ?_⟩ | (intro gg)); (conv => whnf)))
                refine ⟨_, hrow2, ?_⟩
                ((conv => whnf); repeat' ((first | refine ⟨rfl, ?_⟩ | refine ⟨_, row_map (by assumption), ?_⟩ | refine ⟨_, (by exact some_rfl), ?_⟩ | refine ⟨_, wrap_ok (by omega) (by omega), ?_⟩ | refine ⟨_, wrap_u64 (by omega) (by omega), ?_⟩ | refine ⟨by decide, _, fdiv_half (by omega), ?_⟩ | (intro gg)); (conv => whnf)))
                refine ⟨(by simp only [List.length_map, List.length_append, List.length_cons, List.length_nil, List.length_set, List.length_replicate, maxLen]; omega), (by simp only [List.length_map, List.length_append, List.length_cons, List.length_nil, List.length_set, List.length_replicate]; omega), ?_⟩
                ((conv => whnf); repeat' ((first | refine ⟨rfl, ?_⟩ | refine ⟨_, row_map (by assumption), ?_⟩ | refine ⟨_, (by exact some_rfl), ?_⟩ | refine ⟨_, wrap_ok (by omega) (by omega), ?_⟩ | refine ⟨_, wrap_u64 (by omega) (by omega), ?_⟩ | refine ⟨by decide, _, fdiv_half (by omega), ?_⟩ | (intro gg)); (conv => whnf)))
                refine ⟨(ordL l)[k], _, rfl, hrow2, ?_⟩
                ((conv => whnf); repeat' ((first | refine ⟨rfl, ?_⟩ | refine ⟨_, row_map (by assumption), ?_⟩ | refine ⟨_, (by exact some_rfl), ?_⟩ | refine ⟨_, wrap_ok (by omega) (by omega), ?_⟩ | refine ⟨_, wrap_u64 (by omega) (by omega), ?_⟩ | refine ⟨by decide, _, fdiv_half (by omega), ?_⟩ | (intro gg)); (conv => whnf)))
                refine ⟨_, hrow2, ?_⟩
                ((conv => whnf); repeat' ((first | refine ⟨rfl, ?_⟩ | refine ⟨_, row_map (by assumption), ?_⟩ | refine ⟨_, (by exact some_rfl), ?_⟩ | refine ⟨_, wrap_ok (by omega) (by omega), ?_⟩ | refine ⟨_, wrap_u64 (by omega) (by omega), ?_⟩ | refine ⟨by decide, _, fdiv_half (by omega), ?_⟩ | (intro gg)); (conv => whnf)))
                refine ⟨(ordL l)[k], _, rfl, hrow2, ?_⟩
                ((conv => whnf); repeat' ((first | refine ⟨rfl, ?_⟩ | refine ⟨_, row_map (by assumption), ?_⟩ | refine ⟨_, (by exact some_rfl), ?_⟩ | refine ⟨_, wrap_ok (by omega) (by omega), ?_⟩ | refine ⟨_, wrap_u64 (by omega) (by omega), ?_⟩ | refine ⟨by decide, _, fdiv_half (by omega), ?_⟩ | (intro gg)); (conv => whnf)))
                refine ⟨_, hrow2, ?_⟩
                ((conv => whnf); repeat' ((first | refine ⟨rfl, ?_⟩ | refine ⟨_, row_map (by assumption), ?_⟩ | refine ⟨_, (by exact some_rfl), ?_⟩ | refine ⟨_, wrap_ok (by omega) (by omega), ?_⟩ | refine ⟨_, wrap_u64 (by omega) (by omega), ?_⟩ | refine ⟨by decide, _, fdiv_half (by omega), ?_⟩ | (intro gg)); (conv => whnf)))
                exact ⟨none, trivial, fun gr => ⟨⟨(k + 1, gg), by dsimp only; omega⟩, by show N - (k + 1) < N - k; omega, by (repeat' (first | exact trivial | refine ⟨rfl, ?_⟩)), by (repeat' (first | exact trivial | refine ⟨rfl, ?_⟩)), ⟨congrArg (fun r => some (Ent.mk gg (.t 38) 5 r)) e1, congrArg (fun r => some (Ent.mk (g8 816) (.t 55) 6 r)) e2, trivial⟩, by (repeat' (first | exact trivial | refine ⟨rfl, ?_⟩))⟩⟩
              · have hge : ¬ k < N := by have := of_decide_eq_false h2; simp only [hNl] at this; omega
                obtain rfl : k = N := by dsimp only at hk; omega
                have hd := deleteFRu_fun (bumpS l ((ordL l).take k)) 52 [.rptr [.v (.int .i64 times)] 0] (fun u hu => by simp only [List.mem_cons, List.not_mem_nil, or_false] at hu; subst hu; exact cl_rptr (cl_row rfl)) (fun r => decide (times ≤ r.t)) (by rw [bumpS_len]; omega) (fun x _ => takeD_fun x times)
                ((conv => whnf); repeat' ((first | refine ⟨rfl, ?_⟩ | refine ⟨_, row_map (by assumption), ?_⟩ | refine ⟨_, (by exact some_rfl), ?_⟩ | refine ⟨_, wrap_ok (by omega) (by omega), ?_⟩ | refine ⟨_, wrap_u64 (by omega) (by omega), ?_⟩ | refine ⟨by decide, _, fdiv_half (by omega), ?_⟩ | (intro gg)); (conv => whnf)))
                have ek : keep (fun r => decide (times ≤ r.t)) (bumpS l ((ordL l).take k)) = restL (bumpS l ((ordL l).take k)) times := by
                  unfold keep restL
                  congr 1
                  funext r
                  show (!(decide (times ≤ r.t))) = decide (r.t < times)
                  by_cases q : r.t < times
                  · simp [q]
                  · simp [q, show times ≤ r.t by omega]
                rw [ek] at hd
                (refine .inl ⟨_, _, true, [816], (by (repeat' (first | exact ArgsOk.nil _ | exact argsOk_cells (by assumption) | refine ArgsOk.same (by first | exact cl_b rfl | exact cl_list | exact cl_nil | exact cl_one | exact cl_ll1 | exact cl_ll2 | exact cl_clo (by assumption)) ?_ | refine ArgsOk.nilsl _ ?_ | refine ArgsOk.nilown _ _ (by decide) ?_ | refine ArgsOk.borp rfl rfl rfl (cl_row rfl) (by decide) ?_ | refine ArgsOk.borc (by (repeat' (first | exact cap_n | refine cap_p rfl rfl rfl (by first | exact cl_row rfl | exact cl_r1 rfl | exact cl_r1b) ?_ ?_ | refine cap_m rfl (by decide) ?_ | refine cap_c (by first | exact cl_b rfl | exact cl_list | exact cl_nil | exact cl_one | exact cl_ll1 | exact cl_ll2 | exact cl_clo (by assumption)) ?_ | decide))) ?_ | refine ArgsOk.bor rfl rfl (deref_flat (by first | exact cl_rs rfl | exact cl_rows | exact cl_setB rfl | exact cl_setG (cl_setB rfl) rfl | exact cl_appB cl_rows (cl_rs rfl) | exact cl_rl1 | exact cl_rl2)) (by decide) ?_ | refine give' rfl (by first | exact cl_rs rfl | exact cl_rows | exact cl_setB rfl | exact cl_setG (cl_setB rfl) rfl | exact cl_appB cl_rows (cl_rs rfl) | exact cl_rl1 | exact cl_rl2) (by decide) (by decide) ?_))), hd, (fun _ => by (first | exact flat_b rfl | exact flat_own | exact flat_own1 rfl | exact flat_own2 rfl)), (by exact Nat.le_of_ble_eq_true rfl), ?_⟩)
                ((conv => whnf); repeat' ((first | refine ⟨rfl, ?_⟩ | refine ⟨_, row_map (by assumption), ?_⟩ | refine ⟨_, (by exact some_rfl), ?_⟩ | refine ⟨_, wrap_ok (by omega) (by omega), ?_⟩ | refine ⟨_, wrap_u64 (by omega) (by omega), ?_⟩ | refine ⟨by decide, _, fdiv_half (by omega), ?_⟩ | (intro gg)); (conv => whnf)))
                (exact ⟨[192, 1328], by (repeat' (first | exact ArgsOk.nil _ | exact argsOk_cells (by assumption) | refine ArgsOk.same (by first | exact cl_b rfl | exact cl_list | exact cl_nil | exact cl_one | exact cl_ll1 | exact cl_ll2 | exact cl_clo (by assumption)) ?_ | refine ArgsOk.nilsl _ ?_ | refine ArgsOk.nilown _ _ (by decide) ?_ | refine ArgsOk.borp rfl rfl rfl (cl_row rfl) (by decide) ?_ | refine ArgsOk.borc (by %caps) ?_ | refine ArgsOk.bor rfl rfl (deref_flat (by first | exact cl_rs rfl | exact cl_rows | exact cl_setB rfl | exact cl_setG (cl_setB rfl) rfl | exact cl_appB cl_rows (cl_rs rfl) | exact cl_rl1 | exact cl_rl2)) (by decide) ?_ | refine give' rfl (by first | exact cl_rs rfl | exact cl_rows | exact cl_setB rfl | exact cl_setG (cl_setB rfl) rfl | exact cl_appB cl_rows (cl_rs rfl) | exact cl_rl1 | exact cl_rl2) (by decide) (by decide) ?_))⟩)
end Go.Proofs.Ytjhdlcmecbngkaa
/- Taking rumors: the reference. -/
namespace Go.Proofs.Ytjhdlcmecbngkaa
open Go.RowKit Pl
set_option linter.unusedVariables false
def bRow (b : Bool) : List V := [.v (.bool b)]
instance : FlatRow bRow := ⟨fun x u hu => by simp [bRow] at hu; exact ⟨_, hu⟩⟩
/-- which are taken -/
def tkn (n : Nat) (s : List Nat) : List Bool := (List.range n).map fun i => decide (i ∈ s)
theorem tkn_len (n : Nat) (s : List Nat) : (tkn n s).length = n := by simp [tkn]
theorem tkn_at {n : Nat} {s : List Nat} {i : Nat} (h : i < n) : (tkn n s)[i]'(by rw [tkn_len]; exact h) = decide (i ∈ s) := by simp [tkn]
theorem tkn_set {n : Nat} {s : List Nat} {i : Nat} (h : i < n) : (tkn n s).set i true = tkn n (s ++ [i]) := by
  apply List.ext_getElem
  · simp [tkn]
  · intro j h1 h2
    have hj : j < n := by simpa [tkn] using h1
    rw [List.getElem_set, tkn_at hj, tkn_at hj]
    by_cases e : i = j
    · subst e; simp
    · have e' : ¬ j = i := fun q => e q.symm
      simp [e, e']
theorem tkn_nil (n : Nat) : tkn n [] = List.replicate n false := by
  apply List.ext_getElem
  · simp [tkn]
  · intro j h1 h2; simp [tkn]
def bI : Option Nat → Int
  | none => -1
  | some b => b
/-- the best so far -/
def Best (l : List Ru) (s : List Nat) (i : Nat) : Option Nat → Prop
  | none => ∀ j, j < i → j ∈ s
  | some b => b < i ∧ b ∉ s ∧ ∀ j, j < i → j ∉ s → j = b ∨ befB l b j = true
theorem best_took {l : List Ru} {s : List Nat} {i : Nat} {b : Option Nat} (h : Best l s i b) (hi : i ∈ s) : Best l s (i + 1) b := by
  cases b with
  | none => exact up0 (p := fun j => j ∈ s) h hi
  | some b => exact ⟨by have := h.1; omega, h.2.1, up0 (p := fun j => j ∉ s → j = b ∨ befB l b j = true) h.2.2 (fun q => absurd hi q)⟩
theorem best_new {l : List Ru} {s : List Nat} {i : Nat} (h : Best l s i none) (hi : i ∉ s) : Best l s (i + 1) (some i) :=
  ⟨by omega, hi, up0 (p := fun j => j ∉ s → j = i ∨ befB l i j = true) (fun j hj q => absurd (h j hj) q) (fun _ => .inl rfl)⟩
theorem best_yes {l : List Ru} {s : List Nat} {i b : Nat} (h : Best l s i (some b)) (hi : i ∉ s) (ht : tt l i ≤ tt l b) : Best l s (i + 1) (some i) := by
  refine ⟨by omega, hi, up0 (p := fun j => j ∉ s → j = i ∨ befB l i j = true) (fun j hj q => ?_) (fun _ => .inl rfl)⟩
  right
  rw [befB_iff]
  have hb := h.1
  rcases h.2.2 j hj q with rfl | e
  · omega
  · rw [befB_iff] at e; omega
theorem best_no {l : List Ru} {s : List Nat} {i b : Nat} (h : Best l s i (some b)) (ht : ¬ tt l i ≤ tt l b) : Best l s (i + 1) (some b) :=
  ⟨by have := h.1; omega, h.2.1, up0 (p := fun j => j ∉ s → j = b ∨ befB l b j = true) h.2.2 (fun _ => .inr (by rw [befB_iff]; omega))⟩
theorem toldL_len {l : List Ru} {o : List Nat} (h : Ordd l o) {k : Nat} (hk : k ≤ o.length) : (toldL l (o.take k)).length = k := by
  induction k with
  | zero => rfl
  | succ k ih =>
    have hi := (h.mem _).1 (List.getElem_mem (show k < o.length by omega))
    rw [take_snoc (by omega), toldL_snoc hi, List.length_append, ih (by omega)]; rfl
theorem restL_take {l : List Ru} {times : Int} {k : Nat} (h : k < l.length) : restL (l.take (k + 1)) times = if l[k].t < times then restL (l.take k) times ++ [l[k]] else restL (l.take k) times := by
  unfold restL
  rw [List.take_add_one, List.getElem?_eq_getElem h, List.filter_append]
  by_cases q : l[k].t < times <;> simp [q]
theorem rTake_fun (l : List Ru) (most times : Int) (hi : RuOk l) (hm : 1 ≤ most) : Fun Try.prog 21 [.c (.sl false (l.map Ru.row)), .c (.v (.int .i64 most)), .c (.v (.int .i64 times))]
    [.c (.sl false ((takeR l (ordL l) most times).1.map Mb.row)), .c (.sl false ((takeR l (ordL l) most times).2.map Ru.row))] := by
  have hlen := hi.len
  have ho := ordL_ok l
  have hol := ho.len
  have hN1 : min most.toNat l.length ≤ l.length := Nat.min_le_right _ _
  have hN2 : (min most.toNat l.length : Nat) ≤ most := by omega
  have hN3 : min most.toNat l.length = l.length ∨ ((min most.toNat l.length : Nat) : Int) = most := by omega
  unfold takeR
  generalize hN : min most.toNat l.length = N at *
  generalize ordL l = o at *
  refine fun_x ck_hearsayref_TakeRumors rfl ?_
  ((conv => whnf); repeat' ((first | refine ⟨rfl, ?_⟩ | refine ⟨_, row_map (by assumption), ?_⟩ | refine ⟨_, (by exact some_rfl), ?_⟩ | refine ⟨_, wrap_ok (by omega) (by omega), ?_⟩ | refine ⟨_, wrap_u64 (by omega) (by omega), ?_⟩ | refine ⟨by decide, _, fdiv_half (by omega), ?_⟩ | (intro gg)); (conv => whnf)))
  refine ⟨ones_rows, ?_⟩
  ((conv => whnf); repeat' ((first | refine ⟨rfl, ?_⟩ | refine ⟨_, row_map (by assumption), ?_⟩ | refine ⟨_, (by exact some_rfl), ?_⟩ | refine ⟨_, wrap_ok (by omega) (by omega), ?_⟩ | refine ⟨_, wrap_u64 (by omega) (by omega), ?_⟩ | refine ⟨by decide, _, fdiv_half (by omega), ?_⟩ | (intro gg)); (conv => whnf)))
  refine ⟨(by simp only [List.length_map, List.length_append, List.length_cons, List.length_nil, List.length_set, List.length_replicate, maxLen]; omega), (by simp only [List.length_map, List.length_append, List.length_cons, List.length_nil, List.length_set, List.length_replicate]; omega), ?_⟩
  ((conv => whnf); repeat' ((first | refine ⟨rfl, ?_⟩ | refine ⟨_, row_map (by assumption), ?_⟩ | refine ⟨_, (by exact some_rfl), ?_⟩ | refine ⟨_, wrap_ok (by omega) (by omega), ?_⟩ | refine ⟨_, wrap_u64 (by omega) (by omega), ?_⟩ | refine ⟨by decide, _, fdiv_half (by omega), ?_⟩ | (intro gg)); (conv => whnf)))
  rename Nat => g1
  refine ⟨l.length, by simp, by simp, by simp only [maxLen]; omega, by omega, ?_⟩
  have e0 : List.replicate l.length ([Value.bool false].map V.v) = (tkn l.length (o.take 0)).map bRow := by rw [List.take_zero, tkn_nil]; simp [bRow]
  rw [e0]
  ((conv => whnf); repeat' ((first | refine ⟨rfl, ?_⟩ | refine ⟨_, row_map (by assumption), ?_⟩ | refine ⟨_, (by exact some_rfl), ?_⟩ | refine ⟨_, wrap_ok (by omega) (by omega), ?_⟩ | refine ⟨_, wrap_u64 (by omega) (by omega), ?_⟩ | refine ⟨by decide, _, fdiv_half (by omega), ?_⟩ | (intro gg)); (conv => whnf)))
  rename Nat => g2
  refine ⟨[(9, 144, 38, 5)], none, {p : Nat × Nat // p.1 ≤ N}, [0, 1, 2, 8, 10], fun ⟨⟨k, g⟩, hk⟩ => [(9, .own 144 g)], [], fun ⟨⟨k, g⟩, hk⟩ => [(144, ⟨g, 38, 5, (toldL l (o.take k)).map Mb.row⟩), (240, ⟨g1, 55, 6, (bumpS l (o.take k)).map Ru.row⟩), (320, ⟨g2, 4, 1, (tkn l.length (o.take k)).map bRow⟩)],
    fun ⟨⟨k, g⟩, hk⟩ => N - k, (by exact ⟨rfl, by decide, (fun _ _ _ _ h => by cases h), trivial⟩), fun gs => ⟨trivial, fun _ => ⟨⟨(0, gs 144), Nat.zero_le _⟩, by (repeat' (first | exact trivial | refine ⟨rfl, ?_⟩)), by (repeat' (first | exact trivial | refine ⟨rfl, ?_⟩)), ⟨rfl, (by rw [List.take_zero, bumpS_nil]; rfl), rfl, trivial⟩, by (repeat' (first | exact trivial | refine ⟨rfl, ?_⟩))⟩⟩, fun ⟨⟨k, g⟩, hk⟩ => ?_⟩
  ((conv => whnf); repeat' ((first | refine ⟨rfl, ?_⟩ | refine ⟨_, row_map (by assumption), ?_⟩ | refine ⟨_, (by exact some_rfl), ?_⟩ | refine ⟨_, wrap_ok (by omega) (by omega), ?_⟩ | refine ⟨_, wrap_u64 (by omega) (by omega), ?_⟩ | refine ⟨by decide, _, fdiv_half (by omega), ?_⟩ | (intro gg)); (conv => whnf)))
  have htl : (toldL l (o.take k)).length = k := toldL_len ho (by dsimp only at hk; omega)
  have htm : ((toldL l (o.take k)).map Mb.row).length = k := by rw [List.length_map, htl]
  have hlm : (l.map Ru.row).length = l.length := List.length_map ..
  by_cases hlt : k < N
  · (refine bIf_of (fun h2 => ?_) (fun h2 => ?_) <;> rw [h2]; rotate_left; focus (exfalso; have := of_decide_eq_false h2; simp only [htm, hlm] at this; omega))
    ((conv => whnf); repeat' ((first | refine ⟨rfl, ?_⟩ | refine ⟨_, row_map (by assumption), ?_⟩ | refine ⟨_, (by exact some_rfl), ?_⟩ | refine ⟨_, wrap_ok (by omega) (by omega), ?_⟩ | refine ⟨_, wrap_u64 (by omega) (by omega), ?_⟩ | refine ⟨by decide, _, fdiv_half (by omega), ?_⟩ | (intro gg)); (conv => whnf)))
    (refine bIf_of (fun h2 => ?_) (fun h2 => ?_) <;> rw [h2]; rotate_left; focus (exfalso; have := of_decide_eq_false h2; simp only [htm, hlm] at this; omega))
    ((conv => whnf); repeat' ((first | refine ⟨rfl, ?_⟩ | refine ⟨_, row_map (by assumption), ?_⟩ | refine ⟨_, (by exact some_rfl), ?_⟩ | refine ⟨_, wrap_ok (by omega) (by omega), ?_⟩ | refine ⟨_, wrap_u64 (by omega) (by omega), ?_⟩ | refine ⟨by decide, _, fdiv_half (by omega), ?_⟩ | (intro gg)); (conv => whnf)))
    have hko : k < o.length := by omega
    have hok : o[k] < l.length := (ho.mem _).1 (List.getElem_mem hko)
    have hnk := not_took ho.nd hko
    (refine ⟨[], none, {q : Nat × Option Nat // q.1 ≤ l.length ∧ Best l (o.take k) q.1 q.2}, [0, 2, 8, 9, 10, 1], fun ⟨⟨i, b⟩, hi4, hbs⟩ => [(11, .v (.int .i64 (bI b))), (12, .v (.int .i64 i))], [144, 240, 320], fun ⟨⟨i, b⟩, hi4, hbs⟩ => [], fun ⟨⟨i, b⟩, hi4, hbs⟩ => l.length - i, trivial, fun _ => ⟨trivial, fun _ => ⟨⟨(0, none), Nat.zero_le _, fun j hj => absurd hj (Nat.not_lt_zero _)⟩, by (repeat' (first | exact trivial | refine ⟨rfl, ?_⟩)), keptE_refl _ _, by (repeat' (first | exact trivial | refine ⟨rfl, ?_⟩)), keptH_refl _ _⟩⟩, fun ⟨⟨i, b⟩, hi4, hbs⟩ => ?_⟩)
    ((conv => whnf); repeat' ((first | refine ⟨rfl, ?_⟩ | refine ⟨_, row_map (by assumption), ?_⟩ | refine ⟨_, (by exact some_rfl), ?_⟩ | refine ⟨_, wrap_ok (by omega) (by omega), ?_⟩ | refine ⟨_, wrap_u64 (by omega) (by omega), ?_⟩ | refine ⟨by decide, _, fdiv_half (by omega), ?_⟩ | (intro gg)); (conv => whnf)))
    have hbs : Best l (o.take k) i b := hbs
    (refine bIf_of (fun h4 => ?_) (fun h4 => ?_) <;> rw [h4])
    · have hlt' : i < l.length := by have := of_decide_eq_true h4; simp only [hlm] at this; omega
      have hrow : ((tkn l.length (o.take k)).map bRow)[i]? = some (bRow (decide (i ∈ o.take k))) := by rw [row_map (by rw [tkn_len]; exact hlt'), tkn_at hlt']
      have hrowi : (l.map Ru.row)[i]? = some (Ru.row l[i]) := row_map hlt'
      ((conv => whnf); repeat' ((first | refine ⟨rfl, ?_⟩ | refine ⟨_, row_map (by assumption), ?_⟩ | refine ⟨_, (by exact some_rfl), ?_⟩ | refine ⟨_, wrap_ok (by omega) (by omega), ?_⟩ | refine ⟨_, wrap_u64 (by omega) (by omega), ?_⟩ | refine ⟨by decide, _, fdiv_half (by omega), ?_⟩ | (intro gg)); (conv => whnf)))
      refine ⟨i, _, rfl, hrow, ?_⟩
      ((conv => whnf); repeat' ((first | refine ⟨rfl, ?_⟩ | refine ⟨_, row_map (by assumption), ?_⟩ | refine ⟨_, (by exact some_rfl), ?_⟩ | refine ⟨_, wrap_ok (by omega) (by omega), ?_⟩ | refine ⟨_, wrap_u64 (by omega) (by omega), ?_⟩ | refine ⟨by decide, _, fdiv_half (by omega), ?_⟩ | (intro gg)); (conv => whnf)))
      refine ⟨_, hrow, ?_⟩
      ((conv => whnf); repeat' ((first | refine ⟨rfl, ?_⟩ | refine ⟨_, row_map (by assumption), ?_⟩ | refine ⟨_, (by exact some_rfl), ?_⟩ | refine ⟨_, wrap_ok (by omega) (by omega), ?_⟩ | refine ⟨_, wrap_u64 (by omega) (by omega), ?_⟩ | refine ⟨by decide, _, fdiv_half (by omega), ?_⟩ | (intro gg)); (conv => whnf)))
      (refine bIf_of (fun h6 => ?_) (fun h6 => ?_) <;> rw [h6])
      · have hni : i ∉ o.take k := of_decide_eq_false (not_t h6)
        cases b with
        | none =>
          ((conv => whnf); repeat' ((first | refine ⟨rfl, ?_⟩ | refine ⟨_, row_map (by assumption), ?_⟩ | refine ⟨_, (by exact some_rfl), ?_⟩ | refine ⟨_, wrap_ok (by omega) (by omega), ?_⟩ | refine ⟨_, wrap_u64 (by omega) (by omega), ?_⟩ | refine ⟨by decide, _, fdiv_half (by omega), ?_⟩ | (intro gg)); (conv => whnf)))
          (exact ⟨none, trivial, fun _ => ⟨⟨(i + 1, some i), by dsimp only; omega, best_new hbs hni⟩, by show l.length - (i + 1) < l.length - i; omega, by (repeat' (first | exact trivial | refine ⟨rfl, ?_⟩)), by (repeat' (first | exact trivial | refine ⟨rfl, ?_⟩)), by (repeat' (first | exact trivial | refine ⟨rfl, ?_⟩)), by (repeat' (first | exact trivial | refine ⟨rfl, ?_⟩))⟩⟩)
        | some b =>
          have hbl : b < l.length := by have := hbs.1; omega
          ((conv => whnf); repeat' ((first | refine ⟨rfl, ?_⟩ | refine ⟨_, row_map (by assumption), ?_⟩ | refine ⟨_, (by exact some_rfl), ?_⟩ | refine ⟨_, wrap_ok (by omega) (by omega), ?_⟩ | refine ⟨_, wrap_u64 (by omega) (by omega), ?_⟩ | refine ⟨by decide, _, fdiv_half (by omega), ?_⟩ | (intro gg)); (conv => whnf)))
          refine ⟨i, _, rfl, hrowi, ?_⟩
          ((conv => whnf); repeat' ((first | refine ⟨rfl, ?_⟩ | refine ⟨_, row_map (by assumption), ?_⟩ | refine ⟨_, (by exact some_rfl), ?_⟩ | refine ⟨_, wrap_ok (by omega) (by omega), ?_⟩ | refine ⟨_, wrap_u64 (by omega) (by omega), ?_⟩ | refine ⟨by decide, _, fdiv_half (by omega), ?_⟩ | (intro gg)); (conv => whnf)))
          refine ⟨b, _, rfl, row_map hbl, ?_⟩
          ((conv => whnf); repeat' ((first | refine ⟨rfl, ?_⟩ | refine ⟨_, row_map (by assumption), ?_⟩ | refine ⟨_, (by exact some_rfl), ?_⟩ | refine ⟨_, wrap_ok (by omega) (by omega), ?_⟩ | refine ⟨_, wrap_u64 (by omega) (by omega), ?_⟩ | refine ⟨by decide, _, fdiv_half (by omega), ?_⟩ | (intro gg)); (conv => whnf)))
          (refine bIf_of (fun h8 => ?_) (fun h8 => ?_) <;> rw [h8])
          · have h8' : tt l i ≤ tt l b := by rw [tt_at hlt', tt_at hbl]; exact of_decide_eq_true h8
            ((conv => whnf); repeat' ((first | refine ⟨rfl, ?_⟩ | refine ⟨_, row_map (by assumption), ?_⟩ | refine ⟨_, (by exact some_rfl), ?_⟩ | refine ⟨_, wrap_ok (by omega) (by omega), ?_⟩ | refine ⟨_, wrap_u64 (by omega) (by omega), ?_⟩ | refine ⟨by decide, _, fdiv_half (by omega), ?_⟩ | (intro gg)); (conv => whnf)))
            (exact ⟨none, trivial, fun _ => ⟨⟨(i + 1, some i), by dsimp only; omega, best_yes hbs hni h8'⟩, by show l.length - (i + 1) < l.length - i; omega, by (repeat' (first | exact trivial | refine ⟨rfl, ?_⟩)), by (repeat' (first | exact trivial | refine ⟨rfl, ?_⟩)), by (repeat' (first | exact trivial | refine ⟨rfl, ?_⟩)), by (repeat' (first | exact trivial | refine ⟨rfl, ?_⟩))⟩⟩)
          · have h8' : ¬ tt l i ≤ tt l b := by rw [tt_at hlt', tt_at hbl]; exact of_decide_eq_false h8
            ((conv => whnf); repeat' ((first | refine ⟨rfl, ?_⟩ | refine ⟨_, row_map (by assumption), ?_⟩ | refine ⟨_, (by exact some_rfl), ?_⟩ | refine ⟨_, wrap_ok (by omega) (by omega), ?_⟩ | refine ⟨_, wrap_u64 (by omega) (by omega), ?_⟩ | refine ⟨by decide, _, fdiv_half (by omega), ?_⟩ | (intro gg)); (conv => whnf)))
            (exact ⟨none, trivial, fun _ => ⟨⟨(i + 1, some b), by dsimp only; omega, best_no hbs h8'⟩, by show l.length - (i + 1) < l.length - i; omega, by (repeat' (first | exact trivial | refine ⟨rfl, ?_⟩)), by (repeat' (first | exact trivial | refine ⟨rfl, ?_⟩)), by (repeat' (first | exact trivial | refine ⟨rfl, ?_⟩)), by (repeat' (first | exact trivial | refine ⟨rfl, ?_⟩))⟩⟩)
      · have hni : i ∈ o.take k := of_decide_eq_true (not_f h6)
        ((conv => whnf); repeat' ((first | refine ⟨rfl, ?_⟩ | refine ⟨_, row_map (by assumption), ?_⟩ | refine ⟨_, (by exact some_rfl), ?_⟩ | refine ⟨_, wrap_ok (by omega) (by omega), ?_⟩ | refine ⟨_, wrap_u64 (by omega) (by omega), ?_⟩ | refine ⟨by decide, _, fdiv_half (by omega), ?_⟩ | (intro gg)); (conv => whnf)))
        (exact ⟨none, trivial, fun _ => ⟨⟨(i + 1, b), by dsimp only; omega, best_took hbs hni⟩, by show l.length - (i + 1) < l.length - i; omega, by (repeat' (first | exact trivial | refine ⟨rfl, ?_⟩)), by (repeat' (first | exact trivial | refine ⟨rfl, ?_⟩)), by (repeat' (first | exact trivial | refine ⟨rfl, ?_⟩)), by (repeat' (first | exact trivial | refine ⟨rfl, ?_⟩))⟩⟩)
    · have hge : ¬ i < l.length := by have := of_decide_eq_false h4; simp only [hlm] at this; omega
      have hin : i = l.length := by dsimp only at hi4; omega
      have hbo : b = some o[k] := by
        cases b with
        | none => exact absurd (hbs o[k] (by omega)) hnk
        | some b => rw [first_of ho hko (by have := hbs.1; omega) hbs.2.1 (fun j hj hn => hbs.2.2 j (by omega) hn)]
      subst hbo
      have hb : (bumpS l (o.take k))[o[k]]'(by rw [bumpS_len]; exact hok) = l[o[k]] := by rw [bumpS_at hok, if_neg hnk]
      have hrow1 : ((tkn l.length (o.take k)).map bRow)[o[k]]? = some (bRow (decide (o[k] ∈ o.take k))) := by rw [row_map (by rw [tkn_len]; exact hok), tkn_at hok]
      have hrow2 : ((bumpS l (o.take k)).map Ru.row)[o[k]]? = some (Ru.row l[o[k]]) := by rw [row_map (by rw [bumpS_len]; exact hok), hb]
      have hrow3 : (l.map Ru.row)[o[k]]? = some (Ru.row l[o[k]]) := row_map hok
      have ht := hi.rng _ hok
      have e1 : (toldL l (o.take k)).map Mb.row ++ [Mb.row (l[o[k]]).m] = (toldL l (o.take (k + 1))).map Mb.row := by
        rw [take_snoc hko, toldL_snoc hok, List.map_append]; rfl
      have e2 : ((bumpS l (o.take k)).map Ru.row).set o[k] (Ru.row ⟨(l[o[k]]).m, (l[o[k]]).t + 1⟩) = (bumpS l (o.take (k + 1))).map Ru.row := by
        rw [take_snoc hko, ← bumpS_set hok, List.map_set]
      have e3 : ((tkn l.length (o.take k)).map bRow).set o[k] (bRow true) = (tkn l.length (o.take (k + 1))).map bRow := by
        rw [take_snoc hko, ← tkn_set hok, List.map_set]
      ((conv => whnf); repeat' ((first | refine ⟨rfl, ?_⟩ | refine ⟨_, row_map (by assumption), ?_⟩ | refine ⟨_, (by exact some_rfl), ?_⟩ | refine ⟨_, wrap_ok (by omega) (by omega), ?_⟩ | refine ⟨_, wrap_u64 (by omega) (by omega), ?_⟩ | refine ⟨by decide, _, fdiv_half (by omega), ?_⟩ | (intro gg)); (conv => whnf)))
      refine ⟨o[k], _, rfl, hrow1, ?_⟩
      ((conv => whnf); repeat' ((first | refine ⟨rfl, ?_⟩ | refine ⟨_, row_map (by assumption), ?_⟩ | refine ⟨_, (by exact some_rfl), ?_⟩ | refine ⟨_, wrap_ok (by omega) (by omega), ?_⟩ | refine ⟨_, wrap_u64 (by omega) (by omega), ?_⟩ | refine ⟨by decide, _, fdiv_half (by omega), ?_⟩ | (intro gg)); (conv => whnf)))
      refine ⟨_, hrow1, ?_⟩
      ((conv => whnf); repeat' ((first | refine ⟨rfl, ?_⟩ | refine ⟨_, row_map (by assumption), ?_⟩ | refine ⟨_, (by exact some_rfl), ?_⟩ | refine ⟨_, wrap_ok (by omega) (by omega), ?_⟩ | refine ⟨_, wrap_u64 (by omega) (by omega), ?_⟩ | refine ⟨by decide, _, fdiv_half (by omega), ?_⟩ | (intro gg)); (conv => whnf)))
      refine ⟨o[k], _, rfl, hrow3, ?_⟩
      ((conv => whnf); repeat' ((first | refine ⟨rfl, ?_⟩ | refine ⟨_, row_map (by assumption), ?_⟩ | refine ⟨_, (by exact some_rfl), ?_⟩ | refine ⟨_, wrap_ok (by omega) (by omega), ?_⟩ | refine ⟨_, wrap_u64 (by omega) (by omega), ?_⟩ | refine ⟨by decide, _, fdiv_half (by omega), ?_⟩ | (intro gg)); (conv => whnf)))
      refine ⟨(by simp only [List.length_map, List.length_append, List.length_cons, List.length_nil, List.length_set, List.length_replicate, maxLen]; omega), (by simp only [List.length_map, List.length_append, List.length_cons, List.length_nil, List.length_set, List.length_replicate]; omega), ?_⟩
      ((conv => whnf); repeat' ((first | refine ⟨rfl, ?_⟩ | refine ⟨_, row_map (by assumption), ?_⟩ | refine ⟨_, (by exact some_rfl), ?_⟩ | refine ⟨_, wrap_ok (by omega) (by omega), ?_⟩ | refine ⟨_, wrap_u64 (by omega) (by omega), ?_⟩ | refine ⟨by decide, _, fdiv_half (by omega), ?_⟩ | (intro gg)); (conv => whnf)))
      refine ⟨o[k], _, rfl, hrow2, ?_⟩
      ((conv => whnf); repeat' ((first | refine ⟨rfl, ?_⟩ | refine ⟨_, row_map (by assumption), ?_⟩ | refine ⟨_, (by exact some_rfl), ?_⟩ | refine ⟨_, wrap_ok (by omega) (by omega), ?_⟩ | refine ⟨_, wrap_u64 (by omega) (by omega), ?_⟩ | refine ⟨by decide, _, fdiv_half (by omega), ?_⟩ | (intro gg)); (conv => whnf)))
      refine ⟨_, hrow2, ?_⟩
      ((conv => whnf); repeat' ((first | refine ⟨rfl, ?_⟩ | refine ⟨_, row_map (by assumption), ?_⟩ | refine ⟨_, (by exact some_rfl), ?_⟩ | refine ⟨_, wrap_ok (by omega) (by omega), ?_⟩ | refine ⟨_, wrap_u64 (by omega) (by omega), ?_⟩ | refine ⟨by decide, _, fdiv_half (by omega), ?_⟩ | (intro gg)); (conv => whnf)))
      refine ⟨o[k], _, rfl, hrow2, ?_⟩
      ((conv => whnf); repeat' ((first | refine ⟨rfl, ?_⟩ | refine ⟨_, row_map (by assumption), ?_⟩ | refine ⟨_, (by exact some_rfl), ?_⟩ | refine ⟨_, wrap_ok (by omega) (by omega), ?_⟩ | refine ⟨_, wrap_u64 (by omega) (by omega), ?_⟩ | refine ⟨by decide, _, fdiv_half (by omega), ?_⟩ | (intro gg)); (conv => whnf)))
      refine ⟨_, hrow2, ?_⟩
      ((conv => whnf); repeat' ((first | refine ⟨rfl, ?_⟩ | refine ⟨_, row_map (by assumption), ?_⟩ | refine ⟨_, (by exact some_rfl), ?_⟩ | refine ⟨_, wrap_ok (by omega) (by omega), ?_⟩ | refine ⟨_, wrap_u64 (by omega) (by omega), ?_⟩ | refine ⟨by decide, _, fdiv_half (by omega), ?_⟩ | (intro gg)); (conv => whnf)))
      exact ⟨none, trivial, fun gr => ⟨⟨(k + 1, gg), by dsimp only; omega⟩, by show N - (k + 1) < N - k; omega, by (repeat' (first | exact trivial | refine ⟨rfl, ?_⟩)), by (repeat' (first | exact trivial | refine ⟨rfl, ?_⟩)), ⟨congrArg (fun r => some (Ent.mk gg (.t 38) 5 r)) e1, congrArg (fun r => some (Ent.mk g1 (.t 55) 6 r)) e2, congrArg (fun r => some (Ent.mk g2 (.t 4) 1 r)) e3, trivial⟩, by (repeat' (first | exact trivial | refine ⟨rfl, ?_⟩))⟩⟩
  · obtain rfl : k = N := by dsimp only at hk; omega
    rcases hN3 with q | q
    · by_cases q2 : ((k : Nat) : Int) < most
      · (refine bIf_of (fun h2 => ?_) (fun h2 => ?_) <;> rw [h2]; rotate_left; focus (exfalso; have := of_decide_eq_false h2; simp only [htm, hlm] at this; omega))
        ((conv => whnf); repeat' ((first | refine ⟨rfl, ?_⟩ | refine ⟨_, row_map (by assumption), ?_⟩ | refine ⟨_, (by exact some_rfl), ?_⟩ | refine ⟨_, wrap_ok (by omega) (by omega), ?_⟩ | refine ⟨_, wrap_u64 (by omega) (by omega), ?_⟩ | refine ⟨by decide, _, fdiv_half (by omega), ?_⟩ | (intro gg)); (conv => whnf)))
        (refine bIf_of (fun h2 => ?_) (fun h2 => ?_) <;> rw [h2]; focus (exfalso; have := of_decide_eq_true h2; simp only [htm, hlm] at this; omega))
        ((conv => whnf); repeat' ((first | refine ⟨rfl, ?_⟩ | refine ⟨_, row_map (by assumption), ?_⟩ | refine ⟨_, (by exact some_rfl), ?_⟩ | refine ⟨_, wrap_ok (by omega) (by omega), ?_⟩ | refine ⟨_, wrap_u64 (by omega) (by omega), ?_⟩ | refine ⟨by decide, _, fdiv_half (by omega), ?_⟩ | (intro gg)); (conv => whnf)))
        (refine ⟨[(13, 208, 55, 6)], none, {p : Nat × Nat // p.1 ≤ l.length}, [2, 8, 9], fun ⟨⟨i, g3⟩, hi3⟩ => [(13, .own 208 g3), (14, .v (.int .i64 i))], [144, 240], fun ⟨⟨i, g3⟩, hi3⟩ => [(208, ⟨g3, 55, 6, (restL ((bumpS l (o.take k)).take i) times).map Ru.row⟩)], fun ⟨⟨i, g3⟩, hi3⟩ => l.length - i, (by exact ⟨rfl, by decide, (fun _ _ _ _ h => by cases h), trivial⟩), fun gs => ⟨trivial, fun _ => ⟨⟨(0, gs 208), Nat.zero_le _⟩, by (repeat' (first | exact trivial | refine ⟨rfl, ?_⟩)), by (repeat' (first | exact trivial | refine ⟨rfl, ?_⟩)), by (repeat' (first | exact trivial | refine ⟨rfl, ?_⟩)), by (repeat' (first | exact trivial | refine ⟨rfl, ?_⟩))⟩⟩, fun ⟨⟨i, g3⟩, hi3⟩ => ?_⟩)
        ((conv => whnf); repeat' ((first | refine ⟨rfl, ?_⟩ | refine ⟨_, row_map (by assumption), ?_⟩ | refine ⟨_, (by exact some_rfl), ?_⟩ | refine ⟨_, wrap_ok (by omega) (by omega), ?_⟩ | refine ⟨_, wrap_u64 (by omega) (by omega), ?_⟩ | refine ⟨by decide, _, fdiv_half (by omega), ?_⟩ | (intro gg)); (conv => whnf)))
        have hbl : ((bumpS l (o.take k)).map Ru.row).length = l.length := by rw [List.length_map, bumpS_len]
        (refine bIf_of (fun h5 => ?_) (fun h5 => ?_) <;> rw [h5])
        · have hlt : i < l.length := by have := of_decide_eq_true h5; simp only [hbl] at this; omega
          have hlt2 : i < (bumpS l (o.take k)).length := by rw [bumpS_len]; exact hlt
          have hr := restL_take (times := times) hlt2
          ((conv => whnf); repeat' ((first | refine ⟨rfl, ?_⟩ | refine ⟨_, row_map (by assumption), ?_⟩ | refine ⟨_, (by exact some_rfl), ?_⟩ | refine ⟨_, wrap_ok (by omega) (by omega), ?_⟩ | refine ⟨_, wrap_u64 (by omega) (by omega), ?_⟩ | refine ⟨by decide, _, fdiv_half (by omega), ?_⟩ | (intro gg)); (conv => whnf)))
          refine ⟨i, _, rfl, row_map hlt2, ?_⟩
          ((conv => whnf); repeat' ((first | refine ⟨rfl, ?_⟩ | refine ⟨_, row_map (by assumption), ?_⟩ | refine ⟨_, (by exact some_rfl), ?_⟩ | refine ⟨_, wrap_ok (by omega) (by omega), ?_⟩ | refine ⟨_, wrap_u64 (by omega) (by omega), ?_⟩ | refine ⟨by decide, _, fdiv_half (by omega), ?_⟩ | (intro gg)); (conv => whnf)))
          (refine bIf_of (fun h6 => ?_) (fun h6 => ?_) <;> rw [h6])
          · have h6' : (bumpS l (o.take k))[i].t < times := of_decide_eq_true h6
            rw [if_pos h6'] at hr
            have hle : (restL ((bumpS l (o.take k)).take i) times).length ≤ 20 := Nat.le_trans (List.length_filter_le _ _) (by rw [List.length_take, bumpS_len]; omega)
            ((conv => whnf); repeat' ((first | refine ⟨rfl, ?_⟩ | refine ⟨_, row_map (by assumption), ?_⟩ | refine ⟨_, (by exact some_rfl), ?_⟩ | refine ⟨_, wrap_ok (by omega) (by omega), ?_⟩ | refine ⟨_, wrap_u64 (by omega) (by omega), ?_⟩ | refine ⟨by decide, _, fdiv_half (by omega), ?_⟩ | (intro gg)); (conv => whnf)))
            refine ⟨i, _, rfl, row_map hlt2, ?_⟩
            ((conv => whnf); repeat' ((first | refine ⟨rfl, ?_⟩ | refine ⟨_, row_map (by assumption), ?_⟩ | refine ⟨_, (by exact some_rfl), ?_⟩ | refine ⟨_, wrap_ok (by omega) (by omega), ?_⟩ | refine ⟨_, wrap_u64 (by omega) (by omega), ?_⟩ | refine ⟨by decide, _, fdiv_half (by omega), ?_⟩ | (intro gg)); (conv => whnf)))
            refine ⟨(by simp only [List.length_map, List.length_append, List.length_cons, List.length_nil, List.length_set, List.length_replicate, maxLen]; omega), (by simp only [List.length_map, List.length_append, List.length_cons, List.length_nil, List.length_set, List.length_replicate]; omega), ?_⟩
            ((conv => whnf); repeat' ((first | refine ⟨rfl, ?_⟩ | refine ⟨_, row_map (by assumption), ?_⟩ | refine ⟨_, (by exact some_rfl), ?_⟩ | refine ⟨_, wrap_ok (by omega) (by omega), ?_⟩ | refine ⟨_, wrap_u64 (by omega) (by omega), ?_⟩ | refine ⟨by decide, _, fdiv_half (by omega), ?_⟩ | (intro gg)); (conv => whnf)))
            have e : (restL ((bumpS l (o.take k)).take i) times).map Ru.row ++ [Ru.row (bumpS l (o.take k))[i]] = (restL ((bumpS l (o.take k)).take (i + 1)) times).map Ru.row := by rw [hr, List.map_append]; rfl
            (exact ⟨none, trivial, fun gr => ⟨⟨(i + 1, gg), by dsimp only; omega⟩, by show l.length - (i + 1) < l.length - i; omega, by (repeat' (first | exact trivial | refine ⟨rfl, ?_⟩)), by (repeat' (first | exact trivial | refine ⟨rfl, ?_⟩)), ⟨congrArg (fun r => some (Ent.mk gg (.t 55) 6 r)) e, trivial⟩, by (repeat' (first | exact trivial | refine ⟨rfl, ?_⟩))⟩⟩)
          · have h6' : ¬ (bumpS l (o.take k))[i].t < times := of_decide_eq_false h6
            rw [if_neg h6'] at hr
            ((conv => whnf); repeat' ((first | refine ⟨rfl, ?_⟩ | refine ⟨_, row_map (by assumption), ?_⟩ | refine ⟨_, (by exact some_rfl), ?_⟩ | refine ⟨_, wrap_ok (by omega) (by omega), ?_⟩ | refine ⟨_, wrap_u64 (by omega) (by omega), ?_⟩ | refine ⟨by decide, _, fdiv_half (by omega), ?_⟩ | (intro gg)); (conv => whnf)))
            (exact ⟨none, trivial, fun gr => ⟨⟨(i + 1, g3), by dsimp only; omega⟩, by show l.length - (i + 1) < l.length - i; omega, by (repeat' (first | exact trivial | refine ⟨rfl, ?_⟩)), by (repeat' (first | exact trivial | refine ⟨rfl, ?_⟩)), ⟨congrArg (fun r => some (Ent.mk g3 (.t 55) 6 (List.map Ru.row r))) hr.symm, trivial⟩, by (repeat' (first | exact trivial | refine ⟨rfl, ?_⟩))⟩⟩)
        · have hge : ¬ i < l.length := by have := of_decide_eq_false h5; simp only [hbl] at this; omega
          obtain rfl : i = l.length := by dsimp only at hi3; omega
          have et : (bumpS l (o.take k)).take l.length = bumpS l (o.take k) := List.take_of_length_le (by rw [bumpS_len]; exact Nat.le_refl _)
          have er : restL (bumpS l (o.take k)) times = restL ((bumpS l (o.take k)).take l.length) times := by rw [et]
          rw [er]
          ((conv => whnf); repeat' ((first | refine ⟨rfl, ?_⟩ | refine ⟨_, row_map (by assumption), ?_⟩ | refine ⟨_, (by exact some_rfl), ?_⟩ | refine ⟨_, wrap_ok (by omega) (by omega), ?_⟩ | refine ⟨_, wrap_u64 (by omega) (by omega), ?_⟩ | refine ⟨by decide, _, fdiv_half (by omega), ?_⟩ | (intro gg)); (conv => whnf)))
          (exact ⟨[], by (repeat' (first | exact ArgsOk.nil _ | exact argsOk_cells (by assumption) | refine ArgsOk.same (by first | exact cl_b rfl | exact cl_list | exact cl_nil | exact cl_one | exact cl_ll1 | exact cl_ll2 | exact cl_clo (by assumption)) ?_ | refine ArgsOk.nilsl _ ?_ | refine ArgsOk.nilown _ _ (by decide) ?_ | refine ArgsOk.borp rfl rfl rfl (cl_row rfl) (by decide) ?_ | refine ArgsOk.borc (by %caps) ?_ | refine ArgsOk.bor rfl rfl (deref_flat (by first | exact cl_rs rfl | exact cl_rows | exact cl_setB rfl | exact cl_setG (cl_setB rfl) rfl | exact cl_appB cl_rows (cl_rs rfl) | exact cl_rl1 | exact cl_rl2)) (by decide) ?_ | refine give' rfl (by first | exact cl_rs rfl | exact cl_rows | exact cl_setB rfl | exact cl_setG (cl_setB rfl) rfl | exact cl_appB cl_rows (cl_rs rfl) | exact cl_rl1 | exact cl_rl2) (by decide) (by decide) ?_))⟩)
      · (refine bIf_of (fun h2 => ?_) (fun h2 => ?_) <;> rw [h2]; focus (exfalso; have := of_decide_eq_true h2; simp only [htm, hlm] at this; omega))
        ((conv => whnf); repeat' ((first | refine ⟨rfl, ?_⟩ | refine ⟨_, row_map (by assumption), ?_⟩ | refine ⟨_, (by exact some_rfl), ?_⟩ | refine ⟨_, wrap_ok (by omega) (by omega), ?_⟩ | refine ⟨_, wrap_u64 (by omega) (by omega), ?_⟩ | refine ⟨by decide, _, fdiv_half (by omega), ?_⟩ | (intro gg)); (conv => whnf)))
        (refine ⟨[(13, 208, 55, 6)], none, {p : Nat × Nat // p.1 ≤ l.length}, [2, 8, 9], fun ⟨⟨i, g3⟩, hi3⟩ => [(13, .own 208 g3), (14, .v (.int .i64 i))], [144, 240], fun ⟨⟨i, g3⟩, hi3⟩ => [(208, ⟨g3, 55, 6, (restL ((bumpS l (o.take k)).take i) times).map Ru.row⟩)], fun ⟨⟨i, g3⟩, hi3⟩ => l.length - i, (by exact ⟨rfl, by decide, (fun _ _ _ _ h => by cases h), trivial⟩), fun gs => ⟨trivial, fun _ => ⟨⟨(0, gs 208), Nat.zero_le _⟩, by (repeat' (first | exact trivial | refine ⟨rfl, ?_⟩)), by (repeat' (first | exact trivial | refine ⟨rfl, ?_⟩)), by (repeat' (first | exact trivial | refine ⟨rfl, ?_⟩)), by (repeat' (first | exact trivial | refine ⟨rfl, ?_⟩))⟩⟩, fun ⟨⟨i, g3⟩, hi3⟩ => ?_⟩)
        ((conv => whnf); repeat' ((first | refine ⟨rfl, ?_⟩ | refine ⟨_, row_map (by assumption), ?_⟩ | refine ⟨_, (by exact some_rfl), ?_⟩ | refine ⟨_, wrap_ok (by omega) (by omega), ?_⟩ | refine ⟨_, wrap_u64 (by omega) (by omega), ?_⟩ | refine ⟨by decide, _, fdiv_half (by omega), ?_⟩ | (intro gg)); (conv => whnf)))
        have hbl : ((bumpS l (o.take k)).map Ru.row).length = l.length := by rw [List.length_map, bumpS_len]
        (refine bIf_of (fun h5 => ?_) (fun h5 => ?_) <;> rw [h5])
        · have hlt : i < l.length := by have := of_decide_eq_true h5; simp only [hbl] at this; omega
          have hlt2 : i < (bumpS l (o.take k)).length := by rw [bumpS_len]; exact hlt
          have hr := restL_take (times := times) hlt2
          ((conv => whnf); repeat' ((first | refine ⟨rfl, ?_⟩ | refine ⟨_, row_map (by assumption), ?_⟩ | refine ⟨_, (by exact some_rfl), ?_⟩ | refine ⟨_, wrap_ok (by omega) (by omega), ?_⟩ | refine ⟨_, wrap_u64 (by omega) (by omega), ?_⟩ | refine ⟨by decide, _, fdiv_half (by omega), ?_⟩ | (intro gg)); (conv => whnf)))
          refine ⟨i, _, rfl, row_map hlt2, ?_⟩
          ((conv => whnf); repeat' ((first | refine ⟨rfl, ?_⟩ | refine ⟨_, row_map (by assumption), ?_⟩ | refine ⟨_, (by exact some_rfl), ?_⟩ | refine ⟨_, wrap_ok (by omega) (by omega), ?_⟩ | refine ⟨_, wrap_u64 (by omega) (by omega), ?_⟩ | refine ⟨by decide, _, fdiv_half (by omega), ?_⟩ | (intro gg)); (conv => whnf)))
          (refine bIf_of (fun h6 => ?_) (fun h6 => ?_) <;> rw [h6])
          · have h6' : (bumpS l (o.take k))[i].t < times := of_decide_eq_true h6
            rw [if_pos h6'] at hr
            have hle : (restL ((bumpS l (o.take k)).take i) times).length ≤ 20 := Nat.le_trans (List.length_filter_le _ _) (by rw [List.length_take, bumpS_len]; omega)
            ((conv => whnf); repeat' ((first | refine ⟨rfl, ?_⟩ | refine ⟨_, row_map (by assumption), ?_⟩ | refine ⟨_, (by exact some_rfl), ?_⟩ | refine ⟨_, wrap_ok (by omega) (by omega), ?_⟩ | refine ⟨_, wrap_u64 (by omega) (by omega), ?_⟩ | refine ⟨by decide, _, fdiv_half (by omega), ?_⟩ | (intro gg)); (conv => whnf)))
            refine ⟨i, _, rfl, row_map hlt2, ?_⟩
            ((conv => whnf); repeat' ((first | refine ⟨rfl, ?_⟩ | refine ⟨_, row_map (by assumption), ?_⟩ | refine ⟨_, (by exact some_rfl), ?_⟩ | refine ⟨_, wrap_ok (by omega) (by omega), ?_⟩ | refine ⟨_, wrap_u64 (by omega) (by omega), ?_⟩ | refine ⟨by decide, _, fdiv_half (by omega), ?_⟩ | (intro gg)); (conv => whnf)))
            refine ⟨(by simp only [List.length_map, List.length_append, List.length_cons, List.length_nil, List.length_set, List.length_replicate, maxLen]; omega), (by simp only [List.length_map, List.length_append, List.length_cons, List.length_nil, List.length_set, List.length_replicate]; omega), ?_⟩
            ((conv => whnf); repeat' ((first | refine ⟨rfl, ?_⟩ | refine ⟨_, row_map (by assumption), ?_⟩ | refine ⟨_, (by exact some_rfl), ?_⟩ | refine ⟨_, wrap_ok (by omega) (by omega), ?_⟩ | refine ⟨_, wrap_u64 (by omega) (by omega), ?_⟩ | refine ⟨by decide, _, fdiv_half (by omega), ?_⟩ | (intro gg)); (conv => whnf)))
            have e : (restL ((bumpS l (o.take k)).take i) times).map Ru.row ++ [Ru.row (bumpS l (o.take k))[i]] = (restL ((bumpS l (o.take k)).take (i + 1)) times).map Ru.row := by rw [hr, List.map_append]; rfl
            (exact ⟨none, trivial, fun gr => ⟨⟨(i + 1, gg), by dsimp only; omega⟩, by show l.length - (i + 1) < l.length - i; omega, by (repeat' (first | exact trivial | refine ⟨rfl, ?_⟩)), by (repeat' (first | exact trivial | refine ⟨rfl, ?_⟩)), ⟨congrArg (fun r => some (Ent.mk gg (.t 55) 6 r)) e, trivial⟩, by (repeat' (first | exact trivial | refine ⟨rfl, ?_⟩))⟩⟩)
          · have h6' : ¬ (bumpS l (o.take k))[i].t < times := of_decide_eq_false h6
            rw [if_neg h6'] at hr
            ((conv => whnf); repeat' ((first | refine ⟨rfl, ?_⟩ | refine ⟨_, row_map (by assumption), ?_⟩ | refine ⟨_, (by exact some_rfl), ?_⟩ | refine ⟨_, wrap_ok (by omega) (by omega), ?_⟩ | refine ⟨_, wrap_u64 (by omega) (by omega), ?_⟩ | refine ⟨by decide, _, fdiv_half (by omega), ?_⟩ | (intro gg)); (conv => whnf)))
            (exact ⟨none, trivial, fun gr => ⟨⟨(i + 1, g3), by dsimp only; omega⟩, by show l.length - (i + 1) < l.length - i; omega, by (repeat' (first | exact trivial | refine ⟨rfl, ?_⟩)), by (repeat' (first | exact trivial | refine ⟨rfl, ?_⟩)), ⟨congrArg (fun r => some (Ent.mk g3 (.t 55) 6 (List.map Ru.row r))) hr.symm, trivial⟩, by (repeat' (first | exact trivial | refine ⟨rfl, ?_⟩))⟩⟩)
        · have hge : ¬ i < l.length := by have := of_decide_eq_false h5; simp only [hbl] at this; omega
          obtain rfl : i = l.length := by dsimp only at hi3; omega
          have et : (bumpS l (o.take k)).take l.length = bumpS l (o.take k) := List.take_of_length_le (by rw [bumpS_len]; exact Nat.le_refl _)
          have er : restL (bumpS l (o.take k)) times = restL ((bumpS l (o.take k)).take l.length) times := by rw [et]
          rw [er]
          ((conv => whnf); repeat' ((first | refine ⟨rfl, ?_⟩ | refine ⟨_, row_map (by assumption), ?_⟩ | refine ⟨_, (by exact some_rfl), ?_⟩ | refine ⟨_, wrap_ok (by omega) (by omega), ?_⟩ | refine ⟨_, wrap_u64 (by omega) (by omega), ?_⟩ | refine ⟨by decide, _, fdiv_half (by omega), ?_⟩ | (intro gg)); (conv => whnf)))
          (exact ⟨[], by (repeat' (first | exact ArgsOk.nil _ | exact argsOk_cells (by assumption) | refine ArgsOk.same (by first | exact cl_b rfl | exact cl_list | exact cl_nil | exact cl_one | exact cl_ll1 | exact cl_ll2 | exact cl_clo (by assumption)) ?_ | refine ArgsOk.nilsl _ ?_ | refine ArgsOk.nilown _ _ (by decide) ?_ | refine ArgsOk.borp rfl rfl rfl (cl_row rfl) (by decide) ?_ | refine ArgsOk.borc (by %caps) ?_ | refine ArgsOk.bor rfl rfl (deref_flat (by first | exact cl_rs rfl | exact cl_rows | exact cl_setB rfl | exact cl_setG (cl_setB rfl) rfl | exact cl_appB cl_rows (cl_rs rfl) | exact cl_rl1 | exact cl_rl2)) (by decide) ?_ | refine give' rfl (by first | exact cl_rs rfl | exact cl_rows | exact cl_setB rfl | exact cl_setG (cl_setB rfl) rfl | exact cl_appB cl_rows (cl_rs rfl) | exact cl_rl1 | exact cl_rl2) (by decide) (by decide) ?_))⟩)
    · (refine bIf_of (fun h2 => ?_) (fun h2 => ?_) <;> rw [h2]; focus (exfalso; have := of_decide_eq_true h2; simp only [htm, hlm] at this; omega))
      ((conv => whnf); repeat' ((first | refine ⟨rfl, ?_⟩ | refine ⟨_, row_map (by assumption), ?_⟩ | refine ⟨_, (by exact some_rfl), ?_⟩ | refine ⟨_, wrap_ok (by omega) (by omega), ?_⟩ | refine ⟨_, wrap_u64 (by omega) (by omega), ?_⟩ | refine ⟨by decide, _, fdiv_half (by omega), ?_⟩ | (intro gg)); (conv => whnf)))
      (refine ⟨[(13, 208, 55, 6)], none, {p : Nat × Nat // p.1 ≤ l.length}, [2, 8, 9], fun ⟨⟨i, g3⟩, hi3⟩ => [(13, .own 208 g3), (14, .v (.int .i64 i))], [144, 240], fun ⟨⟨i, g3⟩, hi3⟩ => [(208, ⟨g3, 55, 6, (restL ((bumpS l (o.take k)).take i) times).map Ru.row⟩)], fun ⟨⟨i, g3⟩, hi3⟩ => l.length - i, (by exact ⟨rfl, by decide, (fun _ _ _ _ h => by cases h), trivial⟩), fun gs => ⟨trivial, fun _ => ⟨⟨(0, gs 208), Nat.zero_le _⟩, by (repeat' (first | exact trivial | refine ⟨rfl, ?_⟩)), by (repeat' (first | exact trivial | refine ⟨rfl, ?_⟩)), by (repeat' (first | exact trivial | refine ⟨rfl, ?_⟩)), by (repeat' (first | exact trivial | refine ⟨rfl, ?_⟩))⟩⟩, fun ⟨⟨i, g3⟩, hi3⟩ => ?_⟩)
      ((conv => whnf); repeat' ((first | refine ⟨rfl, ?_⟩ | refine ⟨_, row_map (by assumption), ?_⟩ | refine ⟨_, (by exact some_rfl), ?_⟩ | refine ⟨_, wrap_ok (by omega) (by omega), ?_⟩ | refine ⟨_, wrap_u64 (by omega) (by omega), ?_⟩ | refine ⟨by decide, _, fdiv_half (by omega), ?_⟩ | (intro gg)); (conv => whnf)))
      have hbl : ((bumpS l (o.take k)).map Ru.row).length = l.length := by rw [List.length_map, bumpS_len]
      (refine bIf_of (fun h5 => ?_) (fun h5 => ?_) <;> rw [h5])
      · have hlt : i < l.length := by have := of_decide_eq_true h5; simp only [hbl] at this; omega
        have hlt2 : i < (bumpS l (o.take k)).length := by rw [bumpS_len]; exact hlt
        have hr := restL_take (times := times) hlt2
        ((conv => whnf); repeat' ((first | refine ⟨rfl, ?_⟩ | refine ⟨_, row_map (by assumption), ?_⟩ | refine ⟨_, (by exact some_rfl), ?_⟩ | refine ⟨_, wrap_ok (by omega) (by omega), ?_⟩ | refine ⟨_, wrap_u64 (by omega) (by omega), ?_⟩ | refine ⟨by decide, _, fdiv_half (by omega), ?_⟩ | (intro gg)); (conv => whnf)))
        refine ⟨i, _, rfl, row_map hlt2, ?_⟩
        ((conv => whnf); repeat' ((first | refine ⟨rfl, ?_⟩ | refine ⟨_, row_map (by assumption), ?_⟩ | refine ⟨_, (by exact some_rfl), ?_⟩ | refine ⟨_, wrap_ok (by omega) (by omega), ?_⟩ | refine ⟨_, wrap_u64 (by omega) (by omega), ?_⟩ | refine ⟨by decide, _, fdiv_half (by omega), ?_⟩ | (intro gg)); (conv => whnf)))
        (refine bIf_of (fun h6 => ?_) (fun h6 => ?_) <;> rw [h6])
        · have h6' : (bumpS l (o.take k))[i].t < times := of_decide_eq_true h6
          rw [if_pos h6'] at hr
          have hle : (restL ((bumpS l (o.take k)).take i) times).length ≤ 20 := Nat.le_trans (List.length_filter_le _ _) (by rw [List.length_take, bumpS_len]; omega)
          ((conv => whnf); repeat' ((first | refine ⟨rfl, ?_⟩ | refine ⟨_, row_map (by assumption), ?_⟩ | refine ⟨_, (by exact some_rfl), ?_⟩ | refine ⟨_, wrap_ok (by omega) (by omega), ?_⟩ | refine ⟨_, wrap_u64 (by omega) (by omega), ?_⟩ | refine ⟨by decide, _, fdiv_half (by omega), ?_⟩ | (intro gg)); (conv => whnf)))
          refine ⟨i, _, rfl, row_map hlt2, ?_⟩
          ((conv => whnf); repeat' ((first | refine ⟨rfl, ?_⟩ | refine ⟨_, row_map (by assumption), ?_⟩ | refine ⟨_, (by exact some_rfl), ?_⟩ | refine ⟨_, wrap_ok (by omega) (by omega), ?_⟩ | refine ⟨_, wrap_u64 (by omega) (by omega), ?_⟩ | refine ⟨by decide, _, fdiv_half (by omega), ?_⟩ | (intro gg)); (conv => whnf)))
          refine ⟨(by simp only [List.length_map, List.length_append, List.length_cons, List.length_nil, List.length_set, List.length_replicate, maxLen]; omega), (by simp only [List.length_map, List.length_append, List.length_cons, List.length_nil, List.length_set, List.length_replicate]; omega), ?_⟩
          ((conv => whnf); repeat' ((first | refine ⟨rfl, ?_⟩ | refine ⟨_, row_map (by assumption), ?_⟩ | refine ⟨_, (by exact some_rfl), ?_⟩ | refine ⟨_, wrap_ok (by omega) (by omega), ?_⟩ | refine ⟨_, wrap_u64 (by omega) (by omega), ?_⟩ | refine ⟨by decide, _, fdiv_half (by omega), ?_⟩ | (intro gg)); (conv => whnf)))
          have e : (restL ((bumpS l (o.take k)).take i) times).map Ru.row ++ [Ru.row (bumpS l (o.take k))[i]] = (restL ((bumpS l (o.take k)).take (i + 1)) times).map Ru.row := by rw [hr, List.map_append]; rfl
          (exact ⟨none, trivial, fun gr => ⟨⟨(i + 1, gg), by dsimp only; omega⟩, by show l.length - (i + 1) < l.length - i; omega, by (repeat' (first | exact trivial | refine ⟨rfl, ?_⟩)), by (repeat' (first | exact trivial | refine ⟨rfl, ?_⟩)), ⟨congrArg (fun r => some (Ent.mk gg (.t 55) 6 r)) e, trivial⟩, by (repeat' (first | exact trivial | refine ⟨rfl, ?_⟩))⟩⟩)
        · have h6' : ¬ (bumpS l (o.take k))[i].t < times := of_decide_eq_false h6
          rw [if_neg h6'] at hr
          ((conv => whnf); repeat' ((first | refine ⟨rfl, ?_⟩ | refine ⟨_, row_map (by assumption), ?_⟩ | refine ⟨_, (by exact some_rfl), ?_⟩ | refine ⟨_, wrap_ok (by omega) (by omega), ?_⟩ | refine ⟨_, wrap_u64 (by omega) (by omega), ?_⟩ | refine ⟨by decide, _, fdiv_half (by omega), ?_⟩ | (intro gg)); (conv => whnf)))
          (exact ⟨none, trivial, fun gr => ⟨⟨(i + 1, g3), by dsimp only; omega⟩, by show l.length - (i + 1) < l.length - i; omega, by (repeat' (first | exact trivial | refine ⟨rfl, ?_⟩)), by (repeat' (first | exact trivial | refine ⟨rfl, ?_⟩)), ⟨congrArg (fun r => some (Ent.mk g3 (.t 55) 6 (List.map Ru.row r))) hr.symm, trivial⟩, by (repeat' (first | exact trivial | refine ⟨rfl, ?_⟩))⟩⟩)
      · have hge : ¬ i < l.length := by have := of_decide_eq_false h5; simp only [hbl] at this; omega
        obtain rfl : i = l.length := by dsimp only at hi3; omega
        have et : (bumpS l (o.take k)).take l.length = bumpS l (o.take k) := List.take_of_length_le (by rw [bumpS_len]; exact Nat.le_refl _)
        have er : restL (bumpS l (o.take k)) times = restL ((bumpS l (o.take k)).take l.length) times := by rw [et]
        rw [er]
        ((conv => whnf); repeat' ((first | refine ⟨rfl, ?_⟩ | refine ⟨_, row_map (by assumption), ?_⟩ | refine ⟨_, (by exact some_rfl), ?_⟩ | refine ⟨_, wrap_ok (by omega) (by omega), ?_⟩ | refine ⟨_, wrap_u64 (by omega) (by omega), ?_⟩ | refine ⟨by decide, _, fdiv_half (by omega), ?_⟩ | (intro gg)); (conv => whnf)))
        (exact ⟨[], by (repeat' (first | exact ArgsOk.nil _ | exact argsOk_cells (by assumption) | refine ArgsOk.same (by first | exact cl_b rfl | exact cl_list | exact cl_nil | exact cl_one | exact cl_ll1 | exact cl_ll2 | exact cl_clo (by assumption)) ?_ | refine ArgsOk.nilsl _ ?_ | refine ArgsOk.nilown _ _ (by decide) ?_ | refine ArgsOk.borp rfl rfl rfl (cl_row rfl) (by decide) ?_ | refine ArgsOk.borc (by %caps) ?_ | refine ArgsOk.bor rfl rfl (deref_flat (by first | exact cl_rs rfl | exact cl_rows | exact cl_setB rfl | exact cl_setG (cl_setB rfl) rfl | exact cl_appB cl_rows (cl_rs rfl) | exact cl_rl1 | exact cl_rl2)) (by decide) ?_ | refine give' rfl (by first | exact cl_rs rfl | exact cl_rows | exact cl_setB rfl | exact cl_setG (cl_setB rfl) rfl | exact cl_appB cl_rows (cl_rs rfl) | exact cl_rl1 | exact cl_rl2) (by decide) (by decide) ?_))⟩)
end Go.Proofs.Ytjhdlcmecbngkaa
/- Two lists of members: are they the same? -/
namespace Go.Proofs.Ytjhdlcmecbngkaa
open Go.RowKit Pl
set_option linter.unusedVariables false
theorem same_fun (c d : Bool) (a b : List Mb) (ha : a.length ≤ 9223372036854775807) : Fun Try.prog 22 [.c (.sl c (a.map Mb.row)), .c (.sl d (b.map Mb.row))] [.c (.v (.bool (sameL Mb.same a b)))] := by
  refine fun_x ck_hearsayref_SameMembers rfl ?_
  ((conv => whnf); repeat' ((first | refine ⟨rfl, ?_⟩ | refine ⟨_, row_map (by assumption), ?_⟩ | refine ⟨_, (by exact some_rfl), ?_⟩ | refine ⟨_, wrap_ok (by omega) (by omega), ?_⟩ | refine ⟨_, wrap_u64 (by omega) (by omega), ?_⟩ | refine ⟨by decide, _, fdiv_half (by omega), ?_⟩ | (intro gg)); (conv => whnf)))
  rw [List.length_map, List.length_map]
  (refine bIf_of (fun h => ?_) (fun h => ?_) <;> rw [h])
  · ((conv => whnf); repeat' ((first | refine ⟨rfl, ?_⟩ | refine ⟨_, row_map (by assumption), ?_⟩ | refine ⟨_, (by exact some_rfl), ?_⟩ | refine ⟨_, wrap_ok (by omega) (by omega), ?_⟩ | refine ⟨_, wrap_u64 (by omega) (by omega), ?_⟩ | refine ⟨by decide, _, fdiv_half (by omega), ?_⟩ | (intro gg)); (conv => whnf)))
    rw [sameL_no (fun e => by rw [e] at h; simp at h)]
    (exact ⟨[], by (repeat' (first | exact ArgsOk.nil _ | exact argsOk_cells (by assumption) | refine ArgsOk.same (by first | exact cl_b rfl | exact cl_list | exact cl_nil | exact cl_one | exact cl_ll1 | exact cl_ll2 | exact cl_clo (by assumption)) ?_ | refine ArgsOk.nilsl _ ?_ | refine ArgsOk.nilown _ _ (by decide) ?_ | refine ArgsOk.borp rfl rfl rfl (cl_row rfl) (by decide) ?_ | refine ArgsOk.borc (by %caps) ?_ | refine ArgsOk.bor rfl rfl (deref_flat (by first | exact cl_rs rfl | exact cl_rows | exact cl_setB rfl | exact cl_setG (cl_setB rfl) rfl | exact cl_appB cl_rows (cl_rs rfl) | exact cl_rl1 | exact cl_rl2)) (by decide) ?_ | refine give' rfl (by first | exact cl_rs rfl | exact cl_rows | exact cl_setB rfl | exact cl_setG (cl_setB rfl) rfl | exact cl_appB cl_rows (cl_rs rfl) | exact cl_rl1 | exact cl_rl2) (by decide) (by decide) ?_))⟩)
  · have hab : a.length = b.length := by have h' : ((a.length : Int) != (b.length : Int)) = false := h
                                         simp at h'; omega
    ((conv => whnf); repeat' ((first | refine ⟨rfl, ?_⟩ | refine ⟨_, row_map (by assumption), ?_⟩ | refine ⟨_, (by exact some_rfl), ?_⟩ | refine ⟨_, wrap_ok (by omega) (by omega), ?_⟩ | refine ⟨_, wrap_u64 (by omega) (by omega), ?_⟩ | refine ⟨by decide, _, fdiv_half (by omega), ?_⟩ | (intro gg)); (conv => whnf)))
    (refine ⟨[], none, {k : Nat // k ≤ a.length ∧ ∀ j, (h : j < a.length) → j < k → Mb.same a[j] (b[j]'(by omega)) = true}, [0, 1], fun ⟨k, hk, h0⟩ => [(5, .v (.int .i64 k))], [], fun ⟨k, hk, h0⟩ => [], fun ⟨k, hk, h0⟩ => a.length - k, trivial, fun _ => ⟨trivial, fun _ => ⟨⟨0, by omega, fun j _ h => by omega⟩, by (repeat' (first | exact trivial | refine ⟨rfl, ?_⟩)), keptE_refl _ _, by (repeat' (first | exact trivial | refine ⟨rfl, ?_⟩)), keptH_refl _ _⟩⟩, fun ⟨k, hk, h0⟩ => ?_⟩)
    ((conv => whnf); repeat' ((first | refine ⟨rfl, ?_⟩ | refine ⟨_, row_map (by assumption), ?_⟩ | refine ⟨_, (by exact some_rfl), ?_⟩ | refine ⟨_, wrap_ok (by omega) (by omega), ?_⟩ | refine ⟨_, wrap_u64 (by omega) (by omega), ?_⟩ | refine ⟨by decide, _, fdiv_half (by omega), ?_⟩ | (intro gg)); (conv => whnf)))
    rw [List.length_map]
    (refine bIf_of (fun h2 => ?_) (fun h2 => ?_) <;> rw [h2])
    · have hlt : k < a.length := (by have := of_decide_eq_true h2; omega)
      have hlt' : k < b.length := by omega
      ((conv => whnf); repeat' ((first | refine ⟨rfl, ?_⟩ | refine ⟨_, row_map (by assumption), ?_⟩ | refine ⟨_, (by exact some_rfl), ?_⟩ | refine ⟨_, wrap_ok (by omega) (by omega), ?_⟩ | refine ⟨_, wrap_u64 (by omega) (by omega), ?_⟩ | refine ⟨by decide, _, fdiv_half (by omega), ?_⟩ | (intro gg)); (conv => whnf)))
      refine ⟨k, _, rfl, row_map hlt, ?_⟩
      ((conv => whnf); repeat' ((first | refine ⟨rfl, ?_⟩ | refine ⟨_, row_map (by assumption), ?_⟩ | refine ⟨_, (by exact some_rfl), ?_⟩ | refine ⟨_, wrap_ok (by omega) (by omega), ?_⟩ | refine ⟨_, wrap_u64 (by omega) (by omega), ?_⟩ | refine ⟨by decide, _, fdiv_half (by omega), ?_⟩ | (intro gg)); (conv => whnf)))
      refine ⟨k, _, rfl, row_map hlt', ?_⟩
      ((conv => whnf); repeat' ((first | refine ⟨rfl, ?_⟩ | refine ⟨_, row_map (by assumption), ?_⟩ | refine ⟨_, (by exact some_rfl), ?_⟩ | refine ⟨_, wrap_ok (by omega) (by omega), ?_⟩ | refine ⟨_, wrap_u64 (by omega) (by omega), ?_⟩ | refine ⟨by decide, _, fdiv_half (by omega), ?_⟩ | (intro gg)); (conv => whnf)))
      (refine bIf_of (fun h3 => ?_) (fun h3 => ?_) <;> rw [h3])
      · ((conv => whnf); repeat' ((first | refine ⟨rfl, ?_⟩ | refine ⟨_, row_map (by assumption), ?_⟩ | refine ⟨_, (by exact some_rfl), ?_⟩ | refine ⟨_, wrap_ok (by omega) (by omega), ?_⟩ | refine ⟨_, wrap_u64 (by omega) (by omega), ?_⟩ | refine ⟨by decide, _, fdiv_half (by omega), ?_⟩ | (intro gg)); (conv => whnf)))
        rw [sameL_at hlt hlt' (not_t (b := Mb.same a[k] b[k]) h3)]
        (exact ⟨[], by (repeat' (first | exact ArgsOk.nil _ | exact argsOk_cells (by assumption) | refine ArgsOk.same (by first | exact cl_b rfl | exact cl_list | exact cl_nil | exact cl_one | exact cl_ll1 | exact cl_ll2 | exact cl_clo (by assumption)) ?_ | refine ArgsOk.nilsl _ ?_ | refine ArgsOk.nilown _ _ (by decide) ?_ | refine ArgsOk.borp rfl rfl rfl (cl_row rfl) (by decide) ?_ | refine ArgsOk.borc (by %caps) ?_ | refine ArgsOk.bor rfl rfl (deref_flat (by first | exact cl_rs rfl | exact cl_rows | exact cl_setB rfl | exact cl_setG (cl_setB rfl) rfl | exact cl_appB cl_rows (cl_rs rfl) | exact cl_rl1 | exact cl_rl2)) (by decide) ?_ | refine give' rfl (by first | exact cl_rs rfl | exact cl_rows | exact cl_setB rfl | exact cl_setG (cl_setB rfl) rfl | exact cl_appB cl_rows (cl_rs rfl) | exact cl_rl1 | exact cl_rl2) (by decide) (by decide) ?_))⟩)
      · ((conv => whnf); repeat' ((first | refine ⟨rfl, ?_⟩ | refine ⟨_, row_map (by assumption), ?_⟩ | refine ⟨_, (by exact some_rfl), ?_⟩ | refine ⟨_, wrap_ok (by omega) (by omega), ?_⟩ | refine ⟨_, wrap_u64 (by omega) (by omega), ?_⟩ | refine ⟨by decide, _, fdiv_half (by omega), ?_⟩ | (intro gg)); (conv => whnf)))
        (exact ⟨none, trivial, fun _ => ⟨⟨k + 1, by omega, up1 (p := fun j h => Mb.same a[j] (b[j]'(by omega)) = true) h0 (fun _ => not_f (b := Mb.same a[k] b[k]) h3)⟩, by show a.length - (k + 1) < a.length - k; omega, by (repeat' (first | exact trivial | refine ⟨rfl, ?_⟩)), by (repeat' (first | exact trivial | refine ⟨rfl, ?_⟩)), by (repeat' (first | exact trivial | refine ⟨rfl, ?_⟩)), by (repeat' (first | exact trivial | refine ⟨rfl, ?_⟩))⟩⟩)
    · have hge : ¬ k < a.length := (by have := of_decide_eq_false h2; omega)
      ((conv => whnf); repeat' ((first | refine ⟨rfl, ?_⟩ | refine ⟨_, row_map (by assumption), ?_⟩ | refine ⟨_, (by exact some_rfl), ?_⟩ | refine ⟨_, wrap_ok (by omega) (by omega), ?_⟩ | refine ⟨_, wrap_u64 (by omega) (by omega), ?_⟩ | refine ⟨by decide, _, fdiv_half (by omega), ?_⟩ | (intro gg)); (conv => whnf)))
      rw [sameL_yes hab (fun i hi _ => h0 i hi (by omega))]
      (exact ⟨[], by (repeat' (first | exact ArgsOk.nil _ | exact argsOk_cells (by assumption) | refine ArgsOk.same (by first | exact cl_b rfl | exact cl_list | exact cl_nil | exact cl_one | exact cl_ll1 | exact cl_ll2 | exact cl_clo (by assumption)) ?_ | refine ArgsOk.nilsl _ ?_ | refine ArgsOk.nilown _ _ (by decide) ?_ | refine ArgsOk.borp rfl rfl rfl (cl_row rfl) (by decide) ?_ | refine ArgsOk.borc (by %caps) ?_ | refine ArgsOk.bor rfl rfl (deref_flat (by first | exact cl_rs rfl | exact cl_rows | exact cl_setB rfl | exact cl_setG (cl_setB rfl) rfl | exact cl_appB cl_rows (cl_rs rfl) | exact cl_rl1 | exact cl_rl2)) (by decide) ?_ | refine give' rfl (by first | exact cl_rs rfl | exact cl_rows | exact cl_setB rfl | exact cl_setG (cl_setB rfl) rfl | exact cl_appB cl_rows (cl_rs rfl) | exact cl_rl1 | exact cl_rl2) (by decide) (by decide) ?_))⟩)
end Go.Proofs.Ytjhdlcmecbngkaa
/- What must be in any case, of rumors. -/
namespace Go.Proofs.Ytjhdlcmecbngkaa
open Go.RowKit Pl
set_option linter.unusedVariables false
def m0 : Mb := ⟨⟨#[97]⟩, 1, 1, 0, false⟩
theorem m0_err : m0.err = 0 := by decide
theorem m0_ok : m0.ok := by show (1 : Nat) ≤ _; decide
theorem ck_none : ckRu [] = 0 := ckRu_ok (by simp) rfl rfl (by simp)
theorem put0 : putRu [] m0 = (0, [⟨m0, 0⟩]) := by
  rw [putRu_ok ck_none m0_err]; rfl
theorem ck_one : ckRu [⟨m0, 0⟩] = 0 := ckRu_ok (by simp) (by rw [firstErr_one]; exact m0_err) rfl (by simp)
theorem take0 : takeRu [⟨m0, 0⟩] 5 2 = (0, [m0], [⟨m0, 1⟩]) := by
  rw [takeRu_ok ck_one (by omega)]
  have ho := ordL_ok [⟨m0, 0⟩]
  have e : ordL [⟨m0, 0⟩] = [0] := by
    have h1 := ho.len
    match h : ordL [⟨m0, 0⟩], h1 with
    | [x], _ =>
      have := (ho.mem x).1 (by rw [h]; simp)
      simp at this; rw [this]
  rw [e]; rfl
theorem begun_fun : Fun Try.prog 17 [] [.c (.v (.bool true))] := by
  have hp := ruPut_fun false [] m0 (by simp) (by simp) m0_ok
  have ht := ruTake_fun [⟨m0, 0⟩] 5 2 (by simp) (by simp [m0_ok])
  rw [put0] at hp
  rw [take0] at ht
  refine fun_x ck_hearsaylaw_rumorBegun rfl ?_
  ((conv => whnf); repeat' ((first | refine ⟨rfl, ?_⟩ | refine ⟨_, row_map (by assumption), ?_⟩ | refine ⟨_, (by exact some_rfl), ?_⟩ | refine ⟨_, wrap_ok (by omega) (by omega), ?_⟩ | refine ⟨_, wrap_u64 (by omega) (by omega), ?_⟩ | refine ⟨by decide, _, fdiv_half (by omega), ?_⟩ | (intro gg)); (conv => whnf)))
  (refine .inl ⟨_, _, false, [], (by (repeat' (first | exact ArgsOk.nil _ | exact argsOk_cells (by assumption) | refine ArgsOk.same (by first | exact cl_b rfl | exact cl_list | exact cl_nil | exact cl_one | exact cl_ll1 | exact cl_ll2 | exact cl_clo (by assumption)) ?_ | refine ArgsOk.nilsl _ ?_ | refine ArgsOk.nilown _ _ (by decide) ?_ | refine ArgsOk.borp rfl rfl rfl (cl_row rfl) (by decide) ?_ | refine ArgsOk.borc (by (repeat' (first | exact cap_n | refine cap_p rfl rfl rfl (by first | exact cl_row rfl | exact cl_r1 rfl | exact cl_r1b) ?_ ?_ | refine cap_m rfl (by decide) ?_ | refine cap_c (by first | exact cl_b rfl | exact cl_list | exact cl_nil | exact cl_one | exact cl_ll1 | exact cl_ll2 | exact cl_clo (by assumption)) ?_ | decide))) ?_ | refine ArgsOk.bor rfl rfl (deref_flat (by first | exact cl_rs rfl | exact cl_rows | exact cl_setB rfl | exact cl_setG (cl_setB rfl) rfl | exact cl_appB cl_rows (cl_rs rfl) | exact cl_rl1 | exact cl_rl2)) (by decide) ?_ | refine give' rfl (by first | exact cl_rs rfl | exact cl_rows | exact cl_setB rfl | exact cl_setG (cl_setB rfl) rfl | exact cl_appB cl_rows (cl_rs rfl) | exact cl_rl1 | exact cl_rl2) (by decide) (by decide) ?_))), hp, nobor, (by exact Nat.le_of_ble_eq_true rfl), ?_⟩)
  ((conv => whnf); repeat' ((first | refine ⟨rfl, ?_⟩ | refine ⟨_, row_map (by assumption), ?_⟩ | refine ⟨_, (by exact some_rfl), ?_⟩ | refine ⟨_, wrap_ok (by omega) (by omega), ?_⟩ | refine ⟨_, wrap_u64 (by omega) (by omega), ?_⟩ | refine ⟨by decide, _, fdiv_half (by omega), ?_⟩ | (intro gg)); (conv => whnf)))
  (refine .inl ⟨_, _, true, [], (by (repeat' (first | exact ArgsOk.nil _ | exact argsOk_cells (by assumption) | refine ArgsOk.same (by first | exact cl_b rfl | exact cl_list | exact cl_nil | exact cl_one | exact cl_ll1 | exact cl_ll2 | exact cl_clo (by assumption)) ?_ | refine ArgsOk.nilsl _ ?_ | refine ArgsOk.nilown _ _ (by decide) ?_ | refine ArgsOk.borp rfl rfl rfl (cl_row rfl) (by decide) ?_ | refine ArgsOk.borc (by (repeat' (first | exact cap_n | refine cap_p rfl rfl rfl (by first | exact cl_row rfl | exact cl_r1 rfl | exact cl_r1b) ?_ ?_ | refine cap_m rfl (by decide) ?_ | refine cap_c (by first | exact cl_b rfl | exact cl_list | exact cl_nil | exact cl_one | exact cl_ll1 | exact cl_ll2 | exact cl_clo (by assumption)) ?_ | decide))) ?_ | refine ArgsOk.bor rfl rfl (deref_flat (by first | exact cl_rs rfl | exact cl_rows | exact cl_setB rfl | exact cl_setG (cl_setB rfl) rfl | exact cl_appB cl_rows (cl_rs rfl) | exact cl_rl1 | exact cl_rl2)) (by decide) ?_ | refine give' rfl (by first | exact cl_rs rfl | exact cl_rows | exact cl_setB rfl | exact cl_setG (cl_setB rfl) rfl | exact cl_appB cl_rows (cl_rs rfl) | exact cl_rl1 | exact cl_rl2) (by decide) (by decide) ?_))), ht, (fun _ => by (first | exact flat_b rfl | exact flat_own | exact flat_own1 rfl | exact flat_own2 rfl)), (by exact Nat.le_of_ble_eq_true rfl), ?_⟩)
  ((conv => whnf); repeat' ((first | refine ⟨rfl, ?_⟩ | refine ⟨_, row_map (by assumption), ?_⟩ | refine ⟨_, (by exact some_rfl), ?_⟩ | refine ⟨_, wrap_ok (by omega) (by omega), ?_⟩ | refine ⟨_, wrap_u64 (by omega) (by omega), ?_⟩ | refine ⟨by decide, _, fdiv_half (by omega), ?_⟩ | (intro gg)); (conv => whnf)))
  refine ⟨0, _, rfl, rfl, ?_⟩
  ((conv => whnf); repeat' ((first | refine ⟨rfl, ?_⟩ | refine ⟨_, row_map (by assumption), ?_⟩ | refine ⟨_, (by exact some_rfl), ?_⟩ | refine ⟨_, wrap_ok (by omega) (by omega), ?_⟩ | refine ⟨_, wrap_u64 (by omega) (by omega), ?_⟩ | refine ⟨by decide, _, fdiv_half (by omega), ?_⟩ | (intro gg)); (conv => whnf)))
  (exact ⟨[], by (repeat' (first | exact ArgsOk.nil _ | exact argsOk_cells (by assumption) | refine ArgsOk.same (by first | exact cl_b rfl | exact cl_list | exact cl_nil | exact cl_one | exact cl_ll1 | exact cl_ll2 | exact cl_clo (by assumption)) ?_ | refine ArgsOk.nilsl _ ?_ | refine ArgsOk.nilown _ _ (by decide) ?_ | refine ArgsOk.borp rfl rfl rfl (cl_row rfl) (by decide) ?_ | refine ArgsOk.borc (by %caps) ?_ | refine ArgsOk.bor rfl rfl (deref_flat (by first | exact cl_rs rfl | exact cl_rows | exact cl_setB rfl | exact cl_setG (cl_setB rfl) rfl | exact cl_appB cl_rows (cl_rs rfl) | exact cl_rl1 | exact cl_rl2)) (by decide) ?_ | refine give' rfl (by first | exact cl_rs rfl | exact cl_rows | exact cl_setB rfl | exact cl_setG (cl_setB rfl) rfl | exact cl_appB cl_rows (cl_rs rfl) | exact cl_rl1 | exact cl_rl2) (by decide) (by decide) ?_))⟩)
end Go.Proofs.Ytjhdlcmecbngkaa
/- Plain: rumors told round by round until none is left. No program in sight (but for the order of texts). -/
namespace Go.Proofs.Ytjhdlcmecbngkaa.Pl
set_option linter.unusedVariables false
theorem sum_bump (times : Int) (g : Ru → Nat) (q : Nat → Prop) [DecidablePred q] (h0 : ∀ r : Ru, r.t < times → (r.t + 1 < times → g ⟨r.m, r.t + 1⟩ + 1 ≤ g r)) (h1 : ∀ r, 1 ≤ g r) :
    ∀ (l : List Ru) (q : Nat → Prop) [DecidablePred q], (((l.mapIdx fun i r => if q i then (⟨r.m, r.t + 1⟩ : Ru) else r).filter fun r => decide (r.t < times)).map g).sum + (if ∃ i, i < l.length ∧ q i then 1 else 0) ≤ (l.map g).sum := by
  intro l
  induction l with
  | nil => intro q _; simp
  | cons a l ih =>
    intro q _
    have hi := ih (fun i => q (i + 1))
    rw [List.mapIdx_cons, List.map_cons, List.sum_cons]
    have hg := h1 a
    by_cases h : q 0
    · have e : (if ∃ i, i < (a :: l).length ∧ q i then 1 else 0) = 1 := if_pos ⟨0, by simp, h⟩
      rw [e, if_pos h, List.filter_cons]
      by_cases ht : a.t + 1 < times
      · have := h0 a (by omega) ht
        simp only [ht, decide_true, if_true, List.map_cons, List.sum_cons]
        split at hi <;> omega
      · simp only [ht, decide_false, Bool.false_eq_true, if_false]
        split at hi <;> omega
    · rw [if_neg h, List.filter_cons]
      have e : (if ∃ i, i < (a :: l).length ∧ q i then 1 else 0) ≤ (if ∃ i, i < l.length ∧ q (i + 1) then 1 else 0) := by
        split
        · rename_i hx
          obtain ⟨i, hi1, hi2⟩ := hx
          cases i with
          | zero => exact absurd hi2 h
          | succ i => rw [if_pos ⟨i, by simpa using hi1, hi2⟩]; exact Nat.le_refl _
        · omega
      by_cases ht : a.t < times
      · simp only [ht, decide_true, if_true, List.map_cons, List.sum_cons]
        omega
      · simp only [ht, decide_false, Bool.false_eq_true, if_false]
        omega
/-- what a rumor has left -/
def lft (times : Int) (r : Ru) : Nat := max 1 (times - r.t).toNat
def lfts (times : Int) (l : List Ru) : Nat := (l.map (lft times)).sum
theorem lfts_rest {times : Int} {l : List Ru} {s : List Nat} (h : ∃ i, i < l.length ∧ i ∈ s) : lfts times (restL (bumpS l s) times) + 1 ≤ lfts times l := by
  have := sum_bump times (lft times) (· ∈ s) (fun r h1 h2 => by simp only [lft]; omega) (fun r => by simp only [lft]; omega) l (· ∈ s)
  rw [if_pos h] at this
  exact this
theorem lfts_le {times : Int} {l : List Ru} (ht : times ≤ 12) (h : ∀ i, (h : i < l.length) → 0 ≤ l[i].t ∧ l[i].t ≤ 100) (hl : l.length ≤ 20) : lfts times l ≤ 240 := by
  have key : ∀ l : List Ru, (∀ r ∈ l, 0 ≤ r.t) → lfts times l ≤ 12 * l.length := by
    intro l
    induction l with
    | nil => intro _; simp [lfts]
    | cons a l ih =>
      intro h
      have h1 := ih (fun r hr => h r (List.mem_cons_of_mem _ hr))
      have h2 := h a List.mem_cons_self
      simp only [lfts, List.map_cons, List.sum_cons, List.length_cons, lft] at h1 ⊢
      omega
  have := key l (fun r hr => by obtain ⟨i, hi, rfl⟩ := List.mem_iff_getElem.1 hr; exact (h i hi).1)
  omega
/-- how often each was told is right, in the end -/
def fin (times : Int) (r : Ru) (c : Int) : Prop := c ≤ max 1 (times - r.t) ∧ (0 < times - r.t → c = times - r.t)
open Classical in
/-- told once more: those of these members -/
noncomputable def cnt (l : List Ru) (c : List Int) (ms : List Mb) : List Int := c.mapIdx fun j x => if ∃ r, l[j]? = some r ∧ r.m ∈ ms then x + 1 else x
theorem cnt_len (l : List Ru) (c : List Int) (ms : List Mb) : (cnt l c ms).length = c.length := by simp [cnt]
theorem cnt_nil (l : List Ru) (c : List Int) : cnt l c [] = c := by
  apply List.ext_getElem
  · simp [cnt]
  · intro j h1 h2; simp [cnt]
open Classical in
theorem cnt_at {l : List Ru} {c : List Int} {ms : List Mb} {j : Nat} (h : j < c.length) (hl : j < l.length) : (cnt l c ms)[j]'(by rw [cnt_len]; exact h) = if l[j].m ∈ ms then c[j] + 1 else c[j] := by
  simp [cnt, List.getElem?_eq_getElem hl]
theorem cnt_set {l : List Ru} {c : List Int} {ms : List Mb} {m : Mb} {j : Nat} (hc : c.length = l.length) (hl : j < l.length) (hm : l[j].m = m) (hn : m ∉ ms) (hnd : (l.map Ru.nm).Nodup) : (cnt l c ms).set j ((c[j]'(by omega)) + 1) = cnt l c (ms ++ [m]) := by
  apply List.ext_getElem
  · simp [cnt]
  · intro i h1 h2
    have hi : i < c.length := by simpa [cnt] using h2
    rw [List.getElem_set, cnt_at hi (by omega), cnt_at hi (by omega)]
    by_cases e : j = i
    · subst e
      rw [if_pos rfl, if_pos (by rw [hm]; simp)]
    · rw [if_neg e]
      have hne : l[i].m ≠ m := fun q => e (nd_get hnd hl (by omega) (by simp only [Ru.nm]; rw [hm, q]))
      by_cases q : l[i].m ∈ ms
      · rw [if_pos q, if_pos (List.mem_append_left _ q)]
      · rw [if_neg q, if_neg (fun h => by
          rcases List.mem_append.1 h with h | h
          · exact q h
          · exact hne (by simpa using h))]
theorem cnt_old {l : List Ru} {c : List Int} {ms : List Mb} {m : Mb} {j : Nat} (hc : c.length = l.length) (hl : j < l.length) (hm : l[j].m = m) (hn : m ∉ ms) : (cnt l c ms)[j]'(by rw [cnt_len]; omega) = c[j]'(by omega) := by
  rw [cnt_at (by omega) hl, if_neg (by rw [hm]; exact hn)]
/-- how it stands at the beginning of a round -/
structure Ends (l : List Ru) (times : Int) (i : Nat) (now : List Ru) (c : List Int) : Prop where
  clen : c.length = l.length
  ok : RuOk now
  each : ∀ r ∈ now, ∃ j, ∃ h : j < l.length, r.m = l[j].m ∧ r.t = l[j].t + c[j]'(by omega)
  one : i = 0 → now = l ∧ c = List.replicate l.length 0
  more : i ≠ 0 → ∀ r ∈ now, r.t < times
  gone : ∀ j, (h : j < l.length) → l[j].nm ∉ now.map Ru.nm → fin times l[j] (c[j]'(by omega))
  left : lfts times now + i ≤ 240
theorem ends0 {l : List Ru} {times : Int} (h : RuOk l) (ht : times ≤ 12) : Ends l times 0 l (List.replicate l.length 0) where
  clen := by simp
  ok := h
  each := fun r hr => by obtain ⟨j, hj, rfl⟩ := List.mem_iff_getElem.1 hr; exact ⟨j, hj, rfl, by simp⟩
  one := fun _ => ⟨rfl, rfl⟩
  more := fun h => absurd rfl h
  gone := fun j hj hn => absurd (List.mem_map.2 ⟨_, List.getElem_mem hj, rfl⟩) hn
  left := lfts_le ht h.rng h.len
theorem mem_told {l : List Ru} {s : List Nat} (hs : ∀ i ∈ s, i < l.length) {m : Mb} : m ∈ toldL l s ↔ ∃ i, ∃ h : i < l.length, i ∈ s ∧ l[i].m = m := by
  unfold toldL
  rw [List.mem_filterMap]
  constructor
  · rintro ⟨i, hi, h⟩
    have := hs i hi
    rw [List.getElem?_eq_getElem this] at h
    exact ⟨i, this, hi, by simpa using h⟩
  · rintro ⟨i, h, hi, e⟩
    exact ⟨i, hi, by rw [List.getElem?_eq_getElem h]; simpa using e⟩
theorem told_nd {l : List Ru} {s : List Nat} (hs : ∀ i ∈ s, i < l.length) (hn : s.Nodup) (hl : (l.map Ru.nm).Nodup) : (toldL l s).Nodup := by
  induction s with
  | nil => simp [toldL]
  | cons a s ih =>
    rw [List.nodup_cons] at hn
    have ha : a < l.length := hs a List.mem_cons_self
    have e : toldL l (a :: s) = l[a].m :: toldL l s := by simp [toldL, ha]
    rw [e, List.nodup_cons]
    refine ⟨fun h => ?_, ih (fun i hi => hs i (List.mem_cons_of_mem _ hi)) hn.2⟩
    obtain ⟨i, hi, his, he⟩ := (mem_told (fun i hi => hs i (List.mem_cons_of_mem _ hi))).1 h
    have := nd_get hl hi ha (by simp only [Ru.nm]; rw [he])
    subst this
    exact hn.1 his
theorem sub_nm {l : List Ru} {s : List Nat} {times : Int} : ((restL (bumpS l s) times).map Ru.nm).Sublist (l.map Ru.nm) := by
  have e : (bumpS l s).map Ru.nm = l.map Ru.nm := by
    apply List.ext_getElem
    · simp [bumpS]
    · intro i h1 h2
      simp only [bumpS, List.getElem_map, List.getElem_mapIdx]
      split <;> rfl
  rw [← e]
  exact List.filter_sublist.map _
theorem ends1 {l now : List Ru} {times : Int} {i : Nat} {c : List Int} {s : List Nat} (hl : RuOk l) (h : Ends l times i now c) (h1 : 1 ≤ times) (h12 : times ≤ 12) (hs : ∀ k ∈ s, k < now.length) (hsn : s ≠ [] ∨ now = []) :
    (lfts times (restL (bumpS now s) times) + (i + 1) ≤ 240 ∨ now = []) ∧ ((restL (bumpS now s) times) ≠ [] → Ends l times (i + 1) (restL (bumpS now s) times) (cnt l c (toldL now s))) ∧ RuOk (restL (bumpS now s) times) ∧ (restL (bumpS now s) times = [] → ∀ j, (hj : j < l.length) → fin times l[j] ((cnt l c (toldL now s))[j]'(by rw [cnt_len, h.clen]; exact hj))) := by
  have hrest : ∀ r ∈ restL (bumpS now s) times, ∃ k, ∃ hk : k < now.length, r = (if k ∈ s then ⟨now[k].m, now[k].t + 1⟩ else now[k]) ∧ r.t < times := fun r hr => by
    unfold restL at hr
    obtain ⟨h2, h3⟩ := List.mem_filter.1 hr
    obtain ⟨k, hk, rfl⟩ := List.mem_iff_getElem.1 h2
    rw [bumpS_len] at hk
    exact ⟨k, hk, bumpS_at hk, of_decide_eq_true h3⟩
  have hcl := h.clen
  have hin : ∀ (k j : Nat) (hk : k < now.length) (hj : j < l.length), now[k].m = l[j].m → (l[j].m ∈ toldL now s ↔ k ∈ s) := fun k j hk hj e => by
    rw [mem_told hs]
    constructor
    · rintro ⟨k', hk', hks, e'⟩
      have := nd_get h.ok.nd hk' hk (by simp only [Ru.nm]; rw [e', e])
      subst this; exact hks
    · intro hks; exact ⟨k, hk, hks, e⟩
  have hnow : ∀ k, (hk : k < now.length) → ∃ j, ∃ hj : j < l.length, now[k].m = l[j].m ∧ now[k].t = l[j].t + c[j]'(by omega) := fun k hk => h.each _ (List.getElem_mem hk)
  have hok : RuOk (restL (bumpS now s) times) := by
    refine ⟨?_, ?_, ?_, ?_⟩
    · have h2 := h.ok.len
      have h3 : (restL (bumpS now s) times).length ≤ (bumpS now s).length := List.length_filter_le _ _
      rw [bumpS_len] at h3; omega
    · refine firstErr_zero fun k hk => ?_
      obtain ⟨k', hk', e, _⟩ := hrest _ (List.getElem_mem hk)
      rw [e]
      have := firstErr_get h.ok.each k' hk'
      split <;> exact this
    · intro k hk
      obtain ⟨k', hk', e, ht⟩ := hrest _ (List.getElem_mem hk)
      have := h.ok.rng k' hk'
      refine ⟨?_, by omega⟩
      rw [e]; split
      · show 0 ≤ now[k'].t + 1; omega
      · exact this.1
    · exact h.ok.nd.sublist sub_nm
  have hgone : ∀ j, (hj : j < l.length) → l[j].nm ∉ (restL (bumpS now s) times).map Ru.nm → fin times l[j] ((cnt l c (toldL now s))[j]'(by rw [cnt_len, h.clen]; exact hj)) := fun j hj hn => by
    rw [cnt_at (by omega) hj]
    by_cases hm : l[j].nm ∈ now.map Ru.nm
    · obtain ⟨r, hr, e⟩ := List.mem_map.1 hm
      obtain ⟨k, hk, rfl⟩ := List.mem_iff_getElem.1 hr
      obtain ⟨j', hj', e1, e2⟩ := hnow k hk
      have hjj : j' = j := nd_get hl.nd hj' hj (by rw [← e]; simp only [Ru.nm]; rw [e1])
      subst hjj
      have hks := hin k j' hk hj' e1
      have hout : ¬ ((if k ∈ s then (⟨now[k].m, now[k].t + 1⟩ : Ru) else now[k])).t < times := fun q => hn (by
        rw [List.mem_map]
        refine ⟨(if k ∈ s then (⟨now[k].m, now[k].t + 1⟩ : Ru) else now[k]), ?_, ?_⟩
        · unfold restL
          rw [List.mem_filter]
          exact ⟨List.mem_iff_getElem.2 ⟨k, by rw [bumpS_len]; exact hk, bumpS_at hk⟩, decide_eq_true q⟩
        · rw [← e]; split <;> rfl)
      have hone := h.one
      have hmore := h.more
      have hr2 := (hl.rng j' hj')
      unfold fin
      by_cases hi0 : i = 0
      · have e0 := (hone hi0).2
        have hc0 : c[j']'(by omega) = 0 := by simp [e0]
        by_cases hk2 : k ∈ s
        · rw [if_pos (hks.2 hk2)]
          rw [if_pos hk2] at hout
          have hout' : ¬ now[k].t + 1 < times := hout
          omega
        · rw [if_neg (fun q => hk2 (hks.1 q))]
          rw [if_neg hk2] at hout
          omega
      · have hlt := hmore hi0 _ (List.getElem_mem hk)
        by_cases hk2 : k ∈ s
        · rw [if_pos (hks.2 hk2)]
          rw [if_pos hk2] at hout
          have hout' : ¬ now[k].t + 1 < times := hout
          omega
        · rw [if_neg hk2] at hout
          omega
    · have : l[j].m ∉ toldL now s := fun q => by
        obtain ⟨k, hk, _, e⟩ := (mem_told hs).1 q
        exact hm (List.mem_map.2 ⟨now[k], List.getElem_mem hk, by simp only [Ru.nm]; rw [e]⟩)
      rw [if_neg this]
      exact h.gone j hj hm
  have hleft : lfts times (restL (bumpS now s) times) + (i + 1) ≤ 240 ∨ now = [] := by
    rcases hsn with q | q
    · obtain ⟨a, ha⟩ := List.exists_mem_of_ne_nil s q
      have := lfts_rest (times := times) (l := now) (s := s) ⟨a, hs a ha, ha⟩
      have := h.left
      left; omega
    · exact .inr q
  refine ⟨hleft, fun hne => ⟨by rw [cnt_len]; exact hcl, hok, ?_, by omega, ?_, hgone, ?_⟩, hok, fun hnil j hj => hgone j hj (by rw [hnil]; simp)⟩
  · intro r hr
    obtain ⟨k, hk, e, ht⟩ := hrest r hr
    obtain ⟨j, hj, e1, e2⟩ := hnow k hk
    refine ⟨j, hj, ?_, ?_⟩
    · rw [e, ← e1]; split <;> rfl
    · rw [cnt_at (by omega) hj, e]
      have hks := hin k j hk hj e1
      by_cases hk2 : k ∈ s
      · rw [if_pos hk2, if_pos (hks.2 hk2)]
        show now[k].t + 1 = _; omega
      · rw [if_neg hk2, if_neg (fun q => hk2 (hks.1 q))]; exact e2
  · intro _ r hr
    obtain ⟨k, hk, e, ht⟩ := hrest r hr
    exact ht
  · rcases hleft with q | q
    · exact q
    · subst q
      exact absurd (by simp [restL, bumpS]) hne
theorem ck_of_ok {l : List Ru} (h : RuOk l) : ckRu l = 0 := by
  refine ckRu_ok (by have := h.len; omega) h.each ?_ h.nd
  rw [List.any_eq_false]
  intro r hr
  obtain ⟨k, hk, rfl⟩ := List.mem_iff_getElem.1 hr
  rw [(Ru.bad_iff _).2 (h.rng k hk)]; simp
theorem take_snoc' {α : Type} {l : List α} {k : Nat} (h : k < l.length) : l.take (k + 1) = l.take k ++ [l[k]] := by
  rw [List.take_add_one, List.getElem?_eq_getElem h]; rfl
theorem nd_take {α : Type} {l : List α} (h : l.Nodup) {k : Nat} (hk : k < l.length) : l[k] ∉ l.take k := fun q => by
  obtain ⟨j, hj, e⟩ := List.mem_iff_getElem.1 q
  simp only [List.getElem_take] at e
  have hj' : j < k := by simp at hj; omega
  have := nd_inj h (by omega) hk e
  omega
/-- chosen: a number in a range -/
def chs (c n : Int) : Int := if c < 0 then (0 - (c + 1)).tmod n else c.tmod n
end Go.Proofs.Ytjhdlcmecbngkaa.Pl
/- What comes back as one's own may be taken as what is only read from then on. -/
namespace Go.Proofs.Ytjhdlcmecbngkaa
open Go.RowKit
set_option linter.unusedVariables false
theorem rv_frz {w : World} {R R' : Nat → Prop} {T : TypeId} {sz : Nat} {rows : List (List V)} {x : Value} (h : ParOk w R (.o T sz rows) x) (hR : ∀ b, R b → R' b) (hb : ∀ b, x.ownBlock = some b → R' b) : RV w R' noG (.sl false rows) x := by
  obtain ⟨hsz, xs, g5, g6⟩ := h
  have g5' : w.ownsRow 0 T (Ent.mk 0 (.t T) sz rows).sz (Loc.mk 0 sz x false none).val (Ent.mk 0 (.t T) sz rows).rows.length xs := g5
  rcases own_val g5' with ⟨hv, h0⟩ | ⟨b, cap, hv, hbk⟩
  · have hv : x = .slice none 0 0 := hv
    rw [hv]
    have : rows = [] := h0
    subst this
    exact .nil _ _ _ (by simp)
  · have hv : x = .slice (some ⟨b, 0, none⟩) rows.length cap := hv
    have hbk : x.ownBlock = some b := hbk
    rw [hv]
    have hcapn : rows.length ≤ cap := by
      rcases g5.2 with ⟨q, _⟩ | ⟨g', cap', cur, q, _, _, hnc, _⟩
      · rw [hv] at q; cases q
      · rw [hv] at q; injection q with _ _ q; omega
    refine .sl _ rows b 0 cap sz (fun i j => (xs[i * sz + j]?).getD undef) (hb b hbk) hcapn (by simp) g6.1 ?_ ?_
    · intro i j row u h1 h2
      obtain ⟨y, q1, _, q2⟩ := g6.2 i j row u h1 h2
      show w.cell? ⟨b, 0 + i * sz + j, none⟩ = some ((xs[i * sz + j]?).getD undef)
      rw [q1, Nat.zero_add]
      exact own_cell g5' hbk q1
    · intro i j row u h1 h2
      obtain ⟨y, q1, _, q2⟩ := g6.2 i j row u h1 h2
      show RV w R' noG u ((xs[i * sz + j]?).getD undef)
      rw [q1]; exact q2.mono (fun b hb => ⟨hR b hb, rfl⟩) (Gle.refl _)
def frz : Par → Par
  | .c u => .c u
  | .o _ _ rows => .c (.sl false rows)
theorem Fun.frz {P : Program} {f : FuncId} {ps rs : List Par} (h : Fun P f ps rs) : Fun P f ps (rs.map frz) := by
  refine ⟨h.1, fun w R xs hlt hp => (h.2 w R xs hlt hp).mono ?_⟩
  rintro e w' ⟨ys, R', he, hfr, h1, h2, h3, h4⟩
  have no : ∀ (i : Nat) (T : TypeId) (sz : Nat) (rows : List (List V)), (rs.map Go.Proofs.Ytjhdlcmecbngkaa.frz)[i]? ≠ some (.o T sz rows) := fun i T sz rows q => by
    rw [List.getElem?_map] at q
    cases hr : rs[i]? with
    | none => rw [hr] at q; cases q
    | some r =>
      rw [hr] at q
      cases r <;> cases q
  refine ⟨ys, fun b => R' b ∨ ParBlk rs ys b, he, hfr, fun b hb => .inl (h1 b hb), ?_, ⟨by rw [List.length_map]; exact h3.len, ?_, ?_, ?_⟩, ?_⟩
  · rintro b (hb | hb)
    · exact h2 b hb
    · refine .inr ⟨?_, h4 b hb⟩
      obtain ⟨i, T, sz, rows, x, q1, q2, q3⟩ := hb
      obtain ⟨_, xs', g, _⟩ := h3.ok i _ x q1 q2
      exact ownsRow_block g q3
  · intro i p x hp1 hx
    rw [List.getElem?_map] at hp1
    cases hr : rs[i]? with
    | none => rw [hr] at hp1; cases hp1
    | some r =>
      rw [hr] at hp1
      have ho := h3.ok i r x hr hx
      cases r with
      | c u =>
        injection hp1 with hp1; subst hp1
        exact RV.mono ho (fun b hb => ⟨.inl hb, rfl⟩) (Gle.refl _)
      | o T sz rows =>
        injection hp1 with hp1; subst hp1
        exact rv_frz ho (fun b hb => .inl hb) (fun b hb => .inr ⟨i, T, sz, rows, x, hr, hx, hb⟩)
  · intro i j T sz rows T' sz' rows' x y b hij h1
    exact absurd h1 (no i T sz rows)
  · rintro b ⟨i, T, sz, rows, x, q1, _⟩
    exact absurd q1 (no i T sz rows)
  · rintro b ⟨i, T, sz, rows, x, q1, _⟩
    exact absurd q1 (no i T sz rows)
end Go.Proofs.Ytjhdlcmecbngkaa
/- How long a list that is handed over can be, by the bytes that it may take. -/
namespace Go.Proofs.Ytjhdlcmecbngkaa
open Go.ChangeShapes Go.WideShapes Go.ChangeAt Go.RowKit
set_option linter.unusedVariables false
theorem list_sz {H : Type} {enc : TypeId × Value → H} {P : Program} {w : World} {base : Nat} {spare : Nat → Bool} {held : Bool} {t e : TypeId} {v : Value} {d : DataW H} {p : List MemPlace} {R : Nat → Prop} {G : Nat → Option Loc} {rows : List (List V)}
    (hu : P.underlying t = some (.slice e)) (h : DataW.Trod enc P w base spare held t v d p) (hv : RV w R G (.sl false rows) v) {ts : List TypeId} {ds : List (DataW H)} {j : Nat}
    (hz : (DataW.weightsEach P ts ds).all (· ≤ reachBytes) = true) (ht : ts[j]? = some t) (hd : ds[j]? = some d) : rows.length * P.bytesOf e ≤ 140737488351232 := by
  obtain ⟨fuel, hf⟩ := h
  have key : ∀ a len cap, v = .slice a len cap → rows.length = len → rows.length * P.bytesOf e ≤ 140737488351232 := fun a len cap hva hl => by
    subst hva
    rcases Go.Deep.open_slice hu hf with ⟨h1, _⟩ | ⟨a', len', cap', m, n, D, Pl, h1, _, _, _, _, h2, _⟩
    · have h1 : [Value.slice a len cap] = [.slice none 0 0] := h1
      simp only [List.cons.injEq, Value.slice.injEq] at h1
      rw [hl, h1.1.2.1]; omega
    · have h1 : [Value.slice a len cap] = [.slice (some a') len' cap'] := h1
      simp only [List.cons.injEq, Value.slice.injEq] at h1
      injection h2 with h2 _
      subst h2
      have := sized_slice hz ht hd hu
      rw [List.length_map, List.length_range] at this
      rw [hl, h1.1.2.1]
      have h3 : len' * P.bytesOf e ≤ (len' + ((List.range (m - len')).map fun j => D (len' + j)).length) * P.bytesOf e := Nat.mul_le_mul_right _ (by omega)
      have h4 : reachBytes = 140737488351232 := rfl
      omega
  generalize hu' : V.sl false rows = u at hv
  cases hv with
  | nil clip a cap hc => injection hu' with _ hr; subst hr; exact key _ _ _ rfl rfl
  | sl clip rows' b off cap sz f _ _ _ _ _ _ => injection hu' with _ hr; subst hr; exact key _ _ _ rfl rfl
  | _ => cases hu'
end Go.Proofs.Ytjhdlcmecbngkaa
/- RumorEnds: each rumor is told as often as asked for, and no more; then none is left; no condition. -/
namespace Go.Proofs.Ytjhdlcmecbngkaa.rumorEnds
open Go.Joins Go.ChangeShapes Go.WideShapes Go.ChangeAt Go.RowKit Pl
set_option linter.unusedVariables false
def zRow (x : Int) : List V := [.v (.int .i64 x)]
instance : FlatRow zRow := ⟨fun x u hu => by simp [zRow] at hu; subst hu; exact ⟨_, rfl⟩⟩
instance : OneRow zRow 1 := ⟨fun _ => rfl, fun x u hu => by simp [zRow] at hu; subst hu; exact ⟨_, rfl, rfl⟩⟩
theorem chs_in {c n : Int} (hn : 0 < n) : 0 ≤ chs c n ∧ chs c n < n := by
  unfold chs
  split
  · have h : 0 ≤ 0 - (c + 1) := by omega
    rw [Int.tmod_eq_emod_of_nonneg h]
    exact ⟨Int.emod_nonneg _ (by omega), Int.emod_lt_of_pos _ hn⟩
  · have h : 0 ≤ c := by omega
    rw [Int.tmod_eq_emod_of_nonneg h]
    exact ⟨Int.emod_nonneg _ (by omega), Int.emod_lt_of_pos _ hn⟩
theorem choose_fun (c n : Int) (hc : -9223372036854775808 ≤ c ∧ c ≤ 9223372036854775807) (hn : 0 < n) : Fun Try.prog 23 [.c (.v (.int .i64 c)), .c (.v (.int .i64 n))] [.c (.v (.int .i64 (chs c n)))] := by
  unfold chs
  refine fun_x ck_hearsaylaw_choose rfl ?_
  ((conv => whnf); repeat' ((first | refine ⟨rfl, ?_⟩ | refine ⟨_, row_map (by assumption), ?_⟩ | refine ⟨_, (by exact some_rfl), ?_⟩ | refine ⟨_, wrap_ok (by omega) (by omega), ?_⟩ | refine ⟨_, wrap_u64 (by omega) (by omega), ?_⟩ | refine ⟨by decide, _, fdiv_half (by omega), ?_⟩ | (intro gg)); (conv => whnf)))
  (refine bIf_of (fun h1 => ?_) (fun h1 => ?_) <;> rw [h1])
  · have h1' : c < 0 := of_decide_eq_true h1
    rw [if_pos h1']
    ((conv => whnf); repeat' ((first | refine ⟨rfl, ?_⟩ | refine ⟨_, row_map (by assumption), ?_⟩ | refine ⟨_, (by exact some_rfl), ?_⟩ | refine ⟨_, wrap_ok (by omega) (by omega), ?_⟩ | refine ⟨_, wrap_u64 (by omega) (by omega), ?_⟩ | refine ⟨by decide, _, fdiv_half (by omega), ?_⟩ | (intro gg)); (conv => whnf)))
    refine ⟨by omega, _, rfl, ?_⟩
    ((conv => whnf); repeat' ((first | refine ⟨rfl, ?_⟩ | refine ⟨_, row_map (by assumption), ?_⟩ | refine ⟨_, (by exact some_rfl), ?_⟩ | refine ⟨_, wrap_ok (by omega) (by omega), ?_⟩ | refine ⟨_, wrap_u64 (by omega) (by omega), ?_⟩ | refine ⟨by decide, _, fdiv_half (by omega), ?_⟩ | (intro gg)); (conv => whnf)))
    (exact ⟨[], by (repeat' (first | exact ArgsOk.nil _ | exact argsOk_cells (by assumption) | refine ArgsOk.same (by first | exact cl_b rfl | exact cl_list | exact cl_nil | exact cl_one | exact cl_ll1 | exact cl_ll2 | exact cl_clo (by assumption)) ?_ | refine ArgsOk.nilsl _ ?_ | refine ArgsOk.nilown _ _ (by decide) ?_ | refine ArgsOk.borp rfl rfl rfl (cl_row rfl) (by decide) ?_ | refine ArgsOk.borc (by %caps) ?_ | refine ArgsOk.bor rfl rfl (deref_flat (by first | exact cl_rs rfl | exact cl_rows | exact cl_setB rfl | exact cl_setG (cl_setB rfl) rfl | exact cl_appB cl_rows (cl_rs rfl) | exact cl_rl1 | exact cl_rl2)) (by decide) ?_ | refine give' rfl (by first | exact cl_rs rfl | exact cl_rows | exact cl_setB rfl | exact cl_setG (cl_setB rfl) rfl | exact cl_appB cl_rows (cl_rs rfl) | exact cl_rl1 | exact cl_rl2) (by decide) (by decide) ?_))⟩)
  · have h1' : ¬ c < 0 := of_decide_eq_false h1
    rw [if_neg h1']
    ((conv => whnf); repeat' ((first | refine ⟨rfl, ?_⟩ | refine ⟨_, row_map (by assumption), ?_⟩ | refine ⟨_, (by exact some_rfl), ?_⟩ | refine ⟨_, wrap_ok (by omega) (by omega), ?_⟩ | refine ⟨_, wrap_u64 (by omega) (by omega), ?_⟩ | refine ⟨by decide, _, fdiv_half (by omega), ?_⟩ | (intro gg)); (conv => whnf)))
    refine ⟨by omega, _, rfl, ?_⟩
    ((conv => whnf); repeat' ((first | refine ⟨rfl, ?_⟩ | refine ⟨_, row_map (by assumption), ?_⟩ | refine ⟨_, (by exact some_rfl), ?_⟩ | refine ⟨_, wrap_ok (by omega) (by omega), ?_⟩ | refine ⟨_, wrap_u64 (by omega) (by omega), ?_⟩ | refine ⟨by decide, _, fdiv_half (by omega), ?_⟩ | (intro gg)); (conv => whnf)))
    (exact ⟨[], by (repeat' (first | exact ArgsOk.nil _ | exact argsOk_cells (by assumption) | refine ArgsOk.same (by first | exact cl_b rfl | exact cl_list | exact cl_nil | exact cl_one | exact cl_ll1 | exact cl_ll2 | exact cl_clo (by assumption)) ?_ | refine ArgsOk.nilsl _ ?_ | refine ArgsOk.nilown _ _ (by decide) ?_ | refine ArgsOk.borp rfl rfl rfl (cl_row rfl) (by decide) ?_ | refine ArgsOk.borc (by %caps) ?_ | refine ArgsOk.bor rfl rfl (deref_flat (by first | exact cl_rs rfl | exact cl_rows | exact cl_setB rfl | exact cl_setG (cl_setB rfl) rfl | exact cl_appB cl_rows (cl_rs rfl) | exact cl_rl1 | exact cl_rl2)) (by decide) ?_ | refine give' rfl (by first | exact cl_rs rfl | exact cl_rows | exact cl_setB rfl | exact cl_setG (cl_setB rfl) rfl | exact cl_appB cl_rows (cl_rs rfl) | exact cl_rl1 | exact cl_rl2) (by decide) (by decide) ?_))⟩)
theorem law (l : List Ru) (most times : Int) (hl : l.length ≤ 9223372036854775807) (hw : ∀ r ∈ l, r.m.ok) (hm : -9223372036854775808 ≤ most ∧ most ≤ 9223372036854775807) (ht : -9223372036854775808 ≤ times ∧ times ≤ 9223372036854775807) (hz : l.length * 8 ≤ 140737488355328) : Fun Try.prog 6 [.c (.sl false (l.map Ru.row)), .c (.v (.int .i64 most)), .c (.v (.int .i64 times))] [.c (.v (.bool true))] := by
  have hlm : (l.map Ru.row).length = l.length := List.length_map ..
  obtain ⟨M, hM⟩ : ∃ M, chs most 20 = M := ⟨_, rfl⟩
  obtain ⟨T, hT⟩ : ∃ T, chs times 12 = T := ⟨_, rfl⟩
  have hM2 := chs_in (c := most) (n := 20) (by omega)
  have hT2 := chs_in (c := times) (n := 12) (by omega)
  have hcM := choose_fun most 20 hm (by omega)
  have hcT := choose_fun times 12 ht (by omega)
  rw [hM] at hM2 hcM
  rw [hT] at hT2 hcT
  refine fun_x ck_hearsaylaw_RumorEnds rfl ?_
  ((conv => whnf); repeat' ((first | refine ⟨rfl, ?_⟩ | refine ⟨_, row_map (by assumption), ?_⟩ | refine ⟨_, (by exact some_rfl), ?_⟩ | refine ⟨_, wrap_ok (by omega) (by omega), ?_⟩ | refine ⟨_, wrap_u64 (by omega) (by omega), ?_⟩ | refine ⟨by decide, _, fdiv_half (by omega), ?_⟩ | (intro gg)); (conv => whnf)))
  (refine .inl ⟨_, _, false, [], (by (repeat' (first | exact ArgsOk.nil _ | exact argsOk_cells (by assumption) | refine ArgsOk.same (by first | exact cl_b rfl | exact cl_list | exact cl_nil | exact cl_one | exact cl_ll1 | exact cl_ll2 | exact cl_clo (by assumption)) ?_ | refine ArgsOk.nilsl _ ?_ | refine ArgsOk.nilown _ _ (by decide) ?_ | refine ArgsOk.borp rfl rfl rfl (cl_row rfl) (by decide) ?_ | refine ArgsOk.borc (by (repeat' (first | exact cap_n | refine cap_p rfl rfl rfl (by first | exact cl_row rfl | exact cl_r1 rfl | exact cl_r1b) ?_ ?_ | refine cap_m rfl (by decide) ?_ | refine cap_c (by first | exact cl_b rfl | exact cl_list | exact cl_nil | exact cl_one | exact cl_ll1 | exact cl_ll2 | exact cl_clo (by assumption)) ?_ | decide))) ?_ | refine ArgsOk.bor rfl rfl (deref_flat (by first | exact cl_rs rfl | exact cl_rows | exact cl_setB rfl | exact cl_setG (cl_setB rfl) rfl | exact cl_appB cl_rows (cl_rs rfl) | exact cl_rl1 | exact cl_rl2)) (by decide) ?_ | refine give' rfl (by first | exact cl_rs rfl | exact cl_rows | exact cl_setB rfl | exact cl_setG (cl_setB rfl) rfl | exact cl_appB cl_rows (cl_rs rfl) | exact cl_rl1 | exact cl_rl2) (by decide) (by decide) ?_))), begun_fun, nobor, (by exact Nat.le_of_ble_eq_true rfl), ?_⟩)
  ((conv => whnf); repeat' ((first | refine ⟨rfl, ?_⟩ | refine ⟨_, row_map (by assumption), ?_⟩ | refine ⟨_, (by exact some_rfl), ?_⟩ | refine ⟨_, wrap_ok (by omega) (by omega), ?_⟩ | refine ⟨_, wrap_u64 (by omega) (by omega), ?_⟩ | refine ⟨by decide, _, fdiv_half (by omega), ?_⟩ | (intro gg)); (conv => whnf)))
  (refine .inl ⟨_, _, false, [], (by (repeat' (first | exact ArgsOk.nil _ | exact argsOk_cells (by assumption) | refine ArgsOk.same (by first | exact cl_b rfl | exact cl_list | exact cl_nil | exact cl_one | exact cl_ll1 | exact cl_ll2 | exact cl_clo (by assumption)) ?_ | refine ArgsOk.nilsl _ ?_ | refine ArgsOk.nilown _ _ (by decide) ?_ | refine ArgsOk.borp rfl rfl rfl (cl_row rfl) (by decide) ?_ | refine ArgsOk.borc (by (repeat' (first | exact cap_n | refine cap_p rfl rfl rfl (by first | exact cl_row rfl | exact cl_r1 rfl | exact cl_r1b) ?_ ?_ | refine cap_m rfl (by decide) ?_ | refine cap_c (by first | exact cl_b rfl | exact cl_list | exact cl_nil | exact cl_one | exact cl_ll1 | exact cl_ll2 | exact cl_clo (by assumption)) ?_ | decide))) ?_ | refine ArgsOk.bor rfl rfl (deref_flat (by first | exact cl_rs rfl | exact cl_rows | exact cl_setB rfl | exact cl_setG (cl_setB rfl) rfl | exact cl_appB cl_rows (cl_rs rfl) | exact cl_rl1 | exact cl_rl2)) (by decide) ?_ | refine give' rfl (by first | exact cl_rs rfl | exact cl_rows | exact cl_setB rfl | exact cl_setG (cl_setB rfl) rfl | exact cl_appB cl_rows (cl_rs rfl) | exact cl_rl1 | exact cl_rl2) (by decide) (by decide) ?_))), hcM, nobor, (by exact Nat.le_of_ble_eq_true rfl), ?_⟩)
  ((conv => whnf); repeat' ((first | refine ⟨rfl, ?_⟩ | refine ⟨_, row_map (by assumption), ?_⟩ | refine ⟨_, (by exact some_rfl), ?_⟩ | refine ⟨_, wrap_ok (by omega) (by omega), ?_⟩ | refine ⟨_, wrap_u64 (by omega) (by omega), ?_⟩ | refine ⟨by decide, _, fdiv_half (by omega), ?_⟩ | (intro gg)); (conv => whnf)))
  (refine .inl ⟨_, _, false, [], (by (repeat' (first | exact ArgsOk.nil _ | exact argsOk_cells (by assumption) | refine ArgsOk.same (by first | exact cl_b rfl | exact cl_list | exact cl_nil | exact cl_one | exact cl_ll1 | exact cl_ll2 | exact cl_clo (by assumption)) ?_ | refine ArgsOk.nilsl _ ?_ | refine ArgsOk.nilown _ _ (by decide) ?_ | refine ArgsOk.borp rfl rfl rfl (cl_row rfl) (by decide) ?_ | refine ArgsOk.borc (by (repeat' (first | exact cap_n | refine cap_p rfl rfl rfl (by first | exact cl_row rfl | exact cl_r1 rfl | exact cl_r1b) ?_ ?_ | refine cap_m rfl (by decide) ?_ | refine cap_c (by first | exact cl_b rfl | exact cl_list | exact cl_nil | exact cl_one | exact cl_ll1 | exact cl_ll2 | exact cl_clo (by assumption)) ?_ | decide))) ?_ | refine ArgsOk.bor rfl rfl (deref_flat (by first | exact cl_rs rfl | exact cl_rows | exact cl_setB rfl | exact cl_setG (cl_setB rfl) rfl | exact cl_appB cl_rows (cl_rs rfl) | exact cl_rl1 | exact cl_rl2)) (by decide) ?_ | refine give' rfl (by first | exact cl_rs rfl | exact cl_rows | exact cl_setB rfl | exact cl_setG (cl_setB rfl) rfl | exact cl_appB cl_rows (cl_rs rfl) | exact cl_rl1 | exact cl_rl2) (by decide) (by decide) ?_))), hcT, nobor, (by exact Nat.le_of_ble_eq_true rfl), ?_⟩)
  ((conv => whnf); repeat' ((first | refine ⟨rfl, ?_⟩ | refine ⟨_, row_map (by assumption), ?_⟩ | refine ⟨_, (by exact some_rfl), ?_⟩ | refine ⟨_, wrap_ok (by omega) (by omega), ?_⟩ | refine ⟨_, wrap_u64 (by omega) (by omega), ?_⟩ | refine ⟨by decide, _, fdiv_half (by omega), ?_⟩ | (intro gg)); (conv => whnf)))
  have hTk := fun (now : List Ru) (h1 : now.length ≤ 9223372036854775807) (h2 : ∀ r ∈ now, r.m.ok) => (ruTake_fun now (1 + M) (1 + T) h1 h2).frz
  simp only [List.map_cons, List.map_nil, Go.Proofs.Ytjhdlcmecbngkaa.frz] at hTk
  refine ⟨l.length, by rw [hlm], by rw [hlm], by simp only [maxLen]; omega, by omega, ?_⟩
  have e0 : List.replicate l.length ([Value.int .i64 0].map V.v) = (List.replicate l.length (0 : Int)).map zRow := by simp [zRow]
  rw [e0]
  ((conv => whnf); repeat' ((first | refine ⟨rfl, ?_⟩ | refine ⟨_, row_map (by assumption), ?_⟩ | refine ⟨_, (by exact some_rfl), ?_⟩ | refine ⟨_, wrap_ok (by omega) (by omega), ?_⟩ | refine ⟨_, wrap_u64 (by omega) (by omega), ?_⟩ | refine ⟨by decide, _, fdiv_half (by omega), ?_⟩ | (intro gg)); (conv => whnf)))
  rename Nat => g0
  by_cases hck : ckRu l = 0
  · have hi := ckRu_inv hck
    have hlen := hi.len
    (refine ⟨[], none, {p : Nat × List Ru × List Int // Pl.Ends l (1 + T) p.1 p.2.1 p.2.2}, [0, 1, 2, 7], fun ⟨⟨i, now, c⟩, he⟩ => [(8, .sl false (now.map Ru.row)), (9, .v (.int .i64 i))], [], fun ⟨⟨i, now, c⟩, he⟩ => [(448, ⟨g0, 3, 1, c.map zRow⟩)], fun ⟨⟨i, now, c⟩, he⟩ => 241 - i, trivial, fun _ => ⟨trivial, fun _ => ⟨⟨(0, l, List.replicate l.length 0), ends0 hi (by omega)⟩, by (repeat' (first | exact trivial | refine ⟨rfl, ?_⟩)), keptE_refl _ _, by (repeat' (first | exact trivial | refine ⟨rfl, ?_⟩)), keptH_refl _ _⟩⟩, fun ⟨⟨i, now, c⟩, he⟩ => ?_⟩)
    have he : Pl.Ends l (1 + T) i now c := he
    have hcl := he.clen
    have hnl := he.ok.len
    have hnow : ∀ r ∈ now, r.m.ok := fun r hr => by
      obtain ⟨j, hj, e, _⟩ := he.each r hr
      rw [e]; exact hw _ (List.getElem_mem hj)
    have hcn := hTk now (by omega) hnow
    have hck2 : ckRu now = 0 := ck_of_ok he.ok
    rw [takeRu_ok hck2 (by omega)] at hcn
    have hleft := he.left
    have ho := ordL_ok now
    have hol := ho.len
    obtain ⟨N, hN⟩ : ∃ N, min (1 + M).toNat now.length = N := ⟨_, rfl⟩
    have hs : ∀ k ∈ (ordL now).take N, k < now.length := fun k hk => (ho.mem k).1 (List.mem_of_mem_take hk)
    have hsn : (ordL now).take N ≠ [] ∨ now = [] := by
      rcases Nat.eq_zero_or_pos now.length with h | h
      · exact .inr (List.eq_nil_of_length_eq_zero h)
      · refine .inl fun q => ?_
        have h2 : ((ordL now).take N).length = min N (ordL now).length := List.length_take ..
        rw [q, hol] at h2
        have h3 : ([] : List Nat).length = 0 := rfl
        omega
    obtain ⟨E1, E2, E3, E4⟩ := ends1 hi he (by omega) (by omega) hs hsn
    have htnd := told_nd hs (ho.nd.sublist (List.take_sublist _ _)) he.ok.nd
    have htl : (toldL now ((ordL now).take N)).length ≤ N := Nat.le_trans (List.length_filterMap_le _ _) (by rw [List.length_take]; omega)
    have htm : ∀ m ∈ toldL now ((ordL now).take N), ∃ j, ∃ hj : j < l.length, l[j].m = m ∧ ∃ k, ∃ hk : k < now.length, now[k].t = l[j].t + c[j]'(by omega) := fun m hmm => by
      obtain ⟨k, hk, _, e⟩ := (mem_told hs).1 hmm
      obtain ⟨j, hj, e1, e2⟩ := he.each _ (List.getElem_mem hk)
      exact ⟨j, hj, by rw [← e1, e], k, hk, e2⟩
    unfold takeR at hcn
    rw [hN] at hcn
    dsimp only at hcn
    have hrs : ∀ r ∈ restL (bumpS now ((ordL now).take N)) (1 + T), r.m.ok := fun r hr => by
      unfold restL at hr
      obtain ⟨h2, _⟩ := List.mem_filter.1 hr
      obtain ⟨k, hk, rfl⟩ := List.mem_iff_getElem.1 h2
      rw [bumpS_len] at hk
      rw [bumpS_at hk]
      split
      · exact hnow now[k] (List.getElem_mem hk)
      · exact hnow now[k] (List.getElem_mem hk)
    generalize toldL now ((ordL now).take N) = ms at *
    generalize restL (bumpS now ((ordL now).take N)) (1 + T) = rs at *
    have hrk := ruCheck_fun false rs (by have := E3.len; omega) (fun r hr => hrs r hr)
    rw [ck_of_ok E3] at hrk
    ((conv => whnf); repeat' ((first | refine ⟨rfl, ?_⟩ | refine ⟨_, row_map (by assumption), ?_⟩ | refine ⟨_, (by exact some_rfl), ?_⟩ | refine ⟨_, wrap_ok (by omega) (by omega), ?_⟩ | refine ⟨_, wrap_u64 (by omega) (by omega), ?_⟩ | refine ⟨by decide, _, fdiv_half (by omega), ?_⟩ | (intro gg)); (conv => whnf)))
    (refine bIf_of (fun h2 => ?_) (fun h2 => ?_) <;> rw [h2]; rotate_left; focus (exfalso; have := of_decide_eq_false h2; omega))
    ((conv => whnf); repeat' ((first | refine ⟨rfl, ?_⟩ | refine ⟨_, row_map (by assumption), ?_⟩ | refine ⟨_, (by exact some_rfl), ?_⟩ | refine ⟨_, wrap_ok (by omega) (by omega), ?_⟩ | refine ⟨_, wrap_u64 (by omega) (by omega), ?_⟩ | refine ⟨by decide, _, fdiv_half (by omega), ?_⟩ | (intro gg)); (conv => whnf)))
    (refine .inl ⟨_, _, false, [], (by (repeat' (first | exact ArgsOk.nil _ | exact argsOk_cells (by assumption) | refine ArgsOk.same (by first | exact cl_b rfl | exact cl_list | exact cl_nil | exact cl_one | exact cl_ll1 | exact cl_ll2 | exact cl_clo (by assumption)) ?_ | refine ArgsOk.nilsl _ ?_ | refine ArgsOk.nilown _ _ (by decide) ?_ | refine ArgsOk.borp rfl rfl rfl (cl_row rfl) (by decide) ?_ | refine ArgsOk.borc (by (repeat' (first | exact cap_n | refine cap_p rfl rfl rfl (by first | exact cl_row rfl | exact cl_r1 rfl | exact cl_r1b) ?_ ?_ | refine cap_m rfl (by decide) ?_ | refine cap_c (by first | exact cl_b rfl | exact cl_list | exact cl_nil | exact cl_one | exact cl_ll1 | exact cl_ll2 | exact cl_clo (by assumption)) ?_ | decide))) ?_ | refine ArgsOk.bor rfl rfl (deref_flat (by first | exact cl_rs rfl | exact cl_rows | exact cl_setB rfl | exact cl_setG (cl_setB rfl) rfl | exact cl_appB cl_rows (cl_rs rfl) | exact cl_rl1 | exact cl_rl2)) (by decide) ?_ | refine give' rfl (by first | exact cl_rs rfl | exact cl_rows | exact cl_setB rfl | exact cl_setG (cl_setB rfl) rfl | exact cl_appB cl_rows (cl_rs rfl) | exact cl_rl1 | exact cl_rl2) (by decide) (by decide) ?_))), hcn, nobor, (by exact Nat.le_of_ble_eq_true rfl), ?_⟩)
    ((conv => whnf); repeat' ((first | refine ⟨rfl, ?_⟩ | refine ⟨_, row_map (by assumption), ?_⟩ | refine ⟨_, (by exact some_rfl), ?_⟩ | refine ⟨_, wrap_ok (by omega) (by omega), ?_⟩ | refine ⟨_, wrap_u64 (by omega) (by omega), ?_⟩ | refine ⟨by decide, _, fdiv_half (by omega), ?_⟩ | (intro gg)); (conv => whnf)))
    (refine .inl ⟨_, _, false, [], (by (repeat' (first | exact ArgsOk.nil _ | exact argsOk_cells (by assumption) | refine ArgsOk.same (by first | exact cl_b rfl | exact cl_list | exact cl_nil | exact cl_one | exact cl_ll1 | exact cl_ll2 | exact cl_clo (by assumption)) ?_ | refine ArgsOk.nilsl _ ?_ | refine ArgsOk.nilown _ _ (by decide) ?_ | refine ArgsOk.borp rfl rfl rfl (cl_row rfl) (by decide) ?_ | refine ArgsOk.borc (by (repeat' (first | exact cap_n | refine cap_p rfl rfl rfl (by first | exact cl_row rfl | exact cl_r1 rfl | exact cl_r1b) ?_ ?_ | refine cap_m rfl (by decide) ?_ | refine cap_c (by first | exact cl_b rfl | exact cl_list | exact cl_nil | exact cl_one | exact cl_ll1 | exact cl_ll2 | exact cl_clo (by assumption)) ?_ | decide))) ?_ | refine ArgsOk.bor rfl rfl (deref_flat (by first | exact cl_rs rfl | exact cl_rows | exact cl_setB rfl | exact cl_setG (cl_setB rfl) rfl | exact cl_appB cl_rows (cl_rs rfl) | exact cl_rl1 | exact cl_rl2)) (by decide) ?_ | refine give' rfl (by first | exact cl_rs rfl | exact cl_rows | exact cl_setB rfl | exact cl_setG (cl_setB rfl) rfl | exact cl_appB cl_rows (cl_rs rfl) | exact cl_rl1 | exact cl_rl2) (by decide) (by decide) ?_))), hrk, nobor, (by exact Nat.le_of_ble_eq_true rfl), ?_⟩)
    ((conv => whnf); repeat' ((first | refine ⟨rfl, ?_⟩ | refine ⟨_, row_map (by assumption), ?_⟩ | refine ⟨_, (by exact some_rfl), ?_⟩ | refine ⟨_, wrap_ok (by omega) (by omega), ?_⟩ | refine ⟨_, wrap_u64 (by omega) (by omega), ?_⟩ | refine ⟨by decide, _, fdiv_half (by omega), ?_⟩ | (intro gg)); (conv => whnf)))
    (refine bIf_of (fun h3 => ?_) (fun h3 => ?_) <;> rw [h3]; focus (exfalso; have h4 := of_decide_eq_true h3; rw [List.length_map] at h4; omega))
    ((conv => whnf); repeat' ((first | refine ⟨rfl, ?_⟩ | refine ⟨_, row_map (by assumption), ?_⟩ | refine ⟨_, (by exact some_rfl), ?_⟩ | refine ⟨_, wrap_ok (by omega) (by omega), ?_⟩ | refine ⟨_, wrap_u64 (by omega) (by omega), ?_⟩ | refine ⟨by decide, _, fdiv_half (by omega), ?_⟩ | (intro gg)); (conv => whnf)))
    have ec : c.map zRow = (cnt l c (ms.take 0)).map zRow := by rw [List.take_zero, cnt_nil]
    refine ⟨[], none, {k : Nat // k ≤ ms.length}, [0, 1, 2, 7, 8, 9, 10, 11], fun ⟨k, hk⟩ => [(13, .v (.int .i64 k))], [], fun ⟨k, hk⟩ => [(448, ⟨g0, 3, 1, (cnt l c (ms.take k)).map zRow⟩)], fun ⟨k, hk⟩ => ms.length - k, trivial, fun _ => ⟨trivial, fun _ => ⟨⟨0, Nat.zero_le _⟩, by (repeat' (first | exact trivial | refine ⟨rfl, ?_⟩)), keptE_refl _ _, ⟨congrArg (fun r => some (Ent.mk g0 (.t 3) 1 r)) ec, trivial⟩, keptH_refl _ _⟩⟩, fun ⟨k, hk⟩ => ?_⟩
    ((conv => whnf); repeat' ((first | refine ⟨rfl, ?_⟩ | refine ⟨_, row_map (by assumption), ?_⟩ | refine ⟨_, (by exact some_rfl), ?_⟩ | refine ⟨_, wrap_ok (by omega) (by omega), ?_⟩ | refine ⟨_, wrap_u64 (by omega) (by omega), ?_⟩ | refine ⟨by decide, _, fdiv_half (by omega), ?_⟩ | (intro gg)); (conv => whnf)))
    rw [List.length_map]
    (refine bIf_of (fun h4 => ?_) (fun h4 => ?_) <;> rw [h4])
    · have hlt : k < ms.length := (by have := of_decide_eq_true h4; omega)
      obtain ⟨J, hJ, hJm, K, hK, hKt⟩ := htm _ (List.getElem_mem hlt)
      have hnk := nd_take htnd hlt
      have hr1 := hi.rng J hJ
      have hr2 := he.ok.rng K hK
      have hold := cnt_old hcl hJ hJm hnk
      have hset := cnt_set hcl hJ hJm hnk hi.nd
      rw [← take_snoc' hlt] at hset
      ((conv => whnf); repeat' ((first | refine ⟨rfl, ?_⟩ | refine ⟨_, row_map (by assumption), ?_⟩ | refine ⟨_, (by exact some_rfl), ?_⟩ | refine ⟨_, wrap_ok (by omega) (by omega), ?_⟩ | refine ⟨_, wrap_u64 (by omega) (by omega), ?_⟩ | refine ⟨by decide, _, fdiv_half (by omega), ?_⟩ | (intro gg)); (conv => whnf)))
      (refine ⟨[], none, {j : Nat // j ≤ l.length}, [0, 1, 2, 7, 8, 9, 10, 11, 13], fun ⟨j, hj⟩ => [(14, .v (.int .i64 (if J < j then (J : Int) else -1))), (15, .v (.int .i64 j))], [448], fun ⟨j, hj⟩ => [], fun ⟨j, hj⟩ => l.length - j, trivial, fun _ => ⟨trivial, fun _ => ⟨⟨0, Nat.zero_le _⟩, by (repeat' (first | exact trivial | refine ⟨rfl, ?_⟩)), keptE_refl _ _, by (repeat' (first | exact trivial | refine ⟨rfl, ?_⟩)), keptH_refl _ _⟩⟩, fun ⟨j, hj⟩ => ?_⟩)
      ((conv => whnf); repeat' ((first | refine ⟨rfl, ?_⟩ | refine ⟨_, row_map (by assumption), ?_⟩ | refine ⟨_, (by exact some_rfl), ?_⟩ | refine ⟨_, wrap_ok (by omega) (by omega), ?_⟩ | refine ⟨_, wrap_u64 (by omega) (by omega), ?_⟩ | refine ⟨by decide, _, fdiv_half (by omega), ?_⟩ | (intro gg)); (conv => whnf)))
      rw [hlm]
      (refine bIf_of (fun h5 => ?_) (fun h5 => ?_) <;> rw [h5])
      · have hlj : j < l.length := (by have := of_decide_eq_true h5; omega)
        ((conv => whnf); repeat' ((first | refine ⟨rfl, ?_⟩ | refine ⟨_, row_map (by assumption), ?_⟩ | refine ⟨_, (by exact some_rfl), ?_⟩ | refine ⟨_, wrap_ok (by omega) (by omega), ?_⟩ | refine ⟨_, wrap_u64 (by omega) (by omega), ?_⟩ | refine ⟨by decide, _, fdiv_half (by omega), ?_⟩ | (intro gg)); (conv => whnf)))
        refine ⟨j, _, rfl, row_map hlj, ?_⟩
        ((conv => whnf); repeat' ((first | refine ⟨rfl, ?_⟩ | refine ⟨_, row_map (by assumption), ?_⟩ | refine ⟨_, (by exact some_rfl), ?_⟩ | refine ⟨_, wrap_ok (by omega) (by omega), ?_⟩ | refine ⟨_, wrap_u64 (by omega) (by omega), ?_⟩ | refine ⟨by decide, _, fdiv_half (by omega), ?_⟩ | (intro gg)); (conv => whnf)))
        refine ⟨k, _, rfl, row_map hlt, ?_⟩
        ((conv => whnf); repeat' ((first | refine ⟨rfl, ?_⟩ | refine ⟨_, row_map (by assumption), ?_⟩ | refine ⟨_, (by exact some_rfl), ?_⟩ | refine ⟨_, wrap_ok (by omega) (by omega), ?_⟩ | refine ⟨_, wrap_u64 (by omega) (by omega), ?_⟩ | refine ⟨by decide, _, fdiv_half (by omega), ?_⟩ | (intro gg)); (conv => whnf)))
        (refine bIf_of (fun h6 => ?_) (fun h6 => ?_) <;> rw [h6])
        · have h6' : l[j].m = ms[k] := Mb.same_iff.1 h6
          have hjJ : j = J := nd_get hi.nd hlj hJ (by simp only [Ru.nm]; rw [h6', hJm])
          subst hjJ
          have e : (if j < j + 1 then (j : Int) else -1) = j := if_pos (by omega)
          ((conv => whnf); repeat' ((first | refine ⟨rfl, ?_⟩ | refine ⟨_, row_map (by assumption), ?_⟩ | refine ⟨_, (by exact some_rfl), ?_⟩ | refine ⟨_, wrap_ok (by omega) (by omega), ?_⟩ | refine ⟨_, wrap_u64 (by omega) (by omega), ?_⟩ | refine ⟨by decide, _, fdiv_half (by omega), ?_⟩ | (intro gg)); (conv => whnf)))
          (exact ⟨none, trivial, fun gr => ⟨⟨j + 1, by omega⟩, by show l.length - (j + 1) < l.length - j; omega, by (repeat' (first | exact trivial | refine ⟨rfl, ?_⟩ | refine ⟨(by show some (Ent.mk _ _ _ _) = some (Ent.mk _ _ _ _); (first | (rw [e]; done) | (rw [e]; rfl) | (rw [e, List.map_append]; done) | (rw [e, List.map_append]; rfl) | (rw [e, List.map_append, List.map_append]; done) | (rw [e, List.map_append, List.map_append]; rfl))), ?_⟩ | refine ⟨(by show V.v _ = V.v _; (first | (rw [e]; done) | (rw [e]; rfl) | (rw [e, List.map_append]; done) | (rw [e, List.map_append]; rfl) | (rw [e, List.map_append, List.map_append]; done) | (rw [e, List.map_append, List.map_append]; rfl))), ?_⟩ | refine ⟨(by show V.sl _ _ = V.sl _ _; (first | (rw [e]; done) | (rw [e]; rfl) | (rw [e, List.map_append]; done) | (rw [e, List.map_append]; rfl) | (rw [e, List.map_append, List.map_append]; done) | (rw [e, List.map_append, List.map_append]; rfl))), ?_⟩)), by (repeat' (first | exact trivial | refine ⟨rfl, ?_⟩ | refine ⟨(by show some (Ent.mk _ _ _ _) = some (Ent.mk _ _ _ _); (first | (rw [e]; done) | (rw [e]; rfl) | (rw [e, List.map_append]; done) | (rw [e, List.map_append]; rfl) | (rw [e, List.map_append, List.map_append]; done) | (rw [e, List.map_append, List.map_append]; rfl))), ?_⟩ | refine ⟨(by show V.v _ = V.v _; (first | (rw [e]; done) | (rw [e]; rfl) | (rw [e, List.map_append]; done) | (rw [e, List.map_append]; rfl) | (rw [e, List.map_append, List.map_append]; done) | (rw [e, List.map_append, List.map_append]; rfl))), ?_⟩ | refine ⟨(by show V.sl _ _ = V.sl _ _; (first | (rw [e]; done) | (rw [e]; rfl) | (rw [e, List.map_append]; done) | (rw [e, List.map_append]; rfl) | (rw [e, List.map_append, List.map_append]; done) | (rw [e, List.map_append, List.map_append]; rfl))), ?_⟩)), by (repeat' (first | exact trivial | refine ⟨rfl, ?_⟩ | refine ⟨(by show some (Ent.mk _ _ _ _) = some (Ent.mk _ _ _ _); (first | (rw [e]; done) | (rw [e]; rfl) | (rw [e, List.map_append]; done) | (rw [e, List.map_append]; rfl) | (rw [e, List.map_append, List.map_append]; done) | (rw [e, List.map_append, List.map_append]; rfl))), ?_⟩ | refine ⟨(by show V.v _ = V.v _; (first | (rw [e]; done) | (rw [e]; rfl) | (rw [e, List.map_append]; done) | (rw [e, List.map_append]; rfl) | (rw [e, List.map_append, List.map_append]; done) | (rw [e, List.map_append, List.map_append]; rfl))), ?_⟩ | refine ⟨(by show V.sl _ _ = V.sl _ _; (first | (rw [e]; done) | (rw [e]; rfl) | (rw [e, List.map_append]; done) | (rw [e, List.map_append]; rfl) | (rw [e, List.map_append, List.map_append]; done) | (rw [e, List.map_append, List.map_append]; rfl))), ?_⟩)), by (repeat' (first | exact trivial | refine ⟨rfl, ?_⟩ | refine ⟨(by show some (Ent.mk _ _ _ _) = some (Ent.mk _ _ _ _); (first | (rw [e]; done) | (rw [e]; rfl) | (rw [e, List.map_append]; done) | (rw [e, List.map_append]; rfl) | (rw [e, List.map_append, List.map_append]; done) | (rw [e, List.map_append, List.map_append]; rfl))), ?_⟩ | refine ⟨(by show V.v _ = V.v _; (first | (rw [e]; done) | (rw [e]; rfl) | (rw [e, List.map_append]; done) | (rw [e, List.map_append]; rfl) | (rw [e, List.map_append, List.map_append]; done) | (rw [e, List.map_append, List.map_append]; rfl))), ?_⟩ | refine ⟨(by show V.sl _ _ = V.sl _ _; (first | (rw [e]; done) | (rw [e]; rfl) | (rw [e, List.map_append]; done) | (rw [e, List.map_append]; rfl) | (rw [e, List.map_append, List.map_append]; done) | (rw [e, List.map_append, List.map_append]; rfl))), ?_⟩))⟩⟩)
        · have h6b : Mb.same l[j].m ms[k] = false := h6
          have h6' : l[j].m ≠ ms[k] := fun q => by rw [Mb.same_iff.2 q] at h6b; cases h6b
          have hjJ : j ≠ J := fun q => by subst q; exact h6' hJm
          have e : (if J < j + 1 then (J : Int) else -1) = (if J < j then (J : Int) else -1) := by
            by_cases q : J < j
            · rw [if_pos q, if_pos (by omega)]
            · rw [if_neg q, if_neg (by omega)]
          ((conv => whnf); repeat' ((first | refine ⟨rfl, ?_⟩ | refine ⟨_, row_map (by assumption), ?_⟩ | refine ⟨_, (by exact some_rfl), ?_⟩ | refine ⟨_, wrap_ok (by omega) (by omega), ?_⟩ | refine ⟨_, wrap_u64 (by omega) (by omega), ?_⟩ | refine ⟨by decide, _, fdiv_half (by omega), ?_⟩ | (intro gg)); (conv => whnf)))
          (exact ⟨none, trivial, fun gr => ⟨⟨j + 1, by omega⟩, by show l.length - (j + 1) < l.length - j; omega, by (repeat' (first | exact trivial | refine ⟨rfl, ?_⟩ | refine ⟨(by show some (Ent.mk _ _ _ _) = some (Ent.mk _ _ _ _); (first | (rw [e]; done) | (rw [e]; rfl) | (rw [e, List.map_append]; done) | (rw [e, List.map_append]; rfl) | (rw [e, List.map_append, List.map_append]; done) | (rw [e, List.map_append, List.map_append]; rfl))), ?_⟩ | refine ⟨(by show V.v _ = V.v _; (first | (rw [e]; done) | (rw [e]; rfl) | (rw [e, List.map_append]; done) | (rw [e, List.map_append]; rfl) | (rw [e, List.map_append, List.map_append]; done) | (rw [e, List.map_append, List.map_append]; rfl))), ?_⟩ | refine ⟨(by show V.sl _ _ = V.sl _ _; (first | (rw [e]; done) | (rw [e]; rfl) | (rw [e, List.map_append]; done) | (rw [e, List.map_append]; rfl) | (rw [e, List.map_append, List.map_append]; done) | (rw [e, List.map_append, List.map_append]; rfl))), ?_⟩)), by (repeat' (first | exact trivial | refine ⟨rfl, ?_⟩ | refine ⟨(by show some (Ent.mk _ _ _ _) = some (Ent.mk _ _ _ _); (first | (rw [e]; done) | (rw [e]; rfl) | (rw [e, List.map_append]; done) | (rw [e, List.map_append]; rfl) | (rw [e, List.map_append, List.map_append]; done) | (rw [e, List.map_append, List.map_append]; rfl))), ?_⟩ | refine ⟨(by show V.v _ = V.v _; (first | (rw [e]; done) | (rw [e]; rfl) | (rw [e, List.map_append]; done) | (rw [e, List.map_append]; rfl) | (rw [e, List.map_append, List.map_append]; done) | (rw [e, List.map_append, List.map_append]; rfl))), ?_⟩ | refine ⟨(by show V.sl _ _ = V.sl _ _; (first | (rw [e]; done) | (rw [e]; rfl) | (rw [e, List.map_append]; done) | (rw [e, List.map_append]; rfl) | (rw [e, List.map_append, List.map_append]; done) | (rw [e, List.map_append, List.map_append]; rfl))), ?_⟩)), by (repeat' (first | exact trivial | refine ⟨rfl, ?_⟩ | refine ⟨(by show some (Ent.mk _ _ _ _) = some (Ent.mk _ _ _ _); (first | (rw [e]; done) | (rw [e]; rfl) | (rw [e, List.map_append]; done) | (rw [e, List.map_append]; rfl) | (rw [e, List.map_append, List.map_append]; done) | (rw [e, List.map_append, List.map_append]; rfl))), ?_⟩ | refine ⟨(by show V.v _ = V.v _; (first | (rw [e]; done) | (rw [e]; rfl) | (rw [e, List.map_append]; done) | (rw [e, List.map_append]; rfl) | (rw [e, List.map_append, List.map_append]; done) | (rw [e, List.map_append, List.map_append]; rfl))), ?_⟩ | refine ⟨(by show V.sl _ _ = V.sl _ _; (first | (rw [e]; done) | (rw [e]; rfl) | (rw [e, List.map_append]; done) | (rw [e, List.map_append]; rfl) | (rw [e, List.map_append, List.map_append]; done) | (rw [e, List.map_append, List.map_append]; rfl))), ?_⟩)), by (repeat' (first | exact trivial | refine ⟨rfl, ?_⟩ | refine ⟨(by show some (Ent.mk _ _ _ _) = some (Ent.mk _ _ _ _); (first | (rw [e]; done) | (rw [e]; rfl) | (rw [e, List.map_append]; done) | (rw [e, List.map_append]; rfl) | (rw [e, List.map_append, List.map_append]; done) | (rw [e, List.map_append, List.map_append]; rfl))), ?_⟩ | refine ⟨(by show V.v _ = V.v _; (first | (rw [e]; done) | (rw [e]; rfl) | (rw [e, List.map_append]; done) | (rw [e, List.map_append]; rfl) | (rw [e, List.map_append, List.map_append]; done) | (rw [e, List.map_append, List.map_append]; rfl))), ?_⟩ | refine ⟨(by show V.sl _ _ = V.sl _ _; (first | (rw [e]; done) | (rw [e]; rfl) | (rw [e, List.map_append]; done) | (rw [e, List.map_append]; rfl) | (rw [e, List.map_append, List.map_append]; done) | (rw [e, List.map_append, List.map_append]; rfl))), ?_⟩))⟩⟩)
      · have hge : ¬ j < l.length := (by have := of_decide_eq_false h5; omega)
        have hjl : j = l.length := by omega
        subst hjl
        have e14 : (if J < l.length then (J : Int) else -1) = J := if_pos hJ
        have hJc : J < (cnt l c (ms.take k)).length := by rw [cnt_len]; omega
        have hcb : -100 ≤ (cnt l c (ms.take k))[J] ∧ (cnt l c (ms.take k))[J] ≤ 100 := by rw [hold]; omega
        rw [← hold] at hset
        have e : ((cnt l c (ms.take k)).map zRow).set J (zRow ((cnt l c (ms.take k))[J] + 1)) = (cnt l c (ms.take (k + 1))).map zRow := by rw [← hset, List.map_set]
        ((conv => whnf); repeat' ((first | refine ⟨rfl, ?_⟩ | refine ⟨_, row_map (by assumption), ?_⟩ | refine ⟨_, (by exact some_rfl), ?_⟩ | refine ⟨_, wrap_ok (by omega) (by omega), ?_⟩ | refine ⟨_, wrap_u64 (by omega) (by omega), ?_⟩ | refine ⟨by decide, _, fdiv_half (by omega), ?_⟩ | (intro gg)); (conv => whnf)))
        (refine bIf_of (fun h6 => ?_) (fun h6 => ?_) <;> rw [h6]; focus (exfalso; have h7 : (if J < l.length then (J : Int) else -1) < 0 := of_decide_eq_true h6; omega))
        ((conv => whnf); repeat' ((first | refine ⟨rfl, ?_⟩ | refine ⟨_, row_map (by assumption), ?_⟩ | refine ⟨_, (by exact some_rfl), ?_⟩ | refine ⟨_, wrap_ok (by omega) (by omega), ?_⟩ | refine ⟨_, wrap_u64 (by omega) (by omega), ?_⟩ | refine ⟨by decide, _, fdiv_half (by omega), ?_⟩ | (intro gg)); (conv => whnf)))
        refine ⟨J, _, e14, row_map hJc, ?_⟩
        ((conv => whnf); repeat' ((first | refine ⟨rfl, ?_⟩ | refine ⟨_, row_map (by assumption), ?_⟩ | refine ⟨_, (by exact some_rfl), ?_⟩ | refine ⟨_, wrap_ok (by omega) (by omega), ?_⟩ | refine ⟨_, wrap_u64 (by omega) (by omega), ?_⟩ | refine ⟨by decide, _, fdiv_half (by omega), ?_⟩ | (intro gg)); (conv => whnf)))
        refine ⟨J, _, e14, row_map hJc, ?_⟩
        ((conv => whnf); repeat' ((first | refine ⟨rfl, ?_⟩ | refine ⟨_, row_map (by assumption), ?_⟩ | refine ⟨_, (by exact some_rfl), ?_⟩ | refine ⟨_, wrap_ok (by omega) (by omega), ?_⟩ | refine ⟨_, wrap_u64 (by omega) (by omega), ?_⟩ | refine ⟨by decide, _, fdiv_half (by omega), ?_⟩ | (intro gg)); (conv => whnf)))
        (exact ⟨none, trivial, fun gr => ⟨⟨k + 1, by omega⟩, by show ms.length - (k + 1) < ms.length - k; omega, by (repeat' (first | exact trivial | refine ⟨rfl, ?_⟩)), by (repeat' (first | exact trivial | refine ⟨rfl, ?_⟩)), ⟨congrArg (fun r => some (Ent.mk g0 (.t 3) 1 r)) e, trivial⟩, by (repeat' (first | exact trivial | refine ⟨rfl, ?_⟩))⟩⟩)
    · have hge : ¬ k < ms.length := (by have := of_decide_eq_false h4; omega)
      have ek : ms.take k = ms := List.take_of_length_le (by omega)
      ((conv => whnf); repeat' ((first | refine ⟨rfl, ?_⟩ | refine ⟨_, row_map (by assumption), ?_⟩ | refine ⟨_, (by exact some_rfl), ?_⟩ | refine ⟨_, wrap_ok (by omega) (by omega), ?_⟩ | refine ⟨_, wrap_u64 (by omega) (by omega), ?_⟩ | refine ⟨by decide, _, fdiv_half (by omega), ?_⟩ | (intro gg)); (conv => whnf)))
      by_cases hr0 : rs = []
      · have e4 := E4 hr0
        have hCl : (cnt l c (ms.take k)).length = l.length := by rw [cnt_len]; exact hcl
        have e5 : ∀ (j : Nat) (hj : j < l.length), fin (1 + T) l[j] ((cnt l c (ms.take k))[j]'(by omega)) := fun j hj => by
          have := e4 j hj
          simp only [ek]; exact this
        subst hr0
        ((conv => whnf); repeat' ((first | refine ⟨rfl, ?_⟩ | refine ⟨_, row_map (by assumption), ?_⟩ | refine ⟨_, (by exact some_rfl), ?_⟩ | refine ⟨_, wrap_ok (by omega) (by omega), ?_⟩ | refine ⟨_, wrap_u64 (by omega) (by omega), ?_⟩ | refine ⟨by decide, _, fdiv_half (by omega), ?_⟩ | (intro gg)); (conv => whnf)))
        (refine ⟨[], none, {j : Nat // j ≤ l.length}, [0, 2, 7, 8], fun ⟨j, hj⟩ => [(16, .v (.int .i64 j))], [448], fun ⟨j, hj⟩ => [], fun ⟨j, hj⟩ => l.length - j, trivial, fun _ => ⟨trivial, fun _ => ⟨⟨0, Nat.zero_le _⟩, by (repeat' (first | exact trivial | refine ⟨rfl, ?_⟩)), keptE_refl _ _, by (repeat' (first | exact trivial | refine ⟨rfl, ?_⟩)), keptH_refl _ _⟩⟩, fun ⟨j, hj⟩ => ?_⟩)
        ((conv => whnf); repeat' ((first | refine ⟨rfl, ?_⟩ | refine ⟨_, row_map (by assumption), ?_⟩ | refine ⟨_, (by exact some_rfl), ?_⟩ | refine ⟨_, wrap_ok (by omega) (by omega), ?_⟩ | refine ⟨_, wrap_u64 (by omega) (by omega), ?_⟩ | refine ⟨by decide, _, fdiv_half (by omega), ?_⟩ | (intro gg)); (conv => whnf)))
        rw [hlm]
        (refine bIf_of (fun h5 => ?_) (fun h5 => ?_) <;> rw [h5])
        · have hlj : j < l.length := (by have := of_decide_eq_true h5; omega)
          have hlC : j < (cnt l c (ms.take k)).length := by omega
          have h6 := e5 j hlj
          have hr1 := hi.rng j hlj
          unfold fin at h6
          ((conv => whnf); repeat' ((first | refine ⟨rfl, ?_⟩ | refine ⟨_, row_map (by assumption), ?_⟩ | refine ⟨_, (by exact some_rfl), ?_⟩ | refine ⟨_, wrap_ok (by omega) (by omega), ?_⟩ | refine ⟨_, wrap_u64 (by omega) (by omega), ?_⟩ | refine ⟨by decide, _, fdiv_half (by omega), ?_⟩ | (intro gg)); (conv => whnf)))
          refine ⟨j, _, rfl, row_map hlj, ?_⟩
          ((conv => whnf); repeat' ((first | refine ⟨rfl, ?_⟩ | refine ⟨_, row_map (by assumption), ?_⟩ | refine ⟨_, (by exact some_rfl), ?_⟩ | refine ⟨_, wrap_ok (by omega) (by omega), ?_⟩ | refine ⟨_, wrap_u64 (by omega) (by omega), ?_⟩ | refine ⟨by decide, _, fdiv_half (by omega), ?_⟩ | (intro gg)); (conv => whnf)))
          refine ⟨j, _, rfl, row_map hlC, ?_⟩
          ((conv => whnf); repeat' ((first | refine ⟨rfl, ?_⟩ | refine ⟨_, row_map (by assumption), ?_⟩ | refine ⟨_, (by exact some_rfl), ?_⟩ | refine ⟨_, wrap_ok (by omega) (by omega), ?_⟩ | refine ⟨_, wrap_u64 (by omega) (by omega), ?_⟩ | refine ⟨by decide, _, fdiv_half (by omega), ?_⟩ | (intro gg)); (conv => whnf)))
          (refine bIf_of (fun h7 => ?_) (fun h7 => ?_) <;> rw [h7]; focus (exfalso; have := of_decide_eq_true h7; omega))
          ((conv => whnf); repeat' ((first | refine ⟨rfl, ?_⟩ | refine ⟨_, row_map (by assumption), ?_⟩ | refine ⟨_, (by exact some_rfl), ?_⟩ | refine ⟨_, wrap_ok (by omega) (by omega), ?_⟩ | refine ⟨_, wrap_u64 (by omega) (by omega), ?_⟩ | refine ⟨by decide, _, fdiv_half (by omega), ?_⟩ | (intro gg)); (conv => whnf)))
          (refine bIf_of (fun h8 => ?_) (fun h8 => ?_) <;> rw [h8])
          · have h8' := of_decide_eq_true h8
            ((conv => whnf); repeat' ((first | refine ⟨rfl, ?_⟩ | refine ⟨_, row_map (by assumption), ?_⟩ | refine ⟨_, (by exact some_rfl), ?_⟩ | refine ⟨_, wrap_ok (by omega) (by omega), ?_⟩ | refine ⟨_, wrap_u64 (by omega) (by omega), ?_⟩ | refine ⟨by decide, _, fdiv_half (by omega), ?_⟩ | (intro gg)); (conv => whnf)))
            refine ⟨j, _, rfl, row_map hlC, ?_⟩
            ((conv => whnf); repeat' ((first | refine ⟨rfl, ?_⟩ | refine ⟨_, row_map (by assumption), ?_⟩ | refine ⟨_, (by exact some_rfl), ?_⟩ | refine ⟨_, wrap_ok (by omega) (by omega), ?_⟩ | refine ⟨_, wrap_u64 (by omega) (by omega), ?_⟩ | refine ⟨by decide, _, fdiv_half (by omega), ?_⟩ | (intro gg)); (conv => whnf)))
            (refine bIf_of (fun h9 => ?_) (fun h9 => ?_) <;> rw [h9]; focus (exfalso; have h9' : (cnt l c (ms.take k))[j] ≠ 1 + T - l[j].t := (by simpa using h9); exact h9' (h6.2 h8')))
            ((conv => whnf); repeat' ((first | refine ⟨rfl, ?_⟩ | refine ⟨_, row_map (by assumption), ?_⟩ | refine ⟨_, (by exact some_rfl), ?_⟩ | refine ⟨_, wrap_ok (by omega) (by omega), ?_⟩ | refine ⟨_, wrap_u64 (by omega) (by omega), ?_⟩ | refine ⟨by decide, _, fdiv_half (by omega), ?_⟩ | (intro gg)); (conv => whnf)))
            (exact ⟨none, trivial, fun _ => ⟨⟨j + 1, by omega⟩, by show l.length - (j + 1) < l.length - j; omega, by (repeat' (first | exact trivial | refine ⟨rfl, ?_⟩)), by (repeat' (first | exact trivial | refine ⟨rfl, ?_⟩)), by (repeat' (first | exact trivial | refine ⟨rfl, ?_⟩)), by (repeat' (first | exact trivial | refine ⟨rfl, ?_⟩))⟩⟩)
          · ((conv => whnf); repeat' ((first | refine ⟨rfl, ?_⟩ | refine ⟨_, row_map (by assumption), ?_⟩ | refine ⟨_, (by exact some_rfl), ?_⟩ | refine ⟨_, wrap_ok (by omega) (by omega), ?_⟩ | refine ⟨_, wrap_u64 (by omega) (by omega), ?_⟩ | refine ⟨by decide, _, fdiv_half (by omega), ?_⟩ | (intro gg)); (conv => whnf)))
            (exact ⟨none, trivial, fun _ => ⟨⟨j + 1, by omega⟩, by show l.length - (j + 1) < l.length - j; omega, by (repeat' (first | exact trivial | refine ⟨rfl, ?_⟩)), by (repeat' (first | exact trivial | refine ⟨rfl, ?_⟩)), by (repeat' (first | exact trivial | refine ⟨rfl, ?_⟩)), by (repeat' (first | exact trivial | refine ⟨rfl, ?_⟩))⟩⟩)
        · ((conv => whnf); repeat' ((first | refine ⟨rfl, ?_⟩ | refine ⟨_, row_map (by assumption), ?_⟩ | refine ⟨_, (by exact some_rfl), ?_⟩ | refine ⟨_, wrap_ok (by omega) (by omega), ?_⟩ | refine ⟨_, wrap_u64 (by omega) (by omega), ?_⟩ | refine ⟨by decide, _, fdiv_half (by omega), ?_⟩ | (intro gg)); (conv => whnf)))
          (exact ⟨[], by (repeat' (first | exact ArgsOk.nil _ | exact argsOk_cells (by assumption) | refine ArgsOk.same (by first | exact cl_b rfl | exact cl_list | exact cl_nil | exact cl_one | exact cl_ll1 | exact cl_ll2 | exact cl_clo (by assumption)) ?_ | refine ArgsOk.nilsl _ ?_ | refine ArgsOk.nilown _ _ (by decide) ?_ | refine ArgsOk.borp rfl rfl rfl (cl_row rfl) (by decide) ?_ | refine ArgsOk.borc (by %caps) ?_ | refine ArgsOk.bor rfl rfl (deref_flat (by first | exact cl_rs rfl | exact cl_rows | exact cl_setB rfl | exact cl_setG (cl_setB rfl) rfl | exact cl_appB cl_rows (cl_rs rfl) | exact cl_rl1 | exact cl_rl2)) (by decide) ?_ | refine give' rfl (by first | exact cl_rs rfl | exact cl_rows | exact cl_setB rfl | exact cl_setG (cl_setB rfl) rfl | exact cl_appB cl_rows (cl_rs rfl) | exact cl_rl1 | exact cl_rl2) (by decide) (by decide) ?_))⟩)
      · have hne : rs.length ≠ 0 := fun q => hr0 (List.eq_nil_of_length_eq_zero q)
        ((conv => whnf); repeat' ((first | refine ⟨rfl, ?_⟩ | refine ⟨_, row_map (by assumption), ?_⟩ | refine ⟨_, (by exact some_rfl), ?_⟩ | refine ⟨_, wrap_ok (by omega) (by omega), ?_⟩ | refine ⟨_, wrap_u64 (by omega) (by omega), ?_⟩ | refine ⟨by decide, _, fdiv_half (by omega), ?_⟩ | (intro gg)); (conv => whnf)))
        rw [List.length_map]
        (refine bIf_of (fun h5 => ?_) (fun h5 => ?_) <;> rw [h5]; focus (exfalso; have := beq_iff_eq.1 h5; omega))
        ((conv => whnf); repeat' ((first | refine ⟨rfl, ?_⟩ | refine ⟨_, row_map (by assumption), ?_⟩ | refine ⟨_, (by exact some_rfl), ?_⟩ | refine ⟨_, wrap_ok (by omega) (by omega), ?_⟩ | refine ⟨_, wrap_u64 (by omega) (by omega), ?_⟩ | refine ⟨by decide, _, fdiv_half (by omega), ?_⟩ | (intro gg)); (conv => whnf)))
        have e2 : (cnt l c (ms.take k)).map zRow = (cnt l c ms).map zRow := by rw [ek]
        (exact ⟨none, trivial, fun gr => ⟨⟨(i + 1, rs, cnt l c ms), E2 hr0⟩, by show 241 - (i + 1) < 241 - i; omega, by (repeat' (first | exact trivial | refine ⟨rfl, ?_⟩)), by (repeat' (first | exact trivial | refine ⟨rfl, ?_⟩)), ⟨congrArg (fun r => some (Ent.mk g0 (.t 3) 1 r)) e2, trivial⟩, by (repeat' (first | exact trivial | refine ⟨rfl, ?_⟩))⟩⟩)
  · have hcn := hTk l hl hw
    rw [takeRu_ck hck] at hcn
    dsimp only at hcn
    (refine ⟨[], none, {k : Nat // k = 0}, [0, 1, 2, 7, 8], fun ⟨k, hk⟩ => [(9, .v (.int .i64 k))], [448], fun ⟨k, hk⟩ => [], fun ⟨k, hk⟩ => 0, trivial, fun _ => ⟨trivial, fun _ => ⟨⟨0, rfl⟩, by (repeat' (first | exact trivial | refine ⟨rfl, ?_⟩)), keptE_refl _ _, by (repeat' (first | exact trivial | refine ⟨rfl, ?_⟩)), keptH_refl _ _⟩⟩, fun ⟨k, hk⟩ => ?_⟩)
    obtain rfl : k = 0 := hk
    ((conv => whnf); repeat' ((first | refine ⟨rfl, ?_⟩ | refine ⟨_, row_map (by assumption), ?_⟩ | refine ⟨_, (by exact some_rfl), ?_⟩ | refine ⟨_, wrap_ok (by omega) (by omega), ?_⟩ | refine ⟨_, wrap_u64 (by omega) (by omega), ?_⟩ | refine ⟨by decide, _, fdiv_half (by omega), ?_⟩ | (intro gg)); (conv => whnf)))
    (refine .inl ⟨_, _, false, [], (by (repeat' (first | exact ArgsOk.nil _ | exact argsOk_cells (by assumption) | refine ArgsOk.same (by first | exact cl_b rfl | exact cl_list | exact cl_nil | exact cl_one | exact cl_ll1 | exact cl_ll2 | exact cl_clo (by assumption)) ?_ | refine ArgsOk.nilsl _ ?_ | refine ArgsOk.nilown _ _ (by decide) ?_ | refine ArgsOk.borp rfl rfl rfl (cl_row rfl) (by decide) ?_ | refine ArgsOk.borc (by (repeat' (first | exact cap_n | refine cap_p rfl rfl rfl (by first | exact cl_row rfl | exact cl_r1 rfl | exact cl_r1b) ?_ ?_ | refine cap_m rfl (by decide) ?_ | refine cap_c (by first | exact cl_b rfl | exact cl_list | exact cl_nil | exact cl_one | exact cl_ll1 | exact cl_ll2 | exact cl_clo (by assumption)) ?_ | decide))) ?_ | refine ArgsOk.bor rfl rfl (deref_flat (by first | exact cl_rs rfl | exact cl_rows | exact cl_setB rfl | exact cl_setG (cl_setB rfl) rfl | exact cl_appB cl_rows (cl_rs rfl) | exact cl_rl1 | exact cl_rl2)) (by decide) ?_ | refine give' rfl (by first | exact cl_rs rfl | exact cl_rows | exact cl_setB rfl | exact cl_setG (cl_setB rfl) rfl | exact cl_appB cl_rows (cl_rs rfl) | exact cl_rl1 | exact cl_rl2) (by decide) (by decide) ?_))), hcn, nobor, (by exact Nat.le_of_ble_eq_true rfl), ?_⟩)
    ((conv => whnf); repeat' ((first | refine ⟨rfl, ?_⟩ | refine ⟨_, row_map (by assumption), ?_⟩ | refine ⟨_, (by exact some_rfl), ?_⟩ | refine ⟨_, wrap_ok (by omega) (by omega), ?_⟩ | refine ⟨_, wrap_u64 (by omega) (by omega), ?_⟩ | refine ⟨by decide, _, fdiv_half (by omega), ?_⟩ | (intro gg)); (conv => whnf)))
    (refine bIf_of (fun h2 => ?_) (fun h2 => ?_) <;> rw [h2]; rotate_left; focus (exfalso; have h3 : ckRu l = 0 := (by simpa using h2); exact hck h3))
    ((conv => whnf); repeat' ((first | refine ⟨rfl, ?_⟩ | refine ⟨_, row_map (by assumption), ?_⟩ | refine ⟨_, (by exact some_rfl), ?_⟩ | refine ⟨_, wrap_ok (by omega) (by omega), ?_⟩ | refine ⟨_, wrap_u64 (by omega) (by omega), ?_⟩ | refine ⟨by decide, _, fdiv_half (by omega), ?_⟩ | (intro gg)); (conv => whnf)))
    (refine .inl ⟨_, _, false, [], (by (repeat' (first | exact ArgsOk.nil _ | exact argsOk_cells (by assumption) | refine ArgsOk.same (by first | exact cl_b rfl | exact cl_list | exact cl_nil | exact cl_one | exact cl_ll1 | exact cl_ll2 | exact cl_clo (by assumption)) ?_ | refine ArgsOk.nilsl _ ?_ | refine ArgsOk.nilown _ _ (by decide) ?_ | refine ArgsOk.borp rfl rfl rfl (cl_row rfl) (by decide) ?_ | refine ArgsOk.borc (by (repeat' (first | exact cap_n | refine cap_p rfl rfl rfl (by first | exact cl_row rfl | exact cl_r1 rfl | exact cl_r1b) ?_ ?_ | refine cap_m rfl (by decide) ?_ | refine cap_c (by first | exact cl_b rfl | exact cl_list | exact cl_nil | exact cl_one | exact cl_ll1 | exact cl_ll2 | exact cl_clo (by assumption)) ?_ | decide))) ?_ | refine ArgsOk.bor rfl rfl (deref_flat (by first | exact cl_rs rfl | exact cl_rows | exact cl_setB rfl | exact cl_setG (cl_setB rfl) rfl | exact cl_appB cl_rows (cl_rs rfl) | exact cl_rl1 | exact cl_rl2)) (by decide) ?_ | refine give' rfl (by first | exact cl_rs rfl | exact cl_rows | exact cl_setB rfl | exact cl_setG (cl_setB rfl) rfl | exact cl_appB cl_rows (cl_rs rfl) | exact cl_rl1 | exact cl_rl2) (by decide) (by decide) ?_))), rruCheck_fun false l hl hw, nobor, (by exact Nat.le_of_ble_eq_true rfl), ?_⟩)
    ((conv => whnf); repeat' ((first | refine ⟨rfl, ?_⟩ | refine ⟨_, row_map (by assumption), ?_⟩ | refine ⟨_, (by exact some_rfl), ?_⟩ | refine ⟨_, wrap_ok (by omega) (by omega), ?_⟩ | refine ⟨_, wrap_u64 (by omega) (by omega), ?_⟩ | refine ⟨by decide, _, fdiv_half (by omega), ?_⟩ | (intro gg)); (conv => whnf)))
    rw [show (ckRu l != 0) = true from bne_iff_ne.2 hck]
    (exact ⟨[], by (repeat' (first | exact ArgsOk.nil _ | exact argsOk_cells (by assumption) | refine ArgsOk.same (by first | exact cl_b rfl | exact cl_list | exact cl_nil | exact cl_one | exact cl_ll1 | exact cl_ll2 | exact cl_clo (by assumption)) ?_ | refine ArgsOk.nilsl _ ?_ | refine ArgsOk.nilown _ _ (by decide) ?_ | refine ArgsOk.borp rfl rfl rfl (cl_row rfl) (by decide) ?_ | refine ArgsOk.borc (by %caps) ?_ | refine ArgsOk.bor rfl rfl (deref_flat (by first | exact cl_rs rfl | exact cl_rows | exact cl_setB rfl | exact cl_setG (cl_setB rfl) rfl | exact cl_appB cl_rows (cl_rs rfl) | exact cl_rl1 | exact cl_rl2)) (by decide) ?_ | refine give' rfl (by first | exact cl_rs rfl | exact cl_rows | exact cl_setB rfl | exact cl_setG (cl_setB rfl) rfl | exact cl_appB cl_rows (cl_rs rfl) | exact cl_rl1 | exact cl_rl2) (by decide) (by decide) ?_))⟩)

--FRAME
theorem own : ownKnob Try.prog.godebug = none := by kernel_rfl

set_option maxRecDepth 100000 in
theorem lifted (os : Os) (started : os.Started) (H : Type) (enc : TypeId × Value → H) :
    ReturnsInHanded {} Try.checked os 6 .any (Rows.rumorEndsSpec.pre6 enc Try.prog Try.f6 Rows.rumorEndsRow.domain false) (Rows.rumorEndsSpec.post enc Try.prog Try.f6 false true false false) := by
  refine returnsInHanded_of_change_sized (C := Try.checked) own started (by kernel_rfl) Try.func6
    (ChangeSpec.witness6 (enc := enc) (C := Try.checked) false ⟨#[], #[.slice none 0 0, .int .i64 0, .int .i64 0], []⟩ 8 (by kernel_rfl) (by kernel_rfl) (by kernel_rfl) (by kernel_rfl)) ?_
  intro W base args ds gs before hval0 hW hcnd hsz _
  have hval : ∀ (j : Nat) t v, Try.f6.params[j]? = some t → args[j]? = some v → Value.okWide Try.prog W .any base t v := hval0
  have hW' := hW
  obtain ⟨p, q, hA0, hV, rfl, hfz, hnd⟩ := hW
  have hA : DataW.TrodAll enc Try.prog W 0 (fun _ => true) true Try.f6.params.toList args.toList ds p := hA0
  rw [Try.params6] at hA hval
  obtain ⟨v0, vs0, d0, ds0, p0, q0, hargs, rfl, rfl, h0, r0⟩ := trodAll_cons hA
  obtain ⟨v1, vs1, d1, ds1, p1, q1, rfl, rfl, rfl, h1, r1⟩ := trodAll_cons r0
  obtain ⟨v2, vs2, d2, ds2, p2, q2, rfl, rfl, rfl, h2, r2⟩ := trodAll_cons r1
  obtain ⟨rfl, rfl, rfl⟩ := trodAll_nil r2
  obtain rfl : args = #[v0, v1, v2] := by cases args; simp_all
  obtain ⟨rfl, rfl⟩ := trodVars_none hV
  obtain ⟨u0, f0, rv0⟩ := open_list (dp := 5) Try.underlying36 (by kernel_rfl) (hval 0 36 v0 rfl rfl) h0
  obtain ⟨l0, rfl, ln0, lw0⟩ := fit_list ru_dec f0
  obtain ⟨a1, rfl, rfl, rfl, w1⟩ := open_int Try.underlying3 (hval 1 3 v1 rfl rfl) h1
  obtain ⟨a2, rfl, rfl, rfl, w2⟩ := open_int Try.underlying3 (hval 2 3 v2 rfl rfl) h2
  have z0 := list_sz Try.underlying36 h0 rv0 (j := 0) hsz (by rw [Try.params6]; rfl) rfl
  rw [show Try.prog.bytesOf 55 = 56 by kernel_rfl, List.length_map] at z0
  clear hA0 hval0
  refine (tieL (us := [_, _, _]) (xs := [_, _, _]) (w := W) (law l0 a1 a2 ln0 lw0 (by simpa [Lit.wf, IntKind.min, IntKind.max, IntKind.signed, IntKind.bits] using w1) (by simpa [Lit.wf, IntKind.min, IntKind.max, IntKind.signed, IntKind.bits] using w2) (by omega)) ⟨rv0, RV.v _, RV.v _, trivial⟩).mono fun e W' ⟨he, hg⟩ => ?_
  subst he
  exact ⟨_, rfl, law_post hW' (by kernel_rfl) (by rw [Try.params6]; exact of_decide_eq_true (by kernel_rfl)) rfl rfl (by kernel_rfl) Try.underlying4 hg⟩

theorem over : Rows.rumorEndsRow.holds Try.pinned (OpenSpec.ofChange Rows.rumorEndsSpec) :=
  OpenClaim.holds_of_wide 6 Try.f6 rfl rfl rfl rfl rfl rfl rfl ⟨rfl, rfl, rfl, rfl, rfl⟩ rfl rfl rfl rfl rfl (by kernel_rfl) Try.func6 (by kernel_rfl)
    (of_decide_eq_true (by kernel_rfl)) (by unfold Func.isWrapper; first | (rw [if_pos (by decide +kernel)]; kernel_rfl) | (rw [if_neg (by decide +kernel)]; exact ⟨rfl, rfl⟩))
    (fun os started H enc _ => lifted os started H enc)

/-- the statement -/
theorem proved : Rows.RumorEndsSaid := over
#print axioms proved
end Go.Proofs.Ytjhdlcmecbngkaa.rumorEnds
