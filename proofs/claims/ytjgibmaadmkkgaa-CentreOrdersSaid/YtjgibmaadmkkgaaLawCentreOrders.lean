/- CentreOrders: whoever joins the same, in whatever order, has the same table; no condition. -/
import Derived.Test.YtjgibmaadmkkgaaGwH
import Derived.Test.YtjgibmaadmkkgaaGwO
import Derived.Test.YtjgibmaadmkkgaaLaw
namespace Go.Proofs.Ytjgibmaadmkkgaa.centreOrders
open Go.Joins Go.ChangeShapes Go.WideShapes Go.ChangeAt Go.RowKit Pl
set_option linter.unusedVariables false
theorem law (a b : List Gw) (here : ByteArray) (ha : a.length ≤ 9223372036854775807) (haw : ∀ x ∈ a, x.ok) (hb : b.length ≤ 9223372036854775807) (hbw : ∀ x ∈ b, x.ok) (hh : here.size ≤ 9223372036854775807) :
    Fun Try.prog 14 [.c (.sl false (a.map Gw.row)), .c (.sl false (b.map Gw.row)), .c (.v (.string here))] [.c (.v (.bool true))] := by
  have js := PlG.join_sym (a := a) (b := b)
  have pw : ∀ x ∈ (joinG a b).2, x.ok := fun x hx => by rcases PlG.join_mem hx with h | h; exact haw x h; exact hbw x h
  have L1 := PlG.join_len (a := a) (b := b)
  have H1 := gJoin_fun a b ha hb haw hbw
  have H2 := gJoin_fun b a hb ha hbw haw
  rw [js.1] at H2
  refine fun_x ck_hearsaylaw_CentreOrders rfl ?_
  ((conv => whnf); repeat' ((first | refine ⟨rfl, ?_⟩ | refine ⟨_, row_map (by assumption), ?_⟩ | refine ⟨_, (by exact some_rfl), ?_⟩ | refine ⟨_, wrap_ok (by omega) (by omega), ?_⟩ | refine ⟨_, wrap_u64 (by omega) (by omega), ?_⟩ | refine ⟨by decide, _, fdiv_half (by omega), ?_⟩ | (intro gg)); (conv => whnf)))
  (refine ⟨_, _, false, [], (by (repeat' (first | exact ArgsOk.nil _ | refine ArgsOk.same (by first | exact cl_b rfl | exact cl_list | exact cl_nil | exact cl_one | exact cl_ll1 | exact cl_ll2) ?_ | refine ArgsOk.nilsl _ ?_ | refine ArgsOk.nilown _ _ (by decide) ?_ | refine ArgsOk.bor rfl rfl (deref_flat (by first | exact cl_rs rfl | exact cl_rows | exact cl_setB rfl | exact cl_setG (cl_setB rfl) rfl | exact cl_appB cl_rows (cl_rs rfl) | exact cl_rl1 | exact cl_rl2)) (by decide) ?_ | refine give' rfl (by first | exact cl_rs rfl | exact cl_rows | exact cl_setB rfl | exact cl_setG (cl_setB rfl) rfl | exact cl_appB cl_rows (cl_rs rfl) | exact cl_rl1 | exact cl_rl2) (by decide) (by decide) ?_))), gbegun_fun, nobor, (by exact Nat.le_of_ble_eq_true rfl), ?_⟩)
  ((conv => whnf); repeat' ((first | refine ⟨rfl, ?_⟩ | refine ⟨_, row_map (by assumption), ?_⟩ | refine ⟨_, (by exact some_rfl), ?_⟩ | refine ⟨_, wrap_ok (by omega) (by omega), ?_⟩ | refine ⟨_, wrap_u64 (by omega) (by omega), ?_⟩ | refine ⟨by decide, _, fdiv_half (by omega), ?_⟩ | (intro gg)); (conv => whnf)))
  (refine ⟨_, _, false, [], (by (repeat' (first | exact ArgsOk.nil _ | refine ArgsOk.same (by first | exact cl_b rfl | exact cl_list | exact cl_nil | exact cl_one | exact cl_ll1 | exact cl_ll2) ?_ | refine ArgsOk.nilsl _ ?_ | refine ArgsOk.nilown _ _ (by decide) ?_ | refine ArgsOk.bor rfl rfl (deref_flat (by first | exact cl_rs rfl | exact cl_rows | exact cl_setB rfl | exact cl_setG (cl_setB rfl) rfl | exact cl_appB cl_rows (cl_rs rfl) | exact cl_rl1 | exact cl_rl2)) (by decide) ?_ | refine give' rfl (by first | exact cl_rs rfl | exact cl_rows | exact cl_setB rfl | exact cl_setG (cl_setB rfl) rfl | exact cl_appB cl_rows (cl_rs rfl) | exact cl_rl1 | exact cl_rl2) (by decide) (by decide) ?_))), H1, nobor, (by exact Nat.le_of_ble_eq_true rfl), ?_⟩)
  ((conv => whnf); repeat' ((first | refine ⟨rfl, ?_⟩ | refine ⟨_, row_map (by assumption), ?_⟩ | refine ⟨_, (by exact some_rfl), ?_⟩ | refine ⟨_, wrap_ok (by omega) (by omega), ?_⟩ | refine ⟨_, wrap_u64 (by omega) (by omega), ?_⟩ | refine ⟨by decide, _, fdiv_half (by omega), ?_⟩ | (intro gg)); (conv => whnf)))
  (refine ⟨_, _, false, [], (by (repeat' (first | exact ArgsOk.nil _ | refine ArgsOk.same (by first | exact cl_b rfl | exact cl_list | exact cl_nil | exact cl_one | exact cl_ll1 | exact cl_ll2) ?_ | refine ArgsOk.nilsl _ ?_ | refine ArgsOk.nilown _ _ (by decide) ?_ | refine ArgsOk.bor rfl rfl (deref_flat (by first | exact cl_rs rfl | exact cl_rows | exact cl_setB rfl | exact cl_setG (cl_setB rfl) rfl | exact cl_appB cl_rows (cl_rs rfl) | exact cl_rl1 | exact cl_rl2)) (by decide) ?_ | refine give' rfl (by first | exact cl_rs rfl | exact cl_rows | exact cl_setB rfl | exact cl_setG (cl_setB rfl) rfl | exact cl_appB cl_rows (cl_rs rfl) | exact cl_rl1 | exact cl_rl2) (by decide) (by decide) ?_))), H2, nobor, (by exact Nat.le_of_ble_eq_true rfl), ?_⟩)
  ((conv => whnf); repeat' ((first | refine ⟨rfl, ?_⟩ | refine ⟨_, row_map (by assumption), ?_⟩ | refine ⟨_, (by exact some_rfl), ?_⟩ | refine ⟨_, wrap_ok (by omega) (by omega), ?_⟩ | refine ⟨_, wrap_u64 (by omega) (by omega), ?_⟩ | refine ⟨by decide, _, fdiv_half (by omega), ?_⟩ | (intro gg)); (conv => whnf)))
  (refine bIf_of (fun h1 => ?_) (fun h1 => ?_) <;> rw [h1])
  · ((conv => whnf); repeat' ((first | refine ⟨rfl, ?_⟩ | refine ⟨_, row_map (by assumption), ?_⟩ | refine ⟨_, (by exact some_rfl), ?_⟩ | refine ⟨_, wrap_ok (by omega) (by omega), ?_⟩ | refine ⟨_, wrap_u64 (by omega) (by omega), ?_⟩ | refine ⟨by decide, _, fdiv_half (by omega), ?_⟩ | (intro gg)); (conv => whnf)))
    rw [js.2, beq_self_eq_true]
    ((conv => whnf); repeat' ((first | refine ⟨rfl, ?_⟩ | refine ⟨_, row_map (by assumption), ?_⟩ | refine ⟨_, (by exact some_rfl), ?_⟩ | refine ⟨_, wrap_ok (by omega) (by omega), ?_⟩ | refine ⟨_, wrap_u64 (by omega) (by omega), ?_⟩ | refine ⟨by decide, _, fdiv_half (by omega), ?_⟩ | (intro gg)); (conv => whnf)))
    (exact ⟨[], by (repeat' (first | exact ArgsOk.nil _ | refine ArgsOk.same (by first | exact cl_b rfl | exact cl_list | exact cl_nil | exact cl_one | exact cl_ll1 | exact cl_ll2) ?_ | refine ArgsOk.nilsl _ ?_ | refine ArgsOk.nilown _ _ (by decide) ?_ | refine ArgsOk.bor rfl rfl (deref_flat (by first | exact cl_rs rfl | exact cl_rows | exact cl_setB rfl | exact cl_setG (cl_setB rfl) rfl | exact cl_appB cl_rows (cl_rs rfl) | exact cl_rl1 | exact cl_rl2)) (by decide) ?_ | refine give' rfl (by first | exact cl_rs rfl | exact cl_rows | exact cl_setB rfl | exact cl_setG (cl_setB rfl) rfl | exact cl_appB cl_rows (cl_rs rfl) | exact cl_rl1 | exact cl_rl2) (by decide) (by decide) ?_))⟩)
  · have h1' : (joinG a b).1 = 0 := by simpa using h1
    obtain ⟨hca, hcb, hn, e⟩ := PlG.join_inv h1'
    have hcP : ckGw (joinG a b).2 = 0 := by rw [e]; exact PlG.ck_join hca hcb (by omega)
    ((conv => whnf); repeat' ((first | refine ⟨rfl, ?_⟩ | refine ⟨_, row_map (by assumption), ?_⟩ | refine ⟨_, (by exact some_rfl), ?_⟩ | refine ⟨_, wrap_ok (by omega) (by omega), ?_⟩ | refine ⟨_, wrap_u64 (by omega) (by omega), ?_⟩ | refine ⟨by decide, _, fdiv_half (by omega), ?_⟩ | (intro gg)); (conv => whnf)))
    (refine bIf_of (fun h2 => ?_) (fun h2 => ?_) <;> rw [h2])
    · exfalso
      have h3 := js.2
      rw [h1'] at h3
      have h4 : (joinG b a).1 = 0 := by simpa using h3
      rw [h4] at h2; simp at h2
    · ((conv => whnf); repeat' ((first | refine ⟨rfl, ?_⟩ | refine ⟨_, row_map (by assumption), ?_⟩ | refine ⟨_, (by exact some_rfl), ?_⟩ | refine ⟨_, wrap_ok (by omega) (by omega), ?_⟩ | refine ⟨_, wrap_u64 (by omega) (by omega), ?_⟩ | refine ⟨by decide, _, fdiv_half (by omega), ?_⟩ | (intro gg)); (conv => whnf)))
      generalize (joinG a b).2 = P at *
      have hN := fun r hr => PlG.next_tab (here := here) hcP (r := r) hr
      have hlt := tabG_len P here
      (refine ⟨_, _, false, [], (by (repeat' (first | exact ArgsOk.nil _ | refine ArgsOk.same (by first | exact cl_b rfl | exact cl_list | exact cl_nil | exact cl_one | exact cl_ll1 | exact cl_ll2) ?_ | refine ArgsOk.nilsl _ ?_ | refine ArgsOk.nilown _ _ (by decide) ?_ | refine ArgsOk.bor rfl rfl (deref_flat (by first | exact cl_rs rfl | exact cl_rows | exact cl_setB rfl | exact cl_setG (cl_setB rfl) rfl | exact cl_appB cl_rows (cl_rs rfl) | exact cl_rl1 | exact cl_rl2)) (by decide) ?_ | refine give' rfl (by first | exact cl_rs rfl | exact cl_rows | exact cl_setB rfl | exact cl_setG (cl_setB rfl) rfl | exact cl_appB cl_rows (cl_rs rfl) | exact cl_rl1 | exact cl_rl2) (by decide) (by decide) ?_))), gTable_fun P here (by omega) pw hh, nobor, (by exact Nat.le_of_ble_eq_true rfl), ?_⟩)
      ((conv => whnf); repeat' ((first | refine ⟨rfl, ?_⟩ | refine ⟨_, row_map (by assumption), ?_⟩ | refine ⟨_, (by exact some_rfl), ?_⟩ | refine ⟨_, wrap_ok (by omega) (by omega), ?_⟩ | refine ⟨_, wrap_u64 (by omega) (by omega), ?_⟩ | refine ⟨by decide, _, fdiv_half (by omega), ?_⟩ | (intro gg)); (conv => whnf)))
      (refine ⟨_, _, false, [], (by (repeat' (first | exact ArgsOk.nil _ | refine ArgsOk.same (by first | exact cl_b rfl | exact cl_list | exact cl_nil | exact cl_one | exact cl_ll1 | exact cl_ll2) ?_ | refine ArgsOk.nilsl _ ?_ | refine ArgsOk.nilown _ _ (by decide) ?_ | refine ArgsOk.bor rfl rfl (deref_flat (by first | exact cl_rs rfl | exact cl_rows | exact cl_setB rfl | exact cl_setG (cl_setB rfl) rfl | exact cl_appB cl_rows (cl_rs rfl) | exact cl_rl1 | exact cl_rl2)) (by decide) ?_ | refine give' rfl (by first | exact cl_rs rfl | exact cl_rows | exact cl_setB rfl | exact cl_setG (cl_setB rfl) rfl | exact cl_appB cl_rows (cl_rs rfl) | exact cl_rl1 | exact cl_rl2) (by decide) (by decide) ?_))), gTable_fun P here (by omega) pw hh, nobor, (by exact Nat.le_of_ble_eq_true rfl), ?_⟩)
      ((conv => whnf); repeat' ((first | refine ⟨rfl, ?_⟩ | refine ⟨_, row_map (by assumption), ?_⟩ | refine ⟨_, (by exact some_rfl), ?_⟩ | refine ⟨_, wrap_ok (by omega) (by omega), ?_⟩ | refine ⟨_, wrap_u64 (by omega) (by omega), ?_⟩ | refine ⟨by decide, _, fdiv_half (by omega), ?_⟩ | (intro gg)); (conv => whnf)))
      rw [bne_self_eq_false]
      ((conv => whnf); repeat' ((first | refine ⟨rfl, ?_⟩ | refine ⟨_, row_map (by assumption), ?_⟩ | refine ⟨_, (by exact some_rfl), ?_⟩ | refine ⟨_, wrap_ok (by omega) (by omega), ?_⟩ | refine ⟨_, wrap_u64 (by omega) (by omega), ?_⟩ | refine ⟨by decide, _, fdiv_half (by omega), ?_⟩ | (intro gg)); (conv => whnf)))
      rw [bne_self_eq_false]
      ((conv => whnf); repeat' ((first | refine ⟨rfl, ?_⟩ | refine ⟨_, row_map (by assumption), ?_⟩ | refine ⟨_, (by exact some_rfl), ?_⟩ | refine ⟨_, wrap_ok (by omega) (by omega), ?_⟩ | refine ⟨_, wrap_u64 (by omega) (by omega), ?_⟩ | refine ⟨by decide, _, fdiv_half (by omega), ?_⟩ | (intro gg)); (conv => whnf)))
      (refine ⟨_, _, false, [], (by (repeat' (first | exact ArgsOk.nil _ | refine ArgsOk.same (by first | exact cl_b rfl | exact cl_list | exact cl_nil | exact cl_one | exact cl_ll1 | exact cl_ll2) ?_ | refine ArgsOk.nilsl _ ?_ | refine ArgsOk.nilown _ _ (by decide) ?_ | refine ArgsOk.bor rfl rfl (deref_flat (by first | exact cl_rs rfl | exact cl_rows | exact cl_setB rfl | exact cl_setG (cl_setB rfl) rfl | exact cl_appB cl_rows (cl_rs rfl) | exact cl_rl1 | exact cl_rl2)) (by decide) ?_ | refine give' rfl (by first | exact cl_rs rfl | exact cl_rows | exact cl_setB rfl | exact cl_setG (cl_setB rfl) rfl | exact cl_appB cl_rows (cl_rs rfl) | exact cl_rl1 | exact cl_rl2) (by decide) (by decide) ?_))), gsame_fun false false P P (by omega), nobor, (by exact Nat.le_of_ble_eq_true rfl), ?_⟩)
      rw [sameL_refl (fun x => Gw.same_iff.2 rfl) P]
      ((conv => whnf); repeat' ((first | refine ⟨rfl, ?_⟩ | refine ⟨_, row_map (by assumption), ?_⟩ | refine ⟨_, (by exact some_rfl), ?_⟩ | refine ⟨_, wrap_ok (by omega) (by omega), ?_⟩ | refine ⟨_, wrap_u64 (by omega) (by omega), ?_⟩ | refine ⟨by decide, _, fdiv_half (by omega), ?_⟩ | (intro gg)); (conv => whnf)))
      generalize (tabG P here).2 = T at *
      (refine ⟨[], none, {k : Nat // k ≤ T.length}, [2, 7, 11, 12], fun ⟨k, hk⟩ => [(13, .v (.int .i64 k))], [], fun ⟨k, hk⟩ => [], fun ⟨k, hk⟩ => T.length - k, trivial, fun _ => ⟨trivial, fun _ => ⟨⟨0, by omega⟩, by (repeat' (first | exact trivial | refine ⟨rfl, ?_⟩)), keptE_refl _ _, by (repeat' (first | exact trivial | refine ⟨rfl, ?_⟩)), keptH_refl _ _⟩⟩, fun ⟨k, hk⟩ => ?_⟩)
      ((conv => whnf); repeat' ((first | refine ⟨rfl, ?_⟩ | refine ⟨_, row_map (by assumption), ?_⟩ | refine ⟨_, (by exact some_rfl), ?_⟩ | refine ⟨_, wrap_ok (by omega) (by omega), ?_⟩ | refine ⟨_, wrap_u64 (by omega) (by omega), ?_⟩ | refine ⟨by decide, _, fdiv_half (by omega), ?_⟩ | (intro gg)); (conv => whnf)))
      rw [List.length_map]
      (refine bIf_of (fun h3 => ?_) (fun h3 => ?_) <;> rw [h3])
      · have hlk : k < T.length := (by have := of_decide_eq_true h3; omega)
        obtain ⟨hx, g, hg, hgc⟩ := hN _ (List.getElem_mem hlk)
        have hok : T[k].c.size ≤ 9223372036854775807 := by rw [hgc]; exact pw g hg
        have HX := gNext_fun P here T[k].c (by omega) pw hh hok
        rw [hx] at HX
        ((conv => whnf); repeat' ((first | refine ⟨rfl, ?_⟩ | refine ⟨_, row_map (by assumption), ?_⟩ | refine ⟨_, (by exact some_rfl), ?_⟩ | refine ⟨_, wrap_ok (by omega) (by omega), ?_⟩ | refine ⟨_, wrap_u64 (by omega) (by omega), ?_⟩ | refine ⟨by decide, _, fdiv_half (by omega), ?_⟩ | (intro gg)); (conv => whnf)))
        refine ⟨k, _, rfl, row_map hlk, ?_⟩
        ((conv => whnf); repeat' ((first | refine ⟨rfl, ?_⟩ | refine ⟨_, row_map (by assumption), ?_⟩ | refine ⟨_, (by exact some_rfl), ?_⟩ | refine ⟨_, wrap_ok (by omega) (by omega), ?_⟩ | refine ⟨_, wrap_u64 (by omega) (by omega), ?_⟩ | refine ⟨by decide, _, fdiv_half (by omega), ?_⟩ | (intro gg)); (conv => whnf)))
        (refine ⟨_, _, false, [], (by (repeat' (first | exact ArgsOk.nil _ | refine ArgsOk.same (by first | exact cl_b rfl | exact cl_list | exact cl_nil | exact cl_one | exact cl_ll1 | exact cl_ll2) ?_ | refine ArgsOk.nilsl _ ?_ | refine ArgsOk.nilown _ _ (by decide) ?_ | refine ArgsOk.bor rfl rfl (deref_flat (by first | exact cl_rs rfl | exact cl_rows | exact cl_setB rfl | exact cl_setG (cl_setB rfl) rfl | exact cl_appB cl_rows (cl_rs rfl) | exact cl_rl1 | exact cl_rl2)) (by decide) ?_ | refine give' rfl (by first | exact cl_rs rfl | exact cl_rows | exact cl_setB rfl | exact cl_setG (cl_setB rfl) rfl | exact cl_appB cl_rows (cl_rs rfl) | exact cl_rl1 | exact cl_rl2) (by decide) (by decide) ?_))), HX, nobor, (by exact Nat.le_of_ble_eq_true rfl), ?_⟩)
        ((conv => whnf); repeat' ((first | refine ⟨rfl, ?_⟩ | refine ⟨_, row_map (by assumption), ?_⟩ | refine ⟨_, (by exact some_rfl), ?_⟩ | refine ⟨_, wrap_ok (by omega) (by omega), ?_⟩ | refine ⟨_, wrap_u64 (by omega) (by omega), ?_⟩ | refine ⟨by decide, _, fdiv_half (by omega), ?_⟩ | (intro gg)); (conv => whnf)))
        refine ⟨k, _, rfl, row_map hlk, ?_⟩
        ((conv => whnf); repeat' ((first | refine ⟨rfl, ?_⟩ | refine ⟨_, row_map (by assumption), ?_⟩ | refine ⟨_, (by exact some_rfl), ?_⟩ | refine ⟨_, wrap_ok (by omega) (by omega), ?_⟩ | refine ⟨_, wrap_u64 (by omega) (by omega), ?_⟩ | refine ⟨by decide, _, fdiv_half (by omega), ?_⟩ | (intro gg)); (conv => whnf)))
        refine ⟨k, _, rfl, row_map hlk, ?_⟩
        ((conv => whnf); repeat' ((first | refine ⟨rfl, ?_⟩ | refine ⟨_, row_map (by assumption), ?_⟩ | refine ⟨_, (by exact some_rfl), ?_⟩ | refine ⟨_, wrap_ok (by omega) (by omega), ?_⟩ | refine ⟨_, wrap_u64 (by omega) (by omega), ?_⟩ | refine ⟨by decide, _, fdiv_half (by omega), ?_⟩ | (intro gg)); (conv => whnf)))
        (refine bIf_of (fun h4 => ?_) (fun h4 => ?_) <;> rw [h4])
        · have h5 := not_t (b := Rt.same T[k] T[k]) h4
          rw [Rt.same_iff.2 rfl] at h5; cases h5
        · ((conv => whnf); repeat' ((first | refine ⟨rfl, ?_⟩ | refine ⟨_, row_map (by assumption), ?_⟩ | refine ⟨_, (by exact some_rfl), ?_⟩ | refine ⟨_, wrap_ok (by omega) (by omega), ?_⟩ | refine ⟨_, wrap_u64 (by omega) (by omega), ?_⟩ | refine ⟨by decide, _, fdiv_half (by omega), ?_⟩ | (intro gg)); (conv => whnf)))
          refine ⟨k, _, rfl, row_map hlk, ?_⟩
          ((conv => whnf); repeat' ((first | refine ⟨rfl, ?_⟩ | refine ⟨_, row_map (by assumption), ?_⟩ | refine ⟨_, (by exact some_rfl), ?_⟩ | refine ⟨_, wrap_ok (by omega) (by omega), ?_⟩ | refine ⟨_, wrap_u64 (by omega) (by omega), ?_⟩ | refine ⟨by decide, _, fdiv_half (by omega), ?_⟩ | (intro gg)); (conv => whnf)))
          rw [bne_self_eq_false]
          ((conv => whnf); repeat' ((first | refine ⟨rfl, ?_⟩ | refine ⟨_, row_map (by assumption), ?_⟩ | refine ⟨_, (by exact some_rfl), ?_⟩ | refine ⟨_, wrap_ok (by omega) (by omega), ?_⟩ | refine ⟨_, wrap_u64 (by omega) (by omega), ?_⟩ | refine ⟨by decide, _, fdiv_half (by omega), ?_⟩ | (intro gg)); (conv => whnf)))
          (exact ⟨none, trivial, fun _ => ⟨⟨k + 1, by omega⟩, by show T.length - (k + 1) < T.length - k; omega, by (repeat' (first | exact trivial | refine ⟨rfl, ?_⟩)), by (repeat' (first | exact trivial | refine ⟨rfl, ?_⟩)), by (repeat' (first | exact trivial | refine ⟨rfl, ?_⟩)), by (repeat' (first | exact trivial | refine ⟨rfl, ?_⟩))⟩⟩)
      · ((conv => whnf); repeat' ((first | refine ⟨rfl, ?_⟩ | refine ⟨_, row_map (by assumption), ?_⟩ | refine ⟨_, (by exact some_rfl), ?_⟩ | refine ⟨_, wrap_ok (by omega) (by omega), ?_⟩ | refine ⟨_, wrap_u64 (by omega) (by omega), ?_⟩ | refine ⟨by decide, _, fdiv_half (by omega), ?_⟩ | (intro gg)); (conv => whnf)))
        (exact ⟨[], by (repeat' (first | exact ArgsOk.nil _ | refine ArgsOk.same (by first | exact cl_b rfl | exact cl_list | exact cl_nil | exact cl_one | exact cl_ll1 | exact cl_ll2) ?_ | refine ArgsOk.nilsl _ ?_ | refine ArgsOk.nilown _ _ (by decide) ?_ | refine ArgsOk.bor rfl rfl (deref_flat (by first | exact cl_rs rfl | exact cl_rows | exact cl_setB rfl | exact cl_setG (cl_setB rfl) rfl | exact cl_appB cl_rows (cl_rs rfl) | exact cl_rl1 | exact cl_rl2)) (by decide) ?_ | refine give' rfl (by first | exact cl_rs rfl | exact cl_rows | exact cl_setB rfl | exact cl_setG (cl_setB rfl) rfl | exact cl_appB cl_rows (cl_rs rfl) | exact cl_rl1 | exact cl_rl2) (by decide) (by decide) ?_))⟩)
--FRAME
theorem own : ownKnob Try.prog.godebug = none := by kernel_rfl

set_option maxRecDepth 100000 in
theorem lifted (os : Os) (started : os.Started) (H : Type) (enc : TypeId × Value → H) :
    ReturnsInHanded {} Try.checked os 14 .any (Rows.centreOrdersSpec.pre6 enc Try.prog Try.f14 Rows.centreOrdersRow.domain false) (Rows.centreOrdersSpec.post enc Try.prog Try.f14 false true false false) := by
  refine returnsInHanded_of_change (C := Try.checked) own started (by kernel_rfl) Try.func14
    (ChangeSpec.witness6 (enc := enc) (C := Try.checked) false ⟨#[], #[.slice none 0 0, .slice none 0 0, .string ⟨#[]⟩], []⟩ 8 (by kernel_rfl) (by kernel_rfl) (by kernel_rfl) (by kernel_rfl)) ?_
  intro W base args ds gs before hval0 hW hcnd hsz
  have hval : ∀ (j : Nat) t v, Try.f14.params[j]? = some t → args[j]? = some v → Value.okWide Try.prog W .any base t v := hval0
  have hW' := hW
  obtain ⟨p, q, hA0, hV, rfl, hfz, hnd⟩ := hW
  have hA : DataW.TrodAll enc Try.prog W 0 (fun _ => true) true Try.f14.params.toList args.toList ds p := hA0
  rw [Try.params14] at hA hval
  obtain ⟨v0, vs0, d0, ds0, p0, q0, hargs, rfl, rfl, h0, r0⟩ := trodAll_cons hA
  obtain ⟨v1, vs1, d1, ds1, p1, q1, rfl, rfl, rfl, h1, r1⟩ := trodAll_cons r0
  obtain ⟨v2, vs2, d2, ds2, p2, q2, rfl, rfl, rfl, h2, r2⟩ := trodAll_cons r1
  obtain ⟨rfl, rfl, rfl⟩ := trodAll_nil r2
  obtain rfl : args = #[v0, v1, v2] := by cases args; simp_all
  obtain ⟨rfl, rfl⟩ := trodVars_none hV
  obtain ⟨u0, f0, rv0⟩ := open_list (dp := 5) Try.underlying22 (by kernel_rfl) (hval 0 22 v0 rfl rfl) h0
  obtain ⟨l0, rfl, ln0, lw0⟩ := fit_list gw_dec f0
  obtain ⟨u1, f1, rv1⟩ := open_list (dp := 5) Try.underlying22 (by kernel_rfl) (hval 1 22 v1 rfl rfl) h1
  obtain ⟨l1, rfl, ln1, lw1⟩ := fit_list gw_dec f1
  obtain ⟨a2, rfl, rfl, rfl, w2⟩ := Go.ChangeMaps.open_string Try.underlying9 (hval 2 9 v2 rfl rfl) h2
  clear hA0 hval0
  refine (tieL (us := [_, _, _]) (xs := [_, _, _]) (w := W) (law l0 l1 a2 ln0 lw0 ln1 lw1 (by simpa [maxLen] using w2)) ⟨rv0, rv1, RV.v _, trivial⟩).mono fun e W' ⟨he, hg⟩ => ?_
  subst he
  exact ⟨_, rfl, law_post hW' (by kernel_rfl) (by rw [Try.params14]; exact of_decide_eq_true (by kernel_rfl)) rfl rfl (by kernel_rfl) Try.underlying4 hg⟩

theorem over : Rows.centreOrdersRow.holds Try.pinned (OpenSpec.ofChange Rows.centreOrdersSpec) :=
  OpenClaim.holds_of_wide 14 Try.f14 rfl rfl rfl rfl rfl rfl rfl ⟨rfl, rfl, rfl, rfl, rfl⟩ rfl rfl rfl rfl rfl (by kernel_rfl) Try.func14 (by kernel_rfl)
    (of_decide_eq_true (by kernel_rfl)) (by unfold Func.isWrapper; first | (rw [if_pos (by decide +kernel)]; kernel_rfl) | (rw [if_neg (by decide +kernel)]; exact ⟨rfl, rfl⟩))
    (fun os started H enc _ => lifted os started H enc)

/-- the statement -/
theorem proved : Rows.CentreOrdersSaid := over
#print axioms proved
end Go.Proofs.Ytjgibmaadmkkgaa.centreOrders
