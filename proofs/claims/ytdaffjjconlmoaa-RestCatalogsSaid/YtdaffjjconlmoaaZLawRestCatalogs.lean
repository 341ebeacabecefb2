/- RestCatalogs: whatever services, gateways and names come in, what the functions give may be spoilt, and comes again; no condition. -/
import Derived.Shelf.SlSortCmp.NoneTotal
import Derived.Shelf.SlGeneric
import Derived.Test.YtdaffjjconlmoaaProg
import Derived.SizedLaws
import Derived.Deep.Slices
import Derived.Test.YtdaffjjconlmoaaZa
import Derived.Test.YtdaffjjconlmoaaZb
/- Contracts of the functions of places. -/
namespace Go.Proofs.Ytdaffjjconlmoaa
open Go.RowKit Pl
set_option linter.unusedVariables false
theorem pwithin_fun (n a b : Int) : Fun Try.prog 66 [.c (.v (.int .i64 n)), .c (.v (.int .i64 a)), .c (.v (.int .i64 b))] [.c (.v (.bool (wi n a b)))] := by
  refine fun_x ck_place_within rfl ?_
  (refine goI ?_; repeat (intro gg; refine goI ?_))
  (refine bIf_of (fun h => ?_) (fun h => ?_) <;> rw [h])
  · (refine goI ?_; repeat (intro gg; refine goI ?_))
    rw [wi_t h]
    (exact ⟨[], aI⟩)
  · (refine goI ?_; repeat (intro gg; refine goI ?_))
    rw [wi_f h]
    (exact ⟨[], aI⟩)
theorem pck1_fun (n : Int) : Fun Try.prog 65 [.c (.v (.int .i64 n))] [.c (.v (.bool (wi n (-10000000) 10000000)))] := by
  refine fun_x ck_place_Check_1 rfl ?_
  (refine goI ?_; repeat (intro gg; refine goI ?_))
  (refine .inl ⟨_, _, false, [], aI, pwithin_fun _ _ _, nobor, nI, ?_⟩)
  (refine goI ?_; repeat (intro gg; refine goI ?_))
  (exact ⟨[], aI⟩)
theorem okPl_t {x y z h s : Int} (h1 : wi x (-10000000) 10000000 = true) (h2 : wi y (-10000000) 10000000 = true) (h3 : wi z (-10000000) 10000000 = true) (h4 : wi h 0 1000000 = true) (h5 : wi s 0 1000 = true) : ckPl x y z h s = 0 := by simp [ckPl, okPl, h1, h2, h3, h4, h5]
theorem okPl_f {x y z h s : Int} (h1 : wi x (-10000000) 10000000 = false ∨ wi y (-10000000) 10000000 = false ∨ wi z (-10000000) 10000000 = false ∨ wi h 0 1000000 = false ∨ wi s 0 1000 = false) : ckPl x y z h s = 3 := by
  rcases h1 with h | h | h | h | h <;> simp [ckPl, okPl, h]
theorem pCheck_fun (p : Pc) : Fun Try.prog 36 [.c (.agg p.row)] [.c (.v (.int .i64 p.err))] := by
  refine fun_x ck_place_Check rfl ?_
  (refine goI ?_; repeat (intro gg; refine goI ?_))
  (refine .inl ⟨_, _, false, [], aI, pck1_fun _, nobor, nI, ?_⟩)
  (refine goI ?_; repeat (intro gg; refine goI ?_))
  (refine bIf_of (fun h1 => ?_) (fun h1 => ?_) <;> rw [h1])
  · (refine goI ?_; repeat (intro gg; refine goI ?_))
    rw [show p.err = 3 from okPl_f (.inl (not_t h1))]
    (exact ⟨[], aI⟩)
  · (refine goI ?_; repeat (intro gg; refine goI ?_))
    (refine .inl ⟨_, _, false, [], aI, pck1_fun _, nobor, nI, ?_⟩)
    (refine goI ?_; repeat (intro gg; refine goI ?_))
    (refine bIf_of (fun h2 => ?_) (fun h2 => ?_) <;> rw [h2])
    · (refine goI ?_; repeat (intro gg; refine goI ?_))
      rw [show p.err = 3 from okPl_f (.inr (.inl (not_t h2)))]
      (exact ⟨[], aI⟩)
    · (refine goI ?_; repeat (intro gg; refine goI ?_))
      (refine .inl ⟨_, _, false, [], aI, pck1_fun _, nobor, nI, ?_⟩)
      (refine goI ?_; repeat (intro gg; refine goI ?_))
      (refine bIf_of (fun h3 => ?_) (fun h3 => ?_) <;> rw [h3])
      · (refine goI ?_; repeat (intro gg; refine goI ?_))
        rw [show p.err = 3 from okPl_f (.inr (.inr (.inl (not_t h3))))]
        (exact ⟨[], aI⟩)
      · (refine goI ?_; repeat (intro gg; refine goI ?_))
        (refine .inl ⟨_, _, false, [], aI, pwithin_fun _ _ _, nobor, nI, ?_⟩)
        (refine goI ?_; repeat (intro gg; refine goI ?_))
        (refine bIf_of (fun h4 => ?_) (fun h4 => ?_) <;> rw [h4])
        · (refine goI ?_; repeat (intro gg; refine goI ?_))
          rw [show p.err = 3 from okPl_f (.inr (.inr (.inr (.inl (not_t h4)))))]
          (exact ⟨[], aI⟩)
        · (refine goI ?_; repeat (intro gg; refine goI ?_))
          (refine .inl ⟨_, _, false, [], aI, pwithin_fun _ _ _, nobor, nI, ?_⟩)
          (refine goI ?_; repeat (intro gg; refine goI ?_))
          (refine bIf_of (fun h5 => ?_) (fun h5 => ?_) <;> rw [h5])
          · (refine goI ?_; repeat (intro gg; refine goI ?_))
            rw [show p.err = 3 from okPl_f (.inr (.inr (.inr (.inr (not_t h5)))))]
            (exact ⟨[], aI⟩)
          · (refine goI ?_; repeat (intro gg; refine goI ?_))
            rw [show p.err = 0 from okPl_t (not_f h1) (not_f h2) (not_f h3) (not_f h4) (not_f h5)]
            (exact ⟨[], aI⟩)
theorem pcheck_fun (l : List Pc) (hl : l.length ≤ 9223372036854775807) : Fun Try.prog 54 [.c (.sl false (l.map Pc.row))] [.c (.v (.int .i64 (firstErr Pc.err l)))] := by
  refine fun_x ck_place_check rfl ?_
  (refine goI ?_; repeat (intro gg; refine goI ?_))
  rw [List.length_map]
  (refine ⟨[], none, {k : Nat // k ≤ l.length ∧ ∀ j, (h : j < l.length) → j < k → (l[j]).err = 0}, [6, 7], fun ⟨k, hk, h0⟩ => [(8, .v (.int .i64 k))], [], fun ⟨k, hk, h0⟩ => [], fun ⟨k, hk, h0⟩ => l.length - k, trivial, fun _ => ⟨trivial, fun _ => ⟨⟨0, by omega, fun j _ h => by omega⟩, tI, keptE_refl _ _, tI, keptH_refl _ _⟩⟩, fun ⟨k, hk, h0⟩ => ?_⟩)
  (refine goI ?_; repeat (intro gg; refine goI ?_))
  (refine bIf_of (fun h => ?_) (fun h => ?_) <;> rw [h])
  · have hlt : k < l.length := by simpa using h
    (refine goI ?_; repeat (intro gg; refine goI ?_))
    refine ⟨k, _, rfl, row_map hlt, ?_⟩
    (refine goI ?_; repeat (intro gg; refine goI ?_))
    (refine .inl ⟨_, _, false, [], aI, pCheck_fun _, nobor, nI, ?_⟩)
    (refine goI ?_; repeat (intro gg; refine goI ?_))
    (refine bIf_of (fun h => ?_) (fun h => ?_) <;> rw [h])
    · (refine goI ?_; repeat (intro gg; refine goI ?_))
      rw [firstErr_at hlt h0 (by simpa using h)]
      (exact ⟨[], aI⟩)
    · (refine goI ?_; repeat (intro gg; refine goI ?_))
      (exact ⟨none, trivial, fun _ => ⟨⟨k + 1, by omega, up1 (p := fun j h => (l[j]).err = 0) h0 (fun _ => by simpa using h)⟩, by show l.length - (k + 1) < l.length - k; omega, tI, tI, tI, tI⟩⟩)
  · have hge : ¬ k < l.length := by simpa using h
    (refine goI ?_; repeat (intro gg; refine goI ?_))
    rw [firstErr_zero (l := l) (fun i hi => h0 i hi (by omega))]
    (exact ⟨[], aI⟩)
theorem two_err (a b : Pc) : firstErr Pc.err [a, b] = if a.okb = true then (if b.okb = true then 0 else 3) else 3 := by
  cases h : a.okb with
  | true =>
    cases h' : b.okb with
    | true => simp [firstErr, Pc.err_ok h, Pc.err_ok h']
    | false => simp [firstErr, Pc.err_ok h, Pc.err_bad h']
  | false => simp [firstErr, Pc.err_bad h]
theorem tdiv_pos {n x : Int} (h : 0 ≤ n) : n.tdiv x = n / x := Int.tdiv_eq_ediv_of_nonneg h
theorem root_fun (n : Int) (h0 : 0 ≤ n) (hm : n ≤ 9223372036854775807) : Fun Try.prog 53 [.c (.v (.int .i64 n))] [.c (.v (.int .i64 (rt n)))] := by
  refine fun_x ck_place_root rfl ?_
  (refine goI ?_; repeat (intro gg; refine goI ?_))
  (refine bIf_of (fun h => ?_) (fun h => ?_) <;> rw [h])
  · have h2 : n < 2 := by simpa using h
    have hr : rt n = n := rt_uniq h0 (by rcases (by omega : n = 0 ∨ n = 1) with rfl | rfl <;> decide) (by rcases (by omega : n = 0 ∨ n = 1) with rfl | rfl <;> decide)
    (refine goI ?_; repeat (intro gg; refine goI ?_))
    rw [hr]
    (exact ⟨[], aI⟩)
  · have h2 : ¬ n < 2 := by simpa using h
    (refine goI ?_; repeat (intro gg; refine goI ?_))
    (refine ⟨[], none, {k : Int // 1 ≤ k ∧ k ≤ 6074000998}, [0], fun ⟨k, hk1, hk2⟩ => [(3, .v (.int .i64 k))], [], fun ⟨k, hk1, hk2⟩ => [], fun ⟨k, hk1, hk2⟩ => (12148001996 - k).toNat, trivial, fun _ => ⟨trivial, fun _ => ⟨⟨1, by omega, by omega⟩, tI, keptE_refl _ _, tI, keptH_refl _ _⟩⟩, fun ⟨k, hk1, hk2⟩ => ?_⟩)
    have hd := div_bounds h0 hk1
    have hq : n / k ≤ n := Int.ediv_le_self _ h0
    (refine goI ?_; repeat (intro gg; refine goI ?_))
    refine ⟨by omega, n / k, by rw [tdiv_pos h0]; exact wrap_ok (by omega) (by omega), ?_⟩
    (refine goI ?_; repeat (intro gg; refine goI ?_))
    (refine bIf_of (fun h3 => ?_) (fun h3 => ?_) <;> rw [h3])
    · have hc : k ≤ n / k := (by have := of_decide_eq_true h3; omega)
      have hb := up_le h0 hm hk1 hc
      (refine goI ?_; repeat (intro gg; refine goI ?_))
      (exact ⟨none, trivial, fun _ => ⟨⟨k * 2, by omega, by omega⟩, by show (12148001996 - k * 2).toNat < (12148001996 - k).toNat; omega, tI, tI, tI, tI⟩⟩)
    · have hc : ¬ k ≤ n / k := (by have := of_decide_eq_false h3; omega)
      have hb := up_end h0 hk1 (by omega)
      (refine goI ?_; repeat (intro gg; refine goI ?_))
      (refine ⟨[], none, {k : Int // 1 ≤ k ∧ k ≤ 6074000998 ∧ rt n ≤ k}, [0], fun ⟨x, hx1, hx2, hx3⟩ => [(3, .v (.int .i64 x))], [], fun ⟨x, hx1, hx2, hx3⟩ => [], fun ⟨x, hx1, hx2, hx3⟩ => x.toNat, trivial, fun _ => ⟨trivial, fun _ => ⟨⟨k, by omega, by omega, hb⟩, tI, keptE_refl _ _, tI, keptH_refl _ _⟩⟩, fun ⟨x, hx1, hx2, hx3⟩ => ?_⟩)
      have q1 := div_bounds h0 hx1
      have q2 := down_q (by omega) hx1 hx3
      have q3 := rt_max n h0 hm
      have q4 := down_ge h0 hx1
      have q5 : 1 ≤ rt n := le_rt (by omega) (by omega)
      have q6 := q1.1
      clear q1
      (refine goI ?_; repeat (intro gg; refine goI ?_))
      refine ⟨by omega, n / x, by rw [tdiv_pos h0]; exact wrap_ok (by omega) (by omega), ?_⟩
      (refine goI ?_; repeat (intro gg; refine goI ?_))
      refine ⟨by omega, (x + n / x) / 2, by rw [tdiv_pos (by omega)]; exact wrap_ok (by omega) (by omega), ?_⟩
      (refine goI ?_; repeat (intro gg; refine goI ?_))
      (refine bIf_of (fun h4 => ?_) (fun h4 => ?_) <;> rw [h4])
      · have hc : x ≤ (x + n / x) / 2 := (by have := of_decide_eq_true h4; omega)
        (refine goI ?_; repeat (intro gg; refine goI ?_))
        rw [show V.v (Value.int .i64 (rt n)) = V.v (Value.int .i64 x) by rw [← down_end h0 hx1 hx3 hc]]
        (exact ⟨[], aI⟩)
      · have hc : ¬ x ≤ (x + n / x) / 2 := (by have := of_decide_eq_false h4; omega)
        (refine goI ?_; repeat (intro gg; refine goI ?_))
        (exact ⟨none, trivial, fun _ => ⟨⟨(x + n / x) / 2, by omega, by omega, by omega⟩, by show ((x + n / x) / 2).toNat < x.toNat; omega, tI, tI, tI, tI⟩⟩)
theorem rroot_fun (n : Int) (h0 : 0 ≤ n) (hm : n ≤ 9223372036854775807) : Fun Try.prog 97 [.c (.v (.int .i64 n))] [.c (.v (.int .i64 (rt n)))] := by
  refine fun_x ck_hearsayref_RootOf rfl ?_
  (refine goI ?_; repeat (intro gg; refine goI ?_))
  (refine ⟨[], none, {p : Int × Int // RootRel n p.1 p.2}, [0], fun ⟨⟨r, b⟩, hr⟩ => [(3, .v (.int .i64 r)), (4, .v (.int .i64 b))], [], fun ⟨⟨r, b⟩, hr⟩ => [], fun ⟨⟨r, b⟩, hr⟩ => b.toNat, trivial, fun _ => ⟨trivial, fun _ => ⟨⟨(0, 2147483648), rootRel_start h0 hm⟩, tI, keptE_refl _ _, tI, keptH_refl _ _⟩⟩, fun ⟨⟨r, b⟩, hr⟩ => ?_⟩)
  dsimp only at hr
  obtain ⟨g1, g2, g3, g4, g5⟩ := rootRel_bounds h0 hm hr
  (refine goI ?_; repeat (intro gg; refine goI ?_))
  (refine bIf_of (fun h1 => ?_) (fun h1 => ?_) <;> rw [h1])
  · have hb : 0 < b := (by have := of_decide_eq_true h1; omega)
    have g6 := g5 hb
    (refine goI ?_; repeat (intro gg; refine goI ?_))
    (refine bIf_of (fun h2 => ?_) (fun h2 => ?_) <;> rw [h2])
    · have c1 : r + b ≤ 3037000499 := (by have := of_decide_eq_true h2; omega)
      have g7 := sq_small (show 0 ≤ r + b by omega) c1
      have g8 : 0 ≤ (r + b) * (r + b) := Int.mul_nonneg (by omega) (by omega)
      (refine goI ?_; repeat (intro gg; refine goI ?_))
      (refine bIf_of (fun h3 => ?_) (fun h3 => ?_) <;> rw [h3])
      · have c2 : (r + b) * (r + b) ≤ n := of_decide_eq_true h3
        (refine goI ?_; repeat (intro gg; refine goI ?_))
        refine ⟨by omega, b / 2, by rw [tdiv_pos (by omega)]; exact wrap_ok (by omega) (by omega), ?_⟩
        (refine goI ?_; repeat (intro gg; refine goI ?_))
        (exact ⟨none, trivial, fun _ => ⟨⟨(r + b, b / 2), rootRel_yes hr hb c2⟩, by show (b / 2).toNat < b.toNat; omega, tI, tI, tI, tI⟩⟩)
      · have c2 : ¬ (r + b) * (r + b) ≤ n := of_decide_eq_false h3
        (refine goI ?_; repeat (intro gg; refine goI ?_))
        refine ⟨by omega, b / 2, by rw [tdiv_pos (by omega)]; exact wrap_ok (by omega) (by omega), ?_⟩
        (refine goI ?_; repeat (intro gg; refine goI ?_))
        (exact ⟨none, trivial, fun _ => ⟨⟨(r, b / 2), show RootRel n r (b / 2) from rootRel_no hr hb (by omega)⟩, by show (b / 2).toNat < b.toNat; omega, tI, tI, tI, tI⟩⟩)
    · have c1 : ¬ r + b ≤ 3037000499 := (by have := of_decide_eq_false h2; omega)
      (refine goI ?_; repeat (intro gg; refine goI ?_))
      refine ⟨by omega, b / 2, by rw [tdiv_pos (by omega)]; exact wrap_ok (by omega) (by omega), ?_⟩
      (refine goI ?_; repeat (intro gg; refine goI ?_))
      (exact ⟨none, trivial, fun _ => ⟨⟨(r, b / 2), rootRel_no hr hb (sq_big h0 hm (by omega))⟩, by show (b / 2).toNat < b.toNat; omega, tI, tI, tI, tI⟩⟩)
  · have hb : ¬ 0 < b := (by have := of_decide_eq_false h1; omega)
    (refine goI ?_; repeat (intro gg; refine goI ?_))
    rw [show V.v (Value.int .i64 (rt n)) = V.v (Value.int .i64 r) by rw [← rootRel_end h0 hr (by omega)]]
    (exact ⟨[], aI⟩)
theorem Root_fun (n : Int) (h0 : 0 ≤ n) (hm : n ≤ 9223372036854775807) : Fun Try.prog 24 [.c (.v (.int .i64 n))] [.c (.v (.int .i64 (rt n))), .c (.v (.int .i64 0))] := by
  refine fun_x ck_place_Root rfl ?_
  (refine goI ?_; repeat (intro gg; refine goI ?_))
  (refine bIf_of (fun h => ?_) (fun h => ?_) <;> rw [h])
  · exact absurd (by have := of_decide_eq_true h; omega) (by omega)
  · (refine goI ?_; repeat (intro gg; refine goI ?_))
    (refine .inl ⟨_, _, false, [], aI, root_fun n h0 hm, nobor, nI, ?_⟩)
    (refine goI ?_; repeat (intro gg; refine goI ?_))
    (exact ⟨[], aI⟩)
end Go.Proofs.Ytdaffjjconlmoaa
/- Contracts of the functions of places: far, move. -/
namespace Go.Proofs.Ytdaffjjconlmoaa
open Go.RowKit Pl
set_option linter.unusedVariables false
theorem okb_iff {p : Pc} : p.okb = true ↔ (-10000000 ≤ p.x ∧ p.x ≤ 10000000) ∧ (-10000000 ≤ p.y ∧ p.y ≤ 10000000) ∧ (-10000000 ≤ p.z ∧ p.z ≤ 10000000) ∧ (0 ≤ p.h ∧ p.h ≤ 1000000) ∧ (0 ≤ p.s ∧ p.s ≤ 1000) := okPl_iff
theorem apart_fun (a b : Pc) (ha : a.okb = true) (hb : b.okb = true) : Fun Try.prog 67 [.c (.agg a.row), .c (.agg b.row)] [.c (.v (.int .i64 (a.flat b)))] := by
  obtain ⟨⟨a1, a2⟩, ⟨a3, a4⟩, ⟨a5, a6⟩, _, _⟩ := okb_iff.1 ha
  obtain ⟨⟨b1, b2⟩, ⟨b3, b4⟩, ⟨b5, b6⟩, _, _⟩ := okb_iff.1 hb
  have q1 := sq_diff a1 a2 b1 b2
  have q2 := sq_diff a3 a4 b3 b4
  have q3 := sq_diff a5 a6 b5 b6
  refine fun_x ck_place_apart rfl ?_
  (refine goI ?_; repeat (intro gg; refine goI ?_))
  (refine .inl ⟨_, _, false, [], aI, root_fun ((a.x - b.x) * (a.x - b.x) + (a.y - b.y) * (a.y - b.y) + (a.z - b.z) * (a.z - b.z)) (by omega) (by omega), nobor, nI, ?_⟩)
  (refine goI ?_; repeat (intro gg; refine goI ?_))
  (exact ⟨[], aI⟩)
theorem flatfar_fun (a b : Pc) (ha : a.okb = true) (hb : b.okb = true) : Fun Try.prog 89 [.c (.agg a.row), .c (.agg b.row)] [.c (.v (.int .i64 (a.flat b)))] := by
  obtain ⟨⟨a1, a2⟩, ⟨a3, a4⟩, ⟨a5, a6⟩, _, _⟩ := okb_iff.1 ha
  obtain ⟨⟨b1, b2⟩, ⟨b3, b4⟩, ⟨b5, b6⟩, _, _⟩ := okb_iff.1 hb
  have q1 := sq_diff a1 a2 b1 b2
  have q2 := sq_diff a3 a4 b3 b4
  have q3 := sq_diff a5 a6 b5 b6
  refine fun_x ck_hearsayref_FlatFar rfl ?_
  (refine goI ?_; repeat (intro gg; refine goI ?_))
  (refine .inl ⟨_, _, false, [], aI, rroot_fun ((a.x - b.x) * (a.x - b.x) + (a.y - b.y) * (a.y - b.y) + (a.z - b.z) * (a.z - b.z)) (by omega) (by omega), nobor, nI, ?_⟩)
  (refine goI ?_; repeat (intro gg; refine goI ?_))
  (exact ⟨[], aI⟩)
theorem rawfar_fun (a b : Pc) (ha : a.okb = true) (hb : b.okb = true) : Fun Try.prog 37 [.c (.agg a.row), .c (.agg b.row)] [.c (.v (.int .i64 (a.far b)))] := by
  obtain ⟨_, _, _, ⟨a7, a8⟩, _⟩ := okb_iff.1 ha
  obtain ⟨_, _, _, ⟨b7, b8⟩, _⟩ := okb_iff.1 hb
  obtain ⟨f1, f2⟩ := (far_bd ha hb).1
  refine fun_x ck_place_RawFar rfl ?_
  (refine goI ?_; repeat (intro gg; refine goI ?_))
  (refine ⟨_, _, false, aI, apart_fun a b ha hb, nobor, nI, ?_⟩)
  (refine goI ?_; repeat (intro gg; refine goI ?_))
  (exact ⟨[], aI⟩)
theorem farof_fun (a b : Pc) (ha : a.okb = true) (hb : b.okb = true) : Fun Try.prog 74 [.c (.agg a.row), .c (.agg b.row)] [.c (.v (.int .i64 (a.far b)))] := by
  obtain ⟨_, _, _, ⟨a7, a8⟩, _⟩ := okb_iff.1 ha
  obtain ⟨_, _, _, ⟨b7, b8⟩, _⟩ := okb_iff.1 hb
  obtain ⟨f1, f2⟩ := (far_bd ha hb).1
  refine fun_x ck_hearsayref_FarOf rfl ?_
  (refine goI ?_; repeat (intro gg; refine goI ?_))
  (refine ⟨_, _, false, aI, flatfar_fun a b ha hb, nobor, nI, ?_⟩)
  (refine goI ?_; repeat (intro gg; refine goI ?_))
  (exact ⟨[], aI⟩)
theorem Far_fun (a b : Pc) : Fun Try.prog 25 [.c (.agg a.row), .c (.agg b.row)] [.c (.v (.int .i64 (farM a b).2)), .c (.v (.int .i64 (farM a b).1))] := by
  have hE := two_err a b
  refine fun_x ck_place_Far rfl ?_
  (refine goI ?_; repeat (intro gg; refine goI ?_))
  (refine .inl ⟨_, _, true, [], aI, pcheck_fun [a, b] (by simp), (fun _ => fI), nI, ?_⟩)
  rw [hE]
  unfold farM
  cases ha : a.okb with
  | false =>
    (refine goI ?_; repeat (intro gg; refine goI ?_))
    (exact ⟨[], aI⟩)
  | true =>
    cases hb : b.okb with
    | false =>
      (refine goI ?_; repeat (intro gg; refine goI ?_))
      (exact ⟨[], aI⟩)
    | true =>
      (refine goI ?_; repeat (intro gg; refine goI ?_))
      (refine .inl ⟨_, _, false, [], aI, rawfar_fun a b ha hb, nobor, nI, ?_⟩)
      (refine goI ?_; repeat (intro gg; refine goI ?_))
      (exact ⟨[], aI⟩)
theorem pbegun_fun : Fun Try.prog 6 [] [.c (.v (.bool true))] := by
  have h1 : rt 17 = 4 := rt_uniq (by decide) (by decide) (by decide)
  have h2 : farM ⟨3, 0, 0, 1, 0⟩ ⟨0, 4, 0, 2, 0⟩ = (0, 8) := by
    unfold farM Pc.far far flat
    rw [if_pos (by decide), if_pos (by decide)]
    rw [show sq3 3 0 0 0 4 0 = 25 from by decide, show rt 25 = 5 from rt_uniq (by decide) (by decide) (by decide)]
    rfl
  have f1 := Root_fun 17 (by decide) (by decide)
  rw [h1] at f1
  have f2 := Far_fun ⟨3, 0, 0, 1, 0⟩ ⟨0, 4, 0, 2, 0⟩
  rw [h2] at f2
  refine fun_x ck_hearsaylaw_placeBegun rfl ?_
  (refine goI ?_; repeat (intro gg; refine goI ?_))
  (refine .inl ⟨_, _, false, [], aI, f1, nobor, nI, ?_⟩)
  (refine goI ?_; repeat (intro gg; refine goI ?_))
  (refine .inl ⟨_, _, false, [], aI, f2, nobor, nI, ?_⟩)
  (refine goI ?_; repeat (intro gg; refine goI ?_))
  (exact ⟨[], aI⟩)
end Go.Proofs.Ytdaffjjconlmoaa
/- Layings of the shelf at this seat (printed by a program). -/
namespace Go.Proofs.Ytdaffjjconlmoaa
open Go.Shelf
def Try.sortS_ren : Go.Shelf.Ren := ⟨fun | 6 => 39 | 15 => 69 | 14 => 68 | 28 => 87 | 29 => 88 | 20 => 79 | 21 => 80 | 22 => 81 | 23 => 82 | 24 => 83 | 25 => 84 | 26 => 85 | 27 => 86 | 46 => 92 | 47 => 93 | 48 => 94 | 49 => 95 | 50 => 96 | 57 => 99 | n => n, fun | 22 => 26 | 24 => 9 | 25 => 78 | 3 => 3 | 39 => 99 | 0 => 0 | 53 => 114 | 55 => 116 | 4 => 4 | 46 => 108 | 45 => 107 | 50 => 65 | 5 => 5 | 9 => 9 | 66 => 117 | 70 => 121 | 76 => 123 | 77 => 124 | n => n, fun | n => n⟩
theorem Try.sortS : Go.Proofs.SlLaysF.n6 Try.prog Try.sortS_ren := {
  mixed := by kernel_rfl
  f6 := ⟨Try.f39.name, by decide, Try.func39.trans (congrArg some (by kernel_rfl))⟩
  f14 := ⟨Try.f68.name, by decide, Try.func68.trans (congrArg some (by kernel_rfl))⟩
  f15 := Try.func69.trans (congrArg some (by kernel_rfl))
  f20 := ⟨Try.f79.name, by decide, Try.func79.trans (congrArg some (by kernel_rfl))⟩
  f21 := ⟨Try.f80.name, by decide, Try.func80.trans (congrArg some (by kernel_rfl))⟩
  f22 := ⟨Try.f81.name, by decide, Try.func81.trans (congrArg some (by kernel_rfl))⟩
  f23 := ⟨Try.f82.name, by decide, Try.func82.trans (congrArg some (by kernel_rfl))⟩
  f24 := ⟨Try.f83.name, by decide, Try.func83.trans (congrArg some (by kernel_rfl))⟩
  f25 := ⟨Try.f84.name, by decide, Try.func84.trans (congrArg some (by kernel_rfl))⟩
  f26 := ⟨Try.f85.name, by decide, Try.func85.trans (congrArg some (by kernel_rfl))⟩
  f27 := ⟨Try.f86.name, by decide, Try.func86.trans (congrArg some (by kernel_rfl))⟩
  f28 := Try.func87.trans (congrArg some (by kernel_rfl))
  f29 := Try.func88.trans (congrArg some (by kernel_rfl))
  f46 := ⟨Try.f92.name, by decide, Try.func92.trans (congrArg some (by kernel_rfl))⟩
  f47 := Try.func93.trans (congrArg some (by kernel_rfl))
  f48 := Try.func94.trans (congrArg some (by kernel_rfl))
  f49 := ⟨Try.f95.name, by decide, Try.func95.trans (congrArg some (by kernel_rfl))⟩
  f50 := ⟨Try.f96.name, by decide, Try.func96.trans (congrArg some (by kernel_rfl))⟩
  f57 := ⟨Try.f99.name, by decide, Try.func99.trans (congrArg some (by kernel_rfl))⟩
  t0 := Try.underlying0
  a0 := Try.isAgg0
  z0 := Try.sizeOf0
  v0 := Try.zeroValue0
  t3 := Try.underlying3
  a3 := Try.isAgg3
  z3 := Try.sizeOf3
  v3 := Try.zeroValue3
  t4 := Try.underlying4
  a4 := Try.isAgg4
  z4 := Try.sizeOf4
  v4 := Try.zeroValue4
  t5 := Try.underlying5
  a5 := Try.isAgg5
  z5 := Try.sizeOf5
  v5 := Try.zeroValue5
  t9 := Try.underlying9
  a9 := Try.isAgg9
  z9 := Try.sizeOf9
  v9 := Try.zeroValue9
  t22 := Try.underlying26
  a22 := Try.isAgg26
  z22 := Try.sizeOf26
  v22 := Try.zeroValue26
  a24 := Try.isAgg9
  z24 := Try.sizeOf9
  t25 := Try.underlying78
  a25 := Try.isAgg78
  z25 := Try.sizeOf78
  v25 := Try.zeroValue78
  t39 := Try.underlying99
  a39 := Try.isAgg99
  z39 := Try.sizeOf99
  v39 := Try.zeroValue99
  t45 := Try.underlying107
  a45 := Try.isAgg107
  z45 := Try.sizeOf107
  v45 := Try.zeroValue107
  t46 := Try.underlying108
  a46 := Try.isAgg108
  z46 := Try.sizeOf108
  v46 := Try.zeroValue108
  t50 := Try.underlying65
  a50 := Try.isAgg65
  z50 := Try.sizeOf65
  v50 := Try.zeroValue65
  t53 := Try.underlying114
  a53 := Try.isAgg114
  z53 := Try.sizeOf114
  v53 := Try.zeroValue114
  t55 := Try.underlying116
  a55 := Try.isAgg116
  z55 := Try.sizeOf116
  v55 := Try.zeroValue116
  t66 := Try.underlying117
  a66 := Try.isAgg117
  z66 := Try.sizeOf117
  v66 := Try.zeroValue117
  t70 := Try.underlying121
  a70 := Try.isAgg121
  z70 := Try.sizeOf121
  v70 := Try.zeroValue121
  t76 := Try.underlying123
  a76 := Try.isAgg123
  z76 := Try.sizeOf123
  v76 := Try.zeroValue123
  t77 := Try.underlying124
  a77 := Try.isAgg124
  z77 := Try.sizeOf124
  v77 := Try.zeroValue124 }
end Go.Proofs.Ytdaffjjconlmoaa
/- Contracts: names sorted by how far they are. -/
namespace Go.Proofs.Ytdaffjjconlmoaa
open Go.RowKit Go.Sort Go.Shelf Pl
set_option linter.unusedVariables false
def tSame (a b : ByteArray) : Bool := a.toList == b.toList
theorem tSame_refl (a : ByteArray) : tSame a a = true := by simp [tSame]
theorem texts_fun (c d : Bool) (a b : List ByteArray) (ha : a.length ≤ 9223372036854775807) : Fun Try.prog 14 [.c (.sl c (a.map tRow)), .c (.sl d (b.map tRow))] [.c (.v (.bool (sameL tSame a b)))] := by
  refine fun_x ck_hearsayref_SameTexts rfl ?_
  (refine goI ?_; repeat (intro gg; refine goI ?_))
  rw [List.length_map, List.length_map]
  (refine bIf_of (fun h => ?_) (fun h => ?_) <;> rw [h])
  · (refine goI ?_; repeat (intro gg; refine goI ?_))
    rw [sameL_no (fun e => by rw [e] at h; simp at h)]
    (exact ⟨[], aI⟩)
  · have hab : a.length = b.length := by have h' : ((a.length : Int) != (b.length : Int)) = false := h
                                         simp at h'; omega
    (refine goI ?_; repeat (intro gg; refine goI ?_))
    (refine ⟨[], none, {k : Nat // k ≤ a.length ∧ ∀ j, (h : j < a.length) → j < k → tSame a[j] (b[j]'(by omega)) = true}, [0, 1], fun ⟨k, hk, h0⟩ => [(5, .v (.int .i64 k))], [], fun ⟨k, hk, h0⟩ => [], fun ⟨k, hk, h0⟩ => a.length - k, trivial, fun _ => ⟨trivial, fun _ => ⟨⟨0, by omega, fun j _ h => by omega⟩, tI, keptE_refl _ _, tI, keptH_refl _ _⟩⟩, fun ⟨k, hk, h0⟩ => ?_⟩)
    (refine goI ?_; repeat (intro gg; refine goI ?_))
    rw [List.length_map]
    (refine bIf_of (fun h2 => ?_) (fun h2 => ?_) <;> rw [h2])
    · have hlt : k < a.length := (by have := of_decide_eq_true h2; omega)
      have hlt' : k < b.length := by omega
      (refine goI ?_; repeat (intro gg; refine goI ?_))
      refine ⟨k, _, rfl, row_map hlt, ?_⟩
      (refine goI ?_; repeat (intro gg; refine goI ?_))
      refine ⟨k, _, rfl, row_map hlt', ?_⟩
      (refine goI ?_; repeat (intro gg; refine goI ?_))
      (refine bIf_of (fun h3 => ?_) (fun h3 => ?_) <;> rw [h3])
      · (refine goI ?_; repeat (intro gg; refine goI ?_))
        rw [sameL_at hlt hlt' (not_t (b := tSame a[k] b[k]) h3)]
        (exact ⟨[], aI⟩)
      · (refine goI ?_; repeat (intro gg; refine goI ?_))
        (exact ⟨none, trivial, fun _ => ⟨⟨k + 1, by omega, up1 (p := fun j h => tSame a[j] (b[j]'(by omega)) = true) h0 (fun _ => not_f (b := tSame a[k] b[k]) h3)⟩, by show a.length - (k + 1) < a.length - k; omega, tI, tI, tI, tI⟩⟩)
    · have hge : ¬ k < a.length := (by have := of_decide_eq_false h2; omega)
      (refine goI ?_; repeat (intro gg; refine goI ?_))
      rw [sameL_yes hab (fun j h1 _ => h0 j h1 (by omega))]
      (exact ⟨[], aI⟩)
theorem cloneT_fun (cl : Bool) (l : List ByteArray) (hl : l.length ≤ 1000) : Fun Try.prog 38 [.c (.sl cl (l.map tRow))] [.o 9 1 (l.map tRow)] := by
  refine fun_x ck_slices_Clone_string_string rfl ?_
  (refine goI ?_; repeat (intro gg; refine goI ?_))
  rename_i b
  have hb := gg
  cases b with
  | true =>
    have e : l.map tRow = [] := hb rfl
    (refine goI ?_; repeat (intro gg; refine goI ?_))
    rw [e]
    (exact ⟨[], aI⟩)
  | false =>
    (refine goI ?_; repeat (intro gg; refine goI ?_))
    refine ⟨ones_rows, ?_⟩
    (refine goI ?_; repeat (intro gg; refine goI ?_))
    refine ⟨lI, lI, ?_⟩
    (refine goI ?_; repeat (intro gg; refine goI ?_))
    (exact ⟨[80], aI⟩)
theorem cf_nn {K : ByteArray → Option Int} {a b : ByteArray} (h1 : K a = none) (h2 : K b = none) : cfN K a b = firstNZ [icmp 0 0, scmp a b] := by simp [cfN, rkN, frN, h1, h2, nz_cons, icmp]
theorem cf_ss {K : ByteArray → Option Int} {a b : ByteArray} {x y : Int} (h1 : K a = some x) (h2 : K b = some y) : cfN K a b = firstNZ [icmp x y, scmp a b] := by simp [cfN, rkN, frN, h1, h2, nz_cons, icmp]
theorem cf_sn {K : ByteArray → Option Int} {a b : ByteArray} {x : Int} (h1 : K a = some x) (h2 : K b = none) : cfN K a b = -1 := by simp [cfN, rkN, frN, h1, h2, nz_cons, icmp]
theorem cf_ns {K : ByteArray → Option Int} {a b : ByteArray} {y : Int} (h1 : K a = none) (h2 : K b = some y) : cfN K a b = 1 := by simp [cfN, rkN, frN, h1, h2, nz_cons, icmp]
theorem sortC_fun (f : Pc) (l : List Wh) (E : List (ByteArray × V)) (hE : Tells f l E) (a b : ByteArray) : Fun Try.prog 40 [.c (.v (.string a)), .c (.v (.string b)), .c (.rptr [.rmap (ents E)] 0)] [.c (.v (.int .i64 (cfN (farK f l) a b)))] := by
  refine fun_x ck_place_Sort_1 rfl ?_
  cases h1 : farK f l a with
  | none =>
    have q1 := hE.at_none h1
    cases h2 : farK f l b with
    | none =>
      have q2 := hE.at_none h2
      (refine goI ?_; repeat (intro gg; refine goI ?_))
      refine ⟨none, (findE_str _ _ _).trans (by rw [q1]), ?_⟩
      (refine goI ?_; repeat (intro gg; refine goI ?_))
      refine ⟨none, (findE_str _ _ _).trans (by rw [q2]), ?_⟩
      (refine goI ?_; repeat (intro gg; refine goI ?_))
      (refine .inl ⟨_, _, false, [], aI, cmpi_fun 0 0, nobor, nI, ?_⟩)
      (refine goI ?_; repeat (intro gg; refine goI ?_))
      (refine .inl ⟨_, _, false, [], aI, cmps_fun a b, nobor, nI, ?_⟩)
      (refine goI ?_; repeat (intro gg; refine goI ?_))
      (refine .inl ⟨_, _, true, [], aI, or_fun false [icmp 0 0, scmp a b] (by simp), (fun _ => fI), nI, ?_⟩)
      (refine goI ?_; repeat (intro gg; refine goI ?_))
      rw [cf_nn h1 h2]
      (exact ⟨[], aI⟩)
    | some y =>
      obtain ⟨j, q2⟩ := hE.at_some h2
      (refine goI ?_; repeat (intro gg; refine goI ?_))
      refine ⟨none, (findE_str _ _ _).trans (by rw [q1]), ?_⟩
      (refine goI ?_; repeat (intro gg; refine goI ?_))
      refine ⟨some (j, iV y), (findE_str _ _ _).trans (by rw [q2]), ?_⟩
      (refine goI ?_; repeat (intro gg; refine goI ?_))
      rw [cf_ns h1 h2]
      (exact ⟨[], aI⟩)
  | some x =>
    obtain ⟨i, q1⟩ := hE.at_some h1
    cases h2 : farK f l b with
    | none =>
      have q2 := hE.at_none h2
      (refine goI ?_; repeat (intro gg; refine goI ?_))
      refine ⟨some (i, iV x), (findE_str _ _ _).trans (by rw [q1]), ?_⟩
      (refine goI ?_; repeat (intro gg; refine goI ?_))
      refine ⟨none, (findE_str _ _ _).trans (by rw [q2]), ?_⟩
      (refine goI ?_; repeat (intro gg; refine goI ?_))
      rw [cf_sn h1 h2]
      (exact ⟨[], aI⟩)
    | some y =>
      obtain ⟨j, q2⟩ := hE.at_some h2
      (refine goI ?_; repeat (intro gg; refine goI ?_))
      refine ⟨some (i, iV x), (findE_str _ _ _).trans (by rw [q1]), ?_⟩
      (refine goI ?_; repeat (intro gg; refine goI ?_))
      refine ⟨some (j, iV y), (findE_str _ _ _).trans (by rw [q2]), ?_⟩
      (refine goI ?_; repeat (intro gg; refine goI ?_))
      (refine .inl ⟨_, _, false, [], aI, cmpi_fun x y, nobor, nI, ?_⟩)
      (refine goI ?_; repeat (intro gg; refine goI ?_))
      (refine .inl ⟨_, _, false, [], aI, cmps_fun a b, nobor, nI, ?_⟩)
      (refine goI ?_; repeat (intro gg; refine goI ?_))
      (refine .inl ⟨_, _, true, [], aI, or_fun false [icmp x y, scmp a b] (by simp), (fun _ => fI), nI, ?_⟩)
      (refine goI ?_; repeat (intro gg; refine goI ?_))
      rw [cf_ss h1 h2]
      (exact ⟨[], aI⟩)
theorem sortS_fun (f : Pc) (l : List Wh) (E : List (ByteArray × V)) (hE : Tells f l E) (names : List ByteArray) (hn : names.length ≤ 1000) : FunM Try.prog 39 [.ms 9 1 (names.map tRow) ((srtL (cfN (farK f l)) names).map tRow), .p (.c (.clo 40 [.rptr [.rmap (ents E)] 0]))] [] :=
  sort_funM (enc := fun s : ByteArray => Value.string s) Try.sortS (callable Try.func39 (by kernel_rfl) (by kernel_rfl)) 9 (fun _ => rfl) (cfN (farK f l)) (swo_of (cfN_good _)) (tot_of (cfN_good _) fun _ _ => cfN_zero) 40 [.rptr [.rmap (ents E)] 0]
    (callable Try.func40 (by kernel_rfl) (by kernel_rfl)) names (by omega) (fun _ a b => sortC_fun f l E hE a b)
end Go.Proofs.Ytdaffjjconlmoaa
/- Contracts: Sort, of places. -/
namespace Go.Proofs.Ytdaffjjconlmoaa
open Go.RowKit Go.Sort Go.Shelf Pl
set_option linter.unusedVariables false
noncomputable def sortG (f : Pc) (l : List Wh) (names : List ByteArray) : List ByteArray := if sortErr f l names = 0 then srtL (cfN (farK f l)) names else []
theorem sortErr_many {f : Pc} {l : List Wh} {names : List ByteArray} (h : 100 < l.length ∨ 100 < names.length) : sortErr f l names = 2 := by simp [sortErr, h]
theorem sortErr_from {f : Pc} {l : List Wh} {names : List ByteArray} (h : ¬ (100 < l.length ∨ 100 < names.length)) (h2 : f.err ≠ 0) : sortErr f l names = f.err := by simp [sortErr, h, h2]
theorem sortErr_each {f : Pc} {l : List Wh} {names : List ByteArray} (h : ¬ (100 < l.length ∨ 100 < names.length)) (h2 : f.err = 0) : sortErr f l names = firstErr Wh.perr l := by simp [sortErr, h, h2]
theorem sortG_no {f : Pc} {l : List Wh} {names : List ByteArray} (h : sortErr f l names ≠ 0) : sortG f l names = [] := by simp [sortG, h]
theorem sortG_ok {f : Pc} {l : List Wh} {names : List ByteArray} (h : sortErr f l names = 0) : sortG f l names = srtL (cfN (farK f l)) names := by simp [sortG, h]
theorem pSort_fun (f : Pc) (l : List Wh) (names : List ByteArray) (hl : l.length ≤ 9223372036854775807) (hn : names.length ≤ 9223372036854775807) : Fun Try.prog 11 [.c (.agg f.row), .c (.sl false (l.map Wh.row)), .c (.sl false (names.map tRow))]
    [.o 9 1 ((sortG f l names).map tRow), .c (.v (.int .i64 (sortErr f l names)))] := by
  refine fun_x ck_place_Sort rfl ?_
  (refine goI ?_; repeat (intro gg; refine goI ?_))
  rw [List.length_map]
  (refine bIf_of (fun h1 => ?_) (fun h1 => ?_) <;> rw [h1])
  · have h1' : 100 < l.length := (by have := of_decide_eq_true h1; omega)
    have e := sortErr_many (f := f) (l := l) (names := names) (.inl h1')
    rw [e, sortG_no (by rw [e]; decide)]
    (refine goI ?_; repeat (intro gg; refine goI ?_))
    (exact ⟨[], aI⟩)
  · have h1' : ¬ 100 < l.length := (by have := of_decide_eq_false h1; omega)
    (refine goI ?_; repeat (intro gg; refine goI ?_))
    rw [List.length_map]
    (refine bIf_of (fun h2 => ?_) (fun h2 => ?_) <;> rw [h2])
    · have h2' : 100 < names.length := (by have := of_decide_eq_true h2; omega)
      have e := sortErr_many (f := f) (l := l) (names := names) (.inr h2')
      rw [e, sortG_no (by rw [e]; decide)]
      (refine goI ?_; repeat (intro gg; refine goI ?_))
      (exact ⟨[], aI⟩)
    · have h2' : ¬ 100 < names.length := (by have := of_decide_eq_false h2; omega)
      have h12 : ¬ (100 < l.length ∨ 100 < names.length) := by omega
      (refine goI ?_; repeat (intro gg; refine goI ?_))
      (refine .inl ⟨_, _, false, [], aI, pCheck_fun f, nobor, nI, ?_⟩)
      (refine goI ?_; repeat (intro gg; refine goI ?_))
      (refine bIf_of (fun h3 => ?_) (fun h3 => ?_) <;> rw [h3])
      · have h3' : f.err ≠ 0 := by simpa using h3
        have e := sortErr_from (f := f) (l := l) (names := names) h12 h3'
        rw [e, sortG_no (by rw [e]; exact h3')]
        (refine goI ?_; repeat (intro gg; refine goI ?_))
        (exact ⟨[], aI⟩)
      · have h3' : f.err = 0 := by simpa using h3
        have e := sortErr_each (f := f) (l := l) (names := names) h12 h3'
        (refine goI ?_; repeat (intro gg; refine goI ?_))
        rename_i gm
        rename Nat => gb
        have hf : f.okb = true := Pc.err_iff.1 h3'
        refine ⟨[], rfl, ?_⟩
        (refine goI ?_; repeat (intro gg; refine goI ?_))
        (refine ⟨[], none, {q : Nat × List (ByteArray × V) // q.1 ≤ l.length ∧ (∀ j, (h : j < l.length) → j < q.1 → Wh.perr l[j] = 0) ∧ Tells f (l.take q.1) q.2}, [1, 2, 3, 9, 30, 31], fun ⟨⟨k, E⟩, hk, h0, hE⟩ => [(32, .v (.int .i64 k))], [48, 144], fun ⟨⟨k, E⟩, hk, h0, hE⟩ => [(464, ⟨gm, .q (mapI (ents E)), 0, []⟩)], fun ⟨⟨k, E⟩, hk, h0, hE⟩ => l.length - k, trivial, fun _ => ⟨trivial, fun _ => ⟨⟨(0, []), Nat.zero_le _, fun j _ h => absurd h (Nat.not_lt_zero _), Tells.nil f⟩, tI, keptE_refl _ _, tI, keptH_refl _ _⟩⟩, fun ⟨⟨k, E⟩, hk, h0, hE⟩ => ?_⟩)
        (refine goI ?_; repeat (intro gg; refine goI ?_))
        (refine bIf_of (fun h4 => ?_) (fun h4 => ?_) <;> rw [h4])
        · have hlt : k < l.length := by have := of_decide_eq_true h4; simpa using this
          (refine goI ?_; repeat (intro gg; refine goI ?_))
          refine ⟨k, _, rfl, row_map hlt, ?_⟩
          (refine goI ?_; repeat (intro gg; refine goI ?_))
          (refine .inl ⟨_, _, false, [], aI, pCheck_fun (l[k]).pl, nobor, nI, ?_⟩)
          (refine goI ?_; repeat (intro gg; refine goI ?_))
          (refine bIf_of (fun h5 => ?_) (fun h5 => ?_) <;> rw [h5])
          · have h5' : Wh.perr l[k] ≠ 0 := by simpa [Wh.perr] using h5
            have e2 := e.trans (firstErr_at hlt h0 h5')
            rw [e2, sortG_no (by rw [e2]; exact h5')]
            (refine goI ?_; repeat (intro gg; refine goI ?_))
            (exact ⟨[], aI⟩)
          · have h5' : Wh.perr l[k] = 0 := by simpa [Wh.perr] using h5
            have hp : (l[k]).pl.okb = true := Pc.err_iff.1 h5'
            have et : l.take (k + 1) = l.take k ++ [l[k]] := by rw [List.take_add_one, List.getElem?_eq_getElem hlt]; rfl
            (refine goI ?_; repeat (intro gg; refine goI ?_))
            cases hlk : Pl.look (l[k]).nd E 0 with
            | some r =>
              obtain ⟨ri, rv⟩ := r
              obtain ⟨x, rfl⟩ := hE.val hlk
              refine ⟨_, rfl, some (ri, iV x), (findE_str _ _ _).trans (by rw [hlk]), ?_⟩
              (refine goI ?_; repeat (intro gg; refine goI ?_))
              have hE' : Tells f (l.take (k + 1)) E := by rw [et]; exact hE.old (by rw [hlk]; simp)
              (exact ⟨none, trivial, fun _ => ⟨⟨(k + 1, E), by dsimp only; omega, up1 (p := fun j h => Wh.perr l[j] = 0) h0 (fun _ => h5'), hE'⟩, by show l.length - (k + 1) < l.length - k; omega, tI, tI, tI, tI⟩⟩)
            | none =>
              refine ⟨_, rfl, none, (findE_str _ _ _).trans (by rw [hlk]), ?_⟩
              (refine goI ?_; repeat (intro gg; refine goI ?_))
              (refine ⟨_, _, false, aI, rawfar_fun f (l[k]).pl hf hp, nobor, nI, ?_⟩)
              (refine goI ?_; repeat (intro gg; refine goI ?_))
              refine ⟨_, none, rfl, cl_b rfl, (findE_str _ _ _).trans (by rw [hlk]), ?_⟩
              (refine goI ?_; repeat (intro gg; refine goI ?_))
              have e := putE_str E (l[k]).nd (iV (f.far (l[k]).pl))
              rw [hlk] at e
              have hE' : Tells f (l.take (k + 1)) (put E (l[k]).nd (iV (f.far (l[k]).pl))) := by rw [et]; exact hE.new hlk
              (exact ⟨none, trivial, fun gr => ⟨⟨(k + 1, put E (l[k]).nd (iV (f.far (l[k]).pl))), by dsimp only; omega, up1 (p := fun j h => Wh.perr l[j] = 0) h0 (fun _ => h5'), hE'⟩, by show l.length - (k + 1) < l.length - k; omega, tI, tI, ⟨congrArg (fun x => some (Ent.mk gm (.q (mapI x)) 0 [])) e, trivial⟩, tI⟩⟩)
        · have hge : ¬ k < l.length := by have := of_decide_eq_false h4; simpa using this
          have hz : sortErr f l names = 0 := e.trans (firstErr_zero (fun i hi => h0 i hi (by dsimp only; omega)))
          rw [List.take_of_length_le (by dsimp only; omega)] at hE
          have hE : Tells f l E := hE
          rw [hz, sortG_ok hz]
          (refine goI ?_; repeat (intro gg; refine goI ?_))
          (refine .inl ⟨_, _, false, [], aI, cloneT_fun false names (by omega), nobor, nI, ?_⟩)
          (refine goI ?_; repeat (intro gg; refine goI ?_))
          refine .inr (.inl ⟨_, _, true, [960], aM_ms rfl cl_rows (by decide) (by decide) (by rw [List.length_map, List.length_map]; exact List.length_mergeSort _) (aM_borc (cap_pm rfl rfl (by decide) (by decide) cap_n) (.nil _)), sortS_fun f l E hE names (by omega), (fun _ => mfI), oI, (by exact (by decide : ([960] : List Nat).Nodup)), ?_⟩)
          (refine goI ?_; repeat (intro gg; refine goI ?_))
          (exact ⟨[960], aI⟩)
end Go.Proofs.Ytdaffjjconlmoaa
/- Contracts: the reference's order of names by how far they are. -/
namespace Go.Proofs.Ytdaffjjconlmoaa
open Go.RowKit Go.Sort Go.Shelf Pl
set_option linter.unusedVariables false
theorem farK_no {f : Pc} {a : ByteArray} : ∀ {l : List Wh}, (∀ j, (h : j < l.length) → (l[j].nd.toList == a.toList) = false) → farK f l a = none
  | [], _ => rfl
  | w :: l, h => by
    have h0 := h 0 (by simp)
    simp only [List.getElem_cons_zero] at h0
    have hne : a ≠ w.nd := fun e => by rw [e] at h0; simp at h0
    show (if a = w.nd then some (f.far w.pl) else farK f l a) = none
    rw [if_neg hne]
    exact farK_no fun j hj => by have := h (j + 1) (by simpa using hj); simpa using this
theorem farK_at {f : Pc} {a : ByteArray} : ∀ {l : List Wh} {k : Nat} (hk : k < l.length), (∀ j, (h : j < l.length) → j < k → (l[j].nd.toList == a.toList) = false) → (l[k].nd.toList == a.toList) = true → farK f l a = some (f.far l[k].pl)
  | [], k, hk, _, _ => by simp at hk
  | w :: l, 0, hk, h0, h1 => by
    have e : w.nd = a := toList_inj (by simpa using h1)
    show (if a = w.nd then some (f.far w.pl) else farK f l a) = _
    rw [if_pos e.symm]; rfl
  | w :: l, k + 1, hk, h0, h1 => by
    have h := h0 0 (by simp) (by omega)
    simp only [List.getElem_cons_zero] at h
    have hne : a ≠ w.nd := fun e => by rw [e] at h; simp at h
    show (if a = w.nd then some (f.far w.pl) else farK f l a) = _
    rw [if_neg hne]
    have := farK_at (f := f) (l := l) (k := k) (by simpa using hk) (fun j hj hjk => by have := h0 (j + 1) (by simpa using hj) (by omega); simpa using this) (by simpa using h1)
    simpa using this
theorem farName_fun (f : Pc) (l : List Wh) (a : ByteArray) (hl : l.length ≤ 9223372036854775807) (hf : f.okb = true) (hw : ∀ w ∈ l, w.pl.okb = true) : Fun Try.prog 52 [.c (.agg f.row), .c (.sl false (l.map Wh.row)), .c (.v (.string a))] [.c (.v (.int .i64 (farN (farK f l) a)))] := by
  refine fun_x ck_hearsayref_farName rfl ?_
  (refine goI ?_; repeat (intro gg; refine goI ?_))
  (refine ⟨[], none, {k : Nat // k ≤ l.length ∧ ∀ j, (h : j < l.length) → j < k → (l[j].nd.toList == a.toList) = false}, [1, 2, 3], fun ⟨k, hk, h0⟩ => [(7, .v (.int .i64 k))], [48], fun ⟨k, hk, h0⟩ => [], fun ⟨k, hk, h0⟩ => l.length - k, trivial, fun _ => ⟨trivial, fun _ => ⟨⟨0, by omega, fun j _ h => by omega⟩, tI, keptE_refl _ _, tI, keptH_refl _ _⟩⟩, fun ⟨k, hk, h0⟩ => ?_⟩)
  (refine goI ?_; repeat (intro gg; refine goI ?_))
  rw [List.length_map]
  (refine bIf_of (fun h => ?_) (fun h => ?_) <;> rw [h])
  · have hlt : k < l.length := (by have := of_decide_eq_true h; omega)
    (refine goI ?_; repeat (intro gg; refine goI ?_))
    refine ⟨k, _, rfl, row_map hlt, ?_⟩
    (refine goI ?_; repeat (intro gg; refine goI ?_))
    (refine bIf_of (fun h2 => ?_) (fun h2 => ?_) <;> rw [h2])
    · have e : farN (farK f l) a = f.far l[k].pl := by unfold farN; rw [farK_at hlt h0 h2]; rfl
      rw [e]
      (refine goI ?_; repeat (intro gg; refine goI ?_))
      refine ⟨k, _, rfl, row_map hlt, ?_⟩
      (refine goI ?_; repeat (intro gg; refine goI ?_))
      (refine .inl ⟨_, _, false, [], aI, farof_fun f (l[k]).pl hf (hw _ (List.getElem_mem hlt)), nobor, nI, ?_⟩)
      (refine goI ?_; repeat (intro gg; refine goI ?_))
      (exact ⟨[], aI⟩)
    · (refine goI ?_; repeat (intro gg; refine goI ?_))
      (exact ⟨none, trivial, fun _ => ⟨⟨k + 1, by omega, up1 (p := fun j h => (l[j].nd.toList == a.toList) = false) h0 (fun _ => h2)⟩, by show l.length - (k + 1) < l.length - k; omega, tI, tI, tI, tI⟩⟩)
  · have hge : ¬ k < l.length := (by have := of_decide_eq_false h; omega)
    have e : farN (farK f l) a = -1 := by unfold farN; rw [farK_no fun j hj => h0 j hj (by omega)]; rfl
    rw [e]
    (refine goI ?_; repeat (intro gg; refine goI ?_))
    (exact ⟨[], aI⟩)
theorem ins_rows {c : ByteArray → ByteArray → Int} {L : List ByteArray} {x : ByteArray} {n : Nat} (e : insA c L x = L.take n ++ (x :: L.drop n)) (hn : n ≤ L.length) :
    (L.map tRow).take n ++ ([tRow x] ++ ((L.map tRow).drop n).take ((L.map tRow).length - n)) = (insA c L x).map tRow := by
  rw [e, List.map_append, List.map_cons, List.map_take, List.map_drop, List.take_of_length_le (l := (L.map tRow).drop n) (by simp)]
  rfl
theorem SortOf_fun (f : Pc) (l : List Wh) (names : List ByteArray) (hl : l.length ≤ 100) (hn : names.length ≤ 100) (hf : f.okb = true) (hw : ∀ w ∈ l, w.pl.okb = true) : Fun Try.prog 20 [.c (.agg f.row), .c (.sl false (l.map Wh.row)), .c (.sl false (names.map tRow))]
    [.c (.sl false ((sortN f l names).map tRow))] := by
  have hpos : ∀ a x, farK f l a = some x → 0 ≤ x := fun a x h => farK_pos hf hw h
  refine fun_x ck_hearsayref_SortOf rfl ?_
  (refine goI ?_; repeat (intro gg; refine goI ?_))
  (refine ⟨[(7, 112, 9, 1)], none, {p : Nat × Nat × List ByteArray // p.1 ≤ names.length ∧ p.2.2 = sortN f l (names.take p.1)}, [1, 2, 3], fun ⟨⟨k, g, L⟩, hk, hL⟩ => [(7, .own 112 g), (8, .v (.int .i64 k))], [48], fun ⟨⟨k, g, L⟩, hk, hL⟩ => [(112, ⟨g, 9, 1, L.map tRow⟩)], fun ⟨⟨k, g, L⟩, hk, hL⟩ => names.length - k, (by exact ⟨rfl, by decide, (fun _ _ _ _ h => by cases h), trivial⟩), fun gs => ⟨trivial, fun _ => ⟨⟨(0, gs 112, []), by omega, by simp [sortN]⟩, tI, tI, tI, tI⟩⟩, fun ⟨⟨k, g, L⟩, hk, hL⟩ => ?_⟩)
  have hk : k ≤ names.length := hk
  have hL : L = sortN f l (names.take k) := hL
  (refine goI ?_; repeat (intro gg; refine goI ?_))
  rw [List.length_map]
  (refine bIf_of (fun h => ?_) (fun h => ?_) <;> rw [h])
  · have hlt : k < names.length := (by have := of_decide_eq_true h; omega)
    have hs := sortN_snoc (f := f) (l := l) hlt
    have hLl : L.length ≤ 100 := by rw [hL, sortN_len, List.length_take]; omega
    rw [← hL] at hs
    obtain ⟨s, hsd⟩ : ∃ s, names[k] = s := ⟨_, rfl⟩
    have hrow : (names.map tRow)[k]? = some (tRow s) := by rw [row_map hlt, hsd]
    rw [hsd] at hs
    (refine goI ?_; repeat (intro gg; refine goI ?_))
    refine ⟨k, _, rfl, hrow, ?_⟩
    (refine goI ?_; repeat (intro gg; refine goI ?_))
    (refine .inl ⟨_, _, false, [], aI, farName_fun f l s (by omega) hf hw, nobor, nI, ?_⟩)
    (refine goI ?_; repeat (intro gg; refine goI ?_))
    (refine ⟨[], none, {j : Nat // j ≤ L.length ∧ ∀ i, (h : i < L.length) → i < j → leB (cfN (farK f l)) L[i] s = true}, [1, 2, 3, 7, 8, 9], fun ⟨j, hj, h0⟩ => [(10, .v (.int .i64 j))], [48, 112], fun ⟨j, hj, h0⟩ => [], fun ⟨j, hj, h0⟩ => L.length - j, trivial, fun _ => ⟨trivial, fun _ => ⟨⟨0, by omega, fun j _ h => by omega⟩, tI, keptE_refl _ _, tI, keptH_refl _ _⟩⟩, fun ⟨j, hj, h0⟩ => ?_⟩)
    (refine goI ?_; repeat (intro gg; refine goI ?_))
    rw [List.length_map]
    (refine bIf_of (fun h2 => ?_) (fun h2 => ?_) <;> rw [h2])
    · have hjl : j < L.length := (by have := of_decide_eq_true h2; omega)
      have hA := ahead_iff hpos L[j] s
      have hrj : (L.map tRow)[j]? = some (tRow L[j]) := row_map hjl
      (refine goI ?_; repeat (intro gg; refine goI ?_))
      refine ⟨j, _, rfl, hrj, ?_⟩
      (refine goI ?_; repeat (intro gg; refine goI ?_))
      (refine .inl ⟨_, _, false, [], aI, farName_fun f l L[j] (by omega) hf hw, nobor, nI, ?_⟩)
      generalize farN (farK f l) s = x at *
      generalize farN (farK f l) L[j] = y at *
      (refine goI ?_; repeat (intro gg; refine goI ?_))
      (refine bIf_of (fun a1 => ?_) (fun a1 => ?_) <;> rw [a1])
      · have a1' : x < 0 := of_decide_eq_true a1
        (refine goI ?_; repeat (intro gg; refine goI ?_))
        (refine bIf_of (fun a2 => ?_) (fun a2 => ?_) <;> rw [a2])
        · have a2' : 0 ≤ y := of_decide_eq_true a2
          (refine goI ?_; repeat (intro gg; refine goI ?_))
          have ht : leB (cfN (farK f l)) L[j] s = true := hA.2 (.inl ⟨a1', a2'⟩)
          (exact ⟨none, trivial, fun _ => ⟨⟨j + 1, by omega, up1 (p := fun i h => leB (cfN (farK f l)) L[i] s = true) h0 (fun _ => ht)⟩, by show L.length - (j + 1) < L.length - j; omega, tI, tI, tI, tI⟩⟩)
        · have a2' : ¬ 0 ≤ y := of_decide_eq_false a2
          have a3 : decide (y < 0) = true := decide_eq_true (by omega)
          (refine goI ?_; repeat (intro gg; refine goI ?_))
          rw [a1, a3]
          (refine goI ?_; repeat (intro gg; refine goI ?_))
          (refine bIf_of (fun b1 => ?_) (fun b1 => ?_) <;> rw [b1])
          · (refine goI ?_; repeat (intro gg; refine goI ?_))
            have ht : leB (cfN (farK f l)) L[j] s = true := hA.2 (.inr ⟨by omega, .inl (of_decide_eq_true b1)⟩)
            (exact ⟨none, trivial, fun _ => ⟨⟨j + 1, by omega, up1 (p := fun i h => leB (cfN (farK f l)) L[i] s = true) h0 (fun _ => ht)⟩, by show L.length - (j + 1) < L.length - j; omega, tI, tI, tI, tI⟩⟩)
          · (refine goI ?_; repeat (intro gg; refine goI ?_))
            (refine bIf_of (fun b2 => ?_) (fun b2 => ?_) <;> rw [b2])
            · have b2' : y = x := by simpa using b2
              (refine goI ?_; repeat (intro gg; refine goI ?_))
              refine ⟨j, _, rfl, hrj, ?_⟩
              (refine goI ?_; repeat (intro gg; refine goI ?_))
              refine ⟨k, _, rfl, hrow, ?_⟩
              (refine goI ?_; repeat (intro gg; refine goI ?_))
              rw [sle_eq]
              (refine bIf_of (fun b3 => ?_) (fun b3 => ?_) <;> rw [b3])
              · have b3' : slt s L[j] = true := by simpa using b3
                have hfl : leB (cfN (farK f l)) L[j] s = false := by
                  rw [← Bool.not_eq_true, hA]
                  rintro (q | ⟨_, q | ⟨_, q⟩⟩)
                  · omega
                  · have := of_decide_eq_false b1; omega
                  · rw [q] at b3'; cases b3'
                have eI := insA_at (c := cfN (farK f l)) (l := L) (x := s) hj h0 (.inr ⟨hjl, hfl⟩)
                have eR := ins_rows eI hj
                (refine goI ?_; repeat (intro gg; refine goI ?_))
                refine ⟨0, j, rfl, rfl, ⟨.i64, rfl⟩, Nat.zero_le _, by rw [List.length_map]; exact hj, rfl, rfl, ⟨.i64, rfl⟩, ?_⟩
                (refine goI ?_; repeat (intro gg; refine goI ?_))
                refine ⟨k, _, rfl, hrow, ?_⟩
                (refine goI ?_; repeat (intro gg; refine goI ?_))
                refine ⟨j, (L.map tRow).length, rfl, ⟨.i64, rfl⟩, rfl, by rw [List.length_map]; exact hj, Nat.le_refl _, rfl, ?_⟩
                (refine goI ?_; repeat (intro gg; refine goI ?_))
                refine ⟨by rw [List.length_map]; exact hj, Nat.le_refl _, ?_⟩
                (refine goI ?_; repeat (intro gg; refine goI ?_))
                have hdl : (((L.map tRow).drop j).take (L.length - j)).length ≤ 100 := by simp; omega
                refine ⟨lI, lI, ?_⟩
                (refine goI ?_; repeat (intro gg; refine goI ?_))
                refine ⟨⟨trivial, trivial, trivial, rfl, trivial, trivial, trivial, trivial, trivial, trivial, trivial, trivial, trivial⟩, ?_⟩
                (refine goI ?_; repeat (intro gg; refine goI ?_))
                refine ⟨List.cons_ne_nil _ _, rfl, by rw [List.length_map]; exact hj, ?_⟩
                refine ⟨lI, lI, ?_⟩
                (refine goI ?_; repeat (intro gg; refine goI ?_))
                exact ⟨some (7, 1408, 112), by (first | exact trivial | exact ⟨_, rfl, rfl, trivial⟩), fun gr => ⟨⟨(k + 1, gr, insA (cfN (farK f l)) L s), by dsimp only; omega, hs.symm⟩, by show names.length - (k + 1) < names.length - k; omega, tI, tI, ⟨congrArg (fun r => some (Ent.mk gr (.t 9) 1 r)) eR, trivial⟩, tI⟩⟩
              · have b3' : slt s L[j] = false := by simpa using b3
                (refine goI ?_; repeat (intro gg; refine goI ?_))
                have ht : leB (cfN (farK f l)) L[j] s = true := hA.2 (.inr ⟨by omega, .inr ⟨b2', b3'⟩⟩)
                (exact ⟨none, trivial, fun _ => ⟨⟨j + 1, by omega, up1 (p := fun i h => leB (cfN (farK f l)) L[i] s = true) h0 (fun _ => ht)⟩, by show L.length - (j + 1) < L.length - j; omega, tI, tI, tI, tI⟩⟩)
            · have b2' : y ≠ x := by simpa using b2
              have hfl : leB (cfN (farK f l)) L[j] s = false := by
                rw [← Bool.not_eq_true, hA]
                rintro (q | ⟨_, q | ⟨q, _⟩⟩)
                · omega
                · have := of_decide_eq_false b1; omega
                · exact b2' q
              have eI := insA_at (c := cfN (farK f l)) (l := L) (x := s) hj h0 (.inr ⟨hjl, hfl⟩)
              have eR := ins_rows eI hj
              (refine goI ?_; repeat (intro gg; refine goI ?_))
              refine ⟨0, j, rfl, rfl, ⟨.i64, rfl⟩, Nat.zero_le _, by rw [List.length_map]; exact hj, rfl, rfl, ⟨.i64, rfl⟩, ?_⟩
              (refine goI ?_; repeat (intro gg; refine goI ?_))
              refine ⟨k, _, rfl, hrow, ?_⟩
              (refine goI ?_; repeat (intro gg; refine goI ?_))
              refine ⟨j, (L.map tRow).length, rfl, ⟨.i64, rfl⟩, rfl, by rw [List.length_map]; exact hj, Nat.le_refl _, rfl, ?_⟩
              (refine goI ?_; repeat (intro gg; refine goI ?_))
              refine ⟨by rw [List.length_map]; exact hj, Nat.le_refl _, ?_⟩
              (refine goI ?_; repeat (intro gg; refine goI ?_))
              have hdl : (((L.map tRow).drop j).take (L.length - j)).length ≤ 100 := by simp; omega
              refine ⟨lI, lI, ?_⟩
              (refine goI ?_; repeat (intro gg; refine goI ?_))
              refine ⟨⟨trivial, trivial, trivial, rfl, trivial, trivial, trivial, trivial, trivial, trivial, trivial, trivial, trivial⟩, ?_⟩
              (refine goI ?_; repeat (intro gg; refine goI ?_))
              refine ⟨List.cons_ne_nil _ _, rfl, by rw [List.length_map]; exact hj, ?_⟩
              refine ⟨lI, lI, ?_⟩
              (refine goI ?_; repeat (intro gg; refine goI ?_))
              exact ⟨some (7, 1408, 112), by (first | exact trivial | exact ⟨_, rfl, rfl, trivial⟩), fun gr => ⟨⟨(k + 1, gr, insA (cfN (farK f l)) L s), by dsimp only; omega, hs.symm⟩, by show names.length - (k + 1) < names.length - k; omega, tI, tI, ⟨congrArg (fun r => some (Ent.mk gr (.t 9) 1 r)) eR, trivial⟩, tI⟩⟩
      · have a1' : ¬ x < 0 := of_decide_eq_false a1
        (refine goI ?_; repeat (intro gg; refine goI ?_))
        rw [a1]
        cases a3 : decide (y < 0) with
        | true =>
          have a3' : y < 0 := of_decide_eq_true a3
          (refine goI ?_; repeat (intro gg; refine goI ?_))
          have hfl : leB (cfN (farK f l)) L[j] s = false := by
            rw [← Bool.not_eq_true, hA]
            rintro (q | ⟨q, _⟩) <;> omega
          have eI := insA_at (c := cfN (farK f l)) (l := L) (x := s) hj h0 (.inr ⟨hjl, hfl⟩)
          have eR := ins_rows eI hj
          (refine goI ?_; repeat (intro gg; refine goI ?_))
          refine ⟨0, j, rfl, rfl, ⟨.i64, rfl⟩, Nat.zero_le _, by rw [List.length_map]; exact hj, rfl, rfl, ⟨.i64, rfl⟩, ?_⟩
          (refine goI ?_; repeat (intro gg; refine goI ?_))
          refine ⟨k, _, rfl, hrow, ?_⟩
          (refine goI ?_; repeat (intro gg; refine goI ?_))
          refine ⟨j, (L.map tRow).length, rfl, ⟨.i64, rfl⟩, rfl, by rw [List.length_map]; exact hj, Nat.le_refl _, rfl, ?_⟩
          (refine goI ?_; repeat (intro gg; refine goI ?_))
          refine ⟨by rw [List.length_map]; exact hj, Nat.le_refl _, ?_⟩
          (refine goI ?_; repeat (intro gg; refine goI ?_))
          have hdl : (((L.map tRow).drop j).take (L.length - j)).length ≤ 100 := by simp; omega
          refine ⟨lI, lI, ?_⟩
          (refine goI ?_; repeat (intro gg; refine goI ?_))
          refine ⟨⟨trivial, trivial, trivial, rfl, trivial, trivial, trivial, trivial, trivial, trivial, trivial, trivial, trivial⟩, ?_⟩
          (refine goI ?_; repeat (intro gg; refine goI ?_))
          refine ⟨List.cons_ne_nil _ _, rfl, by rw [List.length_map]; exact hj, ?_⟩
          refine ⟨lI, lI, ?_⟩
          (refine goI ?_; repeat (intro gg; refine goI ?_))
          exact ⟨some (7, 1408, 112), by (first | exact trivial | exact ⟨_, rfl, rfl, trivial⟩), fun gr => ⟨⟨(k + 1, gr, insA (cfN (farK f l)) L s), by dsimp only; omega, hs.symm⟩, by show names.length - (k + 1) < names.length - k; omega, tI, tI, ⟨congrArg (fun r => some (Ent.mk gr (.t 9) 1 r)) eR, trivial⟩, tI⟩⟩
        | false =>
          have a3' : ¬ y < 0 := of_decide_eq_false a3
          (refine goI ?_; repeat (intro gg; refine goI ?_))
          (refine bIf_of (fun b1 => ?_) (fun b1 => ?_) <;> rw [b1])
          · (refine goI ?_; repeat (intro gg; refine goI ?_))
            have ht : leB (cfN (farK f l)) L[j] s = true := hA.2 (.inr ⟨by omega, .inl (of_decide_eq_true b1)⟩)
            (exact ⟨none, trivial, fun _ => ⟨⟨j + 1, by omega, up1 (p := fun i h => leB (cfN (farK f l)) L[i] s = true) h0 (fun _ => ht)⟩, by show L.length - (j + 1) < L.length - j; omega, tI, tI, tI, tI⟩⟩)
          · (refine goI ?_; repeat (intro gg; refine goI ?_))
            (refine bIf_of (fun b2 => ?_) (fun b2 => ?_) <;> rw [b2])
            · have b2' : y = x := by simpa using b2
              (refine goI ?_; repeat (intro gg; refine goI ?_))
              refine ⟨j, _, rfl, hrj, ?_⟩
              (refine goI ?_; repeat (intro gg; refine goI ?_))
              refine ⟨k, _, rfl, hrow, ?_⟩
              (refine goI ?_; repeat (intro gg; refine goI ?_))
              rw [sle_eq]
              (refine bIf_of (fun b3 => ?_) (fun b3 => ?_) <;> rw [b3])
              · have b3' : slt s L[j] = true := by simpa using b3
                have hfl : leB (cfN (farK f l)) L[j] s = false := by
                  rw [← Bool.not_eq_true, hA]
                  rintro (q | ⟨_, q | ⟨_, q⟩⟩)
                  · omega
                  · have := of_decide_eq_false b1; omega
                  · rw [q] at b3'; cases b3'
                have eI := insA_at (c := cfN (farK f l)) (l := L) (x := s) hj h0 (.inr ⟨hjl, hfl⟩)
                have eR := ins_rows eI hj
                (refine goI ?_; repeat (intro gg; refine goI ?_))
                refine ⟨0, j, rfl, rfl, ⟨.i64, rfl⟩, Nat.zero_le _, by rw [List.length_map]; exact hj, rfl, rfl, ⟨.i64, rfl⟩, ?_⟩
                (refine goI ?_; repeat (intro gg; refine goI ?_))
                refine ⟨k, _, rfl, hrow, ?_⟩
                (refine goI ?_; repeat (intro gg; refine goI ?_))
                refine ⟨j, (L.map tRow).length, rfl, ⟨.i64, rfl⟩, rfl, by rw [List.length_map]; exact hj, Nat.le_refl _, rfl, ?_⟩
                (refine goI ?_; repeat (intro gg; refine goI ?_))
                refine ⟨by rw [List.length_map]; exact hj, Nat.le_refl _, ?_⟩
                (refine goI ?_; repeat (intro gg; refine goI ?_))
                have hdl : (((L.map tRow).drop j).take (L.length - j)).length ≤ 100 := by simp; omega
                refine ⟨lI, lI, ?_⟩
                (refine goI ?_; repeat (intro gg; refine goI ?_))
                refine ⟨⟨trivial, trivial, trivial, rfl, trivial, trivial, trivial, trivial, trivial, trivial, trivial, trivial, trivial⟩, ?_⟩
                (refine goI ?_; repeat (intro gg; refine goI ?_))
                refine ⟨List.cons_ne_nil _ _, rfl, by rw [List.length_map]; exact hj, ?_⟩
                refine ⟨lI, lI, ?_⟩
                (refine goI ?_; repeat (intro gg; refine goI ?_))
                exact ⟨some (7, 1408, 112), by (first | exact trivial | exact ⟨_, rfl, rfl, trivial⟩), fun gr => ⟨⟨(k + 1, gr, insA (cfN (farK f l)) L s), by dsimp only; omega, hs.symm⟩, by show names.length - (k + 1) < names.length - k; omega, tI, tI, ⟨congrArg (fun r => some (Ent.mk gr (.t 9) 1 r)) eR, trivial⟩, tI⟩⟩
              · have b3' : slt s L[j] = false := by simpa using b3
                (refine goI ?_; repeat (intro gg; refine goI ?_))
                have ht : leB (cfN (farK f l)) L[j] s = true := hA.2 (.inr ⟨by omega, .inr ⟨b2', b3'⟩⟩)
                (exact ⟨none, trivial, fun _ => ⟨⟨j + 1, by omega, up1 (p := fun i h => leB (cfN (farK f l)) L[i] s = true) h0 (fun _ => ht)⟩, by show L.length - (j + 1) < L.length - j; omega, tI, tI, tI, tI⟩⟩)
            · have b2' : y ≠ x := by simpa using b2
              have hfl : leB (cfN (farK f l)) L[j] s = false := by
                rw [← Bool.not_eq_true, hA]
                rintro (q | ⟨_, q | ⟨q, _⟩⟩)
                · omega
                · have := of_decide_eq_false b1; omega
                · exact b2' q
              have eI := insA_at (c := cfN (farK f l)) (l := L) (x := s) hj h0 (.inr ⟨hjl, hfl⟩)
              have eR := ins_rows eI hj
              (refine goI ?_; repeat (intro gg; refine goI ?_))
              refine ⟨0, j, rfl, rfl, ⟨.i64, rfl⟩, Nat.zero_le _, by rw [List.length_map]; exact hj, rfl, rfl, ⟨.i64, rfl⟩, ?_⟩
              (refine goI ?_; repeat (intro gg; refine goI ?_))
              refine ⟨k, _, rfl, hrow, ?_⟩
              (refine goI ?_; repeat (intro gg; refine goI ?_))
              refine ⟨j, (L.map tRow).length, rfl, ⟨.i64, rfl⟩, rfl, by rw [List.length_map]; exact hj, Nat.le_refl _, rfl, ?_⟩
              (refine goI ?_; repeat (intro gg; refine goI ?_))
              refine ⟨by rw [List.length_map]; exact hj, Nat.le_refl _, ?_⟩
              (refine goI ?_; repeat (intro gg; refine goI ?_))
              have hdl : (((L.map tRow).drop j).take (L.length - j)).length ≤ 100 := by simp; omega
              refine ⟨lI, lI, ?_⟩
              (refine goI ?_; repeat (intro gg; refine goI ?_))
              refine ⟨⟨trivial, trivial, trivial, rfl, trivial, trivial, trivial, trivial, trivial, trivial, trivial, trivial, trivial⟩, ?_⟩
              (refine goI ?_; repeat (intro gg; refine goI ?_))
              refine ⟨List.cons_ne_nil _ _, rfl, by rw [List.length_map]; exact hj, ?_⟩
              refine ⟨lI, lI, ?_⟩
              (refine goI ?_; repeat (intro gg; refine goI ?_))
              exact ⟨some (7, 1408, 112), by (first | exact trivial | exact ⟨_, rfl, rfl, trivial⟩), fun gr => ⟨⟨(k + 1, gr, insA (cfN (farK f l)) L s), by dsimp only; omega, hs.symm⟩, by show names.length - (k + 1) < names.length - k; omega, tI, tI, ⟨congrArg (fun r => some (Ent.mk gr (.t 9) 1 r)) eR, trivial⟩, tI⟩⟩
    · have hge : ¬ j < L.length := (by have := of_decide_eq_false h2; omega)
      have eI := insA_at (c := cfN (farK f l)) (l := L) (x := s) hj h0 (.inl (by omega))
      have eR := ins_rows eI hj
      (refine goI ?_; repeat (intro gg; refine goI ?_))
      refine ⟨0, j, rfl, rfl, ⟨.i64, rfl⟩, Nat.zero_le _, by rw [List.length_map]; exact hj, rfl, rfl, ⟨.i64, rfl⟩, ?_⟩
      (refine goI ?_; repeat (intro gg; refine goI ?_))
      refine ⟨k, _, rfl, hrow, ?_⟩
      (refine goI ?_; repeat (intro gg; refine goI ?_))
      refine ⟨j, (L.map tRow).length, rfl, ⟨.i64, rfl⟩, rfl, by rw [List.length_map]; exact hj, Nat.le_refl _, rfl, ?_⟩
      (refine goI ?_; repeat (intro gg; refine goI ?_))
      refine ⟨by rw [List.length_map]; exact hj, Nat.le_refl _, ?_⟩
      (refine goI ?_; repeat (intro gg; refine goI ?_))
      have hdl : (((L.map tRow).drop j).take (L.length - j)).length ≤ 100 := by simp; omega
      refine ⟨lI, lI, ?_⟩
      (refine goI ?_; repeat (intro gg; refine goI ?_))
      refine ⟨⟨trivial, trivial, trivial, rfl, trivial, trivial, trivial, trivial, trivial, trivial, trivial, trivial, trivial⟩, ?_⟩
      (refine goI ?_; repeat (intro gg; refine goI ?_))
      refine ⟨List.cons_ne_nil _ _, rfl, by rw [List.length_map]; exact hj, ?_⟩
      refine ⟨lI, lI, ?_⟩
      (refine goI ?_; repeat (intro gg; refine goI ?_))
      exact ⟨some (7, 1408, 112), by (first | exact trivial | exact ⟨_, rfl, rfl, trivial⟩), fun gr => ⟨⟨(k + 1, gr, insA (cfN (farK f l)) L s), by dsimp only; omega, hs.symm⟩, by show names.length - (k + 1) < names.length - k; omega, tI, tI, ⟨congrArg (fun r => some (Ent.mk gr (.t 9) 1 r)) eR, trivial⟩, tI⟩⟩
  · have hge : ¬ k < names.length := (by have := of_decide_eq_false h; omega)
    obtain rfl : k = names.length := by omega
    have hL2 : sortN f l names = L := by rw [hL, List.take_length]
    rw [hL2]
    (refine goI ?_; repeat (intro gg; refine goI ?_))
    (exact ⟨[], aI⟩)
end Go.Proofs.Ytdaffjjconlmoaa
/- How long a list that is handed over can be, by the bytes that it may take. -/
namespace Go.Proofs.Ytdaffjjconlmoaa
open Go.ChangeShapes Go.WideShapes Go.ChangeAt Go.RowKit
set_option linter.unusedVariables false
theorem list_sz {H : Type} {enc : TypeId × Value → H} {P : Program} {w : World} {base : Nat} {spare : Nat → Bool} {held : Bool} {t e : TypeId} {v : Value} {d : DataW H} {p : List MemPlace} {R : Nat → Prop} {G : Nat → Option Loc} {rows : List (List V)}
    (hu : P.underlying t = some (.slice e)) (h : DataW.Trod enc P w base spare held t v d p) (hv : RV w R G (.sl false rows) v) {ts : List TypeId} {ds : List (DataW H)} {j : Nat}
    (hz : (DataW.weightsEach P ts ds).all (· ≤ reachBytes) = true) (ht : ts[j]? = some t) (hd : ds[j]? = some d) : rows.length * P.bytesOf e ≤ 140737488351232 := by
  obtain ⟨fuel, hf⟩ := h
  have key : ∀ a len cap, v = .slice a len cap → rows.length = len → rows.length * P.bytesOf e ≤ 140737488351232 := fun a len cap hva hl => by
    subst hva
    rcases Go.Deep.open_slice hu hf with ⟨h1, _⟩ | ⟨a', len', cap', m, n, D, Pl, h1, _, _, _, _, h2, _⟩
    · have h1 : [Value.slice a len cap] = [.slice none 0 0] := h1
      simp only [List.cons.injEq, Value.slice.injEq] at h1
      rw [hl, h1.1.2.1]; omega
    · have h1 : [Value.slice a len cap] = [.slice (some a') len' cap'] := h1
      simp only [List.cons.injEq, Value.slice.injEq] at h1
      injection h2 with h2 _
      subst h2
      have := sized_slice hz ht hd hu
      rw [List.length_map, List.length_range] at this
      rw [hl, h1.1.2.1]
      have h3 : len' * P.bytesOf e ≤ (len' + ((List.range (m - len')).map fun j => D (len' + j)).length) * P.bytesOf e := Nat.mul_le_mul_right _ (by omega)
      have h4 : reachBytes = 140737488351232 := rfl
      omega
  generalize hu' : V.sl false rows = u at hv
  cases hv with
  | nil clip a cap hc => injection hu' with _ hr; subst hr; exact key _ _ _ rfl rfl
  | sl clip rows' b off cap sz f _ _ _ _ _ _ => injection hu' with _ hr; subst hr; exact key _ _ _ rfl rfl
  | _ => cases hu'
end Go.Proofs.Ytdaffjjconlmoaa
/- RestCatalogs: whatever services, gateways and names come in, what the functions give may be spoilt, and comes again; no condition. -/
namespace Go.Proofs.Ytdaffjjconlmoaa.restCatalogs
open Go.Joins Go.ChangeShapes Go.WideShapes Go.ChangeAt Go.RowKit Pl
set_option linter.unusedVariables false
theorem setR_len (l : List Sv) (s : Sv) : (setR l s).2.length ≤ l.length + 1 := by
  unfold setR
  have := low_le (cf := Sv.kf s) l
  split <;> (try split) <;> (try split) <;> simp <;> omega
theorem regM_len (l : List Sv) (s : Sv) : (regM l s).2.length ≤ l.length + 1 := by
  unfold regM regR
  split
  · simp
  · split
    · simp
    · exact setR_len _ _
theorem openG_len (l : List Gw) (nm : ByteArray) (a : Int) : (openG l nm a).2.length ≤ l.length + 1 := by
  unfold openG
  have := low_le (cf := Gw.cf nm) l
  split
  · simp
  · split
    · simp
    · split <;> (try split) <;> (try split) <;> simp <;> omega
theorem err_zero {f : Pc} {l : List Wh} {names : List ByteArray} (h : sortErr f l names = 0) : names.length ≤ 100 := by
  by_cases h1 : 100 < l.length ∨ 100 < names.length
  · rw [sortErr_many h1] at h; cases h
  · omega
theorem sv_refl (x : Sv) : Sv.same x x = true := by simp [Sv.same]
theorem gw_refl (x : Gw) : Gw.same x x = true := by simp [Gw.same]
def sQ : ByteArray := ⟨#[113]⟩
def p0 : Pc := ⟨0, 0, 0, 0, 0⟩
theorem find_ok {l : List Sv} {nm tg : ByteArray} (h : (findM l nm tg).1 = 0) : (findM l nm tg).2 = findR l nm tg := by
  unfold findM at h ⊢
  split at h
  · rename_i q; exact absurd h q
  · split at h
    · cases h
    · split at h
      · cases h
      · simp_all
set_option maxRecDepth 100000 in
set_option maxHeartbeats 4000000 in
theorem law (l : List Sv) (s : Sv) (g : List Gw) (names : List ByteArray) (hl : l.length ≤ 9223372036854775807) (hw : ∀ x ∈ l, x.ok) (hz : l.length * 104 ≤ 140737488355328) (hs : s.ok) (hg : g.length ≤ 9223372036854775807) (hgw : ∀ x ∈ g, x.ok) (hgz : g.length * 32 ≤ 140737488355328)
    (hn : names.length ≤ 9223372036854775807) (_ : ∀ x ∈ names, x.size ≤ 9223372036854775807) (hnz : names.length * 16 ≤ 140737488355328) :
    Fun Try.prog 3 [.c (.sl false (l.map Sv.row)), .c (.agg s.row), .c (.sl false (g.map Gw.row)), .c (.sl false (names.map tRow))] [.c (.v (.bool true))] := by
  obtain ⟨hs1, hs2, hs3, hs4⟩ := hs
  have hs : s.ok := ⟨hs1, hs2, hs3, hs4⟩
  have R1 := sregO_fun l s hl hw hs
  have F1 := sFindO_fun l s.nm sEm hl hw hs3 (by decide)
  have T1 := gTableO_fun g sQ hg hgw (by decide)
  have O1 := gOpenO_fun g sQ 5 hg hgw (by decide)
  have N1 := pSort_fun p0 [] names (by simp) hn
  have b1 := regM_len l s
  have b2 : (findM l s.nm sEm).2.length ≤ l.length := by
    unfold findM; split
    · simp
    · split
      · simp
      · split
        · simp
        · exact List.length_filter_le _ _
  have b3 := openG_len g sQ 5
  have b5 : (sortG p0 [] names).length ≤ 9223372036854775807 := by
    unfold sortG; split
    · rw [show (Go.Proofs.Ytdaffjjconlmoaa.srtL (cfN (farK p0 [])) names).length = names.length from List.length_mergeSort _]; exact hn
    · simp
  have b6 := err_zero (f := p0) (l := []) (names := names)
  have hso : sortErr p0 [] names = 0 → sortG p0 [] names = sortN p0 [] names := fun q => by rw [sortG_ok q]; exact (cfN_sort _ _).symm
  have hfi := find_ok (l := l) (nm := s.nm) (tg := sEm)
  have hre : ckSv l = 0 → regM l s = regR l s := fun q => by simp [regM, q]
  have hta : ckGw g = 0 → (tabG g sQ).1 = 0 := fun q => by rw [tabG_ok q (by decide)]
  have REF1 : ckSv l = 0 → Fun Try.prog 16 [.c (.sl false (l.map Sv.row)), .c (.agg s.row)] [.c (.sl false ((regM l s).2.map Sv.row)), .c (.v (.int .i64 (regM l s).1))] := fun q => by rw [hre q]; exact rsreg_fun l s q hs
  have REF2 : ckSv l = 0 → Fun Try.prog 17 [.c (.sl false (l.map Sv.row)), .c (.v (.string s.nm)), .c (.v (.string sEm))] [.c (.sl false ((findR l s.nm sEm).map Sv.row))] := fun q => rsfind_fun l s.nm sEm (by have := (ckSv_inv q).1; omega)
  have REF3 : ckGw g = 0 → Fun Try.prog 19 [.c (.sl false (g.map Gw.row)), .c (.v (.string sQ)), .c (.v (.int .i64 5))] [.c (.sl false ((openG g sQ 5).2.map Gw.row)), .c (.v (.int .i64 (openG g sQ 5).1))] := fun q => openOf_fun g q sQ (by decide) 5
  have REF4 : sortErr p0 [] names = 0 → Fun Try.prog 20 [.c (.agg p0.row), .c (.sl false (([] : List Wh).map Wh.row)), .c (.sl false (names.map tRow))] [.c (.sl false ((sortG p0 [] names).map tRow))] := fun q => by
    rw [hso q]; exact SortOf_fun p0 [] names (by simp) (b6 q) (by decide) (by simp)
  have S1 := ssame_fun false false l l hl
  have S2 := gsame_fun false false g g hg
  have S3 := texts_fun false false names names hn
  have S4 := ssame_fun false false (regM l s).2 (regM l s).2 (by omega)
  have S5 := ssame_fun false false (findM l s.nm sEm).2 (findM l s.nm sEm).2 (by omega)
  have S6 := gsame_fun false false (openG g sQ 5).2 (openG g sQ 5).2 (by omega)
  have S7 := texts_fun false false (sortG p0 [] names) (sortG p0 [] names) b5
  rw [sameL_refl sv_refl] at S1 S4 S5
  rw [sameL_refl gw_refl] at S2 S6
  rw [sameL_refl tSame_refl] at S3 S7
  have SP1 := spoilS_fun (regM l s).2 (by omega)
  have SP2 := spoilS_fun (findM l s.nm sEm).2 (by omega)
  have SP3 := spoilG_fun (openG g sQ 5).2 (by omega)
  have b4 : (tabG g sQ).2.length ≤ g.length := tabG_len g sQ
  generalize (regM l s).2 = x at *
  generalize (regM l s).1 = e at *
  generalize (findM l s.nm sEm).2 = y at *
  generalize (findM l s.nm sEm).1 = f at *
  generalize (openG g sQ 5).2 = o at *
  generalize (openG g sQ 5).1 = kk at *
  generalize (tabG g sQ).2 = t at *
  generalize (tabG g sQ).1 = hh at *
  generalize sortG p0 [] names = nn at *
  generalize sortErr p0 [] names = m at *
  refine fun_xd (rcD := stageAt [true, true, true, false, true, true, true, true, false, true, true, true, true, true, true, true, false] (stageAt [true, true, true, false, true, true, true, true, false, true, true, true, true, true, true, true, true, false] (stageAt [true, true, true, false, true, true, true, true, false, true, true, true, true, true, true, true, true, true, false] rc_hearsaylaw_RestCatalogs))) ck_hearsaylaw_RestCatalogs (by kernel_rfl) rfl ?_
  (refine goI ?_; repeat (intro gg; refine goI ?_))
  (refine .inl ⟨_, _, false, [], aI, sbegun_fun, nobor, nI, ?_⟩)
  (refine goI ?_; repeat (intro gg; refine goI ?_))
  (refine .inl ⟨_, _, false, [], aI, gbegun_fun, nobor, nI, ?_⟩)
  (refine goI ?_; repeat (intro gg; refine goI ?_))
  (refine .inl ⟨_, _, false, [], aI, pbegun_fun, nobor, nI, ?_⟩)
  (refine goI ?_; repeat (intro gg; refine goI ?_))
  refine ⟨ones_rows, ?_⟩
  (refine goI ?_; repeat (intro gg; refine goI ?_))
  refine ⟨lI, lI, ?_⟩
  (refine goI ?_; repeat (intro gg; refine goI ?_))
  refine ⟨ones_rows, ?_⟩
  (refine goI ?_; repeat (intro gg; refine goI ?_))
  refine ⟨lI, lI, ?_⟩
  (refine goI ?_; repeat (intro gg; refine goI ?_))
  refine ⟨ones_rows, ?_⟩
  (refine goI ?_; repeat (intro gg; refine goI ?_))
  refine ⟨lI, lI, ?_⟩
  (refine goI ?_; repeat (intro gg; refine goI ?_))
  (refine ⟨[], none, {k : Nat // k ≤ 2}, [0, 2, 3, 5, 9, 10, 11], fun ⟨k, hk⟩ => [(12, .v (.int .i64 k))], [80, 624, 672, 720], fun ⟨k, hk⟩ => [], fun ⟨k, hk⟩ => 2 - k, trivial, fun _ => ⟨trivial, fun _ => ⟨⟨0, by omega⟩, tI, keptE_refl _ _, tI, keptH_refl _ _⟩⟩, fun ⟨k, hk⟩ => ?_⟩)
  (refine goI ?_; repeat (intro gg; refine goI ?_))
  (refine bIf_of (fun c => ?_) (fun c => ?_) <;> rw [c])
  · have hlt : k < 2 := (by have := of_decide_eq_true c; omega)
    (refine goI ?_; repeat (intro gg; refine goI ?_))
    (refine .inl ⟨_, _, true, [], aI, R1, (fun _ => fI), nI, ?_⟩)
    (refine goI ?_; repeat (intro gg; refine goI ?_))
    rename Nat → Nat => gX
    (refine .inl ⟨_, _, true, [], aI, F1, (fun _ => fI), nI, ?_⟩)
    (refine goI ?_; repeat (intro gg; refine goI ?_))
    rename Nat → Nat => gY
    (refine .inl ⟨_, _, true, [], aI, T1, (fun _ => fI), nI, ?_⟩)
    (refine goI ?_; repeat (intro gg; refine goI ?_))
    rename Nat → Nat => gT
    (refine .inl ⟨_, _, true, [], aI, O1, (fun _ => fI), nI, ?_⟩)
    (refine goI ?_; repeat (intro gg; refine goI ?_))
    rename Nat → Nat => gO
    (refine .inl ⟨_, _, true, [], aI, N1, (fun _ => fI), nI, ?_⟩)
    (refine goI ?_; repeat (intro gg; refine goI ?_))
    rename Nat → Nat => gN
    (refine .inl ⟨_, _, true, [], aI, S1, (fun _ => fI), nI, ?_⟩)
    (refine goI ?_; repeat (intro gg; refine goI ?_))
    (refine .inl ⟨_, _, true, [], aI, S2, (fun _ => fI), nI, ?_⟩)
    (refine goI ?_; repeat (intro gg; refine goI ?_))
    (refine .inl ⟨_, _, true, [], aI, S3, (fun _ => fI), nI, ?_⟩)
    (refine goI ?_; repeat (intro gg; refine goI ?_))
    (refine ⟨Unit, [0, 2, 3, 5, 9, 10, 11, 12, 13, 15, 17, 18, 19, 20, 21, 22], fun _ => [], [80, 624, 672, 720, 880, 992, 1072, 1152, 1248], fun _ => [], ?_, fun _ => ?_⟩)
    · (refine goI ?_; repeat (intro gg; refine goI ?_))
      (refine .inl ⟨_, _, false, [], aI, rscheck_fun false l hl hw, nobor, nI, ?_⟩)
      (refine goI ?_; repeat (intro gg; refine goI ?_))
      (refine bIf_of (fun c1 => ?_) (fun c1 => ?_) <;> rw [c1])
      · have ck : ckSv l = 0 := by simpa using c1
        (refine goI ?_; repeat (intro gg; refine goI ?_))
        (refine .inl ⟨_, _, false, [], aI, REF1 ck, nobor, nI, ?_⟩)
        (refine goI ?_; repeat (intro gg; refine goI ?_))
        rw [show (e != e) = false by simp]
        (refine goI ?_; repeat (intro gg; refine goI ?_))
        (refine bIf_of (fun c2 => ?_) (fun c2 => ?_) <;> rw [c2])
        · (refine goI ?_; repeat (intro gg; refine goI ?_))
          (refine .inl ⟨_, _, true, [], aI, S4, (fun _ => fI), nI, ?_⟩)
          (refine goI ?_; repeat (intro gg; refine goI ?_))
          (refine bIf_of (fun c3 => ?_) (fun c3 => ?_) <;> rw [c3])
          · have c3' : f = 0 := by simpa using c3
            (refine goI ?_; repeat (intro gg; refine goI ?_))
            have q2 := REF2 ck
            rw [← hfi c3'] at q2
            (refine .inl ⟨_, _, false, [], aI, q2, nobor, nI, ?_⟩)
            (refine goI ?_; repeat (intro gg; refine goI ?_))
            (refine .inl ⟨_, _, true, [], aI, S5, (fun _ => fI), nI, ?_⟩)
            (refine goI ?_; repeat (intro gg; refine goI ?_))
            (exact ⟨(), tI, tI, tI, tI⟩)
          · (refine goI ?_; repeat (intro gg; refine goI ?_))
            (exact ⟨(), tI, tI, tI, tI⟩)
        · (refine goI ?_; repeat (intro gg; refine goI ?_))
          (refine bIf_of (fun c3 => ?_) (fun c3 => ?_) <;> rw [c3])
          · have c3' : f = 0 := by simpa using c3
            (refine goI ?_; repeat (intro gg; refine goI ?_))
            have q2 := REF2 ck
            rw [← hfi c3'] at q2
            (refine .inl ⟨_, _, false, [], aI, q2, nobor, nI, ?_⟩)
            (refine goI ?_; repeat (intro gg; refine goI ?_))
            (refine .inl ⟨_, _, true, [], aI, S5, (fun _ => fI), nI, ?_⟩)
            (refine goI ?_; repeat (intro gg; refine goI ?_))
            (exact ⟨(), tI, tI, tI, tI⟩)
          · (refine goI ?_; repeat (intro gg; refine goI ?_))
            (exact ⟨(), tI, tI, tI, tI⟩)
      · (refine goI ?_; repeat (intro gg; refine goI ?_))
        (exact ⟨(), tI, tI, tI, tI⟩)
    · (refine goI ?_; repeat (intro gg; refine goI ?_))
      (refine ⟨Unit, [0, 2, 3, 5, 9, 10, 11, 12, 13, 15, 17, 18, 19, 20, 21, 22], fun _ => [], [80, 624, 672, 720, 880, 992, 1072, 1152, 1248], fun _ => [], ?_, fun _ => ?_⟩)
      · (refine goI ?_; repeat (intro gg; refine goI ?_))
        (refine .inl ⟨_, _, false, [], aI, grcheck_fun false g hg hgw, nobor, nI, ?_⟩)
        (refine goI ?_; repeat (intro gg; refine goI ?_))
        (refine bIf_of (fun c4 => ?_) (fun c4 => ?_) <;> rw [c4])
        · have cg : ckGw g = 0 := by simpa using c4
          (refine goI ?_; repeat (intro gg; refine goI ?_))
          (refine .inl ⟨_, _, false, [], aI, REF3 cg, nobor, nI, ?_⟩)
          (refine goI ?_; repeat (intro gg; refine goI ?_))
          rw [show (hh != 0) = false by rw [hta cg]; rfl]
          (refine goI ?_; repeat (intro gg; refine goI ?_))
          rw [show (kk != kk) = false by simp]
          (refine goI ?_; repeat (intro gg; refine goI ?_))
          (refine bIf_of (fun c5 => ?_) (fun c5 => ?_) <;> rw [c5])
          · (refine goI ?_; repeat (intro gg; refine goI ?_))
            (refine .inl ⟨_, _, true, [], aI, S6, (fun _ => fI), nI, ?_⟩)
            (refine goI ?_; repeat (intro gg; refine goI ?_))
            (exact ⟨(), tI, tI, tI, tI⟩)
          · (refine goI ?_; repeat (intro gg; refine goI ?_))
            (exact ⟨(), tI, tI, tI, tI⟩)
        · (refine goI ?_; repeat (intro gg; refine goI ?_))
          (exact ⟨(), tI, tI, tI, tI⟩)
      · (refine goI ?_; repeat (intro gg; refine goI ?_))
        (refine ⟨Unit, [0, 2, 3, 5, 9, 10, 11, 12, 13, 15, 17, 18, 19, 20, 21, 22], fun _ => [], [80, 624, 672, 720, 880, 992, 1072, 1152, 1248], fun _ => [], ?_, fun _ => ?_⟩)
        · (refine goI ?_; repeat (intro gg; refine goI ?_))
          (refine bIf_of (fun c6 => ?_) (fun c6 => ?_) <;> rw [c6])
          · have c6' : m = 0 := by simpa using c6
            (refine goI ?_; repeat (intro gg; refine goI ?_))
            (refine .inl ⟨_, _, false, [], aI, REF4 c6', nobor, nI, ?_⟩)
            (refine goI ?_; repeat (intro gg; refine goI ?_))
            (refine .inl ⟨_, _, true, [], aI, S7, (fun _ => fI), nI, ?_⟩)
            (refine goI ?_; repeat (intro gg; refine goI ?_))
            (exact ⟨(), tI, tI, tI, tI⟩)
          · (refine goI ?_; repeat (intro gg; refine goI ?_))
            (exact ⟨(), tI, tI, tI, tI⟩)
        · (refine goI ?_; repeat (intro gg; refine goI ?_))
          (refine .inr (.inl ⟨_, _, false, [880], aM, SP1, nobor, oI, dI, ?_⟩))
          (refine goI ?_; repeat (intro gg; refine goI ?_))
          (refine .inr (.inl ⟨_, _, false, [992], aM, SP2, nobor, oI, dI, ?_⟩))
          (refine goI ?_; repeat (intro gg; refine goI ?_))
          (refine .inr (.inl ⟨_, _, false, [1152], aM, SP3, nobor, oI, dI, ?_⟩))
          (refine goI ?_; repeat (intro gg; refine goI ?_))
          (refine ⟨[], none, {q : Nat × List Rt // q.1 ≤ q.2.length ∧ q.2.length = t.length}, [0, 2, 3, 5, 9, 10, 11, 12, 17, 21], fun ⟨⟨j, L⟩, hj, hL⟩ => [(27, .v (.int .i64 j))], [80, 624, 672, 720, 1248], fun ⟨⟨j, L⟩, hj, hL⟩ => [(1072, ⟨gT 1072, 51, 2, L.map Rt.row⟩)], fun ⟨⟨j, L⟩, hj, hL⟩ => L.length - j, trivial, fun _ => ⟨trivial, fun _ => ⟨⟨(0, t), Nat.zero_le _, rfl⟩, tI, keptE_refl _ _, tI, keptH_refl _ _⟩⟩, fun ⟨⟨j, L⟩, hj, hL⟩ => ?_⟩)
          have hj : j ≤ L.length := hj
          have hL : L.length = t.length := hL
          (refine goI ?_; repeat (intro gg; refine goI ?_))
          rw [List.length_map]
          (refine bIf_of (fun d1 => ?_) (fun d1 => ?_) <;> rw [d1])
          · have hjl : j < L.length := (by have := of_decide_eq_true d1; omega)
            (refine goI ?_; repeat (intro gg; refine goI ?_))
            refine ⟨j, _, rfl, row_map hjl, ?_⟩
            (refine goI ?_; repeat (intro gg; refine goI ?_))
            have e1 : (L.map Rt.row).set j (Rt.row ⟨sQu, L[j].a⟩) = (L.set j ⟨sQu, L[j].a⟩).map Rt.row := List.map_set.symm
            (exact ⟨none, trivial, fun gr => ⟨⟨(j + 1, L.set j ⟨sQu, L[j].a⟩), by simp only [List.length_set]; omega, by simp only [List.length_set]; assumption⟩, by show (L.set j ⟨sQu, L[j].a⟩).length - (j + 1) < L.length - j; rw [List.length_set]; omega, tI, tI, ⟨congrArg (fun r => some (Ent.mk (gT 1072) (.t 51) 2 r)) e1, trivial⟩, tI⟩⟩)
          · (refine goI ?_; repeat (intro gg; refine goI ?_))
            (refine ⟨[], none, {q : Nat × List ByteArray // q.1 ≤ q.2.length ∧ q.2.length = nn.length}, [0, 2, 3, 5, 9, 10, 11, 12, 21], fun ⟨⟨i, M⟩, hi, hM⟩ => [(28, .v (.int .i64 i))], [80, 624, 672, 720], fun ⟨⟨i, M⟩, hi, hM⟩ => [(1248, ⟨gN 1248, 9, 1, M.map tRow⟩)], fun ⟨⟨i, M⟩, hi, hM⟩ => M.length - i, trivial, fun _ => ⟨trivial, fun _ => ⟨⟨(0, nn), Nat.zero_le _, rfl⟩, tI, keptE_refl _ _, tI, keptH_refl _ _⟩⟩, fun ⟨⟨i, M⟩, hi, hM⟩ => ?_⟩)
            have hi : i ≤ M.length := hi
            have hM : M.length = nn.length := hM
            (refine goI ?_; repeat (intro gg; refine goI ?_))
            rw [List.length_map]
            (refine bIf_of (fun d2 => ?_) (fun d2 => ?_) <;> rw [d2])
            · have hil : i < M.length := (by have := of_decide_eq_true d2; omega)
              (refine goI ?_; repeat (intro gg; refine goI ?_))
              refine ⟨i, _, rfl, row_map hil, ?_⟩
              (refine goI ?_; repeat (intro gg; refine goI ?_))
              have e2 : (M.map tRow).set i (tRow sQu) = (M.set i sQu).map tRow := List.map_set.symm
              (exact ⟨none, trivial, fun gr => ⟨⟨(i + 1, M.set i sQu), by simp only [List.length_set]; omega, by simp only [List.length_set]; assumption⟩, by show (M.set i sQu).length - (i + 1) < M.length - i; rw [List.length_set]; omega, tI, tI, ⟨congrArg (fun r => some (Ent.mk (gN 1248) (.t 9) 1 r)) e2, trivial⟩, tI⟩⟩)
            · (refine goI ?_; repeat (intro gg; refine goI ?_))
              (exact ⟨none, trivial, fun _ => ⟨⟨k + 1, by omega⟩, by show 2 - (k + 1) < 2 - k; omega, tI, tI, tI, tI⟩⟩)
  · (refine goI ?_; repeat (intro gg; refine goI ?_))
    (exact ⟨[], aI⟩)
--FRAME
theorem own : ownKnob Try.prog.godebug = none := by kernel_rfl

set_option maxRecDepth 100000 in
theorem lifted (os : Os) (started : os.Started) (H : Type) (enc : TypeId × Value → H) :
    ReturnsInHanded {} Try.checked os 3 .any (Rows.restCatalogsSpec.pre6 enc Try.prog Try.f3 Rows.restCatalogsRow.domain false) (Rows.restCatalogsSpec.post enc Try.prog Try.f3 false true false false) := by
  refine returnsInHanded_of_change_sized (C := Try.checked) own started (by kernel_rfl) Try.func3
    (ChangeSpec.witness6 (enc := enc) (C := Try.checked) false ⟨#[], #[.slice none 0 0, .agg #[.string ⟨#[]⟩, .string ⟨#[]⟩, .string ⟨#[]⟩, .string ⟨#[]⟩, .int .i64 0, .int .i64 0, .bool false, .int .i64 0, .bool false], .slice none 0 0, .slice none 0 0], []⟩ 8 (by kernel_rfl) (by kernel_rfl) (by kernel_rfl) (by kernel_rfl)) ?_
  intro W base args ds gs before hval0 hW hcnd hsz _
  have hval : ∀ (j : Nat) t v, Try.f3.params[j]? = some t → args[j]? = some v → Value.okWide Try.prog W .any base t v := hval0
  have hW' := hW
  obtain ⟨p, q, hA0, hV, rfl, hfz, hnd⟩ := hW
  have hA : DataW.TrodAll enc Try.prog W 0 (fun _ => true) true Try.f3.params.toList args.toList ds p := hA0
  rw [Try.params3] at hA hval
  obtain ⟨v0, vs0, d0, ds0, p0, q0, hargs, rfl, rfl, h0, r0⟩ := trodAll_cons hA
  obtain ⟨v1, vs1, d1, ds1, p1, q1, rfl, rfl, rfl, h1, r1⟩ := trodAll_cons r0
  obtain ⟨v2, vs2, d2, ds2, p2, q2, rfl, rfl, rfl, h2, r2⟩ := trodAll_cons r1
  obtain ⟨v3, vs3, d3, ds3, p3, q3, rfl, rfl, rfl, h3, r3⟩ := trodAll_cons r2
  obtain ⟨rfl, rfl, rfl⟩ := trodAll_nil r3
  obtain rfl : args = #[v0, v1, v2, v3] := by cases args; simp_all
  obtain ⟨rfl, rfl⟩ := trodVars_none hV
  obtain ⟨u0, f0, rv0⟩ := open_list (dp := 5) Try.underlying22 (by kernel_rfl) (hval 0 22 v0 rfl rfl) h0
  obtain ⟨l0, rfl, ln0, lw0⟩ := fit_list sv_dec f0
  have z0 := list_sz Try.underlying22 h0 rv0 (j := 0) hsz (by rw [Try.params3]; rfl) rfl
  rw [show Try.prog.bytesOf 24 = 104 by kernel_rfl, List.length_map] at z0
  obtain ⟨u1, f1, rv1⟩ := open_struct (dp := 5) Try.underlying24 (by kernel_rfl) (hval 1 24 v1 rfl rfl) h1
  obtain ⟨m1, rfl, mw1⟩ := sv_dec _ f1
  obtain ⟨u2, f2, rv2⟩ := open_list (dp := 5) Try.underlying25 (by kernel_rfl) (hval 2 25 v2 rfl rfl) h2
  obtain ⟨l2, rfl, ln2, lw2⟩ := fit_list gw_dec f2
  have z2 := list_sz Try.underlying25 h2 rv2 (j := 2) hsz (by rw [Try.params3]; rfl) rfl
  rw [show Try.prog.bytesOf 62 = 32 by kernel_rfl, List.length_map] at z2
  obtain ⟨u3, f3, rv3⟩ := open_list (dp := 5) Try.underlying26 (by kernel_rfl) (hval 3 26 v3 rfl rfl) h3
  obtain ⟨l3, rfl, ln3, lw3⟩ := fit_list tx_dec f3
  have z3 := list_sz Try.underlying26 h3 rv3 (j := 3) hsz (by rw [Try.params3]; rfl) rfl
  rw [show Try.prog.bytesOf 9 = 16 by kernel_rfl, List.length_map] at z3
  clear hA0 hval0
  refine (tieL (us := [_, _, _, _]) (xs := [_, _, _, _]) (w := W) (law l0 m1 l2 l3 ln0 lw0 (by omega) mw1 ln2 lw2 (by omega) ln3 lw3 (by omega)) ⟨rv0, rv1, rv2, rv3, trivial⟩).mono fun e W' ⟨he, hg⟩ => ?_
  subst he
  exact ⟨_, rfl, law_post hW' (by kernel_rfl) (by rw [Try.params3]; exact of_decide_eq_true (by kernel_rfl)) rfl rfl (by kernel_rfl) Try.underlying4 hg⟩

theorem over : Rows.restCatalogsRow.holds Try.pinned (OpenSpec.ofChange Rows.restCatalogsSpec) :=
  OpenClaim.holds_of_wide 3 Try.f3 rfl rfl rfl rfl rfl rfl rfl ⟨rfl, rfl, rfl, rfl, rfl⟩ rfl rfl rfl rfl rfl (by kernel_rfl) Try.func3 (by kernel_rfl)
    (of_decide_eq_true (by kernel_rfl)) (by unfold Func.isWrapper; first | (rw [if_pos (by decide +kernel)]; kernel_rfl) | (rw [if_neg (by decide +kernel)]; exact ⟨rfl, rfl⟩))
    (fun os started H enc _ => lifted os started H enc)

/-- the statement -/
theorem proved : Rows.RestCatalogsSaid := over
#print axioms proved
end Go.Proofs.Ytdaffjjconlmoaa.restCatalogs
