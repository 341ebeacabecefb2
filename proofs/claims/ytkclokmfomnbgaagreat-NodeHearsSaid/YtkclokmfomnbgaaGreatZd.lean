/- Texts of this claim, joined. -/
import Derived.Test.YtkclokmfomnbgaaGreatZa
import Derived.Test.YtkclokmfomnbgaaGreatZb
import Derived.Test.YtkclokmfomnbgaaGreatZc
set_option linter.unusedSimpArgs false
namespace Go.Proofs.YtkclokmfomnbgaaGreat
open Go.RowKit Pl
set_option linter.unusedVariables false
namespace Pl
noncomputable def spreadsM : Nd → List Mb → Int × Nd
 | n, [] => (0, n)
 | n, m :: t => if (spreadM n m).1 ≠ 0 then spreadM n m else spreadsM (spreadM n m).2 t
theorem spreads_snoc : ∀ {l : List Mb} {n x : Nd} {m : Mb}, spreadsM n l = (0, x) → spreadsM n (l ++ [m]) = spreadM x m
 | [], n, x, m, h => by
  have : n = x := congrArg Prod.snd h
  subst this
  show spreadsM n [m] = _
  unfold spreadsM
  split
  ·rfl
  ·rename_i q
   have q : (spreadM n m).1 = 0 := Classical.byContradiction q
   unfold spreadsM; rw [← q]
 | a :: l, n, x, m, h => by
  rw [spreadsM] at h
  rw [List.cons_append, spreadsM]
  split at h
  ·rename_i q; rw [h] at q; exact absurd rfl q
  ·rename_i q; rw [if_neg q]; exact spreads_snoc h
theorem spreads_bad : ∀ {l t : List Mb} {n x : Nd} {m : Mb}, spreadsM n l = (0, x) → (spreadM x m).1 ≠ 0 → (spreadsM n (l ++ m :: t)).1 = (spreadM x m).1
 | [], t, n, x, m, h, hb => by
  have : n = x := congrArg Prod.snd h
  subst this
  show (spreadsM n (m :: t)).1 = _
  rw [spreadsM, if_pos hb]
 | a :: l, t, n, x, m, h, hb => by
  rw [spreadsM] at h
  rw [List.cons_append, spreadsM]
  split at h
  ·rename_i q; rw [h] at q; exact absurd rfl q
  ·rename_i q; rw [if_neg q]; exact spreads_bad h hb
theorem spreads_good : ∀ {l : List Mb} {n : Nd}, n.Good → (spreadsM n l).1 = 0 → (spreadsM n l).2.Good ∧ Kept n (spreadsM n l).2
 | [], n, g, h => ⟨g, .refl _⟩
 | a :: l, n, g, h => by
  rw [spreadsM] at h ⊢
  split at h
  ·rename_i q; exact absurd h q
  ·rename_i q
   rw [if_neg q]
   have q : (spreadM n a).1 = 0 := Classical.byContradiction q
   have g1 := spread_good g q
   have g2 := spreads_good g1.1 h
   exact ⟨g2.1, g1.2.trans g2.2⟩
def putWh (l : List Wh) (x : Wh) : List Wh := if hit (Wh.cf x.nd) l = false ∧ l.length < 20 then l.take (low (Wh.cf x.nd) l) ++ [x] ++ l.drop (low (Wh.cf x.nd) l) else l
theorem putWh_yes {l : List Wh} {x : Wh} (h : hit (Wh.cf x.nd) l = false) (h2 : l.length < 20) : putWh l x = l.take (low (Wh.cf x.nd) l) ++ [x] ++ l.drop (low (Wh.cf x.nd) l) := if_pos ⟨h, h2⟩
theorem putWh_hit {l : List Wh} {x : Wh} (h : hit (Wh.cf x.nd) l = true) : putWh l x = l := if_neg (by simp [h])
theorem putWh_full {l : List Wh} {x : Wh} (h : ¬ l.length < 20) : putWh l x = l := if_neg (by simp [h])
theorem putWh_good {l : List Wh} (h : sorted Wh.lt l = true) (hl : l.length ≤ 20) (x : Wh) : sorted Wh.lt (putWh l x) = true ∧ (putWh l x).length ≤ 20 := by
 unfold putWh
 split
 ·rename_i hh
  have e : upd Wh.kf (fun _ _ => true) l x = l.take (low (Wh.cf x.nd) l) ++ [x] ++ l.drop (low (Wh.cf x.nd) l) := by
   rw [upd_put (hearF_miss hh.1)]
   unfold putAt
   rw [if_neg (by show ¬ hit (Wh.cf x.nd) l = true; rw [hh.1]; simp)]
   rfl
  rw [← e]
  refine ⟨Wh.ord.upd _ h x, ?_⟩
  rw [e]
  simp only [List.length_append, List.length_take, List.length_drop, List.length_cons, List.length_nil]
  omega
 ·exact ⟨h, hl⟩
theorem putWhs_good : ∀ (p : List Wh) {l : List Wh}, sorted Wh.lt l = true → l.length ≤ 20 → sorted Wh.lt (p.foldl putWh l) = true ∧ (p.foldl putWh l).length ≤ 20
 | [], l, h, hl => ⟨h, hl⟩
 | x :: p, l, h, hl => putWhs_good p (putWh_good h hl x).1 (putWh_good h hl x).2
noncomputable def hearR (n : Nd) (p : Pk) : Int × Nd :=
 if (spreadsM n p.ms).1 ≠ 0 then ((spreadsM n p.ms).1, nd0) else if (joinS n.sv p.sv).1 ≠ 0 then ((joinS n.sv p.sv).1, nd0) else if (joinG n.gs p.gs).1 ≠ 0 then ((joinG n.gs p.gs).1, nd0)
 else (0, { (spreadsM n p.ms).2 with sv := (joinS n.sv p.sv).2, gs := (joinG n.gs p.gs).2, wh := p.wh.foldl putWh n.wh })
noncomputable def hearN (n : Nd) (p : Pk) : Int × Nd := if n.err ≠ 0 then (n.err, nd0) else if p.err ≠ 0 then (p.err, nd0) else hearR n p
theorem hearN_e {n : Nd} {p : Pk} (h : n.err ≠ 0) : hearN n p = (n.err, nd0) := if_pos h
theorem hearN_p {n : Nd} {p : Pk} (h : n.err = 0) (h2 : p.err ≠ 0) : hearN n p = (p.err, nd0) := by unfold hearN; rw [if_neg (by simp [h]), if_pos h2]
theorem hearN_ok {n : Nd} {p : Pk} (h : n.err = 0) (h2 : p.err = 0) : hearN n p = hearR n p := by unfold hearN; rw [if_neg (by simp [h]), if_neg (by simp [h2])]
theorem hearR_ms {n : Nd} {p : Pk} (h : (spreadsM n p.ms).1 ≠ 0) : hearR n p = ((spreadsM n p.ms).1, nd0) := if_pos h
theorem hearR_sv {n : Nd} {p : Pk} (h : (spreadsM n p.ms).1 = 0) (h2 : (joinS n.sv p.sv).1 ≠ 0) : hearR n p = ((joinS n.sv p.sv).1, nd0) := by unfold hearR; rw [if_neg (by simp [h]), if_pos h2]
theorem hearR_gs {n : Nd} {p : Pk} (h : (spreadsM n p.ms).1 = 0) (h2 : (joinS n.sv p.sv).1 = 0) (h3 : (joinG n.gs p.gs).1 ≠ 0) : hearR n p = ((joinG n.gs p.gs).1, nd0) := by
 unfold hearR; rw [if_neg (by simp [h]), if_neg (by simp [h2]), if_pos h3]
theorem hearR_ok {n : Nd} {p : Pk} (h : (spreadsM n p.ms).1 = 0) (h2 : (joinS n.sv p.sv).1 = 0) (h3 : (joinG n.gs p.gs).1 = 0) :
  hearR n p = (0, { (spreadsM n p.ms).2 with sv := (joinS n.sv p.sv).2, gs := (joinG n.gs p.gs).2, wh := p.wh.foldl putWh n.wh }) := by
 unfold hearR; rw [if_neg (by simp [h]), if_neg (by simp [h2]), if_neg (by simp [h3])]
end Pl
set_option maxHeartbeats 2000000 in
theorem hear_fun (n : Nd) (h : n.ok) (p : Pk) (hp : p.ok) : Fun Tryz.prog 24 [.c (.agg n.row), .c (.agg p.row)] [.c (.agg (hearN n p).2.row), .c (.v (.int .i64 (hearN n p).1))] := by
 by_cases he : n.err = 0
 ·have g := Nd.good he
  have b0 := hp.msl
  have b1 := hp.whl
  refine fun_xc ck_node_Hear rfl ?_
  (refine goI ?_; repeat (intro gg; refine goI ?_))
  (refine .inr (.inl ⟨_, _, false, [], aM, open_O n h g he, nobor, oI, dI, ?_⟩))
  refine G1 ?_; intro gg
  rename Nat → Nat => g1
  (refine .inl ⟨_, _, false, [], aI, pkCheck_fun p hp, nobor, nI, ?_⟩)
  refine G1 ?_; intro gg
  (refine bIf_of (fun h1 => ?_) (fun h1 => ?_) <;> rw [h1])
  ·rw [hearN_p he (by simpa using h1)]
   refine G0 ?_
   exact retn2 (.cell1 rfl rfl rfl rfl rfl rfl (.tmp1 rfl .nil)) cBI (cl_b rfl)
  ·have h1' : p.err = 0 := by simpa using h1
   rw [hearN_ok he h1']
   refine G0 ?_
   (refine ⟨[], none, {q : Nat × Nd × Nat // q.1 ≤ p.ms.length ∧ spreadsM n (p.ms.take q.1) = (0, q.2.1)}, [3, 4, 6, 29, 30], fun ⟨⟨k, x, gk⟩, hk, hx⟩ => [(31, .v (.int .i64 k))], [48, 64], fun ⟨⟨k, x, gk⟩, hk, hx⟩ => [(272, ⟨g1 272, .b 89, 12, [[.v (.string x.nm), .v (.string x.ce), .sl false (x.ms.map Mb.row), .sl false (x.rs.map Ru.row), .sl false (x.sv.map Sv.row), .sl false (x.gs.map Gw.row), .v (.int .i64 x.pl.x), .v (.int .i64 x.pl.y), .v (.int .i64 x.pl.z), .v (.int .i64 x.pl.h), .v (.int .i64 x.pl.s), .own 100017408 gk]]⟩), (100017408, ⟨gk, .t 113, 6, x.wh.map Wh.row⟩)], fun ⟨⟨k, x, gk⟩, hk, hx⟩ => p.ms.length - k, trivial, fun _ => ⟨trivial, fun _ => ⟨⟨(0, n, g1 100017408), Nat.zero_le _, rfl⟩, tI, keptE_refl _ _, tI, keptH_refl _ _⟩⟩, fun ⟨⟨k, x, gk⟩, hk, hx⟩ => ?_⟩)
   dsimp only at hk hx
   have hG := spreads_good (l := p.ms.take k) g (by rw [hx])
   rw [hx] at hG
   obtain ⟨gx, kx⟩ := hG
   refine G0 ?_
   (refine bIf_of (fun h2 => ?_) (fun h2 => ?_) <;> rw [h2])
   ·have hlt : k < p.ms.length := by have := of_decide_eq_true h2; rw [List.length_map] at this; omega
    have hS := spreadO_fun x p.ms[k] gx.ms (mbs_ok gx.ms) (Nat.le_trans (ckRu_inv gx.rs).len (by decide)) (rus_ok gx.rs) (hp.ms _ (List.getElem_mem hlt)) (lab_ok gx.nm)
    have hsn := spreads_snoc (m := p.ms[k]) hx
    refine G0 ?_
    refine ⟨k, _, rfl, row_map hlt, ?_⟩
    refine G1 ?_; intro gg
    (refine .inr (.inl ⟨_, _, false, 272 :: ([100017408] ++ []), ?_, hS, nobor, oI, dI, ?_⟩); focus (exact aM_mn (gone := []) (gone1 := [100017408]) rfl aI (by decide) (by decide) (by decide) rfl aM))
    refine G1 ?_; intro gg
    rename Nat → Nat => g2
    (refine bIf_of (fun h3 => ?_) (fun h3 => ?_) <;> rw [h3])
    ·have h3' : (spreadM x p.ms[k]).1 ≠ 0 := by simpa using h3
     have e := spreads_bad (t := p.ms.drop (k + 1)) hx h3'
     rw [List.getElem_cons_drop, List.take_append_drop] at e
     rw [hearR_ms (by rw [e]; exact h3'), e]
     refine G0 ?_
     exact retn2 (.cell1 rfl rfl rfl rfl rfl rfl (.tmp1 rfl .nil)) cBI (cl_b rfl)
    ·have h3' : (spreadM x p.ms[k]).1 = 0 := by simpa using h3
     refine G0 ?_
     (exact ⟨none, trivial, fun _ => ⟨⟨(k + 1, (spreadM x p.ms[k]).2, g2 100017408), by dsimp only; omega, by dsimp only; rw [take_snoc_ hlt, hsn]; exact Prod.ext h3' rfl⟩, by show p.ms.length - (k + 1) < p.ms.length - k; omega, tI, tI, tI, tI⟩⟩)
   ·have hge : ¬ k < p.ms.length := by have := of_decide_eq_false h2; rw [List.length_map] at this; omega
    rw [List.take_of_length_le (by omega)] at hx
    have e1 : (spreadsM n p.ms).1 = 0 := by rw [hx]
    have e2 : (spreadsM n p.ms).2 = x := by rw [hx]
    have hJ := sJoin_fun n.sv p.sv h.svl (by have := hp.svl; omega) h.sv hp.sv
    have hK := gJoin_fun n.gs p.gs h.gsl (by have := hp.gsl; omega) h.gs hp.gs
    rw [← kx.sv] at hJ
    rw [← kx.gs] at hK
    refine G0 ?_
    (refine ⟨_, _, false, aI, hJ, nobor, nI, ?_⟩)
    refine G1 ?_; intro gg
    rw [kx.sv]
    (refine bIf_of (fun h4 => ?_) (fun h4 => ?_) <;> rw [h4])
    ·have h4' : (joinS n.sv p.sv).1 ≠ 0 := by simpa using h4
     rw [hearR_sv e1 h4']
     refine G0 ?_
     exact retn2 (.cell1 rfl rfl rfl rfl rfl rfl (.tmp1 rfl .nil)) cBI (cl_b rfl)
    ·have h4' : (joinS n.sv p.sv).1 = 0 := by simpa using h4
     refine G0 ?_
     (refine ⟨_, _, false, aI, hK, nobor, nI, ?_⟩)
     refine G1 ?_; intro gg
     rw [kx.gs]
     (refine bIf_of (fun h5 => ?_) (fun h5 => ?_) <;> rw [h5])
     ·have h5' : (joinG n.gs p.gs).1 ≠ 0 := by simpa using h5
      rw [hearR_gs e1 h4' h5']
      refine G0 ?_
      exact retn2 (.cell1 rfl rfl rfl rfl rfl rfl (.tmp1 rfl .nil)) cBI (cl_b rfl)
     ·have h5' : (joinG n.gs p.gs).1 = 0 := by simpa using h5
      rw [show hearR n p = (0, { x with sv := (joinS n.sv p.sv).2, gs := (joinG n.gs p.gs).2, wh := p.wh.foldl putWh x.wh }) from by rw [hearR_ok e1 h4' h5', e2, kx.wh]]
      refine G0 ?_
      (refine ⟨[], none, {q : Nat × Nat × Bool // q.1 ≤ p.wh.length}, [4, 6, 82, 83], fun ⟨⟨k, gk, b⟩, hk⟩ => [(84, .v (.int .i64 k))], [64], fun ⟨⟨k, gk, b⟩, hk⟩ => [(272, ⟨g1 272, .b 89, 12, [[.v (.string x.nm), .v (.string x.ce), .sl false (x.ms.map Mb.row), .sl false (x.rs.map Ru.row), .sl false ((joinS n.sv p.sv).2.map Sv.row), .sl false ((joinG n.gs p.gs).2.map Gw.row), .v (.int .i64 x.pl.x), .v (.int .i64 x.pl.y), .v (.int .i64 x.pl.z), .v (.int .i64 x.pl.h), .v (.int .i64 x.pl.s), .own (bif b then 1840 else 100017408) gk]]⟩), ((bif b then 1840 else 100017408), ⟨gk, .t 113, 6, ((p.wh.take k).foldl putWh x.wh).map Wh.row⟩)], fun ⟨⟨k, gk, b⟩, hk⟩ => p.wh.length - k, trivial, fun _ => ⟨trivial, fun _ => ⟨⟨(0, gk, false), Nat.zero_le _⟩, tI, keptE_refl _ _, tI, keptH_refl _ _⟩⟩, fun ⟨⟨k, gk, b⟩, hk⟩ => ?_⟩)
      dsimp only at hk
      cases b with
      | false =>
       refine G0 ?_
       (refine bIf_of (fun h6 => ?_) (fun h6 => ?_) <;> rw [h6])
       ·have hlt6 : k < p.wh.length := by have := of_decide_eq_true h6; rw [List.length_map] at this; omega
        obtain ⟨q1, q2⟩ := putWhs_good (p.wh.take k) (l := x.wh) (ckWh_all gx.wh).2.2 (ckWh_all gx.wh).1
        have hF := find_fun { x with sv := (joinS n.sv p.sv).2, gs := (joinG n.gs p.gs).2, wh := (p.wh.take k).foldl putWh x.wh } (p.wh[k]).nd (by dsimp only; omega) (Wh.smono q1 _).mono
        have hst : (p.wh.take (k + 1)).foldl putWh x.wh = putWh ((p.wh.take k).foldl putWh x.wh) p.wh[k] := by rw [take_snoc_ hlt6, List.foldl_append]; rfl
        dsimp only at hF
        have hml : (((p.wh.take k).foldl putWh x.wh).map Wh.row).length = ((p.wh.take k).foldl putWh x.wh).length := List.length_map ..
        refine G0 ?_
        refine ⟨k, _, rfl, row_map hlt6, ?_⟩
        refine G1 ?_; intro gg
        (refine .inr (.inl ⟨_, _, false, 272 :: ([100017408] ++ []), ?_, hF, nobor, oI, dI, ?_⟩); focus (exact aM_mn (gone := []) (gone1 := [100017408]) rfl aI (by decide) (by decide) (by decide) rfl aM))
        refine G1 ?_; intro gg
        rename Nat → Nat => g3
        (refine bIf_of (fun h7 => ?_) (fun h7 => ?_) <;> rw [h7])
        ·have h7' := not_t h7
         refine G0 ?_
         (refine bIf_of (fun h8 => ?_) (fun h8 => ?_) <;> rw [h8])
         ·have h8' : ((p.wh.take k).foldl putWh x.wh).length < 20 := by have := of_decide_eq_true h8; rw [hml] at this; omega
          have hI := whinsert_fun ((p.wh.take k).foldl putWh x.wh) p.wh[k] (low (Wh.cf p.wh[k].nd) ((p.wh.take k).foldl putWh x.wh)) (low_le (cf := Wh.cf p.wh[k].nd) _) (by omega)
          rw [putWh_yes h7' h8'] at hst
          refine G1 ?_; intro gg
          (refine .inl ⟨_, _, true, [100017408, 1824], aI, hI, (fun _ => fI), nI, ?_⟩)
          refine G1 ?_; intro gg
          rename Nat → Nat => g4
          (exact ⟨none, trivial, fun gr => ⟨⟨(k + 1, g4 1840, true), by dsimp only; omega⟩, by show p.wh.length - (k + 1) < p.wh.length - k; omega, tI, tI, ⟨rfl, congrArg (fun (r : List Wh) => some (Ent.mk (g4 1840) (.t 113) 6 (r.map Wh.row))) hst.symm, trivial⟩, tI⟩⟩)
         ·have h8' : ¬ ((p.wh.take k).foldl putWh x.wh).length < 20 := by have := of_decide_eq_false h8; rw [hml] at this; omega
          rw [putWh_full h8'] at hst
          refine G0 ?_
          (exact ⟨none, trivial, fun gr => ⟨⟨(k + 1, g3 100017408, false), by dsimp only; omega⟩, by show p.wh.length - (k + 1) < p.wh.length - k; omega, tI, tI, ⟨rfl, congrArg (fun (r : List Wh) => some (Ent.mk (g3 100017408) (.t 113) 6 (r.map Wh.row))) hst.symm, trivial⟩, tI⟩⟩)
        ·rw [putWh_hit (not_f h7)] at hst
         refine G0 ?_
         (exact ⟨none, trivial, fun gr => ⟨⟨(k + 1, g3 100017408, false), by dsimp only; omega⟩, by show p.wh.length - (k + 1) < p.wh.length - k; omega, tI, tI, ⟨rfl, congrArg (fun (r : List Wh) => some (Ent.mk (g3 100017408) (.t 113) 6 (r.map Wh.row))) hst.symm, trivial⟩, tI⟩⟩)
       ·have hge6 : ¬ k < p.wh.length := by have := of_decide_eq_false h6; rw [List.length_map] at this; omega
        obtain rfl : k = p.wh.length := by omega
        rw [show p.wh.foldl putWh x.wh = (p.wh.take p.wh.length).foldl putWh x.wh from by rw [List.take_length]]
        refine G0 ?_
        exact retn2 (.cell1 rfl rfl rfl rfl rfl rfl (.tmp1 rfl .nil)) cBI (cl_b rfl)
      | true =>
       refine G0 ?_
       (refine bIf_of (fun h6 => ?_) (fun h6 => ?_) <;> rw [h6])
       ·have hlt6 : k < p.wh.length := by have := of_decide_eq_true h6; rw [List.length_map] at this; omega
        obtain ⟨q1, q2⟩ := putWhs_good (p.wh.take k) (l := x.wh) (ckWh_all gx.wh).2.2 (ckWh_all gx.wh).1
        have hF := find_fun { x with sv := (joinS n.sv p.sv).2, gs := (joinG n.gs p.gs).2, wh := (p.wh.take k).foldl putWh x.wh } (p.wh[k]).nd (by dsimp only; omega) (Wh.smono q1 _).mono
        have hst : (p.wh.take (k + 1)).foldl putWh x.wh = putWh ((p.wh.take k).foldl putWh x.wh) p.wh[k] := by rw [take_snoc_ hlt6, List.foldl_append]; rfl
        dsimp only at hF
        have hml : (((p.wh.take k).foldl putWh x.wh).map Wh.row).length = ((p.wh.take k).foldl putWh x.wh).length := List.length_map ..
        refine G0 ?_
        refine ⟨k, _, rfl, row_map hlt6, ?_⟩
        refine G1 ?_; intro gg
        (refine .inr (.inl ⟨_, _, false, 272 :: ([1840] ++ []), ?_, hF, nobor, oI, dI, ?_⟩); focus (exact aM_mn (gone := []) (gone1 := [1840]) rfl aI (by decide) (by decide) (by decide) rfl aM))
        refine G1 ?_; intro gg
        rename Nat → Nat => g3
        (refine bIf_of (fun h7 => ?_) (fun h7 => ?_) <;> rw [h7])
        ·have h7' := not_t h7
         refine G0 ?_
         (refine bIf_of (fun h8 => ?_) (fun h8 => ?_) <;> rw [h8])
         ·have h8' : ((p.wh.take k).foldl putWh x.wh).length < 20 := by have := of_decide_eq_true h8; rw [hml] at this; omega
          have hI := whinsert_fun ((p.wh.take k).foldl putWh x.wh) p.wh[k] (low (Wh.cf p.wh[k].nd) ((p.wh.take k).foldl putWh x.wh)) (low_le (cf := Wh.cf p.wh[k].nd) _) (by omega)
          rw [putWh_yes h7' h8'] at hst
          refine G1 ?_; intro gg
          (refine .inl ⟨_, _, true, [100017408, 1824], aI, hI, (fun _ => fI), nI, ?_⟩)
          refine G1 ?_; intro gg
          rename Nat → Nat => g4
          (exact ⟨none, trivial, fun gr => ⟨⟨(k + 1, g4 1840, true), by dsimp only; omega⟩, by show p.wh.length - (k + 1) < p.wh.length - k; omega, tI, tI, ⟨rfl, congrArg (fun (r : List Wh) => some (Ent.mk (g4 1840) (.t 113) 6 (r.map Wh.row))) hst.symm, trivial⟩, tI⟩⟩)
         ·have h8' : ¬ ((p.wh.take k).foldl putWh x.wh).length < 20 := by have := of_decide_eq_false h8; rw [hml] at this; omega
          rw [putWh_full h8'] at hst
          refine G0 ?_
          (exact ⟨none, trivial, fun gr => ⟨⟨(k + 1, g3 100017408, false), by dsimp only; omega⟩, by show p.wh.length - (k + 1) < p.wh.length - k; omega, tI, tI, ⟨rfl, congrArg (fun (r : List Wh) => some (Ent.mk (g3 100017408) (.t 113) 6 (r.map Wh.row))) hst.symm, trivial⟩, tI⟩⟩)
        ·rw [putWh_hit (not_f h7)] at hst
         refine G0 ?_
         (exact ⟨none, trivial, fun gr => ⟨⟨(k + 1, g3 100017408, false), by dsimp only; omega⟩, by show p.wh.length - (k + 1) < p.wh.length - k; omega, tI, tI, ⟨rfl, congrArg (fun (r : List Wh) => some (Ent.mk (g3 100017408) (.t 113) 6 (r.map Wh.row))) hst.symm, trivial⟩, tI⟩⟩)
       ·have hge6 : ¬ k < p.wh.length := by have := of_decide_eq_false h6; rw [List.length_map] at this; omega
        obtain rfl : k = p.wh.length := by omega
        rw [show p.wh.foldl putWh x.wh = (p.wh.take p.wh.length).foldl putWh x.wh from by rw [List.take_length]]
        refine G0 ?_
        exact retn2 (.cell1 rfl rfl rfl rfl rfl rfl (.tmp1 rfl .nil)) cBI (cl_b rfl)
 ·rw [hearN_e he]
  refine fun_xc ck_node_Hear rfl ?_
  (refine goI ?_; repeat (intro gg; refine goI ?_))
  (refine .inl ⟨_, _, false, [], aI, open_err n h he, nobor, nI, ?_⟩)
  refine G1 ?_; intro gg
  rw [show (n.err == 0) = false from beq_eq_false_iff_ne.2 he]
  refine G0 ?_
  rw [show (n.err != 0) = true from bne_iff_ne.2 he]
  refine G0 ?_
  exact retn2 (.cell1 rfl rfl rfl rfl rfl rfl (.tmp1 rfl .nil)) cBI (cl_b rfl)
end Go.Proofs.YtkclokmfomnbgaaGreat
namespace Go.Proofs.YtkclokmfomnbgaaGreat
open Go.RowKit Pl
set_option linter.unusedVariables false
theorem rsjoin_fun (a b : List Sv) (ha : ckSv a = 0) (hb : ckSv b = 0) : Fun Tryz.prog 82 [.c (.sl false (a.map Sv.row)), .c (.sl false (b.map Sv.row))] [.c (.sl false ((joinL Sv.kf Sv.nw a b).map Sv.row))] := by
 have hia := ckSv_inv ha
 have hib := ckSv_inv hb
 refine fun_x ck_hearsayref_JoinServices rfl ?_
 refine G0 ?_
 (refine ⟨[], none, {k : Nat // k ≤ b.length}, [1], fun ⟨k, hk⟩ => [(0, .sl false ((joinL Sv.kf Sv.nw a (b.take k)).map Sv.row)), (5, .v (.int .i64 k))], [], fun ⟨k, hk⟩ => [], fun ⟨k, hk⟩ => b.length - k, trivial, fun _ => ⟨trivial, fun _ => ⟨⟨0, by omega⟩, tI, keptE_refl _ _, tI, keptH_refl _ _⟩⟩, fun ⟨k, hk⟩ => ?_⟩)
 refine G0 ?_
 rw [List.length_map]
 (refine bIf_of (fun h2 => ?_) (fun h2 => ?_) <;> rw [h2])
 ·have hlt : k < b.length := (by have := of_decide_eq_true h2; omega)
  have hn := joinL_next (cf := Sv.kf) (nw := Sv.nw) (a := a) hlt
  have hjl := (joinL_len (cf := Sv.kf) Sv.nw (b.take k) a).2
  have hjs := Sv.ord.join Sv.nw (b.take k) hia.2.2
  rw [List.length_take] at hjl
  have hat := Sv.at_eq hjs b[k].nd b[k].id
  have hA := sat_fun false (joinL Sv.kf Sv.nw a (b.take k)) b[k].nd b[k].id (by omega)
  refine G0 ?_
  refine ⟨k, _, rfl, row_map hlt, ?_⟩
  refine G0 ?_
  refine ⟨k, _, rfl, row_map hlt, ?_⟩
  refine G0 ?_
  rcases Bool.eq_false_or_eq_true (hit (Sv.cf b[k].nd b[k].id) (joinL Sv.kf Sv.nw a (b.take k))) with h1 | h1
  ·have h1' : hit (Sv.kf b[k]) (joinL Sv.kf Sv.nw a (b.take k)) = true := h1
   have hlt3 := hit_lt h1
   rw [hat, if_pos h1] at hA
   (refine .inl ⟨_, _, false, [], aI, hA, nobor, nI, ?_⟩)
   refine G1 ?_; intro gg
   refine ⟨k, _, rfl, row_map hlt, ?_⟩
   refine G0 ?_
   refine ⟨low (Sv.cf b[k].nd b[k].id) (joinL Sv.kf Sv.nw a (b.take k)), _, rfl, row_map hlt3, ?_⟩
   refine G0 ?_
   (refine .inl ⟨_, _, false, [], aI, rsnewer_fun _ _, nobor, nI, ?_⟩)
   refine G1 ?_; intro gg
   (refine bIf_of (fun h4 => ?_) (fun h4 => ?_) <;> rw [h4])
   ·have hup : putAt (Sv.kf b[k]) b[k] (joinL Sv.kf Sv.nw a (b.take k)) = joinL Sv.kf Sv.nw a (b.take (k + 1)) := by rw [hn, upd_newer h1' h4]; unfold putAt; rw [if_pos h1']
    refine G0 ?_
    refine ⟨k, _, rfl, row_map hlt, ?_⟩
    refine G0 ?_
    (refine .inl ⟨_, _, false, [], aI, rsput_fun (joinL Sv.kf Sv.nw a (b.take k)) b[k] (by omega) hjs, nobor, nI, ?_⟩)
    rw [hup]
    refine G1 ?_; intro gg
    (exact ⟨none, trivial, fun _ => ⟨⟨k + 1, by omega⟩, by show b.length - (k + 1) < b.length - k; omega, tI, tI, tI, tI⟩⟩)
   ·rw [upd_older h1' h4] at hn
    refine G0 ?_
    (exact ⟨none, trivial, fun gr => ⟨⟨k + 1, by omega⟩, by show b.length - (k + 1) < b.length - k; omega, hxI hn, hxI hn, hxI hn, hxI hn⟩⟩)
  ·have h1' : hit (Sv.kf b[k]) (joinL Sv.kf Sv.nw a (b.take k)) = false := h1
   have hup : putAt (Sv.kf b[k]) b[k] (joinL Sv.kf Sv.nw a (b.take k)) = joinL Sv.kf Sv.nw a (b.take (k + 1)) := by rw [hn, upd_new h1']
   rw [hat, if_neg (by rw [h1]; decide)] at hA
   (refine .inl ⟨_, _, false, [], aI, hA, nobor, nI, ?_⟩)
   refine G1 ?_; intro gg
   refine ⟨k, _, rfl, row_map hlt, ?_⟩
   refine G0 ?_
   (refine .inl ⟨_, _, false, [], aI, rsput_fun (joinL Sv.kf Sv.nw a (b.take k)) b[k] (by omega) hjs, nobor, nI, ?_⟩)
   rw [hup]
   refine G1 ?_; intro gg
   (exact ⟨none, trivial, fun _ => ⟨⟨k + 1, by omega⟩, by show b.length - (k + 1) < b.length - k; omega, tI, tI, tI, tI⟩⟩)
 ·have hge : b.length ≤ k := (by have := of_decide_eq_false h2; omega)
  obtain rfl : k = b.length := by omega
  refine G0 ?_
  rw [show joinL Sv.kf Sv.nw a b = joinL Sv.kf Sv.nw a (b.take b.length) by rw [List.take_length]]
  (exact ⟨[], aI⟩)
end Go.Proofs.YtkclokmfomnbgaaGreat
namespace Go.Proofs.YtkclokmfomnbgaaGreat
open Go.RowKit Pl
set_option linter.unusedVariables false
theorem rpkCheck_fun (p : Pk) (h : p.ok) : Fun Tryz.prog 80 [.c (.agg p.row)] [.c (.v (.int .i64 p.err))] := by
 have l1 : (p.sv.map Sv.row).length = p.sv.length := List.length_map ..
 have l2 : (p.gs.map Gw.row).length = p.gs.length := List.length_map ..
 have l3 : (p.wh.map Wh.row).length = p.wh.length := List.length_map ..
 have b1 := h.svl
 have b2 := h.gsl
 have b3 := h.whl
 have b0 := h.msl
 refine fun_x ck_hearsayref_CheckPacket rfl ?_
 (refine goI ?_; repeat (intro gg; refine goI ?_))
 (refine .inl ⟨_, _, false, [], aI, rlabel_fun p.fr h.fr, nobor, nI, ?_⟩)
 (refine goI ?_; repeat (intro gg; refine goI ?_))
 (refine bIf_of (fun h1 => ?_) (fun h1 => ?_) <;> rw [h1])
 ·rw [Pk.err_form (not_t h1)]
  (refine goI ?_; repeat (intro gg; refine goI ?_))
  (exact ⟨[], aI⟩)
 ·have h1' := not_f h1
  cases hwo : p.wo with
  | true =>
   rw [Pk.err_all h1' hwo]
   (refine goI ?_; repeat (intro gg; refine goI ?_))
   (refine .inl ⟨_, _, false, [], aI, rcheck_fun false p.ms h.msl h.ms, nobor, nI, ?_⟩)
   (refine goI ?_; repeat (intro gg; refine goI ?_))
   (refine bIf_of (fun e1 => ?_) (fun e1 => ?_) <;> rw [e1])
   ·have z1 : ckMb p.ms = 0 := by simpa using e1
    (refine goI ?_; repeat (intro gg; refine goI ?_))
    (refine .inl ⟨_, _, false, [], aI, rscheck_fun false p.sv (by omega) h.sv, nobor, nI, ?_⟩)
    (refine goI ?_; repeat (intro gg; refine goI ?_))
    (refine bIf_of (fun e2 => ?_) (fun e2 => ?_) <;> rw [e2])
    ·have z2 : ckSv p.sv = 0 := by simpa using e2
     (refine goI ?_; repeat (intro gg; refine goI ?_))
     (refine .inl ⟨_, _, false, [], aI, grcheck_fun false p.gs (by omega) h.gs, nobor, nI, ?_⟩)
     (refine goI ?_; repeat (intro gg; refine goI ?_))
     (refine bIf_of (fun e3 => ?_) (fun e3 => ?_) <;> rw [e3])
     ·have z3 : ckGw p.gs = 0 := by simpa using e3
      (refine goI ?_; repeat (intro gg; refine goI ?_))
      (refine .inl ⟨_, _, false, [], aI, rwcheck_fun false p.wh (by omega) h.wh, nobor, nI, ?_⟩)
      (refine goI ?_; repeat (intro gg; refine goI ?_))
      rw [show firstErr (fun e => e) p.cks = ckWh p.wh from by by_cases q : ckWh p.wh = 0 <;> simp [Pk.cks, firstErr, z1, z2, z3, q]]
      (exact ⟨[], aI⟩)
     ·have y3 : ckGw p.gs ≠ 0 := by simpa using e3
      (refine goI ?_; repeat (intro gg; refine goI ?_))
      rw [show firstErr (fun e => e) p.cks = ckGw p.gs from by simp [Pk.cks, firstErr, z1, z2, y3]]
      (exact ⟨[], aI⟩)
    ·have y2 : ckSv p.sv ≠ 0 := by simpa using e2
     (refine goI ?_; repeat (intro gg; refine goI ?_))
     rw [e2]
     (refine goI ?_; repeat (intro gg; refine goI ?_))
     rw [show firstErr (fun e => e) p.cks = ckSv p.sv from by simp [Pk.cks, firstErr, z1, y2]]
     (exact ⟨[], aI⟩)
   ·have y1 : ckMb p.ms ≠ 0 := by simpa using e1
    (refine goI ?_; repeat (intro gg; refine goI ?_))
    rw [e1]
    (refine goI ?_; repeat (intro gg; refine goI ?_))
    rw [e1]
    (refine goI ?_; repeat (intro gg; refine goI ?_))
    rw [show firstErr (fun e => e) p.cks = ckMb p.ms from by simp [Pk.cks, firstErr, y1]]
    (exact ⟨[], aI⟩)
  | false =>
   (refine goI ?_; repeat (intro gg; refine goI ?_))
   (refine bIf_of (fun g1 => ?_) (fun g1 => ?_) <;> rw [g1])
   ·have g1' := of_decide_eq_true g1
    rw [l1] at g1'
    rw [Pk.err_more h1' hwo (by omega)]
    (refine goI ?_; repeat (intro gg; refine goI ?_))
    (exact ⟨[], aI⟩)
   ·have g1' := of_decide_eq_false g1
    rw [l1] at g1'
    (refine goI ?_; repeat (intro gg; refine goI ?_))
    (refine bIf_of (fun g2 => ?_) (fun g2 => ?_) <;> rw [g2])
    ·have g2' := of_decide_eq_true g2
     rw [l2] at g2'
     rw [Pk.err_more h1' hwo (by omega)]
     (refine goI ?_; repeat (intro gg; refine goI ?_))
     (exact ⟨[], aI⟩)
    ·have g2' := of_decide_eq_false g2
     rw [l2] at g2'
     (refine goI ?_; repeat (intro gg; refine goI ?_))
     (refine bIf_of (fun g3 => ?_) (fun g3 => ?_) <;> rw [g3])
     ·have g3' := of_decide_eq_true g3
      rw [l3] at g3'
      rw [Pk.err_more h1' hwo (by omega)]
      (refine goI ?_; repeat (intro gg; refine goI ?_))
      (exact ⟨[], aI⟩)
     ·have g3' := of_decide_eq_false g3
      rw [l3] at g3'
      rw [Pk.err_few h1' hwo (by omega)]
      have hlm : (p.ms.map Mb.row).length = p.ms.length := List.length_map ..
      (refine goI ?_; repeat (intro gg; refine goI ?_))
      rw [hlm]
      (refine bIf_of (fun g4 => ?_) (fun g4 => ?_) <;> rw [g4])
      ·rw [ckFew_many (by have := of_decide_eq_true g4; omega)]
       (refine goI ?_; repeat (intro gg; refine goI ?_))
       (exact ⟨[], aI⟩)
      ·have g4' : ¬ 5 < p.ms.length := by have := of_decide_eq_false g4; omega
       (refine goI ?_; repeat (intro gg; refine goI ?_))
       (refine ⟨[], none, {k : Nat // k ≤ p.ms.length ∧ ∀ j, (h : j < p.ms.length) → j < k → (p.ms[j]).err = 0}, [1], fun ⟨k, hk, h0⟩ => [(4, .v (.int .i64 k))], [16], fun ⟨k, hk, h0⟩ => [], fun ⟨k, hk, h0⟩ => p.ms.length - k, trivial, fun _ => ⟨trivial, fun _ => ⟨⟨0, by omega, fun j _ h => by omega⟩, tI, keptE_refl _ _, tI, keptH_refl _ _⟩⟩, fun ⟨k, hk, h0⟩ => ?_⟩)
       (refine goI ?_; repeat (intro gg; refine goI ?_))
       rw [hlm]
       (refine bIf_of (fun g5 => ?_) (fun g5 => ?_) <;> rw [g5])
       ·have hlt : k < p.ms.length := by have := of_decide_eq_true g5; omega
        (refine goI ?_; repeat (intro gg; refine goI ?_))
        refine ⟨k, _, rfl, row_map hlt, ?_⟩
        (refine goI ?_; repeat (intro gg; refine goI ?_))
        (refine .inl ⟨_, _, false, [], aI, rone_fun (p.ms[k]) (h.ms _ (List.getElem_mem hlt)), nobor, nI, ?_⟩)
        (refine goI ?_; repeat (intro gg; refine goI ?_))
        (refine bIf_of (fun g6 => ?_) (fun g6 => ?_) <;> rw [g6])
        ·have g6' : (p.ms[k]).err ≠ 0 := by simpa using g6
         have e1 := firstErr_at (e := Mb.err) hlt h0 g6'
         rw [ckFew_each g4' (by rw [e1]; exact g6'), e1]
         (refine goI ?_; repeat (intro gg; refine goI ?_))
         (exact ⟨[], aI⟩)
        ·have g6' : (p.ms[k]).err = 0 := by simpa using g6
         (refine goI ?_; repeat (intro gg; refine goI ?_))
         (exact ⟨none, trivial, fun _ => ⟨⟨k + 1, by omega, up1 (p := fun j h => (p.ms[j]).err = 0) h0 (fun _ => g6')⟩, by show p.ms.length - (k + 1) < p.ms.length - k; omega, tI, tI, tI, tI⟩⟩)
       ·have hge : ¬ k < p.ms.length := by have := of_decide_eq_false g5; omega
        have hz := firstErr_zero (e := Mb.err) (l := p.ms) (fun i hi => h0 i hi (by omega))
        (refine goI ?_; repeat (intro gg; refine goI ?_))
        (refine ⟨[], none, {k : Nat // k ≤ p.ms.length ∧ ∀ i, (h : i < p.ms.length) → i < k → ∀ j, (g : j < i) → (p.ms[j]).n ≠ (p.ms[i]).n}, [1], fun ⟨k, hk, h0⟩ => [(6, .v (.int .i64 k))], [16], fun ⟨k, hk, h0⟩ => [], fun ⟨k, hk, h0⟩ => p.ms.length - k, trivial, fun _ => ⟨trivial, fun _ => ⟨⟨0, by omega, fun j _ h => by omega⟩, tI, keptE_refl _ _, tI, keptH_refl _ _⟩⟩, fun ⟨k, hk, h0⟩ => ?_⟩)
        (refine goI ?_; repeat (intro gg; refine goI ?_))
        rw [hlm]
        (refine bIf_of (fun g7 => ?_) (fun g7 => ?_) <;> rw [g7])
        ·have hlt : k < p.ms.length := by have := of_decide_eq_true g7; omega
         (refine goI ?_; repeat (intro gg; refine goI ?_))
         (refine ⟨[], none, {q : Nat // q ≤ k ∧ ∀ j, (h : j < k) → j < q → (p.ms[j]).n ≠ (p.ms[k]).n}, [1, 6], fun ⟨q, hq, h0'⟩ => [(7, .v (.int .i64 q))], [16], fun ⟨q, hq, h0'⟩ => [], fun ⟨q, hq, h0'⟩ => k - q, trivial, fun _ => ⟨trivial, fun _ => ⟨⟨0, by omega, fun j _ h => by omega⟩, tI, keptE_refl _ _, tI, keptH_refl _ _⟩⟩, fun ⟨q, hq, h0'⟩ => ?_⟩)
         (refine goI ?_; repeat (intro gg; refine goI ?_))
         (refine bIf_of (fun g8 => ?_) (fun g8 => ?_) <;> rw [g8])
         ·have hqk : q < k := by have := of_decide_eq_true g8; omega
          have hql : q < p.ms.length := by omega
          (refine goI ?_; repeat (intro gg; refine goI ?_))
          refine ⟨q, _, rfl, row_map hql, ?_⟩
          (refine goI ?_; repeat (intro gg; refine goI ?_))
          refine ⟨k, _, rfl, row_map hlt, ?_⟩
          (refine goI ?_; repeat (intro gg; refine goI ?_))
          (refine bIf_of (fun g9 => ?_) (fun g9 => ?_) <;> rw [g9])
          ·have g9' : (p.ms[q]).n = (p.ms[k]).n := toList_inj (beq_iff_eq.1 g9)
           rw [ckFew_two g4' hz (fun hn => by
            have := (List.pairwise_iff_getElem.1 hn) q k (by simpa using hql) (by simpa using hlt) hqk
            simp only [List.getElem_map] at this
            exact this g9')]
           (refine goI ?_; repeat (intro gg; refine goI ?_))
           (exact ⟨[], aI⟩)
          ·have g9' : (p.ms[q]).n ≠ (p.ms[k]).n := fun e => by rw [e, beq_self_eq_true] at g9; cases g9
           (refine goI ?_; repeat (intro gg; refine goI ?_))
           (exact ⟨none, trivial, fun _ => ⟨⟨q + 1, by omega, up1 (p := fun j h => (p.ms[j]).n ≠ (p.ms[k]).n) h0' (fun _ => g9')⟩, by show k - (q + 1) < k - q; omega, tI, tI, tI, tI⟩⟩)
         ·have hqk : ¬ q < k := by have := of_decide_eq_false g8; omega
          (refine goI ?_; repeat (intro gg; refine goI ?_))
          (exact ⟨none, trivial, fun _ => ⟨⟨k + 1, by omega, up1 (p := fun i h => ∀ j, (g : j < i) → (p.ms[j]).n ≠ (p.ms[i]).n) h0 (fun _ j g => h0' j g (by omega))⟩, by show p.ms.length - (k + 1) < p.ms.length - k; omega, tI, tI, tI, tI⟩⟩)
        ·have hge : ¬ k < p.ms.length := by have := of_decide_eq_false g7; omega
         rw [ckFew_ok g4' hz (List.pairwise_iff_getElem.2 fun i j hi hj hij => by
          simp only [List.getElem_map]
          exact h0 j (by simpa using hj) (by simp at hj; omega) i hij)]
         (refine goI ?_; repeat (intro gg; refine goI ?_))
         (exact ⟨[], aI⟩)
end Go.Proofs.YtkclokmfomnbgaaGreat
namespace Go.Proofs.YtkclokmfomnbgaaGreat
open Go.RowKit Pl
set_option linter.unusedVariables false
namespace Pl
noncomputable def hearO (n : Nd) (p : Pk) : Int × Nd := if p.err ≠ 0 then (p.err, nd0) else hearR n p
theorem hearO_p {n : Nd} {p : Pk} (h : p.err ≠ 0) : hearO n p = (p.err, nd0) := if_pos h
theorem hearO_ok {n : Nd} {p : Pk} (h : p.err = 0) : hearO n p = hearR n p := if_neg (by simp [h])
theorem hearN_O {n : Nd} {p : Pk} (h : n.err = 0) : hearN n p = hearO n p := by
 by_cases q : p.err = 0
 ·rw [hearN_ok h q, hearO_ok q]
 ·rw [hearN_p h q, hearO_p q]
theorem firstErr_all {α : Type} {e : α → Int} {l : List α} (h : firstErr e l = 0) : ∀ x ∈ l, e x = 0 := fun x hx => by
 obtain ⟨i, hi, rfl⟩ := List.mem_iff_getElem.1 hx
 exact firstErr_get h i hi
theorem pk_right {p : Pk} (h : p.err = 0) : (∀ m ∈ p.ms, m.err = 0) ∧ ckSv p.sv = 0 ∧ ckGw p.gs = 0 ∧ ckWh p.wh = 0 := by
 cases h1 : lab p.fr.data.toList with
 | false => rw [Pk.err_form h1] at h; cases h
 | true =>
  cases h2 : p.wo with
  | true =>
   rw [Pk.err_all h1 h2] at h
   have g := firstErr_all h
   have c1 : ckMb p.ms = 0 := g _ (by simp [Pk.cks])
   have c2 : ckSv p.sv = 0 := g _ (by simp [Pk.cks])
   have c3 : ckGw p.gs = 0 := g _ (by simp [Pk.cks])
   have c4 : ckWh p.wh = 0 := g _ (by simp [Pk.cks])
   exact ⟨fun m hm => ckMb_each c1 hm, c2, c3, c4⟩
  | false =>
   by_cases h3 : p.sv.length + p.gs.length + p.wh.length = 0
   ·rw [Pk.err_few h1 h2 h3] at h
    have e1 : p.sv = [] := List.eq_nil_of_length_eq_zero (by omega)
    have e2 : p.gs = [] := List.eq_nil_of_length_eq_zero (by omega)
    have e3 : p.wh = [] := List.eq_nil_of_length_eq_zero (by omega)
    rw [e1, e2, e3]
    refine ⟨?_, rfl, rfl, rfl⟩
    by_cases h4 : 5 < p.ms.length
    ·rw [ckFew_many h4] at h; cases h
    ·by_cases h5 : firstErr Mb.err p.ms = 0
     ·exact firstErr_all h5
     ·rw [ckFew_each h4 h5] at h; exact absurd h h5
   ·rw [Pk.err_more h1 h2 h3] at h; cases h
theorem putWh_at {l : List Wh} {x : Wh} (h : hit (Wh.cf x.nd) l = false) (h2 : l.length < 20) : putAt (Wh.kf x) x l = putWh l x := by
 rw [putWh_yes h h2]
 unfold putAt; rw [if_neg (show ¬ hit (Wh.kf x) l = true by rw [show hit (Wh.kf x) l = false from h]; simp)]; rfl
end Pl
set_option maxHeartbeats 2000000 in
theorem hearOf_fun (n : Nd) (g : n.Good) (p : Pk) (hp : p.ok) : Fun Tryz.prog 25 [.c (.agg n.row), .c (.agg p.row)] [.c (.agg (hearO n p).2.row), .c (.v (.int .i64 (hearO n p).1))] := by
 have hmlen : (p.ms.map Mb.row).length = p.ms.length := List.length_map ..
 have hwlen : (p.wh.map Wh.row).length = p.wh.length := List.length_map ..
 have b0 := hp.msl
 have b1 := hp.whl
 obtain ⟨hr, hH⟩ : ∃ H, hearO n p = H := ⟨_, rfl⟩
 rw [hH]
 refine fun_xc ck_hearsayref_HearOf rfl ?_
 (refine goI ?_; repeat (intro gg; refine goI ?_))
 rename_i g2 g3
 (refine .inl ⟨_, _, false, [], aI, rpkCheck_fun p hp, nobor, nI, ?_⟩)
 (refine goI ?_; repeat (intro gg; refine goI ?_))
 (refine ⟨[], none, {q : Nat × Nd × Int // q.1 ≤ p.ms.length ∧ ((q.2.2 = 0 ∧ p.err = 0 ∧ spreadsM n (p.ms.take q.1) = (0, q.2.1)) ∨ (q.2.2 ≠ 0 ∧ hearO n p = (q.2.2, nd0)))}, [2, 3, 4], fun ⟨⟨k, x, e⟩, hk, hx⟩ => [(6, .v (.int .i64 e)), (7, .v (.int .i64 k))], [48, 64], fun ⟨⟨k, x, e⟩, hk, hx⟩ => [(32, ⟨g2, .b 30, 12, [x.row]⟩)], fun ⟨⟨k, x, e⟩, hk, hx⟩ => p.ms.length - k, trivial, fun _ => ⟨trivial, fun _ => ⟨⟨(0, n, p.err), Nat.zero_le _, by
   by_cases q : p.err = 0
   ·exact .inl ⟨q, q, rfl⟩
   ·exact .inr ⟨q, hearO_p q⟩⟩, tI, keptE_refl _ _, tI, keptH_refl _ _⟩⟩, fun ⟨⟨k, x, e⟩, hk, hx⟩ => ?_⟩)
 dsimp only at hk hx
 (refine goI ?_; repeat (intro gg; refine goI ?_))
 rw [hmlen]
 (refine bIf_of (fun h1 => ?_) (fun h1 => ?_) <;> rw [h1])
 ·have hlt : k < p.ms.length := by have := of_decide_eq_true h1; omega
  (refine goI ?_; repeat (intro gg; refine goI ?_))
  (refine bIf_of (fun h2 => ?_) (fun h2 => ?_) <;> rw [h2])
  ·have h2' : e = 0 := eq_of_beq h2
   subst h2'
   rcases hx with ⟨_, hpe, hs⟩ | ⟨q, _⟩
   ·have hG := spreads_good (l := p.ms.take k) g (by rw [hs])
    rw [hs] at hG
    obtain ⟨gx, kx⟩ := hG
    obtain ⟨r1, r2, r3, r4⟩ := pk_right hpe
    obtain ⟨y, hy, hS⟩ := spreadR_fun x p.ms[k] gx.gd (r1 _ (List.getElem_mem hlt))
    have hsn := spreads_snoc (m := p.ms[k]) hs
    (refine goI ?_; repeat (intro gg; refine goI ?_))
    refine ⟨k, _, rfl, row_map hlt, ?_⟩
    (refine goI ?_; repeat (intro gg; refine goI ?_))
    (refine .inl ⟨_, _, false, [], aI, hS, nobor, nI, ?_⟩)
    (refine goI ?_; repeat (intro gg; refine goI ?_))
    (exact ⟨none, trivial, fun _ => ⟨⟨(k + 1, y, (spreadM x p.ms[k]).1), by dsimp only; omega, by
     dsimp only
     by_cases q : (spreadM x p.ms[k]).1 = 0
     ·refine .inl ⟨q, hpe, ?_⟩
      rw [take_snoc_ hlt, hsn, hy q]
      exact Prod.ext q rfl
     ·refine .inr ⟨q, ?_⟩
      have e' := spreads_bad (t := p.ms.drop (k + 1)) hs q
      rw [List.getElem_cons_drop, List.take_append_drop] at e'
      rw [hearO_ok hpe, hearR_ms (by rw [e']; exact q), e']⟩, by show p.ms.length - (k + 1) < p.ms.length - k; omega, tI, tI, tI, tI⟩⟩)
   ·exact absurd rfl q
  ·have h2' : e ≠ 0 := ne_of_beq_false h2
   rcases hx with ⟨q, _⟩ | ⟨_, hO⟩
   ·exact absurd q h2'
   ·rw [hH] at hO
    subst hO
    (refine goI ?_; repeat (intro gg; refine goI ?_))
    rw [show (e != 0) = true from bne_iff_ne.2 h2']
    (refine goI ?_; repeat (intro gg; refine goI ?_))
    exact retn2 (.cell1 rfl rfl rfl rfl rfl rfl (.tmp1 rfl .nil)) cBI (cl_b rfl)
 ·have hge : ¬ k < p.ms.length := by have := of_decide_eq_false h1; omega
  rcases hx with ⟨h2', hpe, hs⟩ | ⟨h2', hO⟩
  ·subst h2'
   rw [List.take_of_length_le (by omega)] at hs
   have e1 : (spreadsM n p.ms).1 = 0 := by rw [hs]
   have e2 : (spreadsM n p.ms).2 = x := by rw [hs]
   have hG := spreads_good (l := p.ms) g e1
   rw [e2] at hG
   obtain ⟨gx, kx⟩ := hG
   obtain ⟨r1, r2, r3, r4⟩ := pk_right hpe
   have hJ := rsjoin_fun x.sv p.sv gx.sv r2
   have hK := rgjoin_fun x.gs p.gs gx.gs r3
   have hsl : ((joinL Sv.kf Sv.nw x.sv p.sv).map Sv.row).length = (joinL Sv.kf Sv.nw x.sv p.sv).length := List.length_map ..
   have hgl : ((joinL Gw.kf Gw.nw x.gs p.gs).map Gw.row).length = (joinL Gw.kf Gw.nw x.gs p.gs).length := List.length_map ..
   rw [hearO_ok hpe] at hH
   (refine goI ?_; repeat (intro gg; refine goI ?_))
   (refine .inl ⟨_, _, false, [], aI, hJ, nobor, nI, ?_⟩)
   (refine goI ?_; repeat (intro gg; refine goI ?_))
   (refine .inl ⟨_, _, false, [], aI, hK, nobor, nI, ?_⟩)
   (refine goI ?_; repeat (intro gg; refine goI ?_))
   rw [hsl]
   (refine bIf_of (fun h4 => ?_) (fun h4 => ?_) <;> rw [h4])
   ·have h4' : 40 < (joinL Sv.kf Sv.nw x.sv p.sv).length := by have := of_decide_eq_true h4; omega
    have hj := joinS_many gx.sv r2 h4'
    rw [kx.sv] at hj
    rw [hearR_sv e1 (by rw [hj]; decide), hj] at hH
    subst hH
    (refine goI ?_; repeat (intro gg; refine goI ?_))
    exact retn2 (.cell1 rfl rfl rfl rfl rfl rfl (.tmp1 rfl .nil)) cBI (cl_b rfl)
   ·have h4' : ¬ 40 < (joinL Sv.kf Sv.nw x.sv p.sv).length := by have := of_decide_eq_false h4; omega
    have hj := joinS_ok gx.sv r2 h4'
    have hj' : joinS n.sv p.sv = (0, joinL Sv.kf Sv.nw x.sv p.sv) := by rw [← kx.sv]; exact hj
    (refine goI ?_; repeat (intro gg; refine goI ?_))
    rw [hgl]
    (refine bIf_of (fun h5 => ?_) (fun h5 => ?_) <;> rw [h5])
    ·have h5' : 6 < (joinL Gw.kf Gw.nw x.gs p.gs).length := by have := of_decide_eq_true h5; omega
     have hm := joinG_many gx.gs r3 h5'
     rw [kx.gs] at hm
     rw [hearR_gs e1 (by rw [hj']) (by rw [hm]; decide), hm] at hH
     subst hH
     (refine goI ?_; repeat (intro gg; refine goI ?_))
     exact retn2 (.cell1 rfl rfl rfl rfl rfl rfl (.tmp1 rfl .nil)) cBI (cl_b rfl)
    ·have h5' : ¬ 6 < (joinL Gw.kf Gw.nw x.gs p.gs).length := by have := of_decide_eq_false h5; omega
     have hm' : joinG n.gs p.gs = (0, joinL Gw.kf Gw.nw x.gs p.gs) := by rw [← kx.gs]; exact joinG_ok gx.gs r3 h5'
     rw [show hearR n p = (0, { x with sv := joinL Sv.kf Sv.nw x.sv p.sv, gs := joinL Gw.kf Gw.nw x.gs p.gs, wh := p.wh.foldl putWh x.wh }) from by rw [hearR_ok e1 (by rw [hj']) (by rw [hm']), e2, hj', hm', kx.wh]] at hH
     (refine goI ?_; repeat (intro gg; refine goI ?_))
     (refine ⟨[], none, {k : Nat // k ≤ p.wh.length}, [2, 3, 4], fun ⟨k, hk⟩ => [(8, .v (.int .i64 k))], [48, 64], fun ⟨k, hk⟩ => [(32, ⟨g2, .b 30, 12, [({ x with sv := joinL Sv.kf Sv.nw x.sv p.sv, gs := joinL Gw.kf Gw.nw x.gs p.gs, wh := (p.wh.take k).foldl putWh x.wh } : Nd).row]⟩)], fun ⟨k, hk⟩ => p.wh.length - k, trivial, fun _ => ⟨trivial, fun _ => ⟨⟨0, Nat.zero_le _⟩, tI, keptE_refl _ _, tI, keptH_refl _ _⟩⟩, fun ⟨k, hk⟩ => ?_⟩)
     (refine goI ?_; repeat (intro gg; refine goI ?_))
     rw [hwlen]
     (refine bIf_of (fun h6 => ?_) (fun h6 => ?_) <;> rw [h6])
     ·have hlt6 : k < p.wh.length := by have := of_decide_eq_true h6; omega
      obtain ⟨q1, q2⟩ := putWhs_good (p.wh.take k) (l := x.wh) (ckWh_all gx.wh).2.2 (ckWh_all gx.wh).1
      have hst : (p.wh.take (k + 1)).foldl putWh x.wh = putWh ((p.wh.take k).foldl putWh x.wh) p.wh[k] := by rw [take_snoc_ hlt6, List.foldl_append]; rfl
      have hat := Wh.at_eq q1 (p.wh[k]).nd
      have hA := wat_fun false ((p.wh.take k).foldl putWh x.wh) (p.wh[k]).nd (by omega)
      have hP := rwput_fun ((p.wh.take k).foldl putWh x.wh) p.wh[k] (by omega) q1
      have hml : (((p.wh.take k).foldl putWh x.wh).map Wh.row).length = ((p.wh.take k).foldl putWh x.wh).length := List.length_map ..
      (refine goI ?_; repeat (intro gg; refine goI ?_))
      refine ⟨k, _, rfl, row_map hlt6, ?_⟩
      (refine goI ?_; repeat (intro gg; refine goI ?_))
      rcases Bool.eq_false_or_eq_true (hit (Wh.cf (p.wh[k]).nd) ((p.wh.take k).foldl putWh x.wh)) with h7 | h7
      ·rw [hat, if_pos h7] at hA
       rw [putWh_hit h7] at hst
       (refine .inl ⟨_, _, false, [], aI, hA, nobor, nI, ?_⟩)
       (refine goI ?_; repeat (intro gg; refine goI ?_))
       (exact ⟨none, trivial, fun gr => ⟨⟨k + 1, by omega⟩, by show p.wh.length - (k + 1) < p.wh.length - k; omega, tI, tI, And.intro (congrArg (fun (r : List Wh) => some (Ent.mk g2 (.b 30) 12 [({ x with sv := joinL Sv.kf Sv.nw x.sv p.sv, gs := joinL Gw.kf Gw.nw x.gs p.gs, wh := r } : Nd).row])) hst.symm) trivial, tI⟩⟩)
      ·rw [hat, if_neg (by rw [h7]; decide)] at hA
       (refine .inl ⟨_, _, false, [], aI, hA, nobor, nI, ?_⟩)
       (refine goI ?_; repeat (intro gg; refine goI ?_))
       rw [hml]
       (refine bIf_of (fun h8 => ?_) (fun h8 => ?_) <;> rw [h8])
       ·have h8' : ((p.wh.take k).foldl putWh x.wh).length < 20 := by have := of_decide_eq_true h8; omega
        rw [putWh_at h7 h8'] at hP
        (refine goI ?_; repeat (intro gg; refine goI ?_))
        refine ⟨k, _, rfl, row_map hlt6, ?_⟩
        (refine goI ?_; repeat (intro gg; refine goI ?_))
        (refine .inl ⟨_, _, false, [], aI, hP, nobor, nI, ?_⟩)
        (refine goI ?_; repeat (intro gg; refine goI ?_))
        (exact ⟨none, trivial, fun gr => ⟨⟨k + 1, by omega⟩, by show p.wh.length - (k + 1) < p.wh.length - k; omega, tI, tI, And.intro (congrArg (fun (r : List Wh) => some (Ent.mk g2 (.b 30) 12 [({ x with sv := joinL Sv.kf Sv.nw x.sv p.sv, gs := joinL Gw.kf Gw.nw x.gs p.gs, wh := r } : Nd).row])) hst.symm) trivial, tI⟩⟩)
       ·have h8' : ¬ ((p.wh.take k).foldl putWh x.wh).length < 20 := by have := of_decide_eq_false h8; omega
        rw [putWh_full h8'] at hst
        (refine goI ?_; repeat (intro gg; refine goI ?_))
        (exact ⟨none, trivial, fun gr => ⟨⟨k + 1, by omega⟩, by show p.wh.length - (k + 1) < p.wh.length - k; omega, tI, tI, And.intro (congrArg (fun (r : List Wh) => some (Ent.mk g2 (.b 30) 12 [({ x with sv := joinL Sv.kf Sv.nw x.sv p.sv, gs := joinL Gw.kf Gw.nw x.gs p.gs, wh := r } : Nd).row])) hst.symm) trivial, tI⟩⟩)
     ·have hge6 : ¬ k < p.wh.length := by have := of_decide_eq_false h6; omega
      obtain rfl : k = p.wh.length := by omega
      rw [show p.wh.foldl putWh x.wh = (p.wh.take p.wh.length).foldl putWh x.wh from by rw [List.take_length]] at hH
      subst hH
      (refine goI ?_; repeat (intro gg; refine goI ?_))
      exact retn2 (.cell1 rfl rfl rfl rfl rfl rfl (.tmp1 rfl .nil)) cBI (cl_b rfl)
  ·rw [hH] at hO
   subst hO
   (refine goI ?_; repeat (intro gg; refine goI ?_))
   rw [show (e != 0) = true from bne_iff_ne.2 h2']
   (refine goI ?_; repeat (intro gg; refine goI ?_))
   exact retn2 (.cell1 rfl rfl rfl rfl rfl rfl (.tmp1 rfl .nil)) cBI (cl_b rfl)
end Go.Proofs.YtkclokmfomnbgaaGreat
namespace Go.Proofs.YtkclokmfomnbgaaGreat
open Go.RowKit Pl
set_option linter.unusedVariables false
namespace Pl
theorem ckMb_one (m : Mb) : ckMb [m] = m.err := by
 have e : firstErr Mb.err [m] = m.err := by
  by_cases h2 : m.err = 0 <;> simp [firstErr, h2]
 unfold ckMb ckL
 rw [if_neg (by simp), e]
 by_cases h : m.err = 0
 ·rw [if_pos h, h]; rfl
 ·rw [if_neg h]
theorem ckRu_nil : ckRu [] = 0 := ckRu_ok (by simp) rfl rfl (by simp)
theorem new_one (nm : ByteArray) (ad : Int) (sv : Bool) (h : lab nm.data.toList = true) : (⟨nm, 1, 1, ad, sv⟩ : Mb).err = if wi ad 0 4294967295 then 0 else 3 := by
 have e1 : wi 1 1 4 = true := rfl
 have e2 : wi 1 1 1000000 = true := rfl
 unfold Mb.err
 rw [h, e1, e2]; rfl
theorem new_err (nm ce : ByteArray) (ad : Int) (sv : Bool) : (newR nm ce ad sv).err = if lab nm.data.toList = false ∨ lab ce.data.toList = false then 1 else if wi ad 0 4294967295 then 0 else 3 := by
 by_cases h : lab nm.data.toList = false ∨ lab ce.data.toList = false
 ·rw [if_pos h]; exact Nd.err_form h
 ·rw [if_neg h]
  have h1 : lab nm.data.toList = true := by cases q : lab nm.data.toList <;> simp [q] at h ⊢
  have h2 : lab ce.data.toList = true := by cases q : lab ce.data.toList <;> simp [q] at h ⊢
  have hc : ckMb (newR nm ce ad sv).ms = if wi ad 0 4294967295 then 0 else 3 := (ckMb_one _).trans (new_one nm ad sv h1)
  have hp : (newR nm ce ad sv).pl.err = 0 := rfl
  have e : (newR nm ce ad sv).cks = [ckMb (newR nm ce ad sv).ms, 0, 0, 0, 0, 0] := by
   unfold Nd.cks
   have q1 : ckRu (newR nm ce ad sv).rs = 0 := ckRu_nil
   have q2 : ckSv (newR nm ce ad sv).sv = 0 := rfl
   have q3 : ckGw (newR nm ce ad sv).gs = 0 := rfl
   have q4 : ckWh (newR nm ce ad sv).wh = 0 := rfl
   rw [q1, q2, q3, q4, hp]
  cases ha : wi ad 0 4294967295 with
  | false =>
   rw [ha] at hc
   have hc : ckMb (newR nm ce ad sv).ms = 3 := hc
   have hf : firstErr (fun e => e) (newR nm ce ad sv).cks = 3 := by rw [e, hc]; rfl
   rw [Nd.err_ck h1 h2 (by rw [hf]; decide), hf]; rfl
  | true =>
   rw [ha] at hc
   have hc : ckMb (newR nm ce ad sv).ms = 0 := hc
   have hf : firstErr (fun e => e) (newR nm ce ad sv).cks = 0 := by rw [e, hc]; rfl
   have hm : hit (Mb.cf (newR nm ce ad sv).nm) (newR nm ce ad sv).ms = true := (at_mem (m := ⟨nm, 1, 1, ad, sv⟩) hc (by simp [newR])).1
   have hx : (newR nm ce ad sv).ms[low (Mb.cf (newR nm ce ad sv).nm) (newR nm ce ad sv).ms]? = some ⟨nm, 1, 1, ad, sv⟩ := (at_mem (m := ⟨nm, 1, 1, ad, sv⟩) hc (by simp [newR])).2
   rw [Nd.err_mine h1 h2 hf hm, Nd.mine_at hx]; rfl
def sA : ByteArray := ⟨#[97]⟩
def sB : ByteArray := ⟨#[98]⟩
def sC : ByteArray := ⟨#[99]⟩
def mA : Mb := ⟨sA, 1, 1, 1, false⟩
def mB : Mb := ⟨sB, 1, 1, 2, true⟩
def mB2 : Mb := ⟨sB, 2, 1, 2, true⟩
def nA : Nd := newR sA sC 1 false
def nB : Nd := newR sB sC 2 true
def nA1 : Nd := ⟨sA, sC, [mA, mB], [⟨mB, 0⟩], [], [], ⟨0, 0, 0, 0, 1000⟩, []⟩
def nA2 : Nd := ⟨sA, sC, [mA, mB2], [⟨mB2, 0⟩], [], [], ⟨0, 0, 0, 0, 1000⟩, []⟩
theorem nA_err : nA.err = 0 := (new_err _ _ _ _).trans (by rw [if_neg (by simp only [show lab sA.data.toList = true from by kernel_rfl, show lab sC.data.toList = true from by kernel_rfl]; simp)]; rfl)
theorem nB_err : nB.err = 0 := (new_err _ _ _ _).trans (by rw [if_neg (by simp only [show lab sB.data.toList = true from by kernel_rfl, show lab sC.data.toList = true from by kernel_rfl]; simp)]; rfl)
theorem hear1 : hearM [mA] mB = (0, [mA, mB], true) := by kernel_rfl
theorem hear2 : hearM [mA, mB] mB2 = (0, [mA, mB2], true) := by kernel_rfl
theorem put1 : putRu [] mB = (0, [⟨mB, 0⟩]) := by rw [putRu_ok ckRu_nil (show mB.err = 0 by kernel_rfl)]; kernel_rfl
theorem spread1 : spreadM nA mB = (0, nA1) := by
 have h : hearM nA.ms mB = (0, [mA, mB], true) := hear1
 rw [spreadM_new (by rw [h]) (by rw [h]), h]
 have p : putRu nA.rs mB = (0, [⟨mB, 0⟩]) := put1
 rw [newsM_else (n := { nA with ms := [mA, mB] }) (by show (putRu nA.rs mB).1 = 0; rw [p]) (by show sB ≠ sA; decide)]
 show ((0 : Int), { nA with ms := [mA, mB], rs := (putRu nA.rs mB).2 }) = _
 rw [p]; rfl
theorem pB_err : (wholeR nB).err = 0 := by
 rw [Pk.err_all (by kernel_rfl) rfl]
 have e : (wholeR nB).cks = [0, 0, 0, 0] := by
  unfold Pk.cks
  have q1 : ckMb (wholeR nB).ms = 0 := (ckMb_one _).trans (by kernel_rfl)
  have q2 : ckSv (wholeR nB).sv = 0 := rfl
  have q3 : ckGw (wholeR nB).gs = 0 := rfl
  have q4 : ckWh (wholeR nB).wh = 0 := rfl
  rw [q1, q2, q3, q4]
 rw [e]; rfl
theorem spreads1 : spreadsM nA [mB] = (0, nA1) := by
 rw [spreadsM, if_neg (by rw [spread1]; simp), spread1]; rfl
theorem hearN1 : hearN nA (wholeR nB) = (0, nA1) := by
 rw [hearN_ok nA_err pB_err]
 have h1 : spreadsM nA (wholeR nB).ms = (0, nA1) := spreads1
 have h2 : joinS nA.sv (wholeR nB).sv = (0, []) := by kernel_rfl
 have h3 : joinG nA.gs (wholeR nB).gs = (0, []) := by kernel_rfl
 rw [hearR_ok (by rw [h1]) (by rw [h2]) (by rw [h3]), h1, h2, h3]; rfl
theorem nA_good : nA.Good := Nd.good nA_err
theorem nA1_good : nA1.Good := by
 have := (spread_good (m := mB) nA_good (by rw [spread1])).1
 rw [spread1] at this; exact this
theorem put2 : putRu [⟨mB, 0⟩] mB2 = (0, [⟨mB2, 0⟩]) := by
 have h : ckRu [⟨mB, 0⟩] = 0 := nA1_good.rs
 have h2 : putR [⟨mB, 0⟩] mB2 = (0, [⟨mB2, 0⟩]) := by kernel_rfl
 have h3 : mB2.err = 0 := by kernel_rfl
 exact (putRu_ok h h3).trans h2
theorem spread2 : spreadM nA1 mB2 = (0, nA2) := by
 have h : hearM nA1.ms mB2 = (0, [mA, mB2], true) := hear2
 rw [spreadM_new (by rw [h]) (by rw [h]), h]
 have p : putRu nA1.rs mB2 = (0, [⟨mB2, 0⟩]) := put2
 rw [newsM_else (n := { nA1 with ms := [mA, mB2] }) (by show (putRu nA1.rs mB2).1 = 0; rw [p]) (by show sB ≠ sA; decide)]
 show ((0 : Int), { nA1 with ms := [mA, mB2], rs := (putRu nA1.rs mB2).2 }) = _
 rw [p]; rfl
theorem turn1 : turnM nA1 sB 1 2 = (0, nA2) := by
 have hB : mB ∈ nA1.ms := by simp [nA1]
 have hm := at_mem nA1_good.ms hB
 have hme : meOf nA1.ms sB = mB := meOf_at hm.2
 have hlb : lab sB.data.toList = true := by kernel_rfl
 rw [turnM_ok nA1_good.err, turnR_ok hlb (show sB ≠ sA by decide) (show hit (Mb.cf sB) nA1.ms = true from hm.1) (by rw [hme]; rfl), hme]
 have e : ({ mB with st := 2 } : Mb) = mB2 := rfl
 rw [e, spread2]; rfl
theorem nA2_good : nA2.Good := by
 have := (spread_good (m := mB2) nA1_good (by rw [spread2])).1
 rw [spread2] at this; exact this
theorem told1 : toldN nA2 = [mB2] := by
 have hp := ordL_perm nA2.rs
 have e : ordL nA2.rs = [0] := by
  have : (ordL nA2.rs).Perm [0] := hp
  exact List.perm_singleton.1 this
 have e2 : toldN nA2 = toldL nA2.rs ((ordL nA2.rs).take (min 5 nA2.rs.length)) := rfl
 rw [e2, e]; rfl
theorem tellP1 : (tellP nA2).ms = [mB2] := by
 show srtN (toldN nA2) = _
 rw [told1]; rfl
end Pl
theorem nbegun_fun : Fun Tryz.prog 15 [] [.c (.v (.bool true))] := by
 have f1 := new_fun sA sC 1 false (by decide) (by decide)
 have e1 : newM sA sC 1 false = nA := by unfold newM; rw [if_neg (by show ¬ nA.err ≠ 0; rw [nA_err]; simp)]; rfl
 rw [show (newR sA sC 1 false).err = 0 from nA_err, e1] at f1
 have f2 := new_fun sB sC 2 true (by decide) (by decide)
 have e2 : newM sB sC 2 true = nB := by unfold newM; rw [if_neg (by show ¬ nB.err ≠ 0; rw [nB_err]; simp)]; rfl
 rw [show (newR sB sC 2 true).err = 0 from nB_err, e2] at f2
 have f3 := whole_fun nB (Nd.good nB_err).ok
 have e3 : wholeM nB = wholeR nB := by unfold wholeM; rw [if_neg (by rw [nB_err]; simp)]
 rw [nB_err, e3] at f3
 have hpo : (wholeR nB).ok := ⟨by decide, by decide, fun x hx => by simp [wholeR, nB, newR] at hx; subst hx; show sB.size ≤ _; decide, by decide, fun x hx => by simp [wholeR, nB, newR] at hx, by decide, fun x hx => by simp [wholeR, nB, newR] at hx, by decide, fun x hx => by simp [wholeR, nB, newR] at hx⟩
 have f4 := hear_fun nA nA_good.ok (wholeR nB) hpo
 rw [hearN1] at f4
 have f5 := doubt_fun nA1 nA1_good.ok sB (by decide)
 rw [turn1] at f5
 have f6 := tell_fun nA2 nA2_good.ok
 rw [tellM_ok nA2_good.err, nA2_good.err] at f6
 have e6 : tellP nA2 = ⟨nA2.nm, false, [mB2], [], [], []⟩ := by
  have := tellP1
  unfold tellP at this ⊢
  simp only at this
  rw [this]
 rw [e6] at f6
 refine fun_x ck_hearsaylaw_nodeBegun rfl ?_
 refine G0 ?_
 (refine .inl ⟨_, _, false, [], aI, f1, nobor, nI, ?_⟩)
 (refine goI ?_; repeat (intro gg; refine goI ?_))
 (refine .inl ⟨_, _, false, [], aI, f2, nobor, nI, ?_⟩)
 (refine goI ?_; repeat (intro gg; refine goI ?_))
 (refine .inl ⟨_, _, false, [], aI, f3, nobor, nI, ?_⟩)
 (refine goI ?_; repeat (intro gg; refine goI ?_))
 (refine .inl ⟨_, _, false, [], aI, f4, nobor, nI, ?_⟩)
 refine G1 ?_; intro gg
 (refine .inl ⟨_, _, false, [], aI, f5, nobor, nI, ?_⟩)
 refine G1 ?_; intro gg
 (refine .inl ⟨_, _, false, [], aI, f6, nobor, nI, ?_⟩)
 (refine goI ?_; repeat (intro gg; refine goI ?_))
 refine ⟨0, _, rfl, rfl, ?_⟩
 refine G0 ?_
 (exact ⟨[], aI⟩)
end Go.Proofs.YtkclokmfomnbgaaGreat
namespace Go.Proofs.YtkclokmfomnbgaaGreat
open Go.RowKit Pl
set_option linter.unusedVariables false
theorem nd_dec (row : List V) (h : Fits [.s, .s, .l [.s, .i, .i, .i, .b], .l [.s, .i, .i, .i, .b, .i], .l [.s, .s, .s, .s, .i, .i, .b, .i, .b], .l [.s, .i, .i], .i, .i, .i, .i, .i, .l [.s, .i, .i, .i, .i, .i]] row) : ∃ n : Nd, row = n.row ∧ n.ok := by
 obtain ⟨u0, _, rfl, f0, h⟩ := fits_cons h
 obtain ⟨u1, _, rfl, f1, h⟩ := fits_cons h
 obtain ⟨u2, _, rfl, f2, h⟩ := fits_cons h
 obtain ⟨u3, _, rfl, f3, h⟩ := fits_cons h
 obtain ⟨u4, _, rfl, f4, h⟩ := fits_cons h
 obtain ⟨u5, _, rfl, f5, h⟩ := fits_cons h
 obtain ⟨u6, _, rfl, f6, h⟩ := fits_cons h
 obtain ⟨u7, _, rfl, f7, h⟩ := fits_cons h
 obtain ⟨u8, _, rfl, f8, h⟩ := fits_cons h
 obtain ⟨u9, _, rfl, f9, h⟩ := fits_cons h
 obtain ⟨u10, _, rfl, f10, h⟩ := fits_cons h
 obtain ⟨u11, _, rfl, f11, h⟩ := fits_cons h
 obtain rfl := fits_nil h
 obtain ⟨nm, rfl, hn⟩ := fit_s f0
 obtain ⟨ce, rfl, hc⟩ := fit_s f1
 obtain ⟨ms, rfl, m1, m2⟩ := fit_list mb_dec f2
 obtain ⟨rs, rfl, r1, r2⟩ := fit_list ru_dec f3
 obtain ⟨sv, rfl, s1, s2⟩ := fit_list sv_dec f4
 obtain ⟨gs, rfl, g1, g2⟩ := fit_list gw_dec f5
 obtain ⟨a, rfl, _⟩ := fit_i f6
 obtain ⟨b, rfl, _⟩ := fit_i f7
 obtain ⟨c, rfl, _⟩ := fit_i f8
 obtain ⟨d, rfl, _⟩ := fit_i f9
 obtain ⟨e, rfl, _⟩ := fit_i f10
 obtain ⟨wh, rfl, w1, w2⟩ := fit_list wh_dec f11
 exact ⟨⟨nm, ce, ms, rs, sv, gs, ⟨a, b, c, d, e⟩, wh⟩, rfl, ⟨hn, hc, m1, m2, r1, r2, s1, s2, g1, g2, w1, w2⟩⟩
structure Pk.ok0 (p : Pk) : Prop where
 fr : p.fr.size ≤ 9223372036854775807
 msl : p.ms.length ≤ 9223372036854775807
 ms : ∀ x ∈ p.ms, x.ok
 sv : ∀ x ∈ p.sv, x.ok
 gs : ∀ x ∈ p.gs, x.ok
 wh : ∀ x ∈ p.wh, x.ok
theorem pk_dec (row : List V) (h : Fits [.s, .b, .l [.s, .i, .i, .i, .b], .l [.s, .s, .s, .s, .i, .i, .b, .i, .b], .l [.s, .i, .i], .l [.s, .i, .i, .i, .i, .i]] row) : ∃ p : Pk, row = p.row ∧ Pk.ok0 p := by
 obtain ⟨u0, _, rfl, f0, h⟩ := fits_cons h
 obtain ⟨u1, _, rfl, f1, h⟩ := fits_cons h
 obtain ⟨u2, _, rfl, f2, h⟩ := fits_cons h
 obtain ⟨u3, _, rfl, f3, h⟩ := fits_cons h
 obtain ⟨u4, _, rfl, f4, h⟩ := fits_cons h
 obtain ⟨u5, _, rfl, f5, h⟩ := fits_cons h
 obtain rfl := fits_nil h
 obtain ⟨fr, rfl, hn⟩ := fit_s f0
 obtain ⟨wo, rfl⟩ := fit_b f1
 obtain ⟨ms, rfl, m1, m2⟩ := fit_list mb_dec f2
 obtain ⟨sv, rfl, s1, s2⟩ := fit_list sv_dec f3
 obtain ⟨gs, rfl, g1, g2⟩ := fit_list gw_dec f4
 obtain ⟨wh, rfl, w1, w2⟩ := fit_list wh_dec f5
 exact ⟨⟨fr, wo, ms, sv, gs, wh⟩, rfl, ⟨hn, m1, m2, s2, g2, w2⟩⟩
theorem Pk.ok0.ok {p : Pk} (h : Pk.ok0 p) (h3 : (p.sv.map Sv.row).length ≤ 140737488351232) (h4 : (p.gs.map Gw.row).length ≤ 140737488351232) (h5 : (p.wh.map Wh.row).length ≤ 140737488351232) : p.ok := by
 rw [List.length_map] at h3 h4 h5
 exact ⟨h.fr, h.msl, h.ms, by omega, h.sv, by omega, h.gs, by omega, h.wh⟩
end Go.Proofs.YtkclokmfomnbgaaGreat
namespace Go.Proofs.YtkclokmfomnbgaaGreat
open Go.ChangeShapes Go.WideShapes Go.ChangeAt Go.RowKit
set_option linter.unusedVariables false
theorem struct_sz {H : Type} {enc : TypeId × Value → H} {P : Program} {w : World} {base : Nat} {spare : Nat → Bool} {held : Bool} {t : TypeId} {fs : Array Field} {v : Value} {d : DataW H} {p : List MemPlace} {R : Nat → Prop} {G : Nat → Option Loc} {us : List V}
  (hs : P.underlying t = some (.struct fs)) (h : DataW.Trod enc P w base spare held t v d p) (hv : RV w R G (.agg us) v) {ts : List TypeId} {ds : List (DataW H)} {j : Nat}
  (hz : (DataW.weightsEach P ts ds).all (· ≤ reachBytes) = true) (ht : ts[j]? = some t) (hd : ds[j]? = some d) {i : Nat} {f : Field} (hf : fs[i]? = some f) {e : TypeId} (hu : P.underlying f.type = some (.slice e)) (hc : P.cellsOf f.type = 1)
  {rows : List (List V)} (hr : us[f.offset]? = some (.sl false rows)) : rows.length * P.bytesOf e ≤ 140737488351232 := by
 obtain ⟨fuel, hf0⟩ := h
 obtain ⟨xs, n, rfl, hx, hcl, hxl, hfs⟩ := DataW.trod_struct hs hf0
 have hd' : d = .agg (xs.map (·.1)) := congrArg Prod.fst hx
 subst hd'
 have hi : i < xs.length := by rw [hxl]; exact (Array.getElem?_eq_some_iff.1 hf).1
 have hxi := hfs i f hf
 cases hv with
 | agg us zs hl hh =>
  have ho : f.offset < zs.length := by rw [← hl]; exact (List.getElem?_eq_some_iff.1 hr).1
  have hzz : zs[f.offset]? = some zs[f.offset] := List.getElem?_eq_getElem ho
  have hrz := hh _ _ _ hr hzz
  generalize zs[f.offset] = z at *
  have hcell : z.cells.toList = [z] := by
   generalize hu' : V.sl false rows = u at hrz
   cases hrz with
   | nil => rfl
   | sl => rfl
   | _ => cases hu'
  have hdt : ((Value.agg zs.toArray).cells.toList.drop f.offset).take (P.cellsOf f.type) = [z] := by
   show (zs.toArray.toList.drop f.offset).take (P.cellsOf f.type) = [z]
   rw [hc, List.drop_eq_getElem_cons (by simpa using ho)]
   have : zs.toArray.toList[f.offset]'(by simpa using ho) = z := by
    have := hzz
    rw [List.getElem?_eq_getElem ho] at this
    simpa using this
   rw [this]; rfl
  rw [hdt, List.getElem?_eq_getElem hi] at hxi
  have hz2 : (DataW.weightsEach P (fs.toList.map (·.type)) (xs.map (·.1))).all (· ≤ reachBytes) = true := by
   rw [List.all_eq_true]
   intro m hm
   refine List.all_eq_true.1 hz m (DataW.weights_mem_each ht hd m ?_)
   simp only [DataW.weights, hs]; exact hm
  have hT : DataW.Trod enc P w base spare held f.type z (xs[i]).1 (xs[i]).2 := ⟨n, by rw [hcell]; exact hxi⟩
  refine list_sz (j := i) hu hT hrz hz2 ?_ ?_
  ·rw [List.getElem?_map]
   have : fs.toList[i]? = some f := by simpa using hf
   rw [this]; rfl
  ·rw [List.getElem?_map, List.getElem?_eq_getElem hi]; rfl
theorem struct_len {H : Type} {enc : TypeId × Value → H} {P : Program} {w : World} {base : Nat} {spare : Nat → Bool} {held : Bool} {t : TypeId} {fs : Array Field} {v : Value} {d : DataW H} {p : List MemPlace} {R : Nat → Prop} {G : Nat → Option Loc} {us : List V}
  (hs : P.underlying t = some (.struct fs)) (h : DataW.Trod enc P w base spare held t v d p) (hv : RV w R G (.agg us) v) {ts : List TypeId} {ds : List (DataW H)} {j : Nat}
  (hz : (DataW.weightsEach P ts ds).all (· ≤ reachBytes) = true) (ht : ts[j]? = some t) (hd : ds[j]? = some d) {i : Nat} {f : Field} (hf : fs[i]? = some f) {e : TypeId} (hu : P.underlying f.type = some (.slice e)) (hc : P.cellsOf f.type = 1) (hb : Nat.ble 1 (P.bytesOf e) = true)
  {rows : List (List V)} (hr : us[f.offset]? = some (.sl false rows)) : rows.length ≤ 140737488351232 :=
 Nat.le_trans (Nat.le_mul_of_pos_right _ (Nat.le_of_ble_eq_true hb)) (struct_sz hs h hv hz ht hd hf hu hc hr)
end Go.Proofs.YtkclokmfomnbgaaGreat
