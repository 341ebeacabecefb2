/- Texts of this claim, joined. -/
import Derived.Test.YtkclokmfomnbgaaGreatWa
import Derived.Test.YtkclokmfomnbgaaGreatWb
import Derived.Test.YtkclokmfomnbgaaGreatWc
set_option linter.unusedSimpArgs false
namespace Go.Proofs.YtkclokmfomnbgaaGreat
open Go.RowKit Pl
set_option linter.unusedVariables false
namespace Pl
def Old (l : List Mb) (m : Mb) : Prop := ∃ z ∈ l, Mb.kf m z = 0 ∧ Mb.nw m z = false
theorem Old.grow {a b : List Mb} {m : Mb} (h : Old a m) (g : Grows a b) : Old b m := by
 obtain ⟨z, hz, e1, e2⟩ := h
 obtain ⟨y, hy, hn, hc⟩ := g z hz
 refine ⟨y, hy, scmp_zero.2 (hn.trans (scmp_zero.1 e1)), ?_⟩
 rcases hc with rfl | hc
 ·exact e2
 ·cases q : Mb.nw m y with
  | false => rfl
  | true =>
   have := PlM.newest.trans _ _ _ q hc
   rw [e2] at this; cases this
theorem spread_old {n : Nd} {m : Mb} (g : n.Good) (h : (spreadM n m).1 = 0) : Old (spreadM n m).2.ms m := by
 by_cases h1 : (hearM n.ms m).1 = 0
 ·obtain ⟨c1, c2, c3, c4⟩ := PlM.hear_inv h1
  cases h2 : (hearM n.ms m).2.2 with
  | false =>
   rw [spreadM_old h1 h2]
   rw [c4] at h2
   have hF : hearF Mb.kf Mb.nw n.ms m = false := h2
   cases hh : hit (Mb.kf m) n.ms with
   | false => rw [hearF_miss hh] at hF; cases hF
   | true =>
    rw [hearF_hit hh] at hF
    exact ⟨_, List.getElem_mem (hit_lt hh), hit_zero hh, hF⟩
  | true =>
   rw [spreadM_new h1 h2] at h ⊢
   rw [c4] at h2 h ⊢
   have hF : hearF Mb.kf Mb.nw n.ms m = true := h2
   have hm := upd_has hF
   have hck := PlM.ck_upd c1 c2 (by omega)
   have hgr := grows_upd (m := m) c1
   show Old (newsM { n with ms := upd Mb.kf Mb.nw n.ms m } m).2.ms m
   replace h : (newsM { n with ms := upd Mb.kf Mb.nw n.ms m } m).1 = 0 := h
   generalize upd Mb.kf Mb.nw n.ms m = L at *
   have gl := g.gd.learn hck hgr
   by_cases h3 : (putRu n.rs m).1 = 0
   ·have gp := gl.put (m := m) (known_self hm) h3
    by_cases h4 : m.n = n.nm
    ·rw [newsM_me (n := { n with ms := L }) h3 h4] at h ⊢
     exact known_no ((known_self hm).grow (back_good gp h).2.ms)
    ·rw [newsM_else (n := { n with ms := L }) h3 h4]
     exact known_no (known_self hm)
   ·rw [newsM_e (n := { n with ms := L }) h3] at h; exact absurd h h3
 ·rw [spreadM_e h1] at h; exact absurd h h1
theorem spreads_old : ∀ {l : List Mb} {n : Nd}, n.Good → (spreadsM n l).1 = 0 → ∀ m ∈ l, Old (spreadsM n l).2.ms m
 | [], n, g, h, m, hm => by cases hm
 | a :: l, n, g, h, m, hm => by
  rw [spreadsM] at h ⊢
  split at h
  ·rename_i q; exact absurd h q
  ·rename_i q
   rw [if_neg q]
   have q : (spreadM n a).1 = 0 := Classical.byContradiction q
   have g1 := spread_good g q
   have g2 := spreads_good g1.1 h
   rcases List.mem_cons.1 hm with rfl | hm
   ·exact (spread_old g q).grow g2.2.ms
   ·exact spreads_old g1.1 h m hm
theorem spread_again {n : Nd} {m : Mb} (g : n.Good) (he : m.err = 0) (h : Old n.ms m) : spreadM n m = (0, n) := by
 have hi := ckMb_inv g.ms
 have hR : Rep Mb.lt Mb.kf Mb.nw n.ms (fun x => x ∈ n.ms ∨ x = m) := ⟨hi.2.2, fun x hx => .inl hx, fun y hy => by
  rcases hy with hy | rfl
  ·exact ⟨y, hy, PlM.kf_self y, PlM.newest.irr y⟩
  ·obtain ⟨z, hz, e1, e2⟩ := h
   exact ⟨z, hz, PlM.kf_sym _ _ e1, e2⟩⟩
 have hU : upd Mb.kf Mb.nw n.ms m = n.ms := PlM.repU (PlM.rep1 (PlM.rep0 g.ms) m) hR
 have hF := hear_old PlM.newest PlM.kf_self Mb.ord hi.2.2 hU
 have hM := hearM_ok g.ms he (by rw [hU]; have := hi.1; omega)
 rw [hU, hF] at hM
 exact spreadM_old (by rw [hM]) (by rw [hM])
theorem spreads_again {n : Nd} (g : n.Good) : ∀ {l : List Mb}, (∀ m ∈ l, m.err = 0) → (∀ m ∈ l, Old n.ms m) → spreadsM n l = (0, n)
 | [], _, _ => rfl
 | a :: l, he, ho => by
  rw [spreadsM, spread_again g (he a List.mem_cons_self) (ho a List.mem_cons_self), if_neg (by simp)]
  exact spreads_again g (fun m hm => he m (List.mem_cons_of_mem _ hm)) (fun m hm => ho m (List.mem_cons_of_mem _ hm))
theorem joinS_again {a b : List Sv} (h : (joinS a b).1 = 0) : joinS (joinS a b).2 b = (0, (joinS a b).2) := by
 obtain ⟨h1, h2, h3, h4⟩ := PlS.join_inv h
 rw [h4]
 show joinS (joinL Sv.kf Sv.nw a b) b = (0, joinL Sv.kf Sv.nw a b)
 have hR := PlS.rep2 (PlS.rep0 h1) (PlS.rep0 h2)
 have hU : joinL Sv.kf Sv.nw (joinL Sv.kf Sv.nw a b) b = joinL Sv.kf Sv.nw a b := PlS.repU (PlS.rep2 hR (PlS.rep0 h2)) (hR.congr fun x => ⟨fun q => .inl q, fun q => q.elim id .inr⟩)
 have := joinS_ok (PlS.ck_join h1 h2 (by omega)) h2 (by rw [hU]; exact h3)
 rw [hU] at this; exact this
theorem joinG_again {a b : List Gw} (h : (joinG a b).1 = 0) : joinG (joinG a b).2 b = (0, (joinG a b).2) := by
 obtain ⟨h1, h2, h3, h4⟩ := PlG.join_inv h
 rw [h4]
 show joinG (joinL Gw.kf Gw.nw a b) b = (0, joinL Gw.kf Gw.nw a b)
 have hR := PlG.rep2 (PlG.rep0 h1) (PlG.rep0 h2)
 have hU : joinL Gw.kf Gw.nw (joinL Gw.kf Gw.nw a b) b = joinL Gw.kf Gw.nw a b := PlG.repU (PlG.rep2 hR (PlG.rep0 h2)) (hR.congr fun x => ⟨fun q => .inl q, fun q => q.elim id .inr⟩)
 have := joinG_ok (PlG.ck_join h1 h2 (by omega)) h2 (by rw [hU]; exact h3)
 rw [hU] at this; exact this
def Cov (l : List Wh) (x : Wh) : Prop := (∃ y ∈ l, Wh.kf x y = 0) ∨ ¬ l.length < 20
theorem cov_put (l : List Wh) (x : Wh) : Cov (putWh l x) x := by
 by_cases h2 : l.length < 20
 ·cases h : hit (Wh.cf x.nd) l with
  | false => rw [putWh_yes h h2]; exact .inl ⟨x, by simp, scmp_eq _⟩
  | true => rw [putWh_hit h]; exact .inl ⟨_, List.getElem_mem (hit_lt h), hit_zero h⟩
 ·rw [putWh_full h2]; exact .inr h2
theorem cov_keep {l : List Wh} {x : Wh} (h : Cov l x) (z : Wh) : Cov (putWh l z) x := by
 unfold putWh
 split
 ·rename_i hh
  rcases h with ⟨y, hy, e⟩ | h
  ·refine .inl ⟨y, ?_, e⟩
   rw [← List.take_append_drop (low (Wh.cf z.nd) l) l] at hy
   rcases List.mem_append.1 hy with q | q
   ·exact List.mem_append_left _ (List.mem_append_left _ q)
   ·exact List.mem_append_right _ q
  ·exact absurd hh.2 h
 ·exact h
theorem cov_fold : ∀ (p : List Wh) {l : List Wh} {x : Wh}, Cov l x → Cov (p.foldl putWh l) x
 | [], _, _, h => h
 | z :: p, _, _, h => cov_fold p (cov_keep h z)
theorem cov_all : ∀ (p : List Wh) {l : List Wh}, ∀ x ∈ p, Cov (p.foldl putWh l) x
 | [], _, x, h => by cases h
 | z :: p, l, x, h => by
  rcases List.mem_cons.1 h with rfl | h
  ·exact cov_fold p (cov_put l x)
  ·exact cov_all p (l := putWh l z) x h
theorem putWh_again {l : List Wh} (hs : sorted Wh.lt l = true) {x : Wh} (h : Cov l x) : putWh l x = l := by
 rcases h with ⟨y, hy, e⟩ | h
 ·exact putWh_hit (hit_of (Wh.ord.smono hs x) hy e)
 ·exact putWh_full h
theorem putWhs_again {l : List Wh} (hs : sorted Wh.lt l = true) : ∀ (p : List Wh), (∀ x ∈ p, Cov l x) → p.foldl putWh l = l
 | [], _ => rfl
 | x :: p, h => by
  rw [List.foldl_cons, putWh_again hs (h x List.mem_cons_self)]
  exact putWhs_again hs p fun y hy => h y (List.mem_cons_of_mem _ hy)
theorem hear_again {n : Nd} {p : Pk} (g : n.Good) (h : (hearN n p).1 = 0) : hearN (hearN n p).2 p = (0, (hearN n p).2) := by
 obtain ⟨hp, h1, h2, h3, e, gx, _⟩ := hear_keeps g h
 have hm := spreads_old (l := p.ms) g h1
 obtain ⟨r1, _, _, _⟩ := pk_right hp
 have hW := putWhs_again (ckWh_all gx.wh).2.2 p.wh (by rw [e]; exact cov_all p.wh)
 have hS := spreads_again gx r1 (by rw [e]; exact hm)
 have hJ : joinS (hearN n p).2.sv p.sv = (0, (hearN n p).2.sv) := by rw [e]; exact joinS_again h2
 have hG : joinG (hearN n p).2.gs p.gs = (0, (hearN n p).2.gs) := by rw [e]; exact joinG_again h3
 generalize (hearN n p).2 = x at *
 rw [hearN_O gx.err, hearO_ok hp, hearR_ok (by rw [hS]) (by rw [hJ]) (by rw [hG]), hS, hJ, hG, hW]
theorem hear_notOlder {n a : Nd} (g : n.Good) (h : (hearN n (wholeR a)).1 = 0) : NotOlder a (hearN n (wholeR a)).2 := by
 obtain ⟨hp, h1, h2, h3, e, gx, _⟩ := hear_keeps g h
 have hm := spreads_old (l := (wholeR a).ms) g h1
 rw [e]
 exact ⟨fun m q => hm m q, fun s q => (joinS_no h2).2 s (.inr q), fun s q => (joinG_no h3).2 s (.inr q)⟩
end Pl
end Go.Proofs.YtkclokmfomnbgaaGreat
