/- Texts of this claim, joined. -/
import Derived.Test.YtkclokmfomnbgaaGreatXa
import Derived.Test.YtkclokmfomnbgaaGreatXb
import Derived.Test.YtkclokmfomnbgaaGreatXc
set_option linter.unusedSimpArgs false
namespace Go.Proofs.YtkclokmfomnbgaaGreat
open Go.RowKit Pl
set_option linter.unusedVariables false
namespace Pl
def traceW (l : List Wh) (name : ByteArray) (p : Pc) : List Wh := putAt (Wh.kf ⟨name, p⟩) ⟨name, p⟩ l
def traceN (n : Nd) (name : ByteArray) (p : Pc) (r : Int) : Nd := { n with pl := moveR n.pl p r, wh := traceW n.wh name p }
theorem traceN_row {n : Nd} {name : ByteArray} {p : Pc} {r : Int} {rows : List (List V)} (h : (traceW n.wh name p).map Wh.row = rows) : (traceN n name p r).row = [.v (.string n.nm), .v (.string n.ce), .sl false (n.ms.map Mb.row), .sl false (n.rs.map Ru.row), .sl false (n.sv.map Sv.row), .sl false (n.gs.map Gw.row),
 .v (.int .i64 (moveR n.pl p r).x), .v (.int .i64 (moveR n.pl p r).y), .v (.int .i64 (moveR n.pl p r).z), .v (.int .i64 (moveR n.pl p r).h), .v (.int .i64 (moveR n.pl p r).s), .sl false rows] := by rw [← h]; rfl
noncomputable def traceR (n : Nd) (name : ByteArray) (p : Pc) (r : Int) : Int × Nd :=
 if lab name.data.toList = false then (1, nd0) else if p.okb = false then (3, nd0) else if name = n.nm then (6, nd0) else if wi r 1 5000000 = false then (3, nd0)
 else if 20 < (traceW n.wh name p).length then (2, nd0) else (0, traceN n name p r)
noncomputable def traceM (n : Nd) (name : ByteArray) (p : Pc) (r : Int) : Int × Nd := if n.err ≠ 0 then (n.err, nd0) else traceR n name p r
theorem traceM_e {n : Nd} {name : ByteArray} {p : Pc} {r : Int} (h : n.err ≠ 0) : traceM n name p r = (n.err, nd0) := if_pos h
theorem traceM_ok {n : Nd} {name : ByteArray} {p : Pc} {r : Int} (h : n.err = 0) : traceM n name p r = traceR n name p r := if_neg (by simp [h])
theorem traceR_lab {n : Nd} {name : ByteArray} {p : Pc} {r : Int} (h : lab name.data.toList = false) : traceR n name p r = (1, nd0) := if_pos h
theorem traceR_pl {n : Nd} {name : ByteArray} {p : Pc} {r : Int} (h : lab name.data.toList = true) (h2 : p.okb = false) : traceR n name p r = (3, nd0) := by unfold traceR; rw [if_neg (by simp [h]), if_pos h2]
theorem traceR_me {n : Nd} {name : ByteArray} {p : Pc} {r : Int} (h : lab name.data.toList = true) (h2 : p.okb = true) (h3 : name = n.nm) : traceR n name p r = (6, nd0) := by unfold traceR; rw [if_neg (by simp [h]), if_neg (by simp [h2]), if_pos h3]
theorem traceR_rd {n : Nd} {name : ByteArray} {p : Pc} {r : Int} (h : lab name.data.toList = true) (h2 : p.okb = true) (h3 : name ≠ n.nm) (h4 : wi r 1 5000000 = false) : traceR n name p r = (3, nd0) := by
 unfold traceR; rw [if_neg (by simp [h]), if_neg (by simp [h2]), if_neg h3, if_pos h4]
theorem traceR_many {n : Nd} {name : ByteArray} {p : Pc} {r : Int} (h : lab name.data.toList = true) (h2 : p.okb = true) (h3 : name ≠ n.nm) (h4 : wi r 1 5000000 = true) (h5 : 20 < (traceW n.wh name p).length) : traceR n name p r = (2, nd0) := by
 unfold traceR; rw [if_neg (by simp [h]), if_neg (by simp [h2]), if_neg h3, if_neg (by simp [h4]), if_pos h5]
theorem traceR_ok {n : Nd} {name : ByteArray} {p : Pc} {r : Int} (h : lab name.data.toList = true) (h2 : p.okb = true) (h3 : name ≠ n.nm) (h4 : wi r 1 5000000 = true) (h5 : ¬ 20 < (traceW n.wh name p).length) : traceR n name p r = (0, traceN n name p r) := by
 unfold traceR; rw [if_neg (by simp [h]), if_neg (by simp [h2]), if_neg h3, if_neg (by simp [h4]), if_neg h5]
theorem traceW_hit {l : List Wh} {name : ByteArray} {p : Pc} (h : hit (Wh.cf name) l = true) : traceW l name p = l.set (low (Wh.cf name) l) ⟨name, p⟩ := by
 unfold traceW putAt; rw [if_pos (show hit (Wh.kf ⟨name, p⟩) l = true from h)]; rfl
theorem traceW_miss {l : List Wh} {name : ByteArray} {p : Pc} (h : hit (Wh.cf name) l = false) : traceW l name p = l.take (low (Wh.cf name) l) ++ [⟨name, p⟩] ++ l.drop (low (Wh.cf name) l) := by
 unfold traceW putAt; rw [if_neg (show ¬ hit (Wh.kf ⟨name, p⟩) l = true by rw [show hit (Wh.kf ⟨name, p⟩) l = false from h]; simp)]; rfl
theorem traceW_len {l : List Wh} {name : ByteArray} {p : Pc} : (traceW l name p).length = if hit (Wh.cf name) l = true then l.length else l.length + 1 := putAt_len _ _
end Pl
set_option maxHeartbeats 2000000 in
theorem trace_fun (n : Nd) (h : n.ok) (name : ByteArray) (hn : name.size ≤ 9223372036854775807) (p : Pc) (r : Int) : Fun Tryz.prog 33 [.c (.agg n.row), .c (.v (.string name)), .c (.agg p.row), .c (.v (.int .i64 r))] [.c (.agg (traceM n name p r).2.row), .c (.v (.int .i64 (traceM n name p r).1))] := by
 by_cases he : n.err = 0
 ·have g := Nd.good he
  have hw := ckWh_all g.wh
  have hM := Move_fun n.pl p r
  rw [traceM_ok he]
  refine fun_xc ck_node_Trace rfl ?_
  (refine goI ?_; repeat (intro gg; refine goI ?_))
  (refine .inr (.inl ⟨_, _, false, [], aM, open_O n h g he, nobor, oI, dI, ?_⟩))
  refine G1 ?_; intro gg
  (refine .inl ⟨_, _, false, [], aI, label_fun name hn, nobor, nI, ?_⟩)
  refine G1 ?_; intro gg
  (refine bIf_of (fun h1 => ?_) (fun h1 => ?_) <;> rw [h1])
  ·rw [traceR_lab (not_t h1)]
   refine G0 ?_
   exact retn2 (.cell1 rfl rfl rfl rfl rfl rfl (.tmp1 rfl .nil)) cBI (cl_b rfl)
  ·have h1' := not_f h1
   refine G0 ?_
   cases h2 : p.okb with
   | false =>
    have hC := pCheck_fun p
    rw [Pc.err_bad h2] at hC
    rw [traceR_pl h1' h2]
    (refine .inl ⟨_, _, false, [], aI, hC, nobor, nI, ?_⟩)
    refine G1 ?_; intro gg
    exact retn2 (.cell1 rfl rfl rfl rfl rfl rfl (.tmp1 rfl .nil)) cBI (cl_b rfl)
   | true =>
    have hC := pCheck_fun p
    rw [Pc.err_ok h2] at hC
    (refine .inl ⟨_, _, false, [], aI, hC, nobor, nI, ?_⟩)
    refine G1 ?_; intro gg
    (refine bIf_of (fun h3 => ?_) (fun h3 => ?_) <;> rw [h3])
    ·rw [traceR_me h1' h2 (toList_inj (beq_iff_eq.1 h3))]
     refine G0 ?_
     exact retn2 (.cell1 rfl rfl rfl rfl rfl rfl (.tmp1 rfl .nil)) cBI (cl_b rfl)
    ·have h3' : name ≠ n.nm := fun e => by rw [e, beq_self_eq_true] at h3; cases h3
     cases h4 : wi r 1 5000000 with
     | false =>
      rw [moveM_round g.pl h2 h4] at hM
      rw [traceR_rd h1' h2 h3' h4]
      refine G0 ?_
      (refine ⟨_, _, false, aI, hM, nobor, nI, ?_⟩)
      refine G1 ?_; intro gg
      exact retn2 (.cell1 rfl rfl rfl rfl rfl rfl (.tmp1 rfl .nil)) cBI (cl_b rfl)
     | true =>
      rw [moveM_ok g.pl h2 h4] at hM
      have hF := find_fun { n with pl := moveR n.pl p r } name (by show n.wh.length ≤ _; omega) (Wh.smono hw.2.2 _).mono
      dsimp only at hF
      have hml : (n.wh.map Wh.row).length = n.wh.length := List.length_map ..
      cases h5 : hit (Wh.cf name) n.wh with
      | true =>
       have hlt := hit_lt h5
       have hlen := traceW_len (l := n.wh) (name := name) (p := p)
       rw [if_pos h5] at hlen
       rw [h5] at hF
       have hset : (traceW n.wh name p).map Wh.row = (n.wh.map Wh.row).set (low (Wh.cf name) n.wh) (Wh.row ⟨name, p⟩) := by rw [traceW_hit h5, List.map_set]
       rw [traceR_ok h1' h2 h3' h4 (by omega), traceN_row hset]
       refine G0 ?_
       (refine ⟨_, _, false, aI, hM, nobor, nI, ?_⟩)
       (refine goI ?_; repeat (intro gg; refine goI ?_))
       (refine .inr (.inl ⟨_, _, false, 272 :: ([100017408] ++ []), ?_, hF, nobor, oI, dI, ?_⟩); focus (exact aM_mn (gone := []) (gone1 := [100017408]) rfl aI (by decide) (by decide) (by decide) rfl aM))
       refine G1 ?_; intro gg
       refine ⟨low (Wh.cf name) n.wh, _, rfl, row_map hlt, ?_⟩
       refine G0 ?_
       exact retn2 (.cell1 rfl rfl rfl rfl rfl rfl (.tmp1 rfl .nil)) cBI (cl_b rfl)
      | false =>
       have hlen := traceW_len (l := n.wh) (name := name) (p := p)
       rw [if_neg (by simp [h5])] at hlen
       rw [h5] at hF
       by_cases h6 : n.wh.length = 20
       ·rw [traceR_many h1' h2 h3' h4 (by omega)]
        refine G0 ?_
        (refine ⟨_, _, false, aI, hM, nobor, nI, ?_⟩)
        (refine goI ?_; repeat (intro gg; refine goI ?_))
        (refine .inr (.inl ⟨_, _, false, 272 :: ([100017408] ++ []), ?_, hF, nobor, oI, dI, ?_⟩); focus (exact aM_mn (gone := []) (gone1 := [100017408]) rfl aI (by decide) (by decide) (by decide) rfl aM))
        refine G1 ?_; intro gg
        rw [hml, h6]
        refine G0 ?_
        exact retn2 (.cell1 rfl rfl rfl rfl rfl rfl (.tmp1 rfl .nil)) cBI (cl_b rfl)
       ·rw [traceR_ok h1' h2 h3' h4 (by omega), traceN_row (congrArg (List.map Wh.row) (traceW_miss h5))]
        have hI := whinsert_fun n.wh ⟨name, p⟩ (low (Wh.cf name) n.wh) (low_le (cf := Wh.cf name) _) (by omega)
        refine G0 ?_
        (refine ⟨_, _, false, aI, hM, nobor, nI, ?_⟩)
        (refine goI ?_; repeat (intro gg; refine goI ?_))
        (refine .inr (.inl ⟨_, _, false, 272 :: ([100017408] ++ []), ?_, hF, nobor, oI, dI, ?_⟩); focus (exact aM_mn (gone := []) (gone1 := [100017408]) rfl aI (by decide) (by decide) (by decide) rfl aM))
        refine G1 ?_; intro gg
        rw [hml]
        (refine bIf_of (fun q => ?_) (fun q => ?_) <;> rw [q]; focus (exfalso; have := of_decide_eq_true q; omega))
        refine G1 ?_; intro gg
        (refine .inl ⟨_, _, true, [100017408, 1280], aI, hI, (fun _ => fI), nI, ?_⟩)
        refine G1 ?_; intro gg
        exact retn2 (.cell1 rfl rfl rfl rfl rfl rfl (.tmp1 rfl .nil)) cBI (cl_b rfl)
 ·rw [traceM_e he]
  refine fun_xc ck_node_Trace rfl ?_
  (refine goI ?_; repeat (intro gg; refine goI ?_))
  (refine .inl ⟨_, _, false, [], aI, open_err n h he, nobor, nI, ?_⟩)
  refine G1 ?_; intro gg
  rw [show (n.err != 0) = true from bne_iff_ne.2 he]
  refine G0 ?_
  rw [show (n.err == 0) = false from beq_eq_false_iff_ne.2 he]
  refine G0 ?_
  rw [show (n.err != 0) = true from bne_iff_ne.2 he]
  refine G0 ?_
  exact retn2 (.cell1 rfl rfl rfl rfl rfl rfl (.tmp1 rfl .nil)) cBI (cl_b rfl)
end Go.Proofs.YtkclokmfomnbgaaGreat
namespace Go.Proofs.YtkclokmfomnbgaaGreat
open Go.RowKit Pl
set_option linter.unusedVariables false
namespace Pl
end Pl
end Go.Proofs.YtkclokmfomnbgaaGreat
namespace Go.Proofs.YtkclokmfomnbgaaGreat
open Go.RowKit Pl
set_option linter.unusedVariables false
theorem traceOf_fun (n : Nd) (g : n.Good) (name : ByteArray) (hn : name.size ≤ 9223372036854775807) (p : Pc) (r : Int) : Fun Tryz.prog 34 [.c (.agg n.row), .c (.v (.string name)), .c (.agg p.row), .c (.v (.int .i64 r))] [.c (.agg (traceR n name p r).2.row), .c (.v (.int .i64 (traceR n name p r).1))] := by
 have hw := ckWh_all g.wh
 refine fun_xc ck_hearsayref_TraceOf rfl ?_
 (refine goI ?_; repeat (intro gg; refine goI ?_))
 (refine .inl ⟨_, _, false, [], aI, rlabel_fun name hn, nobor, nI, ?_⟩)
 refine G1 ?_; intro gg
 (refine bIf_of (fun h1 => ?_) (fun h1 => ?_) <;> rw [h1])
 ·rw [traceR_lab (not_t h1)]
  refine G0 ?_
  exact retn2 (.cell1 rfl rfl rfl rfl rfl rfl (.tmp1 rfl .nil)) cBI (cl_b rfl)
 ·have h1' := not_f h1
  have hC := rcheckp_fun p
  refine G0 ?_
  cases h2 : p.okb with
  | false =>
   rw [Pc.err_bad h2] at hC
   rw [traceR_pl h1' h2]
   (refine .inl ⟨_, _, false, [], aI, hC, nobor, nI, ?_⟩)
   refine G1 ?_; intro gg
   exact retn2 (.cell1 rfl rfl rfl rfl rfl rfl (.tmp1 rfl .nil)) cBI (cl_b rfl)
  | true =>
   rw [Pc.err_ok h2] at hC
   (refine .inl ⟨_, _, false, [], aI, hC, nobor, nI, ?_⟩)
   refine G1 ?_; intro gg
   (refine bIf_of (fun h3 => ?_) (fun h3 => ?_) <;> rw [h3])
   ·rw [traceR_me h1' h2 (toList_inj (beq_iff_eq.1 h3))]
    refine G0 ?_
    exact retn2 (.cell1 rfl rfl rfl rfl rfl rfl (.tmp1 rfl .nil)) cBI (cl_b rfl)
   ·have h3' : name ≠ n.nm := fun e => by rw [e, beq_self_eq_true] at h3; cases h3
    refine G0 ?_
    (refine .inl ⟨_, _, false, [], aI, between_fun _ _ _, nobor, nI, ?_⟩)
    refine G1 ?_; intro gg
    cases h4 : wi r 1 5000000 with
    | false =>
     rw [traceR_rd h1' h2 h3' h4]
     refine G0 ?_
     exact retn2 (.cell1 rfl rfl rfl rfl rfl rfl (.tmp1 rfl .nil)) cBI (cl_b rfl)
    | true =>
     have hM := MoveOf_fun n.pl p r g.pl h2 h4
     have hP := rwput_fun n.wh ⟨name, p⟩ (by omega) hw.2.2
     have hP : Fun Tryz.prog 85 [.c (.sl false (n.wh.map Wh.row)), .c (.agg (Wh.row ⟨name, p⟩))] [.c (.sl false ((traceW n.wh name p).map Wh.row))] := hP
     refine G0 ?_
     (refine .inl ⟨_, _, false, [], aI, hM, nobor, nI, ?_⟩)
     refine G1 ?_; intro gg
     (refine .inl ⟨_, _, false, [], aI, hP, nobor, nI, ?_⟩)
     refine G1 ?_; intro gg
     rw [List.length_map]
     (refine bIf_of (fun h5 => ?_) (fun h5 => ?_) <;> rw [h5])
     ·rw [traceR_many h1' h2 h3' h4 (by have := of_decide_eq_true h5; omega)]
      refine G0 ?_
      exact retn2 (.cell1 rfl rfl rfl rfl rfl rfl (.tmp1 rfl .nil)) cBI (cl_b rfl)
     ·rw [traceR_ok h1' h2 h3' h4 (by have := of_decide_eq_false h5; omega)]
      refine G0 ?_
      exact retn2 (.cell1 rfl rfl rfl rfl rfl rfl (.tmp1 rfl .nil)) cBI (cl_b rfl)
end Go.Proofs.YtkclokmfomnbgaaGreat
namespace Go.Proofs.YtkclokmfomnbgaaGreat
open Go.RowKit Pl
set_option linter.unusedVariables false
theorem nd_dec (row : List V) (h : Fits [.s, .s, .l [.s, .i, .i, .i, .b], .l [.s, .i, .i, .i, .b, .i], .l [.s, .s, .s, .s, .i, .i, .b, .i, .b], .l [.s, .i, .i], .i, .i, .i, .i, .i, .l [.s, .i, .i, .i, .i, .i]] row) : ∃ n : Nd, row = n.row ∧ n.ok := by
 obtain ⟨u0, _, rfl, f0, h⟩ := fits_cons h
 obtain ⟨u1, _, rfl, f1, h⟩ := fits_cons h
 obtain ⟨u2, _, rfl, f2, h⟩ := fits_cons h
 obtain ⟨u3, _, rfl, f3, h⟩ := fits_cons h
 obtain ⟨u4, _, rfl, f4, h⟩ := fits_cons h
 obtain ⟨u5, _, rfl, f5, h⟩ := fits_cons h
 obtain ⟨u6, _, rfl, f6, h⟩ := fits_cons h
 obtain ⟨u7, _, rfl, f7, h⟩ := fits_cons h
 obtain ⟨u8, _, rfl, f8, h⟩ := fits_cons h
 obtain ⟨u9, _, rfl, f9, h⟩ := fits_cons h
 obtain ⟨u10, _, rfl, f10, h⟩ := fits_cons h
 obtain ⟨u11, _, rfl, f11, h⟩ := fits_cons h
 obtain rfl := fits_nil h
 obtain ⟨nm, rfl, hn⟩ := fit_s f0
 obtain ⟨ce, rfl, hc⟩ := fit_s f1
 obtain ⟨ms, rfl, m1, m2⟩ := fit_list mb_dec f2
 obtain ⟨rs, rfl, r1, r2⟩ := fit_list ru_dec f3
 obtain ⟨sv, rfl, s1, s2⟩ := fit_list sv_dec f4
 obtain ⟨gs, rfl, g1, g2⟩ := fit_list gw_dec f5
 obtain ⟨a, rfl, _⟩ := fit_i f6
 obtain ⟨b, rfl, _⟩ := fit_i f7
 obtain ⟨c, rfl, _⟩ := fit_i f8
 obtain ⟨d, rfl, _⟩ := fit_i f9
 obtain ⟨e, rfl, _⟩ := fit_i f10
 obtain ⟨wh, rfl, w1, w2⟩ := fit_list wh_dec f11
 exact ⟨⟨nm, ce, ms, rs, sv, gs, ⟨a, b, c, d, e⟩, wh⟩, rfl, ⟨hn, hc, m1, m2, r1, r2, s1, s2, g1, g2, w1, w2⟩⟩
structure Pk.ok0 (p : Pk) : Prop where
 fr : p.fr.size ≤ 9223372036854775807
 msl : p.ms.length ≤ 9223372036854775807
 ms : ∀ x ∈ p.ms, x.ok
 sv : ∀ x ∈ p.sv, x.ok
 gs : ∀ x ∈ p.gs, x.ok
 wh : ∀ x ∈ p.wh, x.ok
theorem Pk.ok0.ok {p : Pk} (h : Pk.ok0 p) (h3 : (p.sv.map Sv.row).length ≤ 140737488351232) (h4 : (p.gs.map Gw.row).length ≤ 140737488351232) (h5 : (p.wh.map Wh.row).length ≤ 140737488351232) : p.ok := by
 rw [List.length_map] at h3 h4 h5
 exact ⟨h.fr, h.msl, h.ms, by omega, h.sv, by omega, h.gs, by omega, h.wh⟩
end Go.Proofs.YtkclokmfomnbgaaGreat
namespace Go.Proofs.YtkclokmfomnbgaaGreat
open Go.RowKit Pl
set_option linter.unusedVariables false
theorem traceR_sh {n : Nd} (g : n.Good) {name : ByteArray} {p : Pc} {r : Int} : Nd.sh (traceR n name p r).2 := by
 have h := Nd_sh g.ok
 have hl := traceW_len (l := n.wh) (name := name) (p := p)
 have := (ckWh_all g.wh).1
 have hw : (traceW n.wh name p).length ≤ 9223372036854775807 := by rw [hl]; split <;> omega
 unfold traceR
 split
 ·exact nd0_sh
 ·split
  ·exact nd0_sh
  ·split
   ·exact nd0_sh
   ·split
    ·exact nd0_sh
    ·split
     ·exact nd0_sh
     ·exact ⟨h.msl, h.rsl, h.svl, h.gsl, hw⟩
theorem traceR_e {n : Nd} {name : ByteArray} {p : Pc} {r : Int} (h : (traceR n name p r).1 ≠ 0) : (traceR n name p r).2 = nd0 := by
 unfold traceR at h ⊢
 split
 ·rfl
 ·rename_i q1
  rw [if_neg q1] at h
  split
  ·rfl
  ·rename_i q2
   rw [if_neg q2] at h
   split
   ·rfl
   ·rename_i q3
    rw [if_neg q3] at h
    split
    ·rfl
    ·rename_i q4
     rw [if_neg q4] at h
     split
     ·rfl
     ·rename_i q5
      rw [if_neg q5] at h
      exact absurd rfl h
end Go.Proofs.YtkclokmfomnbgaaGreat
