/- Texts of this claim, joined. -/
import Derived.Test.YtkclokmfomnbgaaGreatUa
import Derived.Test.YtkclokmfomnbgaaGreatUb
import Derived.Test.YtkclokmfomnbgaaGreatUc
set_option linter.unusedSimpArgs false
namespace Go.Proofs.YtkclokmfomnbgaaGreat
open Go.RowKit Pl
set_option linter.unusedVariables false
namespace Pl
noncomputable def serveR (n : Nd) (s : Sv) : Int × Nd := if s.nd ≠ n.nm then (4, nd0) else ((regM n.sv s).1, doneN (regM n.sv s).1 { n with sv := (regM n.sv s).2 })
noncomputable def serveM (n : Nd) (s : Sv) : Int × Nd := if n.err ≠ 0 then (n.err, nd0) else serveR n s
theorem serveM_e {n : Nd} {s : Sv} (h : n.err ≠ 0) : serveM n s = (n.err, nd0) := if_pos h
theorem serveM_ok {n : Nd} {s : Sv} (h : n.err = 0) : serveM n s = serveR n s := if_neg (by simp [h])
theorem serveR_no {n : Nd} {s : Sv} (h : s.nd ≠ n.nm) : serveR n s = (4, nd0) := if_pos h
theorem serveR_ok {n : Nd} {s : Sv} (h : s.nd = n.nm) : serveR n s = ((regM n.sv s).1, doneN (regM n.sv s).1 { n with sv := (regM n.sv s).2 }) := if_neg (by simp [h])
noncomputable def dropRN (n : Nd) (id : ByteArray) : Int × Nd := ((dropM n.sv n.nm id).1, doneN (dropM n.sv n.nm id).1 { n with sv := (dropM n.sv n.nm id).2 })
noncomputable def dropN (n : Nd) (id : ByteArray) : Int × Nd := if n.err ≠ 0 then (n.err, nd0) else dropRN n id
theorem dropN_e {n : Nd} {id : ByteArray} (h : n.err ≠ 0) : dropN n id = (n.err, nd0) := if_pos h
theorem dropN_ok {n : Nd} {id : ByteArray} (h : n.err = 0) : dropN n id = dropRN n id := if_neg (by simp [h])
noncomputable def openRN (n : Nd) (a : Int) : Int × Nd := ((openG n.gs n.ce a).1, doneN (openG n.gs n.ce a).1 { n with gs := (openG n.gs n.ce a).2 })
noncomputable def openN (n : Nd) (a : Int) : Int × Nd := if n.err ≠ 0 then (n.err, nd0) else openRN n a
theorem openN_e {n : Nd} {a : Int} (h : n.err ≠ 0) : openN n a = (n.err, nd0) := if_pos h
theorem openN_ok {n : Nd} {a : Int} (h : n.err = 0) : openN n a = openRN n a := if_neg (by simp [h])
end Pl
theorem serve_fun (n : Nd) (h : n.ok) (s : Sv) (hs : s.ok) : Fun Tryz.prog 35 [.c (.agg n.row), .c (.agg s.row)] [.c (.agg (serveM n s).2.row), .c (.v (.int .i64 (serveM n s).1))] := by
 by_cases he : n.err = 0
 ·have g := Nd.good he
  rw [serveM_ok he]
  refine fun_xc ck_node_Serve rfl ?_
  (refine goI ?_; repeat (intro gg; refine goI ?_))
  (refine .inr (.inl ⟨_, _, false, [], aM, open_F n h g he, nobor, oI, dI, ?_⟩))
  refine G1 ?_; intro gg
  (refine bIf_of (fun h1 => ?_) (fun h1 => ?_) <;> rw [h1])
  ·have h1' : s.nd ≠ n.nm := fun e => by
    have := h1
    rw [e] at this; simp at this
   rw [serveR_no h1']
   refine G0 ?_
   exact retn2 (.cell1 rfl rfl rfl rfl rfl rfl (.tmp1 rfl .nil)) cBI (cl_b rfl)
  ·have h1' : s.nd = n.nm := toList_inj (by simpa using h1)
   rw [serveR_ok h1']
   have hR := sreg_fun n.sv s h.svl h.sv hs
   have hD := done_fun { n with sv := (regM n.sv s).2 } (regM n.sv s).1
   refine G0 ?_
   (refine ⟨_, _, false, aI, hR, nobor, nI, ?_⟩)
   refine G1 ?_; intro gg
   (refine .inr (.inl ⟨_, _, false, 160 :: ([] ++ []), ?_, hD, nobor, oI, dI, ?_⟩); focus (exact aM_pn (gone := []) (gone1 := []) rfl aI (by decide) (by decide) (by decide) aM))
   refine G1 ?_; intro gg
   exact retn2 (.cell1 rfl rfl rfl rfl rfl rfl (.tmp1 rfl .nil)) cBI (cl_b rfl)
 ·rw [serveM_e he]
  refine fun_xc ck_node_Serve rfl ?_
  (refine goI ?_; repeat (intro gg; refine goI ?_))
  (refine .inl ⟨_, _, false, [], aI, open_err n h he, nobor, nI, ?_⟩)
  refine G1 ?_; intro gg
  rw [show (n.err == 0) = false from beq_eq_false_iff_ne.2 he]
  refine G0 ?_
  rw [show (n.err != 0) = true from bne_iff_ne.2 he]
  refine G0 ?_
  exact retn2 (.cell1 rfl rfl rfl rfl rfl rfl (.tmp1 rfl .nil)) cBI (cl_b rfl)
theorem drop_fun (n : Nd) (h : n.ok) (id : ByteArray) (hid : id.size ≤ 9223372036854775807) : Fun Tryz.prog 36 [.c (.agg n.row), .c (.v (.string id))] [.c (.agg (dropN n id).2.row), .c (.v (.int .i64 (dropN n id).1))] := by
 by_cases he : n.err = 0
 ·have g := Nd.good he
  rw [dropN_ok he]
  refine fun_xc ck_node_Drop rfl ?_
  have hR := sdrop_fun n.sv n.nm id h.svl h.sv h.nm hid
  have hD := done_fun { n with sv := (dropM n.sv n.nm id).2 } (dropM n.sv n.nm id).1
  unfold dropRN
  (refine goI ?_; repeat (intro gg; refine goI ?_))
  (refine .inr (.inl ⟨_, _, false, [], aM, open_F n h g he, nobor, oI, dI, ?_⟩))
  refine G1 ?_; intro gg
  (refine ⟨_, _, false, aI, hR, nobor, nI, ?_⟩)
  refine G1 ?_; intro gg
  (refine .inr (.inl ⟨_, _, false, 160 :: ([] ++ []), ?_, hD, nobor, oI, dI, ?_⟩); focus (exact aM_pn (gone := []) (gone1 := []) rfl aI (by decide) (by decide) (by decide) aM))
  refine G1 ?_; intro gg
  exact retn2 (.cell1 rfl rfl rfl rfl rfl rfl (.tmp1 rfl .nil)) cBI (cl_b rfl)
 ·rw [dropN_e he]
  refine fun_xc ck_node_Drop rfl ?_
  (refine goI ?_; repeat (intro gg; refine goI ?_))
  (refine .inl ⟨_, _, false, [], aI, open_err n h he, nobor, nI, ?_⟩)
  refine G1 ?_; intro gg
  rw [show (n.err != 0) = true from bne_iff_ne.2 he]
  refine G0 ?_
  exact retn2 (.cell1 rfl rfl rfl rfl rfl rfl (.tmp1 rfl .nil)) cBI (cl_b rfl)
theorem open_fun (n : Nd) (h : n.ok) (a : Int) : Fun Tryz.prog 37 [.c (.agg n.row), .c (.v (.int .i64 a))] [.c (.agg (openN n a).2.row), .c (.v (.int .i64 (openN n a).1))] := by
 by_cases he : n.err = 0
 ·have g := Nd.good he
  rw [openN_ok he]
  refine fun_xc ck_node_Open rfl ?_
  have hR := gOpen_fun n.gs n.ce a h.gsl h.gs h.ce
  have hD := done_fun { n with gs := (openG n.gs n.ce a).2 } (openG n.gs n.ce a).1
  unfold openRN
  (refine goI ?_; repeat (intro gg; refine goI ?_))
  (refine .inr (.inl ⟨_, _, false, [], aM, open_F n h g he, nobor, oI, dI, ?_⟩))
  refine G1 ?_; intro gg
  (refine ⟨_, _, false, aI, hR, nobor, nI, ?_⟩)
  refine G1 ?_; intro gg
  (refine .inr (.inl ⟨_, _, false, 160 :: ([] ++ []), ?_, hD, nobor, oI, dI, ?_⟩); focus (exact aM_pn (gone := []) (gone1 := []) rfl aI (by decide) (by decide) (by decide) aM))
  refine G1 ?_; intro gg
  exact retn2 (.cell1 rfl rfl rfl rfl rfl rfl (.tmp1 rfl .nil)) cBI (cl_b rfl)
 ·rw [openN_e he]
  refine fun_xc ck_node_Open rfl ?_
  (refine goI ?_; repeat (intro gg; refine goI ?_))
  (refine .inl ⟨_, _, false, [], aI, open_err n h he, nobor, nI, ?_⟩)
  refine G1 ?_; intro gg
  rw [show (n.err != 0) = true from bne_iff_ne.2 he]
  refine G0 ?_
  exact retn2 (.cell1 rfl rfl rfl rfl rfl rfl (.tmp1 rfl .nil)) cBI (cl_b rfl)
end Go.Proofs.YtkclokmfomnbgaaGreat
namespace Go.Proofs.YtkclokmfomnbgaaGreat
open Go.RowKit Pl
set_option linter.unusedVariables false
theorem openOf_fun (l : List Gw) (h : ckGw l = 0) (name : ByteArray) (hn : name.size ≤ 9223372036854775807) (a : Int) : Fun Tryz.prog 100 [.c (.sl false (l.map Gw.row)), .c (.v (.string name)), .c (.v (.int .i64 a))] [.c (.sl false ((openG l name a).2.map Gw.row)), .c (.v (.int .i64 (openG l name a).1))] := by
 have hi := ckGw_inv h
 have hat := Gw.at_eq hi.2.2 name
 have hA := gat_fun false l name (by omega)
 have hone : lab name.data.toList = true → (⟨name, a, 1⟩ : Gw).err = if wi a 0 4294967295 then 0 else 3 := fun q => by
  unfold Gw.err
  rw [show lab (⟨name, a, 1⟩ : Gw).c.data.toList = true from q]
  show (if (wi a 0 4294967295 && wi 1 1 1000000) = true then (0 : Int) else 3) = _
  rw [show wi 1 1 1000000 = true from rfl, Bool.and_true]
 refine fun_x ck_hearsayref_OpenOf rfl ?_
 refine G0 ?_
 (refine .inl ⟨_, _, false, [], aI, rlabel_fun name hn, nobor, nI, ?_⟩)
 refine G1 ?_; intro gg
 (refine bIf_of (fun h1 => ?_) (fun h1 => ?_) <;> rw [h1])
 ·have e1 : (⟨name, a, 1⟩ : Gw).err = 1 := by unfold Gw.err; rw [show lab (⟨name, a, 1⟩ : Gw).c.data.toList = false from not_t h1]; rfl
  rw [openG_one h (by rw [e1]; decide), e1]
  refine G0 ?_
  (exact ⟨[], aI⟩)
 ·have h1' := not_f h1
  have ho := hone h1'
  rcases Bool.eq_false_or_eq_true (hit (Gw.cf name) l) with h2 | h2
  ·rw [hat, if_pos h2] at hA
   have hlt := hit_lt h2
   have hP := rgput_fun l ⟨name, a, (l[low (Gw.cf name) l]).v + 1⟩ (by omega) hi.2.2
   have hpu : putAt (Gw.kf ⟨name, a, (l[low (Gw.cf name) l]).v + 1⟩) ⟨name, a, (l[low (Gw.cf name) l]).v + 1⟩ l = l.set (low (Gw.cf name) l) ⟨name, a, (l[low (Gw.cf name) l]).v + 1⟩ := by
    unfold putAt; rw [if_pos (show hit (Gw.kf ⟨name, a, (l[low (Gw.cf name) l]).v + 1⟩) l = true from h2)]; rfl
   rw [hpu] at hP
   have hv := (Gw.err_inv (hi.2.1 _ hlt)).2.2
   refine G1 ?_; intro gg
   (refine .inl ⟨_, _, false, [], aI, hA, nobor, nI, ?_⟩)
   refine G1 ?_; intro gg
   refine ⟨low (Gw.cf name) l, _, rfl, row_map hlt, ?_⟩
   refine G0 ?_
   (refine .inl ⟨_, _, false, [], aI, address_fun a, nobor, nI, ?_⟩)
   refine G1 ?_; intro gg
   cases ha : wi a 0 4294967295 with
   | false =>
    rw [ha] at ho
    have ho : (⟨name, a, 1⟩ : Gw).err = 3 := ho
    rw [openG_one h (by rw [ho]; decide), ho]
    refine G0 ?_
    (exact ⟨[], aI⟩)
   | true =>
    rw [ha] at ho
    have ho : (⟨name, a, 1⟩ : Gw).err = 0 := ho
    rw [openG_hit h ho h2]
    refine G0 ?_
    (refine bIf_of (fun h3 => ?_) (fun h3 => ?_) <;> rw [h3])
    ·rw [if_pos (by have := of_decide_eq_true h3; omega)]
     refine G0 ?_
     (exact ⟨[], aI⟩)
    ·rw [if_neg (by have := of_decide_eq_false h3; omega)]
     refine G0 ?_
     (refine .inl ⟨_, _, false, [], aI, hP, nobor, nI, ?_⟩)
     refine G1 ?_; intro gg
     rw [List.length_map, List.length_set]
     (refine bIf_of (fun q => ?_) (fun q => ?_) <;> rw [q]; focus (exfalso; have := of_decide_eq_true q; omega))
     refine G0 ?_
     (exact ⟨[], aI⟩)
  ·rw [hat, if_neg (by rw [h2]; decide)] at hA
   have hP := rgput_fun l ⟨name, a, 1⟩ (by omega) hi.2.2
   have hpu : putAt (Gw.kf ⟨name, a, 1⟩) ⟨name, a, 1⟩ l = l.take (low (Gw.cf name) l) ++ [⟨name, a, 1⟩] ++ l.drop (low (Gw.cf name) l) := by
    unfold putAt; rw [if_neg (show ¬ hit (Gw.kf ⟨name, a, 1⟩) l = true by rw [show hit (Gw.kf ⟨name, a, 1⟩) l = false from h2]; simp)]; rfl
   have hlen : (l.take (low (Gw.cf name) l) ++ [(⟨name, a, 1⟩ : Gw)] ++ l.drop (low (Gw.cf name) l)).length = l.length + 1 := by
    have := low_le (cf := Gw.cf name) l
    simp only [List.length_append, List.length_take, List.length_drop, List.length_cons, List.length_nil]; omega
   rw [hpu] at hP
   refine G1 ?_; intro gg
   (refine .inl ⟨_, _, false, [], aI, hA, nobor, nI, ?_⟩)
   refine G1 ?_; intro gg
   (refine .inl ⟨_, _, false, [], aI, address_fun a, nobor, nI, ?_⟩)
   refine G1 ?_; intro gg
   cases ha : wi a 0 4294967295 with
   | false =>
    rw [ha] at ho
    have ho : (⟨name, a, 1⟩ : Gw).err = 3 := ho
    rw [openG_one h (by rw [ho]; decide), ho]
    refine G0 ?_
    (exact ⟨[], aI⟩)
   | true =>
    rw [ha] at ho
    have ho : (⟨name, a, 1⟩ : Gw).err = 0 := ho
    rw [openG_miss h ho h2]
    refine G0 ?_
    (refine .inl ⟨_, _, false, [], aI, hP, nobor, nI, ?_⟩)
    refine G1 ?_; intro gg
    rw [List.length_map, hlen]
    (refine bIf_of (fun h3 => ?_) (fun h3 => ?_) <;> rw [h3])
    ·rw [if_pos (by have := of_decide_eq_true h3; omega)]
     refine G0 ?_
     (exact ⟨[], aI⟩)
    ·rw [if_neg (by have := of_decide_eq_false h3; omega)]
     refine G0 ?_
     (exact ⟨[], aI⟩)
theorem serveOf_fun (n : Nd) (g : n.Good) (s : Sv) (hs : s.ok) : Fun Tryz.prog 38 [.c (.agg n.row), .c (.agg s.row)] [.c (.agg (serveR n s).2.row), .c (.v (.int .i64 (serveR n s).1))] := by
 refine fun_xc ck_hearsayref_ServeOf rfl ?_
 (refine goI ?_; repeat (intro gg; refine goI ?_))
 (refine bIf_of (fun h1 => ?_) (fun h1 => ?_) <;> rw [h1])
 ·have h1' : s.nd ≠ n.nm := fun e => by
   have := h1
   rw [e] at this; simp at this
  rw [serveR_no h1']
  refine G0 ?_
  exact retn2 (.cell1 rfl rfl rfl rfl rfl rfl (.tmp1 rfl .nil)) cBI (cl_b rfl)
 ·have h1' : s.nd = n.nm := toList_inj (by simpa using h1)
  have hR := rsreg_fun n.sv s g.sv hs
  have e : regM n.sv s = regR n.sv s := if_neg (by simp [g.sv])
  rw [← e] at hR
  rw [serveR_ok h1']
  have hE := ended_fun { n with sv := (regM n.sv s).2 } (regM n.sv s).1
  refine G0 ?_
  (refine .inl ⟨_, _, false, [], aI, hR, nobor, nI, ?_⟩)
  refine G1 ?_; intro gg
  (refine .inl ⟨_, _, false, [], aI, hE, nobor, nI, ?_⟩)
  refine G1 ?_; intro gg
  exact retn2 (.cell1 rfl rfl rfl rfl rfl rfl (.tmp1 rfl .nil)) cBI (cl_b rfl)
theorem dropOf_fun (n : Nd) (g : n.Good) (id : ByteArray) (hid : id.size ≤ 9223372036854775807) : Fun Tryz.prog 39 [.c (.agg n.row), .c (.v (.string id))] [.c (.agg (dropRN n id).2.row), .c (.v (.int .i64 (dropRN n id).1))] := by
 have hR := rsdrop_fun n.sv n.nm id g.sv (lab_ok g.nm) hid
 have e : dropM n.sv n.nm id = dropR n.sv n.nm id := if_neg (by simp [g.sv])
 rw [← e] at hR
 have hE := ended_fun { n with sv := (dropM n.sv n.nm id).2 } (dropM n.sv n.nm id).1
 unfold dropRN
 refine fun_xc ck_hearsayref_DropService rfl ?_
 (refine goI ?_; repeat (intro gg; refine goI ?_))
 (refine .inl ⟨_, _, false, [], aI, hR, nobor, nI, ?_⟩)
 refine G1 ?_; intro gg
 (refine .inl ⟨_, _, false, [], aI, hE, nobor, nI, ?_⟩)
 refine G1 ?_; intro gg
 exact retn2 (.cell1 rfl rfl rfl rfl rfl rfl (.tmp1 rfl .nil)) cBI (cl_b rfl)
theorem openGw_fun (n : Nd) (g : n.Good) (a : Int) : Fun Tryz.prog 40 [.c (.agg n.row), .c (.v (.int .i64 a))] [.c (.agg (openRN n a).2.row), .c (.v (.int .i64 (openRN n a).1))] := by
 have hR := openOf_fun n.gs g.gs n.ce (lab_ok g.ce) a
 have hE := ended_fun { n with gs := (openG n.gs n.ce a).2 } (openG n.gs n.ce a).1
 unfold openRN
 refine fun_xc ck_hearsayref_OpenGateway rfl ?_
 (refine goI ?_; repeat (intro gg; refine goI ?_))
 (refine .inl ⟨_, _, false, [], aI, hR, nobor, nI, ?_⟩)
 refine G1 ?_; intro gg
 (refine .inl ⟨_, _, false, [], aI, hE, nobor, nI, ?_⟩)
 refine G1 ?_; intro gg
 exact retn2 (.cell1 rfl rfl rfl rfl rfl rfl (.tmp1 rfl .nil)) cBI (cl_b rfl)
end Go.Proofs.YtkclokmfomnbgaaGreat
namespace Go.Proofs.YtkclokmfomnbgaaGreat
open Go.RowKit Pl
set_option linter.unusedVariables false
theorem nd_dec (row : List V) (h : Fits [.s, .s, .l [.s, .i, .i, .i, .b], .l [.s, .i, .i, .i, .b, .i], .l [.s, .s, .s, .s, .i, .i, .b, .i, .b], .l [.s, .i, .i], .i, .i, .i, .i, .i, .l [.s, .i, .i, .i, .i, .i]] row) : ∃ n : Nd, row = n.row ∧ n.ok := by
 obtain ⟨u0, _, rfl, f0, h⟩ := fits_cons h
 obtain ⟨u1, _, rfl, f1, h⟩ := fits_cons h
 obtain ⟨u2, _, rfl, f2, h⟩ := fits_cons h
 obtain ⟨u3, _, rfl, f3, h⟩ := fits_cons h
 obtain ⟨u4, _, rfl, f4, h⟩ := fits_cons h
 obtain ⟨u5, _, rfl, f5, h⟩ := fits_cons h
 obtain ⟨u6, _, rfl, f6, h⟩ := fits_cons h
 obtain ⟨u7, _, rfl, f7, h⟩ := fits_cons h
 obtain ⟨u8, _, rfl, f8, h⟩ := fits_cons h
 obtain ⟨u9, _, rfl, f9, h⟩ := fits_cons h
 obtain ⟨u10, _, rfl, f10, h⟩ := fits_cons h
 obtain ⟨u11, _, rfl, f11, h⟩ := fits_cons h
 obtain rfl := fits_nil h
 obtain ⟨nm, rfl, hn⟩ := fit_s f0
 obtain ⟨ce, rfl, hc⟩ := fit_s f1
 obtain ⟨ms, rfl, m1, m2⟩ := fit_list mb_dec f2
 obtain ⟨rs, rfl, r1, r2⟩ := fit_list ru_dec f3
 obtain ⟨sv, rfl, s1, s2⟩ := fit_list sv_dec f4
 obtain ⟨gs, rfl, g1, g2⟩ := fit_list gw_dec f5
 obtain ⟨a, rfl, _⟩ := fit_i f6
 obtain ⟨b, rfl, _⟩ := fit_i f7
 obtain ⟨c, rfl, _⟩ := fit_i f8
 obtain ⟨d, rfl, _⟩ := fit_i f9
 obtain ⟨e, rfl, _⟩ := fit_i f10
 obtain ⟨wh, rfl, w1, w2⟩ := fit_list wh_dec f11
 exact ⟨⟨nm, ce, ms, rs, sv, gs, ⟨a, b, c, d, e⟩, wh⟩, rfl, ⟨hn, hc, m1, m2, r1, r2, s1, s2, g1, g2, w1, w2⟩⟩
structure Pk.ok0 (p : Pk) : Prop where
 fr : p.fr.size ≤ 9223372036854775807
 msl : p.ms.length ≤ 9223372036854775807
 ms : ∀ x ∈ p.ms, x.ok
 sv : ∀ x ∈ p.sv, x.ok
 gs : ∀ x ∈ p.gs, x.ok
 wh : ∀ x ∈ p.wh, x.ok
theorem Pk.ok0.ok {p : Pk} (h : Pk.ok0 p) (h3 : (p.sv.map Sv.row).length ≤ 140737488351232) (h4 : (p.gs.map Gw.row).length ≤ 140737488351232) (h5 : (p.wh.map Wh.row).length ≤ 140737488351232) : p.ok := by
 rw [List.length_map] at h3 h4 h5
 exact ⟨h.fr, h.msl, h.ms, by omega, h.sv, by omega, h.gs, by omega, h.wh⟩
end Go.Proofs.YtkclokmfomnbgaaGreat
namespace Go.Proofs.YtkclokmfomnbgaaGreat
open Go.RowKit Pl
set_option linter.unusedVariables false
theorem doneN_sh {e : Int} {x : Nd} (h : e = 0 → Nd.sh x) : Nd.sh (doneN e x) := by
 by_cases q : e = 0
 ·subst q; rw [doneN_ok]; exact h rfl
 ·rw [doneN_e q]; exact nd0_sh
theorem setR_len (l : List Sv) (s : Sv) : (setR l s).2.length ≤ l.length + 1 := by
 unfold setR
 have := low_le (cf := Sv.kf s) l
 split <;> (try split) <;> (try split) <;> simp <;> omega
theorem regM_len (l : List Sv) (s : Sv) : (regM l s).2.length ≤ l.length + 1 := by
 unfold regM regR
 split
 ·simp
 ·split
  ·simp
  ·exact setR_len _ _
theorem dropM_len (l : List Sv) (nd id : ByteArray) : (dropM l nd id).2.length ≤ l.length + 1 := by
 unfold dropM dropR
 split
 ·simp
 ·split <;> (try split) <;> (try split) <;> (try split) <;> (try split) <;> first | exact setR_len _ _ | exact Nat.zero_le _
theorem openG_len (l : List Gw) (nm : ByteArray) (a : Int) : (openG l nm a).2.length ≤ l.length + 1 := by
 unfold openG
 have := low_le (cf := Gw.cf nm) l
 split
 ·simp
 ·split
  ·simp
  ·split <;> (try split) <;> (try split) <;> simp <;> omega
theorem serveR_sh {n : Nd} (g : n.Good) {s : Sv} : Nd.sh (serveR n s).2 := by
 have h := Nd_sh g.ok
 have := regM_len n.sv s
 have := (ckSv_inv g.sv).1
 unfold serveR
 split
 ·exact nd0_sh
 ·exact doneN_sh fun _ => ⟨h.msl, h.rsl, by show (regM n.sv s).2.length ≤ _; omega, h.gsl, h.whl⟩
theorem serveR_e {n : Nd} {s : Sv} (h : (serveR n s).1 ≠ 0) : (serveR n s).2 = nd0 := by
 unfold serveR at h ⊢
 split
 ·rfl
 ·rename_i q
  rw [if_neg q] at h
  exact doneN_e h
theorem dropRN_sh {n : Nd} (g : n.Good) {id : ByteArray} : Nd.sh (dropRN n id).2 := by
 have h := Nd_sh g.ok
 have := dropM_len n.sv n.nm id
 have := (ckSv_inv g.sv).1
 exact doneN_sh fun _ => ⟨h.msl, h.rsl, by show (dropM n.sv n.nm id).2.length ≤ _; omega, h.gsl, h.whl⟩
theorem openRN_sh {n : Nd} (g : n.Good) {a : Int} : Nd.sh (openRN n a).2 := by
 have h := Nd_sh g.ok
 have := openG_len n.gs n.ce a
 have := (ckGw_inv g.gs).1
 exact doneN_sh fun _ => ⟨h.msl, h.rsl, h.svl, by show (openG n.gs n.ce a).2.length ≤ _; omega, h.whl⟩
end Go.Proofs.YtkclokmfomnbgaaGreat
