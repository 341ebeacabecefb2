/- Texts of this claim, joined. -/
import Derived.Test.YtkclokmfomnbgaaGreatVa
import Derived.Test.YtkclokmfomnbgaaGreatVb
import Derived.Test.YtkclokmfomnbgaaGreatVc
namespace Go.Proofs.YtkclokmfomnbgaaGreat
open Go.RowKit Pl
set_option linter.unusedVariables false
namespace Pl
theorem ckMb_one (m : Mb) : ckMb [m] = m.err := by
  have e : firstErr Mb.err [m] = m.err := by
    by_cases h2 : m.err = 0 <;> simp [firstErr, h2]
  unfold ckMb ckL
  rw [if_neg (by simp), e]
  by_cases h : m.err = 0
  · rw [if_pos h, h]; rfl
  · rw [if_neg h]
theorem ckRu_nil : ckRu [] = 0 := ckRu_ok (by simp) rfl rfl (by simp)
theorem new_one (nm : ByteArray) (ad : Int) (sv : Bool) (h : lab nm.data.toList = true) : (⟨nm, 1, 1, ad, sv⟩ : Mb).err = if wi ad 0 4294967295 then 0 else 3 := by
  have e1 : wi 1 1 4 = true := rfl
  have e2 : wi 1 1 1000000 = true := rfl
  unfold Mb.err
  rw [h, e1, e2]; rfl
theorem new_err (nm ce : ByteArray) (ad : Int) (sv : Bool) : (newR nm ce ad sv).err = if lab nm.data.toList = false ∨ lab ce.data.toList = false then 1 else if wi ad 0 4294967295 then 0 else 3 := by
  by_cases h : lab nm.data.toList = false ∨ lab ce.data.toList = false
  · rw [if_pos h]; exact Nd.err_form h
  · rw [if_neg h]
    have h1 : lab nm.data.toList = true := by cases q : lab nm.data.toList <;> simp [q] at h ⊢
    have h2 : lab ce.data.toList = true := by cases q : lab ce.data.toList <;> simp [q] at h ⊢
    have hc : ckMb (newR nm ce ad sv).ms = if wi ad 0 4294967295 then 0 else 3 := (ckMb_one _).trans (new_one nm ad sv h1)
    have hp : (newR nm ce ad sv).pl.err = 0 := rfl
    have e : (newR nm ce ad sv).cks = [ckMb (newR nm ce ad sv).ms, 0, 0, 0, 0, 0] := by
      unfold Nd.cks
      have q1 : ckRu (newR nm ce ad sv).rs = 0 := ckRu_nil
      have q2 : ckSv (newR nm ce ad sv).sv = 0 := rfl
      have q3 : ckGw (newR nm ce ad sv).gs = 0 := rfl
      have q4 : ckWh (newR nm ce ad sv).wh = 0 := rfl
      rw [q1, q2, q3, q4, hp]
    cases ha : wi ad 0 4294967295 with
    | false =>
      rw [ha] at hc
      have hc : ckMb (newR nm ce ad sv).ms = 3 := hc
      have hf : firstErr (fun e => e) (newR nm ce ad sv).cks = 3 := by rw [e, hc]; rfl
      rw [Nd.err_ck h1 h2 (by rw [hf]; decide), hf]; rfl
    | true =>
      rw [ha] at hc
      have hc : ckMb (newR nm ce ad sv).ms = 0 := hc
      have hf : firstErr (fun e => e) (newR nm ce ad sv).cks = 0 := by rw [e, hc]; rfl
      have hm : hit (Mb.cf (newR nm ce ad sv).nm) (newR nm ce ad sv).ms = true := (at_mem (m := ⟨nm, 1, 1, ad, sv⟩) hc (by simp [newR])).1
      have hx : (newR nm ce ad sv).ms[low (Mb.cf (newR nm ce ad sv).nm) (newR nm ce ad sv).ms]? = some ⟨nm, 1, 1, ad, sv⟩ := (at_mem (m := ⟨nm, 1, 1, ad, sv⟩) hc (by simp [newR])).2
      rw [Nd.err_mine h1 h2 hf hm, Nd.mine_at hx]; rfl
def sA : ByteArray := ⟨#[97]⟩
def sB : ByteArray := ⟨#[98]⟩
def sC : ByteArray := ⟨#[99]⟩
def mA : Mb := ⟨sA, 1, 1, 1, false⟩
def mB : Mb := ⟨sB, 1, 1, 2, true⟩
def mB2 : Mb := ⟨sB, 2, 1, 2, true⟩
def nA : Nd := newR sA sC 1 false
def nB : Nd := newR sB sC 2 true
def nA1 : Nd := ⟨sA, sC, [mA, mB], [⟨mB, 0⟩], [], [], ⟨0, 0, 0, 0, 1000⟩, []⟩
def nA2 : Nd := ⟨sA, sC, [mA, mB2], [⟨mB2, 0⟩], [], [], ⟨0, 0, 0, 0, 1000⟩, []⟩
theorem nA_err : nA.err = 0 := (new_err _ _ _ _).trans (by rw [if_neg (by simp only [show lab sA.data.toList = true from by kernel_rfl, show lab sC.data.toList = true from by kernel_rfl]; simp)]; rfl)
theorem nB_err : nB.err = 0 := (new_err _ _ _ _).trans (by rw [if_neg (by simp only [show lab sB.data.toList = true from by kernel_rfl, show lab sC.data.toList = true from by kernel_rfl]; simp)]; rfl)
theorem hear1 : hearM [mA] mB = (0, [mA, mB], true) := by kernel_rfl
theorem hear2 : hearM [mA, mB] mB2 = (0, [mA, mB2], true) := by kernel_rfl
theorem put1 : putRu [] mB = (0, [⟨mB, 0⟩]) := by rw [putRu_ok ckRu_nil (show mB.err = 0 by kernel_rfl)]; kernel_rfl
theorem spread1 : spreadM nA mB = (0, nA1) := by
  have h : hearM nA.ms mB = (0, [mA, mB], true) := hear1
  rw [spreadM_new (by rw [h]) (by rw [h]), h]
  have p : putRu nA.rs mB = (0, [⟨mB, 0⟩]) := put1
  rw [newsM_else (n := { nA with ms := [mA, mB] }) (by show (putRu nA.rs mB).1 = 0; rw [p]) (by show sB ≠ sA; decide)]
  show ((0 : Int), { nA with ms := [mA, mB], rs := (putRu nA.rs mB).2 }) = _
  rw [p]; rfl
theorem pB_err : (wholeR nB).err = 0 := by
  rw [Pk.err_all (by kernel_rfl) rfl]
  have e : (wholeR nB).cks = [0, 0, 0, 0] := by
    unfold Pk.cks
    have q1 : ckMb (wholeR nB).ms = 0 := (ckMb_one _).trans (by kernel_rfl)
    have q2 : ckSv (wholeR nB).sv = 0 := rfl
    have q3 : ckGw (wholeR nB).gs = 0 := rfl
    have q4 : ckWh (wholeR nB).wh = 0 := rfl
    rw [q1, q2, q3, q4]
  rw [e]; rfl
theorem spreads1 : spreadsM nA [mB] = (0, nA1) := by
  rw [spreadsM, if_neg (by rw [spread1]; simp), spread1]; rfl
theorem hearN1 : hearN nA (wholeR nB) = (0, nA1) := by
  rw [hearN_ok nA_err pB_err]
  have h1 : spreadsM nA (wholeR nB).ms = (0, nA1) := spreads1
  have h2 : joinS nA.sv (wholeR nB).sv = (0, []) := by kernel_rfl
  have h3 : joinG nA.gs (wholeR nB).gs = (0, []) := by kernel_rfl
  rw [hearR_ok (by rw [h1]) (by rw [h2]) (by rw [h3]), h1, h2, h3]; rfl
theorem nA_good : nA.Good := Nd.good nA_err
theorem nA1_good : nA1.Good := by
  have := (spread_good (m := mB) nA_good (by rw [spread1])).1
  rw [spread1] at this; exact this
theorem put2 : putRu [⟨mB, 0⟩] mB2 = (0, [⟨mB2, 0⟩]) := by
  have h : ckRu [⟨mB, 0⟩] = 0 := nA1_good.rs
  have h2 : putR [⟨mB, 0⟩] mB2 = (0, [⟨mB2, 0⟩]) := by kernel_rfl
  have h3 : mB2.err = 0 := by kernel_rfl
  exact (putRu_ok h h3).trans h2
theorem spread2 : spreadM nA1 mB2 = (0, nA2) := by
  have h : hearM nA1.ms mB2 = (0, [mA, mB2], true) := hear2
  rw [spreadM_new (by rw [h]) (by rw [h]), h]
  have p : putRu nA1.rs mB2 = (0, [⟨mB2, 0⟩]) := put2
  rw [newsM_else (n := { nA1 with ms := [mA, mB2] }) (by show (putRu nA1.rs mB2).1 = 0; rw [p]) (by show sB ≠ sA; decide)]
  show ((0 : Int), { nA1 with ms := [mA, mB2], rs := (putRu nA1.rs mB2).2 }) = _
  rw [p]; rfl
theorem turn1 : turnM nA1 sB 1 2 = (0, nA2) := by
  have hB : mB ∈ nA1.ms := by simp [nA1]
  have hm := at_mem nA1_good.ms hB
  have hme : meOf nA1.ms sB = mB := meOf_at hm.2
  have hlb : lab sB.data.toList = true := by kernel_rfl
  rw [turnM_ok nA1_good.err, turnR_ok hlb (show sB ≠ sA by decide) (show hit (Mb.cf sB) nA1.ms = true from hm.1) (by rw [hme]; rfl), hme]
  have e : ({ mB with st := 2 } : Mb) = mB2 := rfl
  rw [e, spread2]; rfl
theorem nA2_good : nA2.Good := by
  have := (spread_good (m := mB2) nA1_good (by rw [spread2])).1
  rw [spread2] at this; exact this
theorem told1 : toldN nA2 = [mB2] := by
  have hp := ordL_perm nA2.rs
  have e : ordL nA2.rs = [0] := by
    have : (ordL nA2.rs).Perm [0] := hp
    exact List.perm_singleton.1 this
  have e2 : toldN nA2 = toldL nA2.rs ((ordL nA2.rs).take (min 5 nA2.rs.length)) := rfl
  rw [e2, e]; rfl
theorem tellP1 : (tellP nA2).ms = [mB2] := by
  show srtN (toldN nA2) = _
  rw [told1]; rfl
end Pl
theorem nbegun_fun : Fun Tryz.prog 15 [] [.c (.v (.bool true))] := by
  have f1 := new_fun sA sC 1 false (by decide) (by decide)
  have e1 : newM sA sC 1 false = nA := by unfold newM; rw [if_neg (by show ¬ nA.err ≠ 0; rw [nA_err]; simp)]; rfl
  rw [show (newR sA sC 1 false).err = 0 from nA_err, e1] at f1
  have f2 := new_fun sB sC 2 true (by decide) (by decide)
  have e2 : newM sB sC 2 true = nB := by unfold newM; rw [if_neg (by show ¬ nB.err ≠ 0; rw [nB_err]; simp)]; rfl
  rw [show (newR sB sC 2 true).err = 0 from nB_err, e2] at f2
  have f3 := whole_fun nB (Nd.good nB_err).ok
  have e3 : wholeM nB = wholeR nB := by unfold wholeM; rw [if_neg (by rw [nB_err]; simp)]
  rw [nB_err, e3] at f3
  have hpo : (wholeR nB).ok := ⟨by decide, by decide, fun x hx => by simp [wholeR, nB, newR] at hx; subst hx; show sB.size ≤ _; decide, by decide, fun x hx => by simp [wholeR, nB, newR] at hx, by decide, fun x hx => by simp [wholeR, nB, newR] at hx, by decide, fun x hx => by simp [wholeR, nB, newR] at hx⟩
  have f4 := hear_fun nA nA_good.ok (wholeR nB) hpo
  rw [hearN1] at f4
  have f5 := doubt_fun nA1 nA1_good.ok sB (by decide)
  rw [turn1] at f5
  have f6 := tell_fun nA2 nA2_good.ok
  rw [tellM_ok nA2_good.err, nA2_good.err] at f6
  have e6 : tellP nA2 = ⟨nA2.nm, false, [mB2], [], [], []⟩ := by
    have := tellP1
    unfold tellP at this ⊢
    simp only at this
    rw [this]
  rw [e6] at f6
  refine fun_x ck_hearsaylaw_nodeBegun rfl ?_
  refine G0 ?_
  (refine .inl ⟨_, _, false, [], aI, f1, nobor, nI, ?_⟩)
  (refine goI ?_; repeat (intro gg; refine goI ?_))
  (refine .inl ⟨_, _, false, [], aI, f2, nobor, nI, ?_⟩)
  (refine goI ?_; repeat (intro gg; refine goI ?_))
  (refine .inl ⟨_, _, false, [], aI, f3, nobor, nI, ?_⟩)
  (refine goI ?_; repeat (intro gg; refine goI ?_))
  (refine .inl ⟨_, _, false, [], aI, f4, nobor, nI, ?_⟩)
  refine G1 ?_; intro gg
  (refine .inl ⟨_, _, false, [], aI, f5, nobor, nI, ?_⟩)
  refine G1 ?_; intro gg
  (refine .inl ⟨_, _, false, [], aI, f6, nobor, nI, ?_⟩)
  (refine goI ?_; repeat (intro gg; refine goI ?_))
  refine ⟨0, _, rfl, rfl, ?_⟩
  refine G0 ?_
  (exact ⟨[], aI⟩)
end Go.Proofs.YtkclokmfomnbgaaGreat
namespace Go.Proofs.YtkclokmfomnbgaaGreat
open Go.RowKit Pl
set_option linter.unusedVariables false
theorem nd_dec (row : List V) (h : Fits [.s, .s, .l [.s, .i, .i, .i, .b], .l [.s, .i, .i, .i, .b, .i], .l [.s, .s, .s, .s, .i, .i, .b, .i, .b], .l [.s, .i, .i], .i, .i, .i, .i, .i, .l [.s, .i, .i, .i, .i, .i]] row) : ∃ n : Nd, row = n.row ∧ n.ok := by
  obtain ⟨u0, _, rfl, f0, h⟩ := fits_cons h
  obtain ⟨u1, _, rfl, f1, h⟩ := fits_cons h
  obtain ⟨u2, _, rfl, f2, h⟩ := fits_cons h
  obtain ⟨u3, _, rfl, f3, h⟩ := fits_cons h
  obtain ⟨u4, _, rfl, f4, h⟩ := fits_cons h
  obtain ⟨u5, _, rfl, f5, h⟩ := fits_cons h
  obtain ⟨u6, _, rfl, f6, h⟩ := fits_cons h
  obtain ⟨u7, _, rfl, f7, h⟩ := fits_cons h
  obtain ⟨u8, _, rfl, f8, h⟩ := fits_cons h
  obtain ⟨u9, _, rfl, f9, h⟩ := fits_cons h
  obtain ⟨u10, _, rfl, f10, h⟩ := fits_cons h
  obtain ⟨u11, _, rfl, f11, h⟩ := fits_cons h
  obtain rfl := fits_nil h
  obtain ⟨nm, rfl, hn⟩ := fit_s f0
  obtain ⟨ce, rfl, hc⟩ := fit_s f1
  obtain ⟨ms, rfl, m1, m2⟩ := fit_list mb_dec f2
  obtain ⟨rs, rfl, r1, r2⟩ := fit_list ru_dec f3
  obtain ⟨sv, rfl, s1, s2⟩ := fit_list sv_dec f4
  obtain ⟨gs, rfl, g1, g2⟩ := fit_list gw_dec f5
  obtain ⟨a, rfl, _⟩ := fit_i f6
  obtain ⟨b, rfl, _⟩ := fit_i f7
  obtain ⟨c, rfl, _⟩ := fit_i f8
  obtain ⟨d, rfl, _⟩ := fit_i f9
  obtain ⟨e, rfl, _⟩ := fit_i f10
  obtain ⟨wh, rfl, w1, w2⟩ := fit_list wh_dec f11
  exact ⟨⟨nm, ce, ms, rs, sv, gs, ⟨a, b, c, d, e⟩, wh⟩, rfl, ⟨hn, hc, m1, m2, r1, r2, s1, s2, g1, g2, w1, w2⟩⟩
end Go.Proofs.YtkclokmfomnbgaaGreat
namespace Go.Proofs.YtkclokmfomnbgaaGreat
open Go.RowKit Pl
set_option linter.unusedVariables false
theorem rjoin0_fun (b : List Mb) (hb : b.length ≤ 20) : Fun Tryz.prog 69 [.c (.sl false []), .c (.sl false (b.map Mb.row))] [.c (.sl false ((srtN b).map Mb.row))] := by
  refine fun_x ck_hearsayref_JoinMembers rfl ?_
  refine G0 ?_
  (refine ⟨[], none, {k : Nat // k ≤ b.length}, [1], fun ⟨k, hk⟩ => [(0, .sl false ((srtN (b.take k)).map Mb.row)), (5, .v (.int .i64 k))], [], fun ⟨k, hk⟩ => [], fun ⟨k, hk⟩ => b.length - k, trivial, fun _ => ⟨trivial, fun _ => ⟨⟨0, by omega⟩, tI, keptE_refl _ _, tI, keptH_refl _ _⟩⟩, fun ⟨k, hk⟩ => ?_⟩)
  refine G0 ?_
  rw [List.length_map]
  (refine bIf_of (fun h2 => ?_) (fun h2 => ?_) <;> rw [h2])
  · have hlt : k < b.length := (by have := of_decide_eq_true h2; omega)
    have hn : srtN (b.take (k + 1)) = Pl.upd Mb.kf Mb.nw (srtN (b.take k)) b[k] := joinL_next (cf := Mb.kf) (nw := Mb.nw) (a := []) hlt
    have hjl : (srtN (b.take k)).length ≤ _ := (joinL_len (cf := Mb.kf) Mb.nw (b.take k) []).2
    have hjs := srtN_sorted (b.take k)
    rw [List.length_take] at hjl
    simp only [List.length_nil] at hjl
    refine G0 ?_
    refine ⟨k, _, rfl, row_map hlt, ?_⟩
    refine G0 ?_
    (refine .inl ⟨_, _, false, [], aI, rhear_fun (srtN (b.take k)) b[k] (by omega) hjs, nobor, nI, ?_⟩)
    rw [← hn]
    refine G1 ?_; intro gg
    (exact ⟨none, trivial, fun _ => ⟨⟨k + 1, by omega⟩, by show b.length - (k + 1) < b.length - k; omega, tI, tI, tI, tI⟩⟩)
  · have hge : b.length ≤ k := (by have := of_decide_eq_false h2; omega)
    obtain rfl : k = b.length := by omega
    refine G0 ?_
    rw [show srtN b = srtN (b.take b.length) by rw [List.take_length]]
    (exact ⟨[], aI⟩)
theorem wholeOf_fun (n : Nd) : Fun Tryz.prog 22 [.c (.agg n.row)] [.c (.agg (wholeR n).row)] := by
  refine fun_xc ck_hearsayref_WholeOf rfl ?_
  (refine goI ?_; repeat (intro gg; refine goI ?_))
  exact ⟨_, [], .cell1 rfl rfl rfl rfl rfl rfl .nil, .bora cBI (.nil _)⟩
theorem tellOf_fun (n : Nd) (g : n.Good) : Fun Tryz.prog 21 [.c (.agg n.row)] [.c (.agg (tellN n).row), .c (.agg (tellP n).row)] := by
  have hi := ckMb_inv g.ms
  have hL := rlive_fun n.ms (by omega)
  have hll := liveS_len n.ms
  have hT := rTimes_fun (liveS n.ms).length (by omega)
  have hml : ((liveS n.ms).map tRow).length = (liveS n.ms).length := List.length_map ..
  have hR := ckRu_inv g.rs
  have hbd := timesN_bd n
  have hK : Fun Tryz.prog 68 [.c (.sl false (n.rs.map Ru.row)), .c (.v (.int .i64 5)), .c (.v (.int .i64 (timesN n)))] [.c (.sl false ((toldN n).map Mb.row)), .c (.sl false ((restN n).map Ru.row))] := rTake_fun n.rs 5 (timesN n) hR (by omega)
  obtain ⟨f1, f2, f3⟩ := told_facts hR
  have hJ := rjoin0_fun (toldN n) (by omega)
  have et : timesN n = max 1 (timesL ((liveS n.ms).length : Int)) := rfl
  rw [← hml] at hT et
  generalize hE : timesL ((((liveS n.ms).map tRow).length : Nat) : Int) = t at *
  refine fun_xc ck_hearsayref_TellOf rfl ?_
  (refine goI ?_; repeat (intro gg; refine goI ?_))
  (refine .inl ⟨_, _, false, [], aI, hL, nobor, nI, ?_⟩)
  refine G1 ?_; intro gg
  (refine .inl ⟨_, _, false, [], aI, hT, nobor, nI, ?_⟩)
  refine G1 ?_; intro gg
  (refine bIf_of (fun h1 => ?_) (fun h1 => ?_) <;> rw [h1])
  · rw [show timesN n = 1 from by have := of_decide_eq_true h1; omega] at hK
    refine G0 ?_
    (refine .inl ⟨_, _, false, [], aI, hK, nobor, nI, ?_⟩)
    refine G1 ?_; intro gg
    (refine ⟨_, _, false, aI, hJ, nobor, nI, ?_⟩)
    refine G1 ?_; intro gg
    exact ⟨_, [], .cell1 rfl rfl rfl rfl rfl rfl (.cell1 rfl rfl rfl rfl rfl rfl .nil), .bora cBI (.bora cBI (.nil _))⟩
  · rw [show timesN n = t from by have := of_decide_eq_false h1; omega] at hK
    refine G0 ?_
    (refine .inl ⟨_, _, false, [], aI, hK, nobor, nI, ?_⟩)
    refine G1 ?_; intro gg
    (refine ⟨_, _, false, aI, hJ, nobor, nI, ?_⟩)
    refine G1 ?_; intro gg
    exact ⟨_, [], .cell1 rfl rfl rfl rfl rfl rfl (.cell1 rfl rfl rfl rfl rfl rfl .nil), .bora cBI (.bora cBI (.nil _))⟩
structure Pk.sh (p : Pk) : Prop where
  msl : p.ms.length ≤ 9223372036854775807
  svl : p.sv.length ≤ 9223372036854775807
  gsl : p.gs.length ≤ 9223372036854775807
  whl : p.wh.length ≤ 9223372036854775807
theorem pk0_sh : Pk.sh pk0 := ⟨Nat.zero_le _, Nat.zero_le _, Nat.zero_le _, Nat.zero_le _⟩
theorem samePk_fun (p : Pk) (h : Pk.sh p) : Fun Tryz.prog 23 [.c (.agg p.row), .c (.agg p.row)] [.c (.v (.bool true))] := by
  have s1 := same_fun false false p.ms p.ms h.msl
  have s3 := ssame_fun false false p.sv p.sv h.svl
  have s4 := gsame_fun false false p.gs p.gs h.gsl
  have s5 := wsame_fun false false p.wh p.wh h.whl
  rw [sameL_refl (fun x => Mb.same_iff.2 rfl) p.ms] at s1
  rw [sameL_refl (fun x => Sv.same_iff.2 rfl) p.sv] at s3
  rw [sameL_refl (fun x => Gw.same_iff.2 rfl) p.gs] at s4
  rw [sameL_refl (fun x => Wh.same_iff.2 rfl) p.wh] at s5
  refine fun_x ck_hearsayref_SamePacket rfl ?_
  (refine goI ?_; repeat (intro gg; refine goI ?_))
  (refine bIf_of (fun q1 => ?_) (fun q1 => ?_) <;> rw [q1]; rotate_left; focus (exfalso; simp at q1))
  refine G0 ?_
  (refine bIf_of (fun q2 => ?_) (fun q2 => ?_) <;> rw [q2]; rotate_left; focus (exfalso; simp at q2))
  refine G0 ?_
  (refine .inl ⟨_, _, false, [], aI, s1, nobor, nI, ?_⟩)
  refine G1 ?_; intro gg
  (refine .inl ⟨_, _, false, [], aI, s3, nobor, nI, ?_⟩)
  refine G1 ?_; intro gg
  (refine .inl ⟨_, _, false, [], aI, s4, nobor, nI, ?_⟩)
  refine G1 ?_; intro gg
  (refine .inl ⟨_, _, false, [], aI, s5, nobor, nI, ?_⟩)
  refine G1 ?_; intro gg
  (exact ⟨[], aI⟩)
end Go.Proofs.YtkclokmfomnbgaaGreat
