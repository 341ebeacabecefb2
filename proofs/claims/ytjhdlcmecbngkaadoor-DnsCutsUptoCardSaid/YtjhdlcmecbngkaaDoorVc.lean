/- Texts of this claim, joined. -/
import Derived.WalkKit
import Derived.Defers
import Derived.Recover
import Derived.Laws.Pointers
import Derived.Test.YtjhdlcmecbngkaaDoorRows
import Derived.Test.YtjhdlcmecbngkaaDoorVa
import Derived.Test.YtjhdlcmecbngkaaDoorVb
set_option linter.unusedSimpArgs false
namespace Go.Proofs.YtjhdlcmecbngkaaDoor
open Go Go.RowKit Pl
set_option linter.unusedVariables false
section
variable {P : Program} {ops : Array Oper} {Q : Exit → Act → List Frame → World → Prop} {a : Act} {cs : List Frame} {w w' : World} {i : Nat} {rest : List Nat} {o : Oper} {v : Value}
end
theorem assert_yes (T : TypeId) (w : World) : (Instr.typeAssert wrongV T 68 true).run Tryd.prog w = .ok (.tuple #[.agg #[], .bool true]) w := by
 have hu := Tryd.underlying68
 simp [Instr.typeAssert, wrongV, run_underlying hu]
theorem assert_no (T : TypeId) (w : World) : (Instr.typeAssert .nilIface T 68 true).run Tryd.prog w = .ok (.tuple #[.agg #[], .bool false]) w := by
 have hu := Tryd.underlying68
 have h : (Tryd.prog.info? 68).map (·.zero) = some (some (.agg #[])) := by kernel_rfl
 obtain ⟨i, hi, hz⟩ := Option.map_eq_some_iff.1 h
 simp [Instr.typeAssert, run_underlying hu, zeroValue, typeInfo, hi, hz]
def zeroM : Array Value := #[.int .i64 0, .bool false, .bool false, .int .i64 0, .string ⟨#[]⟩, .int .i64 0, .slice none 0 0]
structure Caught (w : World) (p q : Nat) (w' : World) : Prop where
 m : Blk w' p 40 zeroM
 e : Blk w' q 24 #[.int .i64 1]
 fr : Fr (fun k => k = p ∨ k = q) w w'
theorem Fr.set_ {F : Nat → Prop} {w w' : World} (h : Fr F w w') {b : Nat} (hb : F b) (i : Nat) (v : Value) : Fr F w (w'.setCell ⟨b, i, none⟩ v) := by
 have hs := h.size
 refine ⟨h.os, h.tape, h.output, by simp [World.setCell]; omega, fun k hk hF => ?_⟩
 rw [← h.block k hk hF]
 have : k ≠ b := fun e => hF (e ▸ hb)
 exact Below.heap_setCell w' ⟨b, i, none⟩ v k this
theorem Fr.alloc_ {F : Nat → Prop} {w w' : World} (h : Fr F w w') (o : Obj) : Fr F w (w'.alloc o) := by
 have hs := h.size
 refine ⟨h.os, h.tape, h.output, by rw [show (w'.alloc o).heap.size = w'.heap.size + 1 from by simp [World.alloc, -World.alloc_eq]]; omega, fun k hk hF => ?_⟩
 rw [← h.block k hk hF]
 exact Below.heap_alloc w' o k (by omega)
set_option maxRecDepth 100000 in
set_option maxHeartbeats 2000000 in
theorem catch_dead (p q : Nat) (c0 c1 c2 c3 c4 c5 c6 x : Value) (w : World) (hp : Blk w p 40 #[c0, c1, c2, c3, c4, c5, c6]) (hq : Blk w q 24 #[x]) (hpq : p ≠ q) :
  CallsD Tryd.prog 50 #[.pointer (some ⟨p, 0, none⟩), .pointer (some ⟨q, 0, none⟩)] (.panicking [{ v := wrongV, recovered := false }]) w fun e u' w' => e = .returned (.tuple #[]) ∧ u' = .panicking [{ v := wrongV, recovered := true }] ∧ Caught w p q w' := by
 have hlp := hp.lt
 have hlq := hq.lt
 refine callsD_of_wpS Tryd.func50 rfl fun c₀ cs hu => ?_
 apply wpS_seq
 apply wpS_region
 have hrec : recoverD (c₀ :: cs) = some (wrongV, { c₀ with mode := .panicking ({ v := wrongV, recovered := true } :: []) } :: cs) := by simp [recoverD, hu]
 simp [wpOpsS, go_sem, hrec, Tryd.ntmps50, Exit.thenS, assert_yes]
 have e0 : w.cell? ⟨p, 0, none⟩ = some c0 := hp.cell 0
 have e1 : w.cell? ⟨p, 1, none⟩ = some c1 := hp.cell 1
 have e2 : w.cell? ⟨p, 2, none⟩ = some c2 := hp.cell 2
 have e3 : w.cell? ⟨p, 3, none⟩ = some c3 := hp.cell 3
 have e4 : w.cell? ⟨p, 4, none⟩ = some c4 := hp.cell 4
 have e5 : w.cell? ⟨p, 5, none⟩ = some c5 := hp.cell 5
 have e6 : w.cell? ⟨p, 6, none⟩ = some c6 := hp.cell 6
 have f0 := fun i => hp.frozen i
 have g0 : w.cell? ⟨q, 0, none⟩ = some x := hq.cell 0
 have h0 := hq.frozen 0
 refine wpS_of_wp ?_
 go_wp2
 have key : Caught w p q (((((((((w.setCell ⟨p, 0, none⟩ (.int .i64 0)).setCell ⟨p, 1, none⟩ (.bool false)).setCell ⟨p, 2, none⟩ (.bool false)).setCell ⟨p, 3, none⟩ (.int .i64 0)).setCell ⟨p, 4, none⟩ (.string ⟨#[]⟩)).setCell ⟨p, 5, none⟩ (.int .i64 0)).setCell ⟨p, 6, none⟩ (.slice none 0 0)).setCell ⟨q, 0, none⟩ (.int .i64 1)).alloc (Obj.cells #[] 68)) := by
  refine ⟨?_, ?_, ?_⟩
  ·exact (((((((((hp.set_ 0 _).set_ 1 _).set_ 2 _).set_ 3 _).set_ 4 _).set_ 5 _).set_ 6 _).far hpq _).alloc _)
  ·exact (((((((((hq.far (Ne.symm hpq) _).far (Ne.symm hpq) _).far (Ne.symm hpq) _).far (Ne.symm hpq) _).far (Ne.symm hpq) _).far (Ne.symm hpq) _).far (Ne.symm hpq) _).set_ 0 _).alloc _)
  ·exact (((((((((Fr.refl _ w).set_ (.inl rfl) 0 _).set_ (.inl rfl) 1 _).set_ (.inl rfl) 2 _).set_ (.inl rfl) 3 _).set_ (.inl rfl) 4 _).set_ (.inl rfl) 5 _).set_ (.inl rfl) 6 _).set_ (.inr rfl) 0 _).alloc_ _
 simp [bodyPostS, results, Tryd.results50]
 exact key
set_option maxRecDepth 100000 in
set_option maxHeartbeats 2000000 in
theorem catch_idle (p q : Nat) (w : World) :
  CallsD Tryd.prog 50 #[.pointer (some ⟨p, 0, none⟩), .pointer (some ⟨q, 0, none⟩)] .returning w fun e u' w' => e = .returned (.tuple #[]) ∧ u' = .returning ∧ w' = w.alloc (.cells #[] 68) := by
 refine callsD_of_wpS Tryd.func50 rfl fun c₀ cs hu => ?_
 apply wpS_seq
 apply wpS_region
 have hrec : recoverD (c₀ :: cs) = none := by simp [recoverD, hu]
 simp [wpOpsS, go_sem, hrec, Tryd.ntmps50, Exit.thenS, assert_no]
 refine wpS_of_wp ?_
 go_wp2
 simp [bodyPostS, results, Tryd.results50, hu]
 cases c₀
 simp_all
end Go.Proofs.YtjhdlcmecbngkaaDoor
namespace Go.Proofs.YtjhdlcmecbngkaaDoor
open Go Go.RowKit Pl
set_option linter.unusedVariables false
theorem or_an {n : Int} (h0 : 0 ≤ n) (h1 : n ≤ 15) : IntKind.i64.wrap ((BitVec.ofInt IntKind.i64.bits n ||| BitVec.ofInt IntKind.i64.bits 32768).toNat) = n + 32768 := by
 have key : ∀ k : Fin 16, IntKind.i64.wrap ((BitVec.ofInt IntKind.i64.bits (k.val : Int) ||| BitVec.ofInt IntKind.i64.bits 32768).toNat) = (k.val : Int) + 32768 := by decide
 obtain ⟨k, rfl⟩ := Int.eq_ofNat_of_zero_le h0
 exact key ⟨k, by omega⟩
theorem or_ct {n : Int} (h0 : 0 ≤ n) (h1 : n ≤ 15) : IntKind.i64.wrap ((BitVec.ofInt IntKind.i64.bits n ||| BitVec.ofInt IntKind.i64.bits 512).toNat) = n + 512 := by
 have key : ∀ k : Fin 16, IntKind.i64.wrap ((BitVec.ofInt IntKind.i64.bits (k.val : Int) ||| BitVec.ofInt IntKind.i64.bits 512).toNat) = (k.val : Int) + 512 := by decide
 obtain ⟨k, rfl⟩ := Int.eq_ofNat_of_zero_le h0
 exact key ⟨k, by omega⟩
theorem or_ct2 {n : Int} (h0 : 0 ≤ n) (h1 : n ≤ 15) : IntKind.i64.wrap ((BitVec.ofInt IntKind.i64.bits (n + 32768) ||| BitVec.ofInt IntKind.i64.bits 512).toNat) = n + 32768 + 512 := by
 have key : ∀ k : Fin 16, IntKind.i64.wrap ((BitVec.ofInt IntKind.i64.bits ((k.val : Int) + 32768) ||| BitVec.ofInt IntKind.i64.bits 512).toNat) = (k.val : Int) + 32768 + 512 := by decide
 obtain ⟨k, rfl⟩ := Int.eq_ofNat_of_zero_le h0
 exact key ⟨k, by omega⟩
def headB (id fl n : Int) (qn : ByteArray) (qt : Int) : List UInt8 := twosB [id, fl, 1, n, 0, 0] ++ nameB qn ++ twosB [qt, 1]
theorem headB_len {id fl n qt : Int} {qn : ByteArray} (h : qn.size ≤ 120) : 0 < (headB id fl n qn qt).length ∧ (headB id fl n qn qt).length ≤ 15100 := by
 have := nameB_len h
 unfold headB
 rw [List.length_append, List.length_append, twosB_len, twosB_len]
 simp only [List.length_cons, List.length_nil]
 omega
theorem msgB_eq (m : Ms) : msgB m = headB m.id (flagsM m) (m.rs.length : Int) m.qn m.qt ++ recsB m.rs := rfl
set_option maxHeartbeats 2000000 in
theorem writeFF_fun (m : Ms) (hm : m.Good) (ha : m.an = false) (hc : m.ct = false) : Fun Tryd.prog 44 [.c (.agg m.row)] [.c (.v (.string ⟨(msgB m).toArray⟩))] := by
 obtain ⟨id, an, ct, co, qn, qt, rs⟩ := m
 obtain ⟨h1, h2, h3, h4, h5, h6, h7⟩ := hm
 simp only at h1 h2 h3 h4 h5 h6 h7 ha hc
 subst ha hc
 have eF : flagsM ⟨id, false, false, co, qn, qt, rs⟩ = co := by simp [flagsM]
 rw [msgB_eq, eF]
 have hh := headB_len (id := id) (fl := co) (n := (rs.length : Int)) (qt := qt) h4
 have hR := recsB_len h7
 refine fun_x ck_dns_write rfl ?_
 (refine goI ?_; repeat (intro gg; refine goI ?_))
 rename_i gw
 rw [List.length_map]
 (refine .inr (.inl ⟨_, _, true, [128], aM_fo rfl (cl_row rfl) bld_fold (by decide) (by decide) aM, two_fun [] false [id, co, 1, (rs.length : Int), 0, 0] (by simp only [List.mem_cons, List.not_mem_nil, or_false, forall_eq_or_imp, forall_eq]; omega) (by simp) (by simp), (fun _ => flat_w), oI, dI, ?_⟩))
 (refine goI ?_; repeat (intro gg; refine goI ?_))
 (refine .inr (.inl ⟨_, _, false, [128], aM, name_fun ([] ++ twosB [id, co, 1, (rs.length : Int), 0, 0]) qn h3 h4 (by simp only [List.length_append, twosB_len, List.length_cons, List.length_nil]; omega), nobor, oI, dI, ?_⟩))
 (refine goI ?_; repeat (intro gg; refine goI ?_))
 (refine .inr (.inl ⟨_, _, true, [128], aM, two_fun ([] ++ twosB [id, co, 1, (rs.length : Int), 0, 0] ++ nameB qn) false [qt, 1] (by simp only [List.mem_cons, List.not_mem_nil, or_false, forall_eq_or_imp, forall_eq]; omega) (by simp) (by have := nameB_len h4; simp only [List.length_append, twosB_len, List.length_cons, List.length_nil]; omega), (fun _ => flat_w), oI, dI, ?_⟩))
 (refine goI ?_; repeat (intro gg; refine goI ?_))
 rw [List.length_map]
 (refine ⟨[], none, {k : Nat // k ≤ rs.length}, [3, 40, 41], fun ⟨k, hk⟩ => [(42, .v (.int .i64 k))], [], fun ⟨k, hk⟩ => [(128, ⟨gw, .q (bldI wT (headB id (co) (rs.length : Int) qn qt ++ recsB (rs.take k))), 0, []⟩)], fun ⟨k, hk⟩ => rs.length - k, trivial, fun _ => ⟨trivial, fun _ => ⟨⟨0, by omega⟩, tI, keptE_refl _ _, ?_, keptH_refl _ _⟩⟩, fun ⟨k, hk⟩ => ?_⟩; focus (exact ⟨congrArg (fun r => some (Ent.mk gw (.q (bldI wT r)) 0 [])) (show headB id (co) (rs.length : Int) qn qt = headB id (co) (rs.length : Int) qn qt ++ recsB (rs.take 0) by simp [recsB]), trivial⟩))
 (refine goI ?_; repeat (intro gg; refine goI ?_))
 (refine bIf_of (fun q1 => ?_) (fun q1 => ?_) <;> rw [q1])
 ·have hlt : k < rs.length := by have := of_decide_eq_true (show decide ((k : Int) < (rs.length : Int)) = true from q1); omega
  have hl1 := recsB_len (l := rs.take k) fun r hr => h7 r (List.mem_of_mem_take hr)
  rw [List.length_take] at hl1
  have e : headB id (co) (rs.length : Int) qn qt ++ recsB (rs.take k) ++ recB rs[k] = headB id (co) (rs.length : Int) qn qt ++ recsB (rs.take (k + 1)) := by rw [recsB_next hlt, List.append_assoc]
  (refine goI ?_; repeat (intro gg; refine goI ?_))
  refine ⟨k, _, rfl, row_map hlt, ?_⟩
  (refine goI ?_; repeat (intro gg; refine goI ?_))
  (refine .inr (.inl ⟨_, _, false, [128], aM, record_fun (headB id (co) (rs.length : Int) qn qt ++ recsB (rs.take k)) rs[k] (h7 _ (List.getElem_mem hlt)) (by rw [List.length_append]; omega), nobor, oI, dI, ?_⟩))
  (refine goI ?_; repeat (intro gg; refine goI ?_))
  (exact ⟨none, trivial, fun gr => ⟨⟨k + 1, by omega⟩, by show rs.length - (k + 1) < rs.length - k; omega, tI, tI, ⟨congrArg (fun r => some (Ent.mk gw (.q (bldI wT r)) 0 [])) e, trivial⟩, tI⟩⟩)
 ·have hge : ¬ k < rs.length := by have := of_decide_eq_false (show decide ((k : Int) < (rs.length : Int)) = false from q1); omega
  obtain rfl : k = rs.length := by omega
  have hne : headB id (co) (rs.length : Int) qn qt ++ recsB (rs.take rs.length) ≠ [] := fun q => by
   have := congrArg List.length q
   rw [List.length_append, List.length_nil] at this
   omega
  rw [show recsB rs = recsB (rs.take rs.length) by rw [List.take_length]]
  (refine goI ?_; repeat (intro gg; refine goI ?_))
  (refine .inr (.inl ⟨_, _, false, [128], aM, bString_fun (T := wT) (headB id (co) (rs.length : Int) qn qt ++ recsB (rs.take rs.length)) hne, nobor, oI, dI, ?_⟩))
  (refine goI ?_; repeat (intro gg; refine goI ?_))
  (exact ⟨[], aI⟩)
set_option maxHeartbeats 2000000 in
theorem writeTF_fun (m : Ms) (hm : m.Good) (ha : m.an = true) (hc : m.ct = false) : Fun Tryd.prog 44 [.c (.agg m.row)] [.c (.v (.string ⟨(msgB m).toArray⟩))] := by
 obtain ⟨id, an, ct, co, qn, qt, rs⟩ := m
 obtain ⟨h1, h2, h3, h4, h5, h6, h7⟩ := hm
 simp only at h1 h2 h3 h4 h5 h6 h7 ha hc
 subst ha hc
 have eF : flagsM ⟨id, true, false, co, qn, qt, rs⟩ = co + 32768 := by simp [flagsM]
 rw [msgB_eq, eF]
 have hh := headB_len (id := id) (fl := co + 32768) (n := (rs.length : Int)) (qt := qt) h4
 have hR := recsB_len h7
 refine fun_x ck_dns_write rfl ?_
 (refine goI ?_; repeat (intro gg; refine goI ?_))
 rename Nat => gw
 refine ⟨_, or_an h2.1 h2.2, ?_⟩
 (refine goI ?_; repeat (intro gg; refine goI ?_))
 rw [List.length_map]
 (refine .inr (.inl ⟨_, _, true, [128], aM_fo rfl (cl_row rfl) bld_fold (by decide) (by decide) aM, two_fun [] false [id, co + 32768, 1, (rs.length : Int), 0, 0] (by simp only [List.mem_cons, List.not_mem_nil, or_false, forall_eq_or_imp, forall_eq]; omega) (by simp) (by simp), (fun _ => flat_w), oI, dI, ?_⟩))
 (refine goI ?_; repeat (intro gg; refine goI ?_))
 (refine .inr (.inl ⟨_, _, false, [128], aM, name_fun ([] ++ twosB [id, co + 32768, 1, (rs.length : Int), 0, 0]) qn h3 h4 (by simp only [List.length_append, twosB_len, List.length_cons, List.length_nil]; omega), nobor, oI, dI, ?_⟩))
 (refine goI ?_; repeat (intro gg; refine goI ?_))
 (refine .inr (.inl ⟨_, _, true, [128], aM, two_fun ([] ++ twosB [id, co + 32768, 1, (rs.length : Int), 0, 0] ++ nameB qn) false [qt, 1] (by simp only [List.mem_cons, List.not_mem_nil, or_false, forall_eq_or_imp, forall_eq]; omega) (by simp) (by have := nameB_len h4; simp only [List.length_append, twosB_len, List.length_cons, List.length_nil]; omega), (fun _ => flat_w), oI, dI, ?_⟩))
 (refine goI ?_; repeat (intro gg; refine goI ?_))
 rw [List.length_map]
 (refine ⟨[], none, {k : Nat // k ≤ rs.length}, [3, 40, 41], fun ⟨k, hk⟩ => [(42, .v (.int .i64 k))], [], fun ⟨k, hk⟩ => [(128, ⟨gw, .q (bldI wT (headB id (co + 32768) (rs.length : Int) qn qt ++ recsB (rs.take k))), 0, []⟩)], fun ⟨k, hk⟩ => rs.length - k, trivial, fun _ => ⟨trivial, fun _ => ⟨⟨0, by omega⟩, tI, keptE_refl _ _, ?_, keptH_refl _ _⟩⟩, fun ⟨k, hk⟩ => ?_⟩; focus (exact ⟨congrArg (fun r => some (Ent.mk gw (.q (bldI wT r)) 0 [])) (show headB id (co + 32768) (rs.length : Int) qn qt = headB id (co + 32768) (rs.length : Int) qn qt ++ recsB (rs.take 0) by simp [recsB]), trivial⟩))
 (refine goI ?_; repeat (intro gg; refine goI ?_))
 (refine bIf_of (fun q1 => ?_) (fun q1 => ?_) <;> rw [q1])
 ·have hlt : k < rs.length := by have := of_decide_eq_true (show decide ((k : Int) < (rs.length : Int)) = true from q1); omega
  have hl1 := recsB_len (l := rs.take k) fun r hr => h7 r (List.mem_of_mem_take hr)
  rw [List.length_take] at hl1
  have e : headB id (co + 32768) (rs.length : Int) qn qt ++ recsB (rs.take k) ++ recB rs[k] = headB id (co + 32768) (rs.length : Int) qn qt ++ recsB (rs.take (k + 1)) := by rw [recsB_next hlt, List.append_assoc]
  (refine goI ?_; repeat (intro gg; refine goI ?_))
  refine ⟨k, _, rfl, row_map hlt, ?_⟩
  (refine goI ?_; repeat (intro gg; refine goI ?_))
  (refine .inr (.inl ⟨_, _, false, [128], aM, record_fun (headB id (co + 32768) (rs.length : Int) qn qt ++ recsB (rs.take k)) rs[k] (h7 _ (List.getElem_mem hlt)) (by rw [List.length_append]; omega), nobor, oI, dI, ?_⟩))
  (refine goI ?_; repeat (intro gg; refine goI ?_))
  (exact ⟨none, trivial, fun gr => ⟨⟨k + 1, by omega⟩, by show rs.length - (k + 1) < rs.length - k; omega, tI, tI, ⟨congrArg (fun r => some (Ent.mk gw (.q (bldI wT r)) 0 [])) e, trivial⟩, tI⟩⟩)
 ·have hge : ¬ k < rs.length := by have := of_decide_eq_false (show decide ((k : Int) < (rs.length : Int)) = false from q1); omega
  obtain rfl : k = rs.length := by omega
  have hne : headB id (co + 32768) (rs.length : Int) qn qt ++ recsB (rs.take rs.length) ≠ [] := fun q => by
   have := congrArg List.length q
   rw [List.length_append, List.length_nil] at this
   omega
  rw [show recsB rs = recsB (rs.take rs.length) by rw [List.take_length]]
  (refine goI ?_; repeat (intro gg; refine goI ?_))
  (refine .inr (.inl ⟨_, _, false, [128], aM, bString_fun (T := wT) (headB id (co + 32768) (rs.length : Int) qn qt ++ recsB (rs.take rs.length)) hne, nobor, oI, dI, ?_⟩))
  (refine goI ?_; repeat (intro gg; refine goI ?_))
  (exact ⟨[], aI⟩)
set_option maxHeartbeats 2000000 in
theorem writeFT_fun (m : Ms) (hm : m.Good) (ha : m.an = false) (hc : m.ct = true) : Fun Tryd.prog 44 [.c (.agg m.row)] [.c (.v (.string ⟨(msgB m).toArray⟩))] := by
 obtain ⟨id, an, ct, co, qn, qt, rs⟩ := m
 obtain ⟨h1, h2, h3, h4, h5, h6, h7⟩ := hm
 simp only at h1 h2 h3 h4 h5 h6 h7 ha hc
 subst ha hc
 have eF : flagsM ⟨id, false, true, co, qn, qt, rs⟩ = co + 512 := by simp [flagsM]
 rw [msgB_eq, eF]
 have hh := headB_len (id := id) (fl := co + 512) (n := (rs.length : Int)) (qt := qt) h4
 have hR := recsB_len h7
 refine fun_x ck_dns_write rfl ?_
 (refine goI ?_; repeat (intro gg; refine goI ?_))
 rename Nat => gw
 refine ⟨_, or_ct h2.1 h2.2, ?_⟩
 (refine goI ?_; repeat (intro gg; refine goI ?_))
 rw [List.length_map]
 (refine .inr (.inl ⟨_, _, true, [128], aM_fo rfl (cl_row rfl) bld_fold (by decide) (by decide) aM, two_fun [] false [id, co + 512, 1, (rs.length : Int), 0, 0] (by simp only [List.mem_cons, List.not_mem_nil, or_false, forall_eq_or_imp, forall_eq]; omega) (by simp) (by simp), (fun _ => flat_w), oI, dI, ?_⟩))
 (refine goI ?_; repeat (intro gg; refine goI ?_))
 (refine .inr (.inl ⟨_, _, false, [128], aM, name_fun ([] ++ twosB [id, co + 512, 1, (rs.length : Int), 0, 0]) qn h3 h4 (by simp only [List.length_append, twosB_len, List.length_cons, List.length_nil]; omega), nobor, oI, dI, ?_⟩))
 (refine goI ?_; repeat (intro gg; refine goI ?_))
 (refine .inr (.inl ⟨_, _, true, [128], aM, two_fun ([] ++ twosB [id, co + 512, 1, (rs.length : Int), 0, 0] ++ nameB qn) false [qt, 1] (by simp only [List.mem_cons, List.not_mem_nil, or_false, forall_eq_or_imp, forall_eq]; omega) (by simp) (by have := nameB_len h4; simp only [List.length_append, twosB_len, List.length_cons, List.length_nil]; omega), (fun _ => flat_w), oI, dI, ?_⟩))
 (refine goI ?_; repeat (intro gg; refine goI ?_))
 rw [List.length_map]
 (refine ⟨[], none, {k : Nat // k ≤ rs.length}, [3, 40, 41], fun ⟨k, hk⟩ => [(42, .v (.int .i64 k))], [], fun ⟨k, hk⟩ => [(128, ⟨gw, .q (bldI wT (headB id (co + 512) (rs.length : Int) qn qt ++ recsB (rs.take k))), 0, []⟩)], fun ⟨k, hk⟩ => rs.length - k, trivial, fun _ => ⟨trivial, fun _ => ⟨⟨0, by omega⟩, tI, keptE_refl _ _, ?_, keptH_refl _ _⟩⟩, fun ⟨k, hk⟩ => ?_⟩; focus (exact ⟨congrArg (fun r => some (Ent.mk gw (.q (bldI wT r)) 0 [])) (show headB id (co + 512) (rs.length : Int) qn qt = headB id (co + 512) (rs.length : Int) qn qt ++ recsB (rs.take 0) by simp [recsB]), trivial⟩))
 (refine goI ?_; repeat (intro gg; refine goI ?_))
 (refine bIf_of (fun q1 => ?_) (fun q1 => ?_) <;> rw [q1])
 ·have hlt : k < rs.length := by have := of_decide_eq_true (show decide ((k : Int) < (rs.length : Int)) = true from q1); omega
  have hl1 := recsB_len (l := rs.take k) fun r hr => h7 r (List.mem_of_mem_take hr)
  rw [List.length_take] at hl1
  have e : headB id (co + 512) (rs.length : Int) qn qt ++ recsB (rs.take k) ++ recB rs[k] = headB id (co + 512) (rs.length : Int) qn qt ++ recsB (rs.take (k + 1)) := by rw [recsB_next hlt, List.append_assoc]
  (refine goI ?_; repeat (intro gg; refine goI ?_))
  refine ⟨k, _, rfl, row_map hlt, ?_⟩
  (refine goI ?_; repeat (intro gg; refine goI ?_))
  (refine .inr (.inl ⟨_, _, false, [128], aM, record_fun (headB id (co + 512) (rs.length : Int) qn qt ++ recsB (rs.take k)) rs[k] (h7 _ (List.getElem_mem hlt)) (by rw [List.length_append]; omega), nobor, oI, dI, ?_⟩))
  (refine goI ?_; repeat (intro gg; refine goI ?_))
  (exact ⟨none, trivial, fun gr => ⟨⟨k + 1, by omega⟩, by show rs.length - (k + 1) < rs.length - k; omega, tI, tI, ⟨congrArg (fun r => some (Ent.mk gw (.q (bldI wT r)) 0 [])) e, trivial⟩, tI⟩⟩)
 ·have hge : ¬ k < rs.length := by have := of_decide_eq_false (show decide ((k : Int) < (rs.length : Int)) = false from q1); omega
  obtain rfl : k = rs.length := by omega
  have hne : headB id (co + 512) (rs.length : Int) qn qt ++ recsB (rs.take rs.length) ≠ [] := fun q => by
   have := congrArg List.length q
   rw [List.length_append, List.length_nil] at this
   omega
  rw [show recsB rs = recsB (rs.take rs.length) by rw [List.take_length]]
  (refine goI ?_; repeat (intro gg; refine goI ?_))
  (refine .inr (.inl ⟨_, _, false, [128], aM, bString_fun (T := wT) (headB id (co + 512) (rs.length : Int) qn qt ++ recsB (rs.take rs.length)) hne, nobor, oI, dI, ?_⟩))
  (refine goI ?_; repeat (intro gg; refine goI ?_))
  (exact ⟨[], aI⟩)
set_option maxHeartbeats 2000000 in
theorem writeTT_fun (m : Ms) (hm : m.Good) (ha : m.an = true) (hc : m.ct = true) : Fun Tryd.prog 44 [.c (.agg m.row)] [.c (.v (.string ⟨(msgB m).toArray⟩))] := by
 obtain ⟨id, an, ct, co, qn, qt, rs⟩ := m
 obtain ⟨h1, h2, h3, h4, h5, h6, h7⟩ := hm
 simp only at h1 h2 h3 h4 h5 h6 h7 ha hc
 subst ha hc
 have eF : flagsM ⟨id, true, true, co, qn, qt, rs⟩ = co + 32768 + 512 := by simp [flagsM]
 rw [msgB_eq, eF]
 have hh := headB_len (id := id) (fl := co + 32768 + 512) (n := (rs.length : Int)) (qt := qt) h4
 have hR := recsB_len h7
 refine fun_x ck_dns_write rfl ?_
 (refine goI ?_; repeat (intro gg; refine goI ?_))
 rename Nat => gw
 refine ⟨_, or_an h2.1 h2.2, ?_⟩
 (refine goI ?_; repeat (intro gg; refine goI ?_))
 refine ⟨_, or_ct2 h2.1 h2.2, ?_⟩
 (refine goI ?_; repeat (intro gg; refine goI ?_))
 rw [List.length_map]
 (refine .inr (.inl ⟨_, _, true, [128], aM_fo rfl (cl_row rfl) bld_fold (by decide) (by decide) aM, two_fun [] false [id, co + 32768 + 512, 1, (rs.length : Int), 0, 0] (by simp only [List.mem_cons, List.not_mem_nil, or_false, forall_eq_or_imp, forall_eq]; omega) (by simp) (by simp), (fun _ => flat_w), oI, dI, ?_⟩))
 (refine goI ?_; repeat (intro gg; refine goI ?_))
 (refine .inr (.inl ⟨_, _, false, [128], aM, name_fun ([] ++ twosB [id, co + 32768 + 512, 1, (rs.length : Int), 0, 0]) qn h3 h4 (by simp only [List.length_append, twosB_len, List.length_cons, List.length_nil]; omega), nobor, oI, dI, ?_⟩))
 (refine goI ?_; repeat (intro gg; refine goI ?_))
 (refine .inr (.inl ⟨_, _, true, [128], aM, two_fun ([] ++ twosB [id, co + 32768 + 512, 1, (rs.length : Int), 0, 0] ++ nameB qn) false [qt, 1] (by simp only [List.mem_cons, List.not_mem_nil, or_false, forall_eq_or_imp, forall_eq]; omega) (by simp) (by have := nameB_len h4; simp only [List.length_append, twosB_len, List.length_cons, List.length_nil]; omega), (fun _ => flat_w), oI, dI, ?_⟩))
 (refine goI ?_; repeat (intro gg; refine goI ?_))
 rw [List.length_map]
 (refine ⟨[], none, {k : Nat // k ≤ rs.length}, [3, 40, 41], fun ⟨k, hk⟩ => [(42, .v (.int .i64 k))], [], fun ⟨k, hk⟩ => [(128, ⟨gw, .q (bldI wT (headB id (co + 32768 + 512) (rs.length : Int) qn qt ++ recsB (rs.take k))), 0, []⟩)], fun ⟨k, hk⟩ => rs.length - k, trivial, fun _ => ⟨trivial, fun _ => ⟨⟨0, by omega⟩, tI, keptE_refl _ _, ?_, keptH_refl _ _⟩⟩, fun ⟨k, hk⟩ => ?_⟩; focus (exact ⟨congrArg (fun r => some (Ent.mk gw (.q (bldI wT r)) 0 [])) (show headB id (co + 32768 + 512) (rs.length : Int) qn qt = headB id (co + 32768 + 512) (rs.length : Int) qn qt ++ recsB (rs.take 0) by simp [recsB]), trivial⟩))
 (refine goI ?_; repeat (intro gg; refine goI ?_))
 (refine bIf_of (fun q1 => ?_) (fun q1 => ?_) <;> rw [q1])
 ·have hlt : k < rs.length := by have := of_decide_eq_true (show decide ((k : Int) < (rs.length : Int)) = true from q1); omega
  have hl1 := recsB_len (l := rs.take k) fun r hr => h7 r (List.mem_of_mem_take hr)
  rw [List.length_take] at hl1
  have e : headB id (co + 32768 + 512) (rs.length : Int) qn qt ++ recsB (rs.take k) ++ recB rs[k] = headB id (co + 32768 + 512) (rs.length : Int) qn qt ++ recsB (rs.take (k + 1)) := by rw [recsB_next hlt, List.append_assoc]
  (refine goI ?_; repeat (intro gg; refine goI ?_))
  refine ⟨k, _, rfl, row_map hlt, ?_⟩
  (refine goI ?_; repeat (intro gg; refine goI ?_))
  (refine .inr (.inl ⟨_, _, false, [128], aM, record_fun (headB id (co + 32768 + 512) (rs.length : Int) qn qt ++ recsB (rs.take k)) rs[k] (h7 _ (List.getElem_mem hlt)) (by rw [List.length_append]; omega), nobor, oI, dI, ?_⟩))
  (refine goI ?_; repeat (intro gg; refine goI ?_))
  (exact ⟨none, trivial, fun gr => ⟨⟨k + 1, by omega⟩, by show rs.length - (k + 1) < rs.length - k; omega, tI, tI, ⟨congrArg (fun r => some (Ent.mk gw (.q (bldI wT r)) 0 [])) e, trivial⟩, tI⟩⟩)
 ·have hge : ¬ k < rs.length := by have := of_decide_eq_false (show decide ((k : Int) < (rs.length : Int)) = false from q1); omega
  obtain rfl : k = rs.length := by omega
  have hne : headB id (co + 32768 + 512) (rs.length : Int) qn qt ++ recsB (rs.take rs.length) ≠ [] := fun q => by
   have := congrArg List.length q
   rw [List.length_append, List.length_nil] at this
   omega
  rw [show recsB rs = recsB (rs.take rs.length) by rw [List.take_length]]
  (refine goI ?_; repeat (intro gg; refine goI ?_))
  (refine .inr (.inl ⟨_, _, false, [128], aM, bString_fun (T := wT) (headB id (co + 32768 + 512) (rs.length : Int) qn qt ++ recsB (rs.take rs.length)) hne, nobor, oI, dI, ?_⟩))
  (refine goI ?_; repeat (intro gg; refine goI ?_))
  (exact ⟨[], aI⟩)
theorem write_fun (m : Ms) (hm : m.Good) : Fun Tryd.prog 44 [.c (.agg m.row)] [.c (.v (.string ⟨(msgB m).toArray⟩))] := by
 rcases Bool.eq_false_or_eq_true m.an with ha | ha <;> rcases Bool.eq_false_or_eq_true m.ct with hc | hc
 ·exact writeTT_fun m hm ha hc
 ·exact writeTF_fun m hm ha hc
 ·exact writeFT_fun m hm ha hc
 ·exact writeFF_fun m hm ha hc
end Go.Proofs.YtjhdlcmecbngkaaDoor
namespace Go.Proofs.YtjhdlcmecbngkaaDoor
open Go Go.RowKit Pl
set_option linter.unusedVariables false
namespace Pl
theorem wIn_iff {n a b : Int} (h : (!wIn n a b) = false) : a ≤ n ∧ n ≤ b := by
 unfold wIn at h
 cases h1 : decide (a ≤ n) with
 | true => rw [h1] at h; exact ⟨of_decide_eq_true h1, by simpa using h⟩
 | false => rw [h1] at h; cases h
theorem nameErr_size {nm : ByteArray} (h : nameErr nm = 0) : nm.size ≤ 120 := by
 unfold nameErr at h
 split at h
 ·cases h
 ·split at h
  ·cases h
  ·split at h
   ·cases h
   ·omega
theorem good_of {r : Rr} (h : recErr r = 0) : r.Good ∧ r.un = true := by
 unfold recErr at h
 split at h
 ·rename_i h0; exact absurd h h0
 ·rename_i h0
  have h0 : nameErr r.nm = 0 := by simpa using h0
  cases h1 : (!isTy r.ty) with
  | true => rw [h1] at h; cases h
  | false =>
   rw [h1] at h
   cases h2 : (!wIn r.ls 0 2147483647) with
   | true => rw [h2] at h; cases h
   | false =>
    rw [h2] at h
    cases h3 : (!r.un) with
    | true => rw [h3] at h; cases h
    | false =>
     rw [h3] at h
     cases h4 : (!wIn r.ad 0 4294967295) with
     | true => rw [h4] at h; cases h
     | false =>
      rw [h4] at h
      cases h5 : (!wIn r.pt 0 65535) with
      | true => rw [h5] at h; cases h
      | false =>
       rw [h5] at h
       simp only [cond_false] at h
       split at h
       ·cases h
       ·rename_i h6
        exact ⟨⟨h0, nameErr_size h0, isTy_cases h1, wIn_iff h2, wIn_iff h4, wIn_iff h5, by omega, h, nameErr_size h⟩, by simpa using h3⟩
theorem firstE_zero {l : List Int} (h : firstE l = 0) : ∀ e ∈ l, e = 0 := by
 induction l with
 | nil => intro e he; cases he
 | cons a l ih =>
  have h : (if a ≠ 0 then a else firstE l) = 0 := h
  split at h
  ·rename_i ha; exact absurd h ha
  ·rename_i ha
   intro e he
   rcases List.mem_cons.1 he with rfl | he
   ·simpa using ha
   ·exact ih h e he
theorem goodM_of {m : Ms} (h : msgErr m = 0) : m.Good ∧ ∀ r ∈ m.rs, r.un = true := by
 unfold msgErr at h
 cases h1 : (!wIn m.id 0 65535) with
 | true => rw [h1] at h; cases h
 | false =>
  rw [h1] at h
  cases h2 : (!wIn m.co 0 15) with
  | true => rw [h2] at h; cases h
  | false =>
   rw [h2] at h
   simp only [cond_false] at h
   split at h
   ·cases h
   ·rename_i h3
    split at h
    ·rename_i h4; exact absurd h h4
    ·rename_i h4
     have h4 : nameErr m.qn = 0 := by simpa using h4
     cases h5 : (!isTy m.qt) with
     | true => rw [h5] at h; cases h
     | false =>
      rw [h5] at h
      have h6 := firstE_zero h
      have h7 : ∀ r ∈ m.rs, recErr r = 0 := fun r hr => h6 _ (List.mem_map_of_mem hr)
      exact ⟨⟨wIn_iff h1, wIn_iff h2, h4, nameErr_size h4, isTy_cases h5, by omega, fun r hr => (good_of (h7 r hr)).1⟩, fun r hr => (good_of (h7 r hr)).2⟩
def wrE (m : Ms) : Int := if msgErr m ≠ 0 then msgErr m else if 512 < (msgB m).length then 2 else 0
def wrS (m : Ms) : ByteArray := if wrE m = 0 then ⟨(msgB m).toArray⟩ else ⟨#[]⟩
theorem wr_bad {m : Ms} (h : msgErr m ≠ 0) : wrE m = msgErr m ∧ wrS m = ⟨#[]⟩ := by
 have e : wrE m = msgErr m := if_pos h
 refine ⟨e, ?_⟩
 unfold wrS; rw [e, if_neg h]
theorem wr_long {m : Ms} (h : msgErr m = 0) (h2 : 512 < (msgB m).length) : wrE m = 2 ∧ wrS m = ⟨#[]⟩ := by
 have e : wrE m = 2 := by unfold wrE; rw [if_neg (by simpa using h), if_pos h2]
 refine ⟨e, ?_⟩
 unfold wrS; rw [e]; rfl
theorem wr_ok {m : Ms} (h : msgErr m = 0) (h2 : ¬ 512 < (msgB m).length) : wrE m = 0 ∧ wrS m = ⟨(msgB m).toArray⟩ := by
 have e : wrE m = 0 := by unfold wrE; rw [if_neg (by simpa using h), if_neg h2]
 refine ⟨e, ?_⟩
 unfold wrS; rw [e]; rfl
end Pl
theorem Write_fun (m : Ms) (hm : m.Sized) (hl : m.rs.length ≤ 9223372036854775807) : Fun Tryd.prog 23 [.c (.agg m.row)] [.c (.v (.string (wrS m))), .c (.v (.int .i64 (wrE m)))] := by
 have hC := check_fun m hm hl
 by_cases he : msgErr m = 0
 ·have hW := write_fun m (goodM_of he).1
  have hs : (⟨(msgB m).toArray⟩ : ByteArray).size = (msgB m).length := by show (msgB m).toArray.size = _; simp
  rw [he] at hC
  refine fun_x ck_dns_Write rfl ?_
  (refine goI ?_; repeat (intro gg; refine goI ?_))
  (refine .inl ⟨_, _, false, [], aI, hC, nobor, nI, ?_⟩)
  (refine goI ?_; repeat (intro gg; refine goI ?_))
  (refine .inl ⟨_, _, false, [], aI, hW, nobor, nI, ?_⟩)
  (refine goI ?_; repeat (intro gg; refine goI ?_))
  refine bIf_of (fun k0 => ?_) (fun k0 => ?_) <;> rw [k0]
  ·have k1 := of_decide_eq_true k0
   rw [hs] at k1
   have h2 : 512 < (msgB m).length := by omega
   rw [(wr_long he h2).1, (wr_long he h2).2]
   (refine goI ?_; repeat (intro gg; refine goI ?_))
   (exact ⟨[], aI⟩)
  ·have k1 := of_decide_eq_false k0
   rw [hs] at k1
   have h2 : ¬ 512 < (msgB m).length := by omega
   rw [(wr_ok he h2).1, (wr_ok he h2).2]
   (refine goI ?_; repeat (intro gg; refine goI ?_))
   (exact ⟨[], aI⟩)
 ·refine fun_x ck_dns_Write rfl ?_
  (refine goI ?_; repeat (intro gg; refine goI ?_))
  (refine .inl ⟨_, _, false, [], aI, hC, nobor, nI, ?_⟩)
  (refine goI ?_; repeat (intro gg; refine goI ?_))
  rw [show (msgErr m != 0) = true from bne_iff_ne.2 he]
  rw [(wr_bad he).1, (wr_bad he).2]
  (refine goI ?_; repeat (intro gg; refine goI ?_))
  (exact ⟨[], aI⟩)
end Go.Proofs.YtjhdlcmecbngkaaDoor
namespace Go.Proofs.YtjhdlcmecbngkaaDoor
open Go Go.RowKit Pl
set_option linter.unusedVariables false
namespace Pl
theorem bext {a b : ByteArray} (h : a.data.toList = b.data.toList) : a = b := by
 obtain ⟨a⟩ := a
 obtain ⟨b⟩ := b
 congr 1
 exact Array.ext' h
theorem ix_get {l : List UInt8} {c : UInt8} {m : Nat} (h : Lib.indexByte l c = (m : Int)) : l[m]? = some c := by
 induction l generalizing m with
 | nil => simp [Lib.indexByte] at h
 | cons b l ih =>
  unfold Lib.indexByte at h
  by_cases hb : (b == c) = true
  ·rw [if_pos hb] at h
   have : b = c := by simpa using hb
   obtain rfl : m = 0 := by omega
   simp [this]
  ·rw [if_neg hb] at h
   have hg := Lib.indexByte_ge l c
   split at h
   ·omega
   ·rename_i h1
    have h1' : ¬ Lib.indexByte l c = -1 := by simpa using h1
    obtain ⟨k, hk⟩ : ∃ k : Nat, Lib.indexByte l c = (k : Int) := ⟨(Lib.indexByte l c).toNat, by omega⟩
    obtain rfl : m = k + 1 := by omega
    simpa using ih hk
theorem rest_split (c : UInt8) (s : ByteArray) {k : Nat} (h : k < cnb s c) : (rest c s k).data.toList = (piece c s k).data.toList ++ [c] ++ (rest c s (k + 1)).data.toList := by
 obtain ⟨m, h1, h2, h3, h4⟩ := rest_at c s h
 have hm := ix_get (l := (rest c s k).data.toList) (c := c) (m := m) h1
 have hlen : (rest c s k).data.toList.length = (rest c s k).size := by simp
 rw [h3, h4, extract_list, extract_list, List.drop_zero]
 rw [List.take_of_length_le (i := (rest c s k).size) (by omega)]
 have hd : (rest c s k).data.toList.drop m = c :: (rest c s k).data.toList.drop (m + 1) := by
  rw [List.drop_eq_getElem_cons (by omega)]
  congr 1
  rw [List.getElem?_eq_getElem (by omega)] at hm
  exact Option.some.inj hm
 rw [List.append_assoc]
 show _ = List.take m _ ++ (c :: List.drop (m + 1) _)
 rw [← hd, List.take_append_drop]
theorem join_from (s : ByteArray) (c : UInt8) : ∀ (j k : Nat), k + j = cnb s c → Lib.join ((((List.range' k j).map (piece c s)) ++ [rest c s (cnb s c)]).map (·.data.toList)) [c] = (rest c s k).data.toList := by
 intro j
 induction j with
 | zero =>
  intro k hk
  have hk : k = cnb s c := by omega
  rw [hk]; simp [Lib.join]
 | succ j ih =>
  intro k hk
  have h1 := ih (k + 1) (by omega)
  rw [List.range'_succ, List.map_cons, List.cons_append, List.map_cons]
  rw [rest_split c s (k := k) (by omega), ← h1]
  obtain ⟨x, xs, hx⟩ : ∃ x xs, (((List.range' (k + 1) j).map (piece c s)) ++ [rest c s (cnb s c)]).map (·.data.toList) = x :: xs := by
   cases j <;> simp [List.range'_succ]
  rw [hx]
  simp [Lib.join]
theorem join_labels (s : ByteArray) : joinB ⟨#[46]⟩ (labelsP s) = s := by
 apply bext
 unfold labelsP
 split
 ·rename_i h
  have := toList_inj (beq_iff_eq.1 h)
  subst this
  rfl
 ·have h := join_from s 46 (cnb s 46) 0 (by omega)
  rw [← List.range_eq_range'] at h
  exact h
def At (s : ByteArray) (a : Nat) (l : List UInt8) : Prop := ∃ pre post, s.data.toList = pre ++ l ++ post ∧ pre.length = a
theorem At.app {s : ByteArray} {a : Nat} {l l' : List UInt8} (h : At s a (l ++ l')) : At s a l ∧ At s (a + l.length) l' := by
 obtain ⟨pre, post, h1, h2⟩ := h
 exact ⟨⟨pre, l' ++ post, by rw [h1]; simp, h2⟩, ⟨pre ++ l, post, by rw [h1]; simp, by simp [h2]⟩⟩
theorem At.le {s : ByteArray} {a : Nat} {l : List UInt8} (h : At s a l) : a + l.length ≤ s.size := by
 obtain ⟨pre, post, h1, h2⟩ := h
 have := congrArg List.length h1
 simp at this; omega
theorem At.byte {s : ByteArray} {a : Nat} {c : UInt8} (h : At s a [c]) : byteP s a = some (c.toNat, a + 1) := by
 obtain ⟨pre, post, h1, h2⟩ := h
 unfold byteP
 have : s.data.toList[a]? = some c := by rw [h1]; subst h2; simp
 have hlt : a < s.size := by
  have := (List.getElem?_eq_some_iff.1 this).1
  simpa using this
 have e : s[a]? = some c := by
  rw [getElem?_pos s a hlt]
  congr 1
  have := (List.getElem?_eq_some_iff.1 this).2
  rw [Array.getElem_toList] at this
  exact this
 rw [e]; rfl
theorem At.two {s : ByteArray} {a : Nat} {n : Int} (h : At s a (twosB [n])) (h0 : 0 ≤ n) (h1 : n ≤ 65535) : twoP s a = some (n.toNat, a + 2) := by
 have e : twosB [n] = [UInt8.ofNat (n / 256).toNat] ++ [UInt8.ofNat (n % 256).toNat] := rfl
 rw [e] at h
 have b1 := h.app.1.byte
 have b2 := h.app.2.byte
 unfold twoP
 rw [b1, Option.bind_some]
 simp only [List.length_cons, List.length_nil] at b2 ⊢
 rw [b2, Option.bind_some]
 have e1 : (UInt8.ofNat (n / 256).toNat).toNat = (n / 256).toNat := by rw [UInt8.toNat_ofNat']; exact Nat.mod_eq_of_lt (by omega)
 have e2 : (UInt8.ofNat (n % 256).toNat).toNat = (n % 256).toNat := by rw [UInt8.toNat_ofNat']; exact Nat.mod_eq_of_lt (by omega)
 rw [e1, e2]
 congr 2
 omega
theorem twosB_cons (n : Int) (ns : List Int) : twosB (n :: ns) = twosB [n] ++ twosB ns := by simp [twosB]
theorem At.four {s : ByteArray} {a : Nat} {n : Int} (h : At s a (twosB [n / 65536, n % 65536])) (h0 : 0 ≤ n) (h1 : n ≤ 4294967295) : fourP s a = some (n.toNat, a + 4) := by
 rw [twosB_cons] at h
 have b1 := h.app.1.two (by omega) (by omega)
 have b2 := h.app.2.two (by omega) (by omega)
 rw [twosB_len] at b2
 unfold fourP
 rw [b1, Option.bind_some]
 simp only [List.length_cons, List.length_nil] at b2 ⊢
 rw [b2, Option.bind_some]
 congr 2
 omega
theorem At.bytes {s : ByteArray} {a : Nat} {x : ByteArray} (h : At s a x.data.toList) : bytesP s a x.size = some (x, a + x.size) := by
 have hx : x.data.toList.length = x.size := by simp
 have := h.le
 unfold bytesP
 rw [if_pos (by omega)]
 congr 2
 apply bext
 rw [extract_list]
 obtain ⟨pre, post, h1, h2⟩ := h
 rw [h1, ← hx, List.append_assoc]
 subst h2
 rw [List.take_append, List.drop_append]
 simp
theorem okB_small {c : UInt8} (h : okB c.toNat = true) : smallU c = c := by
 unfold smallU
 rw [if_neg]
 intro ⟨h1, h2⟩
 unfold okB at h
 simp at h
 omega
theorem lab_small {x : ByteArray} (h : lab x.data.toList = true) : smallB x = x := by
 apply bext
 unfold smallB
 show x.data.toList.map smallU = x.data.toList
 have h2 : ∀ c ∈ x.data.toList, okB c.toNat = true := by
  unfold lab at h
  exact fun c hc => List.all_eq_true.1 (Bool.and_eq_true_iff.1 h).1 c hc
 have : x.data.toList.map smallU = x.data.toList.map id := List.map_congr_left fun c hc => okB_small (h2 c hc)
 rw [this, List.map_id]
theorem lab_sz {x : ByteArray} (h : lab x.data.toList = true) : 1 ≤ x.size ∧ x.size ≤ 30 := by
 unfold lab at h
 have := of_decide_eq_true (Bool.and_eq_true_iff.1 h).2
 have e : x.data.toList.length = x.size := by simp
 omega
theorem At.nameR {s : ByteArray} : ∀ (ls l0 : List ByteArray) (a f fr : Nat), At s a (labsB ls ++ [0]) → (∀ x ∈ ls, lab x.data.toList = true) → l0.length + ls.length ≤ 8 → ls.length < f →
  nameR s f a l0 none fr = some (l0 ++ ls, a + (labsB ls).length + 1) := by
 intro ls
 induction ls with
 | nil =>
  intro l0 a f fr h hl h8 hf
  obtain ⟨f, rfl⟩ : ∃ f', f = f' + 1 := ⟨f - 1, by simp at hf; omega⟩
  have b := At.byte (c := 0) h
  rw [Pl.nameR, if_pos (by simpa using h8), b, Option.bind_some]
  simp only [List.append_nil]
  rw [if_pos (by decide)]
  rfl
 | cons x ls ih =>
  intro l0 a f fr h hl h8 hf
  obtain ⟨f, rfl⟩ : ∃ f', f = f' + 1 := ⟨f - 1, by omega⟩
  have hx := hl x (by simp)
  have hz := lab_sz hx
  have e : labsB (x :: ls) ++ [0] = [UInt8.ofNat x.size] ++ (x.data.toList ++ (labsB ls ++ [0])) := by simp [labsB, labB]
  rw [e] at h
  have b1 := h.app.1.byte
  have h2 := h.app.2
  rw [show [UInt8.ofNat x.size].length = 1 from rfl] at h2
  have b2 := h2.app.1.bytes
  have h3 := h2.app.2
  have el : x.data.toList.length = x.size := by simp
  rw [el] at h3
  have ez : (UInt8.ofNat x.size).toNat = x.size := by rw [UInt8.toNat_ofNat']; exact Nat.mod_eq_of_lt (by omega)
  rw [ez] at b1
  simp only [List.length_cons] at h8 hf
  rw [Pl.nameR, if_pos (by omega), b1, Option.bind_some]
  simp only
  rw [if_neg (by omega), if_neg (by omega), b2, Option.bind_some]
  simp only
  rw [lab_small hx, if_pos hx, ih (l0 ++ [x]) (a + 1 + x.size) f fr h3 (fun y hy => hl y (by simp [hy])) (by simp; omega) (by omega)]
  have : (labsB (x :: ls)).length = 1 + x.size + (labsB ls).length := by simp [labsB, labB]; omega
  rw [this]
  simp only [List.append_assoc, List.cons_append, List.nil_append]
  congr 2
  omega
theorem nameErr_ok {nm : ByteArray} (h : nameErr nm = 0) : (∀ x ∈ labelsP nm, lab x.data.toList = true) ∧ (labelsP nm).length ≤ 8 ∧ nm.size ≤ 120 := by
 unfold nameErr at h
 split at h
 ·cases h
 ·rename_i h1
  split at h
  ·cases h
  ·split at h
   ·cases h
   ·refine ⟨fun x hx => ?_, by omega, by omega⟩
    have h2 : (labelsP nm).any (fun x => !lab x.data.toList) = false := by simpa using h1
    have := List.any_eq_false.1 h2 x hx
    simpa using this
theorem At.name {s : ByteArray} {a : Nat} {nm : ByteArray} (h : At s a (nameB nm)) (hn : nameErr nm = 0) : nameP s a = some (nm, a + (nameB nm).length) := by
 obtain ⟨h1, h2, h3⟩ := nameErr_ok hn
 unfold nameP
 rw [At.nameR (labelsP nm) [] a (a + 10) a h h1 (by simpa using h2) (by omega)]
 show some (joinB ⟨#[46]⟩ ([] ++ labelsP nm), _) = _
 rw [List.nil_append, join_labels]
 simp [nameB]
 omega
theorem At.byteN {s : ByteArray} {a n : Nat} {l : List UInt8} (h : At s a (UInt8.ofNat n :: l)) (hn : n < 256) : byteP s a = some (n, a + 1) ∧ At s (a + 1) l := by
 have h' : At s a ([UInt8.ofNat n] ++ l) := h
 refine ⟨?_, h'.app.2⟩
 rw [h'.app.1.byte, UInt8.toNat_ofNat', Nat.mod_eq_of_lt (by omega)]
theorem em_eq {x : ByteArray} (h : em x = true) : x = ⟨#[]⟩ := toList_inj (beq_iff_eq.1 h)
theorem un_1 {nm tx tg : ByteArray} {ls ad pt : Int} (h : Rr.un ⟨nm, 1, ls, ad, tx, pt, tg⟩ = true) : tx = ⟨#[]⟩ ∧ pt = 0 ∧ tg = ⟨#[]⟩ := by
 unfold Rr.un at h
 simp at h
 exact ⟨em_eq h.1, h.2.1, em_eq h.2.2⟩
theorem un_16 {nm tx tg : ByteArray} {ls ad pt : Int} (h : Rr.un ⟨nm, 16, ls, ad, tx, pt, tg⟩ = true) : ad = 0 ∧ pt = 0 ∧ tg = ⟨#[]⟩ := by
 unfold Rr.un at h
 simp at h
 exact ⟨h.1, h.2.1, em_eq h.2.2⟩
theorem un_33 {nm tx tg : ByteArray} {ls ad pt : Int} (h : Rr.un ⟨nm, 33, ls, ad, tx, pt, tg⟩ = true) : ad = 0 ∧ tx = ⟨#[]⟩ := by
 unfold Rr.un at h
 simp at h
 exact ⟨h.1, em_eq h.2⟩
theorem At.body {s : ByteArray} {a : Nat} {r : Rr} (h : At s a (inB r)) (hg : r.Good) (hu : r.un = true) : bodyP s r.ty.toNat a = some ((r.ad.toNat, r.tx, r.pt.toNat, r.tg), a + (inB r).length) := by
 obtain ⟨nm, ty, ls, ad, tx, pt, tg⟩ := r
 obtain ⟨h1, h2, h3, h4, h5, h6, h7, h8, h9⟩ := hg
 simp only at h1 h2 h3 h4 h5 h6 h7 h8 h9
 rcases h3 with rfl | rfl | rfl
 ·obtain ⟨rfl, rfl, rfl⟩ := un_1 hu
  have e : inB ⟨nm, 1, ls, ad, ⟨#[]⟩, 0, ⟨#[]⟩⟩ = twosB [ad / 65536, ad % 65536] := rfl
  rw [e] at h ⊢
  have b := h.four h5.1 h5.2
  show bodyP s 1 a = some ((ad.toNat, ⟨#[]⟩, 0, ⟨#[]⟩), _)
  unfold bodyP
  rw [if_pos rfl, b, twosB_len]
  rfl
 ·obtain ⟨rfl, rfl, rfl⟩ := un_16 hu
  have e : inB ⟨nm, 16, ls, 0, tx, 0, ⟨#[]⟩⟩ = UInt8.ofNat tx.size :: tx.data.toList := rfl
  rw [e] at h ⊢
  obtain ⟨b1, g1⟩ := h.byteN (by omega)
  have b2 := g1.bytes
  have hx : tx.data.toList.length = tx.size := by simp
  show bodyP s 16 a = some ((0, tx, 0, ⟨#[]⟩), _)
  unfold bodyP
  rw [if_neg (by decide), if_pos rfl, b1, Option.bind_some]
  simp only
  rw [b2, Option.bind_some]
  simp only [List.length_cons, hx]
  congr 2
  omega
 ·obtain ⟨rfl, rfl⟩ := un_33 hu
  have e : inB ⟨nm, 33, ls, 0, ⟨#[]⟩, pt, tg⟩ = twosB [0] ++ (twosB [0] ++ (twosB [pt] ++ nameB tg)) := by
   show twosB [0, 0, pt] ++ nameB tg = _
   simp [twosB]
  rw [e] at h ⊢
  have b1 := h.app.1.two (by omega) (by omega)
  have g1 := h.app.2
  rw [twosB_len] at g1
  have b2 := g1.app.1.two (by omega) (by omega)
  have g2 := g1.app.2
  rw [twosB_len] at g2
  have b3 := g2.app.1.two h6.1 h6.2
  have g3 := g2.app.2
  rw [twosB_len] at g3
  have b4 := g3.name h8
  simp only [List.length_cons, List.length_nil] at b2 b3 b4
  show bodyP s 33 a = some ((0, ⟨#[]⟩, pt.toNat, tg), _)
  unfold bodyP
  rw [if_neg (by decide), if_neg (by decide), if_pos rfl, b1, Option.bind_some]
  simp only
  rw [if_pos (by decide), b2, Option.bind_some]
  simp only
  rw [if_pos (by decide), b3, Option.bind_some]
  simp only
  rw [b4, Option.bind_some]
  simp only [List.length_append, twosB_len, List.length_cons, List.length_nil]
  congr 2
  omega
theorem recB_eq (r : Rr) : recB r = nameB r.nm ++ (twosB [r.ty] ++ (twosB [1] ++ (twosB [r.ls / 65536, r.ls % 65536] ++ (twosB [((inB r).length : Int)] ++ inB r)))) := by
 unfold recB
 rw [twosB_cons r.ty, twosB_cons 1]
 simp only [List.append_assoc]
theorem At.rec_ {s : ByteArray} {a : Nat} {r : Rr} (h : At s a (recB r)) (hg : r.Good) (hu : r.un = true) : recP s a = some (r, a + (recB r).length) := by
 have hin := inB_len hg
 have hle := h.le
 rw [recB_eq] at h hle ⊢
 have b1 := h.app.1.name hg.nm
 have g1 := h.app.2
 have hty : 0 ≤ r.ty ∧ r.ty ≤ 65535 := by rcases hg.ty with q | q | q <;> omega
 have b2 := g1.app.1.two hty.1 hty.2
 have g2 := g1.app.2
 rw [twosB_len] at g2
 have b3 := g2.app.1.two (by omega) (by omega)
 have g3 := g2.app.2
 rw [twosB_len] at g3
 have b4 := g3.app.1.four hg.ls.1 (by have := hg.ls.2; omega)
 have g4 := g3.app.2
 rw [twosB_len] at g4
 have b5 := g4.app.1.two (by omega) (by omega)
 have g5 := g4.app.2
 rw [twosB_len] at g5
 have b6 := g5.body hg hu
 simp only [List.length_append, twosB_len, List.length_cons, List.length_nil] at b2 b3 b4 b5 b6 hle ⊢
 unfold recP
 rw [b1, Option.bind_some]
 simp only
 rw [b2, Option.bind_some]
 simp only
 rw [b3, Option.bind_some]
 simp only
 rw [if_pos (by decide)]
 have e4 : a + (nameB r.nm).length + 2 * 1 + 2 = a + (nameB r.nm).length + 2 * (0 + 1) + 2 * (0 + 1) := by omega
 simp only [Nat.zero_add, Nat.mul_one] at *
 rw [b4, Option.bind_some]
 simp only
 rw [show a + (nameB r.nm).length + 2 + 2 + 4 = a + (nameB r.nm).length + 2 + 2 + 2 * (1 + 1) by omega, b5, Option.bind_some]
 simp only
 rw [if_pos (by omega), b6, Option.bind_some]
 simp only
 rw [if_pos (by omega)]
 obtain ⟨nm, ty, ls, ad, tx, pt, tg⟩ := r
 have q1 := hg.ls.1
 have q2 := hg.ad.1
 have q3 := hg.pt.1
 simp only at q1 q2 q3 hty
 simp only [Option.some.injEq, Prod.mk.injEq, Rr.mk.injEq, true_and, and_true]
 omega
theorem At.recs {s : ByteArray} : ∀ (l : List Rr) (a : Nat), At s a (recsB l) → (∀ r ∈ l, r.Good ∧ r.un = true) → recsP s l.length a = some (l, a + (recsB l).length)
 | [], a, _, _ => rfl
 | r :: l, a, h, hg => by
  have e : recsB (r :: l) = recB r ++ recsB l := rfl
  rw [e] at h ⊢
  have b1 := h.app.1.rec_ (hg r (by simp)).1 (hg r (by simp)).2
  have b2 := At.recs l _ h.app.2 fun x hx => hg x (by simp [hx])
  show recsP s (l.length + 1) a = _
  rw [recsP, b1, Option.bind_some]
  simp only
  rw [b2, Option.bind_some]
  simp only [List.length_append]
  congr 2
  omega
theorem fl_good (m : Ms) (h : 0 ≤ m.co ∧ m.co ≤ 15) : (flagsM m / 256).toNat = (if m.an then 128 else 0) + (if m.ct then 2 else 0) ∧ (flagsM m % 256).toNat = m.co.toNat := by
 unfold flagsM
 cases m.an <;> cases m.ct <;> simp <;> omega
theorem msgB_split (m : Ms) : msgB m = twosB [m.id] ++ (UInt8.ofNat (flagsM m / 256).toNat :: UInt8.ofNat (flagsM m % 256).toNat :: (twosB [1] ++ (twosB [(m.rs.length : Int)] ++ (twosB [0] ++ (twosB [0] ++ (nameB m.qn ++ (twosB [m.qt] ++ (twosB [1] ++ recsB m.rs)))))))) := by
 unfold msgB
 rw [twosB_cons m.id, twosB_cons (flagsM m), twosB_cons 1, twosB_cons (m.rs.length : Int), twosB_cons 0, twosB_cons m.qt]
 rw [show twosB [flagsM m] = [UInt8.ofNat (flagsM m / 256).toNat, UInt8.ofNat (flagsM m % 256).toNat] from rfl]
 simp only [List.append_assoc, List.cons_append, List.nil_append]
theorem msg_back {m : Ms} (hm : m.Good) (hu : ∀ r ∈ m.rs, r.un = true) : msgP ⟨(msgB m).toArray⟩ = some m := by
 have h : At ⟨(msgB m).toArray⟩ 0 (msgB m) := ⟨[], [], by simp, rfl⟩
 have hs : (⟨(msgB m).toArray⟩ : ByteArray).size = (msgB m).length := by show (msgB m).toArray.size = _; simp
 obtain ⟨f1, f2⟩ := fl_good m hm.co
 generalize hS : (⟨(msgB m).toArray⟩ : ByteArray) = s at *
 have hlen : (msgB m).length = 12 + (nameB m.qn).length + 4 + (recsB m.rs).length := by
  rw [msgB_split]
  simp only [List.length_append, List.length_cons, twosB_len, List.length_nil]
  omega
 rw [hlen] at hs
 rw [msgB_split] at h
 have hty : 0 ≤ m.qt ∧ m.qt ≤ 65535 := by rcases hm.qt with q | q | q <;> omega
 have hln := hm.len
 have hco := hm.co
 have b1 := h.app.1.two hm.id.1 hm.id.2
 have g1 := h.app.2
 rw [twosB_len] at g1
 have hA : (flagsM m / 256).toNat < 256 := by rw [f1]; cases m.an <;> cases m.ct <;> decide
 obtain ⟨b2, g2⟩ := g1.byteN hA
 obtain ⟨b3, g3⟩ := g2.byteN (by rw [f2]; omega)
 have b4 := g3.app.1.two (by omega) (by omega)
 have g4 := g3.app.2
 rw [twosB_len] at g4
 have b5 := g4.app.1.two (by omega) (by omega)
 have g5 := g4.app.2
 rw [twosB_len] at g5
 have b6 := g5.app.1.two (by omega) (by omega)
 have g6 := g5.app.2
 rw [twosB_len] at g6
 have b7 := g6.app.1.two (by omega) (by omega)
 have g7 := g6.app.2
 rw [twosB_len] at g7
 have b8 := g7.app.1.name hm.qn
 have g8 := g7.app.2
 have b9 := g8.app.1.two hty.1 hty.2
 have g9 := g8.app.2
 rw [twosB_len] at g9
 have b10 := g9.app.1.two (by omega) (by omega)
 have g10 := g9.app.2
 rw [twosB_len] at g10
 have b11 := At.recs m.rs _ g10 fun r hr => ⟨hm.rs r hr, hu r hr⟩
 simp only [List.length_cons, List.length_nil, Nat.zero_add, Nat.mul_one] at b1 b2 b3 b4 b5 b6 b7 b8 b9 b10 b11
 unfold msgP
 rw [b1, Option.bind_some]
 simp only [Nat.zero_add]
 rw [b2, Option.bind_some]
 simp only
 rw [b3, Option.bind_some]
 simp only
 rw [f1, f2, if_pos (by cases m.an <;> cases m.ct <;> simp [okFl] <;> omega), b4, Option.bind_some]
 simp only
 rw [if_pos (by decide), b5, Option.bind_some]
 simp only
 rw [if_pos (by omega), b6, Option.bind_some]
 simp only
 rw [if_pos (by decide), b7, Option.bind_some]
 simp only
 rw [if_pos (by decide), b8, Option.bind_some]
 simp only
 rw [b9, Option.bind_some]
 simp only
 rw [b10, Option.bind_some]
 simp only
 rw [if_pos (by decide), Int.toNat_natCast, b11, Option.bind_some]
 simp only
 rw [if_pos (by omega)]
 obtain ⟨id, an, ct, co, qn, qt, rs⟩ := m
 have q1 := hm.id.1
 simp only at q1 hco hty
 simp only [Option.some.injEq, Ms.mk.injEq, and_true, true_and]
 refine ⟨by omega, ?_, ?_, by omega, by omega⟩
 ·cases an <;> cases ct <;> simp
 ·cases an <;> cases ct <;> simp
end Pl
end Go.Proofs.YtjhdlcmecbngkaaDoor
namespace Go.Proofs.YtjhdlcmecbngkaaDoor
open Go Go.RowKit Pl
set_option linter.unusedVariables false
namespace Pl
def zeroMs : Ms := ⟨0, false, false, 0, ⟨#[]⟩, 0, []⟩
def rdP (s : ByteArray) : Ms × Int := if 512 < s.size then (zeroMs, 2) else match msgP s with
 | none => (zeroMs, 1)
 | some m => if msgErr m = 0 then (m, 0) else (zeroMs, 1)
end Pl
theorem Fr.out {L : Nat → Prop} {a b c : World} (h : Fr (fun _ => False) a b) (k : Fr L b c) (hl : ∀ i, L i → a.heap.size ≤ i) : Fr (fun _ => False) a c :=
 ⟨k.os.trans h.os, k.tape.trans h.tape, k.output.trans h.output, Nat.le_trans h.size k.size, fun i hi _ => (k.block i (Nat.lt_of_lt_of_le hi h.size) (fun hL => by have := hl i hL; omega)).trans (h.block i hi id)⟩
theorem Fr.blk {L : Nat → Prop} {a b : World} {g : Nat} {t : TypeId} {cs : Array Value} (h : Fr L a b) (hb : Blk a g t cs) (hl : ¬ L g) : Blk b g t cs := (h.block g hb.lt hl).trans hb
def msV (m : Ms) (y : Value) : Value := .agg #[.int .i64 m.id, .bool m.an, .bool m.ct, .int .i64 m.co, .string m.qn, .int .i64 m.qt, y]
theorem rv_ms {w : World} {R : Nat → Prop} {m : Ms} {y : Value} (h : RV w R noG (.sl false (m.rs.map Rr.row)) y) : RV w R noG (.agg m.row) (msV m y) := by
 refine .agg m.row [.int .i64 m.id, .bool m.an, .bool m.ct, .int .i64 m.co, .string m.qn, .int .i64 m.qt, y] rfl fun i u x hu hx => ?_
 unfold Ms.row at hu
 rcases i with _ | _ | _ | _ | _ | _ | _ | i
 all_goals first
  | (cases hu; cases hx; exact .v _)
  | (cases hu; cases hx; exact h)
  | (simp at hu)
theorem ms_rv {w : World} {R : Nat → Prop} {m : Ms} {x : Value} (h : RV w R noG (.agg m.row) x) : ∃ y, x = msV m y ∧ RV w R noG (.sl false (m.rs.map Rr.row)) y := by
 cases h with
 | agg cs xs hl h =>
  obtain ⟨x0, x1, x2, x3, x4, x5, x6, rfl⟩ : ∃ x0 x1 x2 x3 x4 x5 x6, xs = [x0, x1, x2, x3, x4, x5, x6] := by
   rcases xs with _ | ⟨x0, _ | ⟨x1, _ | ⟨x2, _ | ⟨x3, _ | ⟨x4, _ | ⟨x5, _ | ⟨x6, _ | ⟨x7, xs⟩⟩⟩⟩⟩⟩⟩⟩ <;> simp [Ms.row] at hl
   exact ⟨_, _, _, _, _, _, _, rfl⟩
  have h0 := rv_v (h 0 _ _ rfl rfl)
  have h1 := rv_v (h 1 _ _ rfl rfl)
  have h2 := rv_v (h 2 _ _ rfl rfl)
  have h3 := rv_v (h 3 _ _ rfl rfl)
  have h4 := rv_v (h 4 _ _ rfl rfl)
  have h5 := rv_v (h 5 _ _ rfl rfl)
  subst h0 h1 h2 h3 h4 h5
  exact ⟨x6, rfl, h 6 _ _ rfl rfl⟩
theorem sl_slice {w : World} {R : Nat → Prop} {G : Nat → Option Loc} {cl : Bool} {rows : List (List V)} {x : Value} (h : RV w R G (.sl cl rows) x) : ∃ a k c, x = .slice a k c := by
 generalize e : V.sl cl rows = u at h
 cases h with
 | nil => exact ⟨_, _, _, rfl⟩
 | sl => exact ⟨_, _, _, rfl⟩
 | _ => cases e
theorem pars_one {w : World} {R : Nat → Prop} {u : V} {x : Value} (h : RV w R noG u x) : Pars w R [.c u] [x] := by
 refine ⟨rfl, fun i p y h1 h2 => ?_, fun i j T sz rows T' sz' rows' x y b hij h1 => ?_, fun b h => ?_⟩
 ·rcases i with _ | i
  ·cases h1; cases h2; exact h
  ·simp at h1
 ·rcases i with _ | i <;> simp at h1
 ·obtain ⟨i, T, sz, rows, x, h1, _⟩ := h
  rcases i with _ | i <;> simp at h1
theorem no_blk1 {u : V} {x : Value} {b : Nat} (h : ParBlk [.c u] [x] b) : False := by
 obtain ⟨i, T, sz, rows, x, h1, _⟩ := h
 rcases i with _ | i <;> simp at h1
theorem rv_zero (w : World) (R : Nat → Prop) : RV w R noG (.agg zeroMs.row) (.agg zeroM) := rv_ms (m := zeroMs) (y := .slice none 0 0) (.nil false none 0 (by simp))
def RdPost (R : Nat → Prop) (w : World) (m : Ms) (er : Int) (e : Ending) (w' : World) : Prop :=
 ∃ (x : Value) (R' : Nat → Prop), e = .returned (.tuple #[x, .int .i64 er]) ∧ Fr (fun _ => False) w w' ∧ (∀ b, R b → R' b) ∧ (∀ b, R' b → R b ∨ (b < w'.heap.size ∧ w.heap.size ≤ b)) ∧ RV w' R' noG (.agg m.row) x
theorem rd_pars {s : ByteArray} {W : World} {R : Nat → Prop} {n : Nat} {cs : List Par} (hb : Blk W n rdT #[.string s, .int .i64 0]) (hn : ¬ R n) : ParsM W R [.mn rdT (rdC s 0) cs] [.pointer (some ⟨n, 0, none⟩)] (fun k => k = n) := by
 have hp : Pars W R (rdC s 0) [.string s, .int .i64 0] := by
  refine ⟨rfl, fun i p x h1 h2 => ?_, fun i j T sz rows T' sz' rows' x y b hij h1 => ?_, fun b h => ?_⟩
  ·rcases i with _ | _ | i
   ·cases h1; cases h2; exact .v _
   ·cases h1; cases h2; exact .v _
   ·simp [rdC, rdZ] at h1
  ·rcases i with _ | _ | i <;> simp [rdC, rdZ] at h1
  ·obtain ⟨i, T, sz, rows, x, h1, _⟩ := h
   rcases i with _ | _ | i <;> simp [rdC, rdZ] at h1
 have hnb : ∀ k, ¬ ParBlk (rdC s 0) [.string s, .int .i64 0] k := fun k h => by
  obtain ⟨i, T, sz, rows, x, h1, _⟩ := h
  rcases i with _ | _ | i <;> simp [rdC, rdZ] at h1
 refine ⟨fun k => k = n, fun _ => False, ⟨n, [.string s, .int .i64 0], rfl, by simp [rdC, rdZ], ⟨rfl, .inr ⟨n, 1, _, rfl, Nat.zero_le _, hb, by simp, by decide, rfl, rfl⟩⟩, hp, by simp [Value.oneCell'], hnb n, fun k => ⟨.inl, fun h => h.elim id (fun h => absurd h (hnb k))⟩⟩, fun _ h => h, fun b h => ⟨id, by rw [h]; exact hn⟩, fun b => ⟨.inl, fun h => h.elim id False.elim⟩⟩
set_option maxRecDepth 100000 in
set_option maxHeartbeats 2000000 in
theorem read_long (s : ByteArray) (w : World) (h : (512 : Int) < (s.size : Int)) (R : Nat → Prop) (hlt : ∀ b, R b → b < w.heap.size) : Calls Tryd.prog 26 #[.string s] w (RdPost R w zeroMs 2) := by
 have hmf : ∀ (fn : Fn) (first cap : Array Value) (w : World), (Instr.makeFunc fn first cap).run Tryd.prog w = .ok (.func fn first cap) w := fun _ _ _ _ => rfl
 go_enter_defers Tryd.func26, Tryd.ntmps26
 go_wp2
 have B0 := Blk.new w 40 zeroM
 have B1 := Blk.new (w.alloc (.cells zeroM 40)) 24 #[.int .i64 2]
 have B2 := B0.alloc (.cells #[.int .i64 2] 24)
 simp [bodyPostD, Leaves, settle, results, Tryd.results26, go_sem]
 refine ⟨.agg zeroM, R, rfl, ?_, fun b h => h, fun b h => .inl h, rv_zero _ _⟩
 exact ((Fr.refl _ w).alloc_ _).alloc_ _
set_option maxRecDepth 100000 in
set_option maxHeartbeats 2000000 in
theorem read_die (s : ByteArray) (w : World) (h : ¬ (512 : Int) < (s.size : Int)) (R : Nat → Prop) (hlt : ∀ b, R b → b < w.heap.size) (hd : FunDie Tryd.prog 51 [.mn rdT (rdC s 0) (rdC s 0)] wrongV) : Calls Tryd.prog 26 #[.string s] w (RdPost R w zeroMs 1) := by
 have hmf : ∀ (fn : Fn) (first cap : Array Value) (w : World), (Instr.makeFunc fn first cap).run Tryd.prog w = .ok (.func fn first cap) w := fun _ _ _ _ => rfl
 go_enter_defers Tryd.func26, Tryd.ntmps26
 go_wp2_with fail
 have B0 := Blk.new w 40 zeroM
 have B1 := Blk.new_ (w.alloc (.cells zeroM 40)) 24 #[.int .i64 0] (g := w.heap.size + 1) (by simp [World.alloc, -World.alloc_eq])
 have B0' := B0.alloc (.cells #[.int .i64 0] 24)
 have B2 := Blk.new_ ((w.alloc (.cells zeroM 40)).alloc (.cells #[.int .i64 0] 24)) rdT #[.string s, .int .i64 0] (g := w.heap.size + 1 + 1) (by simp [World.alloc, -World.alloc_eq])
 have B0'' := B0'.alloc (.cells #[.string s, .int .i64 0] rdT)
 have B1'' := B1.alloc (.cells #[.string s, .int .i64 0] rdT)
 refine (hd.2 _ (fun _ => False) [_] _ (fun _ h => h.elim) (rd_pars B2 id)).mono ?_
 rintro e w1 ⟨rfl, hf⟩
 have C0 := hf.blk B0'' (by omega)
 have C1 := hf.blk B1'' (by omega)
 refine leaves_cons (f := 50) (args := #[.pointer (some ⟨w.heap.size, 0, none⟩), .pointer (some ⟨w.heap.size + 1, 0, none⟩)]) (by simp) (by simp [go_sem]) ?_
 refine (catch_dead w.heap.size (w.heap.size + 1) _ _ _ _ _ _ _ _ w1 C0 C1 (by omega)).mono ?_
 rintro e u' w2 ⟨rfl, rfl, hC⟩
 obtain ⟨D0, D1, hf2⟩ := hC
 have e0 : w2.cell? ⟨w.heap.size, 0, none⟩ = some (.int .i64 0) := D0.cell 0
 have e1 : w2.cell? ⟨w.heap.size, 1, none⟩ = some (.bool false) := D0.cell 1
 have e2 : w2.cell? ⟨w.heap.size, 2, none⟩ = some (.bool false) := D0.cell 2
 have e3 : w2.cell? ⟨w.heap.size, 3, none⟩ = some (.int .i64 0) := D0.cell 3
 have e4 : w2.cell? ⟨w.heap.size, 4, none⟩ = some (.string ⟨#[]⟩) := D0.cell 4
 have e5 : w2.cell? ⟨w.heap.size, 5, none⟩ = some (.int .i64 0) := D0.cell 5
 have e6 : w2.cell? ⟨w.heap.size, 6, none⟩ = some (.slice none 0 0) := D0.cell 6
 have g0 : w2.cell? ⟨w.heap.size + 1, 0, none⟩ = some (.int .i64 1) := D1.cell 0
 simp [Leaves, settle, results, Tryd.results26, go_sem, e0, e1, e2, e3, e4, e5, e6, g0]
 refine ⟨.agg zeroM, R, rfl, ?_, fun b h => h, fun b h => .inl h, rv_zero _ _⟩
 have F0 : Fr (fun _ => False) w _ := (((Fr.refl _ w).alloc_ (.cells zeroM 40)).alloc_ (.cells #[.int .i64 0] 24)).alloc_ (.cells #[.string s, .int .i64 0] rdT)
 exact (F0.out hf (fun i hi => by omega)).out hf2 (fun i hi => by omega)
set_option maxRecDepth 100000 in
set_option maxHeartbeats 2000000 in
theorem read_ok (s : ByteArray) (m : Ms) (w : World) (h : ¬ (512 : Int) < (s.size : Int)) (R : Nat → Prop) (hlt : ∀ b, R b → b < w.heap.size) (hm : FunM Tryd.prog 51 [.mn rdT (rdC s 0) (rdC s s.size)] [.p (.c (.agg m.row))])
  (hc : Fun Tryd.prog 43 [.c (.agg m.row)] [.c (.v (.int .i64 (msgErr m)))]) (v : Ms) (er : Int) (hv : msgErr m = 0 → v = m ∧ er = 0) (hz : msgErr m ≠ 0 → v = zeroMs ∧ er = 1) : Calls Tryd.prog 26 #[.string s] w (RdPost R w v er) := by
 have hv := hid hv
 have hz := hid hz
 have hmf : ∀ (fn : Fn) (first cap : Array Value) (w : World), (Instr.makeFunc fn first cap).run Tryd.prog w = .ok (.func fn first cap) w := fun _ _ _ _ => rfl
 go_enter_defers Tryd.func26, Tryd.ntmps26
 go_wp2_with fail
 have B0 := Blk.new w 40 zeroM
 have B1 := Blk.new_ (w.alloc (.cells zeroM 40)) 24 #[.int .i64 0] (g := w.heap.size + 1) (by simp [World.alloc, -World.alloc_eq])
 have B0' := B0.alloc (.cells #[.int .i64 0] 24)
 have B2 := Blk.new_ ((w.alloc (.cells zeroM 40)).alloc (.cells #[.int .i64 0] 24)) rdT #[.string s, .int .i64 0] (g := w.heap.size + 1 + 1) (by simp [World.alloc, -World.alloc_eq])
 have B0'' := B0'.alloc (.cells #[.string s, .int .i64 0] rdT)
 have B1'' := B1.alloc (.cells #[.string s, .int .i64 0] rdT)
 have F0 : Fr (fun _ => False) w _ := (((Fr.refl _ w).alloc_ (.cells zeroM 40)).alloc_ (.cells #[.int .i64 0] 24)).alloc_ (.cells #[.string s, .int .i64 0] rdT)
 refine (hm.2 _ R [_] _ (fun b hb => Nat.lt_of_lt_of_le (hlt b hb) F0.size) (rd_pars B2 fun hR => by have := hlt _ hR; omega)).mono ?_
 rintro e w1 ⟨ys, R1, F1, rfl, hl, hf, hR1, hR2, hp, hF⟩
 have C0 := hf.blk B0'' (by omega)
 have C1 := hf.blk B1'' (by omega)
 obtain ⟨x, rfl⟩ : ∃ x, ys = [x] := by
  rcases ys with _ | ⟨x, _ | ⟨x', ys⟩⟩ <;> simp at hl
  exact ⟨x, rfl⟩
 obtain ⟨y, rfl, hy⟩ : ∃ y, x = msV m y ∧ RV w1 R1 noG (.sl false (m.rs.map Rr.row)) y := by
  obtain ⟨G1, G2, h1, _⟩ := hp
  exact ms_rv h1.1
 obtain ⟨a, k, c, rfl⟩ : ∃ a k c, y = .slice a k c := by
  exact sl_slice hy
 have hy := hid hy
 have hR1 := hid hR1
 have hR2 := hid hR2
 have hp := hid hp
 have hF := hid hF
 have HF := hid hf
 clear hf
 have e0 : w1.cell? ⟨w.heap.size, 0, none⟩ = some (.int .i64 0) := C0.cell 0
 have e1 : w1.cell? ⟨w.heap.size, 1, none⟩ = some (.bool false) := C0.cell 1
 have e2 : w1.cell? ⟨w.heap.size, 2, none⟩ = some (.bool false) := C0.cell 2
 have e3 : w1.cell? ⟨w.heap.size, 3, none⟩ = some (.int .i64 0) := C0.cell 3
 have e4 : w1.cell? ⟨w.heap.size, 4, none⟩ = some (.string ⟨#[]⟩) := C0.cell 4
 have e5 : w1.cell? ⟨w.heap.size, 5, none⟩ = some (.int .i64 0) := C0.cell 5
 have e6 : w1.cell? ⟨w.heap.size, 6, none⟩ = some (.slice none 0 0) := C0.cell 6
 have f0 := fun i => C0.frozen i
 have g0 : w1.cell? ⟨w.heap.size + 1, 0, none⟩ = some (.int .i64 0) := C1.cell 0
 have h0 := C1.frozen 0
 simp only [packV, msV]
 go_wp2_with fail
 have D0 : Blk (((((((w1.setCell ⟨w.heap.size, 0, none⟩ (.int .i64 m.id)).setCell ⟨w.heap.size, 1, none⟩ (.bool m.an)).setCell ⟨w.heap.size, 2, none⟩ (.bool m.ct)).setCell ⟨w.heap.size, 3, none⟩ (.int .i64 m.co)).setCell ⟨w.heap.size, 4, none⟩ (.string m.qn)).setCell ⟨w.heap.size, 5, none⟩ (.int .i64 m.qt)).setCell ⟨w.heap.size, 6, none⟩ (.slice a k c)) w.heap.size 40 #[.int .i64 m.id, .bool m.an, .bool m.ct, .int .i64 m.co, .string m.qn, .int .i64 m.qt, .slice a k c] :=
  ((((((C0.set_ 0 _).set_ 1 _).set_ 2 _).set_ 3 _).set_ 4 _).set_ 5 _).set_ 6 _
 have D1 := ((((((C1.far (p := ⟨w.heap.size, 0, none⟩) (by simp) (.int .i64 m.id)).far (p := ⟨w.heap.size, 1, none⟩) (by simp) (.bool m.an)).far (p := ⟨w.heap.size, 2, none⟩) (by simp) (.bool m.ct)).far (p := ⟨w.heap.size, 3, none⟩) (by simp) (.int .i64 m.co)).far (p := ⟨w.heap.size, 4, none⟩) (by simp) (.string m.qn)).far (p := ⟨w.heap.size, 5, none⟩) (by simp) (.int .i64 m.qt)).far (p := ⟨w.heap.size, 6, none⟩) (by simp) (.slice a k c)
 have F2 : Fr (fun k => k = w.heap.size) w1 _ := (((((((Fr.refl (fun k => k = w.heap.size) w1).set_ rfl 0 (.int .i64 m.id)).set_ rfl 1 (.bool m.an)).set_ rfl 2 (.bool m.ct)).set_ rfl 3 (.int .i64 m.co)).set_ rfl 4 (.string m.qn)).set_ rfl 5 (.int .i64 m.qt)).set_ rfl 6 (.slice a k c)
 generalize hw2 : (((((((w1.setCell ⟨w.heap.size, 0, none⟩ (.int .i64 m.id)).setCell ⟨w.heap.size, 1, none⟩ (.bool m.an)).setCell ⟨w.heap.size, 2, none⟩ (.bool m.ct)).setCell ⟨w.heap.size, 3, none⟩ (.int .i64 m.co)).setCell ⟨w.heap.size, 4, none⟩ (.string m.qn)).setCell ⟨w.heap.size, 5, none⟩ (.int .i64 m.qt)).setCell ⟨w.heap.size, 6, none⟩ (.slice a k c)) = w2 at D0 D1 F2 ⊢
 clear e0 e1 e2 e3 e4 e5 e6 f0 g0 h0 hw2
 have hn1 : ∀ b, R1 b → b ≠ w.heap.size ∧ b ≠ w.heap.size + 1 := fun b hb => by
  rcases hR2.out b hb with g | ⟨g1, g2⟩
  ·have := hlt b g; omega
  ·rcases g2 with g2 | g2
   ·omega
   ·have := F0.size; simp [World.alloc, -World.alloc_eq] at g2; omega
 have hlt1 : ∀ b, R1 b → b < w1.heap.size := fun b hb => by
  rcases hR2.out b hb with g | ⟨g1, g2⟩
  ·have := hlt b g; have := F0.size; have := HF.out.size; omega
  ·exact g1
 have hy2 := hy.out.mono (fun b hb => ⟨hb, F2.block b (hlt1 b hb) (hn1 b hb).1⟩) (Gle.refl _)
 refine (hc.2 _ R1 [_] (fun b hb => Nat.lt_of_lt_of_le (hlt1 b hb) F2.size) (pars_one (rv_ms hy2))).mono ?_
 rintro e w3 ⟨ys, R3, rfl, hf3, hR3, hR4, hp3, hF3⟩
 obtain ⟨x, rfl⟩ : ∃ x, ys = [x] := by
  have hl := hp3.len
  rcases ys with _ | ⟨x, _ | ⟨x', ys⟩⟩ <;> simp at hl
  exact ⟨x, rfl⟩
 have hx : x = .int .i64 (msgErr m) := rv_v (hp3.ok 0 _ _ rfl rfl)
 subst hx
 have hf3' : Fr (fun _ => False) w2 w3 := ⟨hf3.os, hf3.tape, hf3.output, hf3.size, fun k hk _ => hf3.block k hk no_blk1⟩
 have E0 := hf3'.blk D0 id
 have E1 := hf3'.blk D1 id
 have hy3 := hid (hy2.mono (fun b hb => ⟨hb, hf3'.block b (Nat.lt_of_lt_of_le (hlt1 b hb) F2.size) id⟩) (Gle.refl _))
 have HF3 := hid hf3'
 have hp3 := hid hp3
 have hn1 := hid hn1
 have hlt1 := hid hlt1
 clear hf3 hR3 hR4 hF3 hp3 hf3' hy2
 simp only [packV]
 have e0 : w3.cell? ⟨w.heap.size, 0, none⟩ = some (.int .i64 m.id) := E0.cell 0
 have e1 : w3.cell? ⟨w.heap.size, 1, none⟩ = some (.bool m.an) := E0.cell 1
 have e2 : w3.cell? ⟨w.heap.size, 2, none⟩ = some (.bool m.ct) := E0.cell 2
 have e3 : w3.cell? ⟨w.heap.size, 3, none⟩ = some (.int .i64 m.co) := E0.cell 3
 have e4 : w3.cell? ⟨w.heap.size, 4, none⟩ = some (.string m.qn) := E0.cell 4
 have e5 : w3.cell? ⟨w.heap.size, 5, none⟩ = some (.int .i64 m.qt) := E0.cell 5
 have e6 : w3.cell? ⟨w.heap.size, 6, none⟩ = some (.slice a k c) := E0.cell 6
 have f0 := fun i => E0.frozen i
 have g0 : w3.cell? ⟨w.heap.size + 1, 0, none⟩ = some (.int .i64 0) := E1.cell 0
 have h0 := E1.frozen 0
 by_cases hE : msgErr m = 0
 ·obtain ⟨h1, h2⟩ := hv.out hE
  have h1 := hid h1
  have h2 := hid h2
  go_wp2_with fail
  refine leaves_cons (f := 50) (args := #[.pointer (some ⟨w.heap.size, 0, none⟩), .pointer (some ⟨w.heap.size + 1, 0, none⟩)]) (by simp) (by simp [go_sem]) ?_
  refine (catch_idle w.heap.size (w.heap.size + 1) _).mono ?_
  rintro e u' w4 ⟨rfl, rfl, hw4⟩
  have F4 : Fr (fun k => k = w.heap.size ∨ k = w.heap.size + 1) w3 w4 := by rw [hw4]; exact (((((((((Fr.refl (fun k => k = w.heap.size ∨ k = w.heap.size + 1) w3).set_ (.inl rfl) 0 (.int .i64 m.id)).set_ (.inl rfl) 1 (.bool m.an)).set_ (.inl rfl) 2 (.bool m.ct)).set_ (.inl rfl) 3 (.int .i64 m.co)).set_ (.inl rfl) 4 (.string m.qn)).set_ (.inl rfl) 5 (.int .i64 m.qt)).set_ (.inl rfl) 6 (.slice a k c)).set_ (.inr rfl) 0 (.int .i64 0)).alloc_ (.cells #[] 68)
  have G0 : Blk w4 w.heap.size 40 #[.int .i64 m.id, .bool m.an, .bool m.ct, .int .i64 m.co, .string m.qn, .int .i64 m.qt, .slice a k c] := by rw [hw4]; exact ((((((((E0.set_ 0 (.int .i64 m.id)).set_ 1 (.bool m.an)).set_ 2 (.bool m.ct)).set_ 3 (.int .i64 m.co)).set_ 4 (.string m.qn)).set_ 5 (.int .i64 m.qt)).set_ 6 (.slice a k c)).far (p := ⟨w.heap.size + 1, 0, none⟩) (by simp) (.int .i64 0)).alloc (.cells #[] 68)
  have G1 : Blk w4 (w.heap.size + 1) 24 #[.int .i64 0] := by rw [hw4]; exact ((((((((E1.far (p := ⟨w.heap.size, 0, none⟩) (by simp) (.int .i64 m.id)).far (p := ⟨w.heap.size, 1, none⟩) (by simp) (.bool m.an)).far (p := ⟨w.heap.size, 2, none⟩) (by simp) (.bool m.ct)).far (p := ⟨w.heap.size, 3, none⟩) (by simp) (.int .i64 m.co)).far (p := ⟨w.heap.size, 4, none⟩) (by simp) (.string m.qn)).far (p := ⟨w.heap.size, 5, none⟩) (by simp) (.int .i64 m.qt)).far (p := ⟨w.heap.size, 6, none⟩) (by simp) (.slice a k c)).set_ 0 (.int .i64 0)).alloc (.cells #[] 68)
  clear hw4 e0 e1 e2 e3 e4 e5 e6 f0 g0 h0
  have e0 : w4.cell? ⟨w.heap.size, 0, none⟩ = some (.int .i64 m.id) := G0.cell 0
  have e1 : w4.cell? ⟨w.heap.size, 1, none⟩ = some (.bool m.an) := G0.cell 1
  have e2 : w4.cell? ⟨w.heap.size, 2, none⟩ = some (.bool m.ct) := G0.cell 2
  have e3 : w4.cell? ⟨w.heap.size, 3, none⟩ = some (.int .i64 m.co) := G0.cell 3
  have e4 : w4.cell? ⟨w.heap.size, 4, none⟩ = some (.string m.qn) := G0.cell 4
  have e5 : w4.cell? ⟨w.heap.size, 5, none⟩ = some (.int .i64 m.qt) := G0.cell 5
  have e6 : w4.cell? ⟨w.heap.size, 6, none⟩ = some (.slice a k c) := G0.cell 6
  have g0 : w4.cell? ⟨w.heap.size + 1, 0, none⟩ = some (.int .i64 0) := G1.cell 0
  simp [Leaves, settle, results, Tryd.results26, go_sem, e0, e1, e2, e3, e4, e5, e6, g0]
  rw [h1.out, h2.out]
  refine ⟨msV m (.slice a k c), R1, rfl, ((((F0.out HF.out (fun i hi => by omega)).out F2 (fun i hi => by omega)).out HF3.out (fun i hi => hi.elim))).out F4 (fun i hi => by omega), hR1.out, fun b hb => ?_, rv_ms (hy3.out.mono (fun b hb => ⟨hb, F4.block b (Nat.lt_of_lt_of_le (hlt1.out b hb) (Nat.le_trans F2.size HF3.out.size)) (by have := hn1.out b hb; omega)⟩) (Gle.refl _))⟩
  rcases hR2.out b hb with g | ⟨g1, g2⟩
  ·exact .inl g
  ·refine .inr ⟨Nat.lt_of_lt_of_le g1 (Nat.le_trans F2.size (Nat.le_trans HF3.out.size F4.size)), ?_⟩
   rcases g2 with g2 | g2
   ·omega
   ·exact Nat.le_trans F0.size g2
 ·obtain ⟨h1, h2⟩ := hz.out hE
  have h1 := hid h1
  have h2 := hid h2
  go_wp2_with fail
  refine leaves_cons (f := 50) (args := #[.pointer (some ⟨w.heap.size, 0, none⟩), .pointer (some ⟨w.heap.size + 1, 0, none⟩)]) (by simp) (by simp [go_sem]) ?_
  refine (catch_idle w.heap.size (w.heap.size + 1) _).mono ?_
  rintro e u' w4 ⟨rfl, rfl, hw4⟩
  have F4 : Fr (fun k => k = w.heap.size ∨ k = w.heap.size + 1) w3 w4 := by rw [hw4]; exact (((((((((Fr.refl (fun k => k = w.heap.size ∨ k = w.heap.size + 1) w3).set_ (.inl rfl) 0 (.int .i64 0)).set_ (.inl rfl) 1 (.bool false)).set_ (.inl rfl) 2 (.bool false)).set_ (.inl rfl) 3 (.int .i64 0)).set_ (.inl rfl) 4 (.string ⟨#[]⟩)).set_ (.inl rfl) 5 (.int .i64 0)).set_ (.inl rfl) 6 (.slice none 0 0)).set_ (.inr rfl) 0 (.int .i64 1)).alloc_ (.cells #[] 68)
  have G0 : Blk w4 w.heap.size 40 #[.int .i64 0, .bool false, .bool false, .int .i64 0, .string ⟨#[]⟩, .int .i64 0, .slice none 0 0] := by rw [hw4]; exact ((((((((E0.set_ 0 (.int .i64 0)).set_ 1 (.bool false)).set_ 2 (.bool false)).set_ 3 (.int .i64 0)).set_ 4 (.string ⟨#[]⟩)).set_ 5 (.int .i64 0)).set_ 6 (.slice none 0 0)).far (p := ⟨w.heap.size + 1, 0, none⟩) (by simp) (.int .i64 1)).alloc (.cells #[] 68)
  have G1 : Blk w4 (w.heap.size + 1) 24 #[.int .i64 1] := by rw [hw4]; exact ((((((((E1.far (p := ⟨w.heap.size, 0, none⟩) (by simp) (.int .i64 0)).far (p := ⟨w.heap.size, 1, none⟩) (by simp) (.bool false)).far (p := ⟨w.heap.size, 2, none⟩) (by simp) (.bool false)).far (p := ⟨w.heap.size, 3, none⟩) (by simp) (.int .i64 0)).far (p := ⟨w.heap.size, 4, none⟩) (by simp) (.string ⟨#[]⟩)).far (p := ⟨w.heap.size, 5, none⟩) (by simp) (.int .i64 0)).far (p := ⟨w.heap.size, 6, none⟩) (by simp) (.slice none 0 0)).set_ 0 (.int .i64 1)).alloc (.cells #[] 68)
  clear hw4 e0 e1 e2 e3 e4 e5 e6 f0 g0 h0
  have e0 : w4.cell? ⟨w.heap.size, 0, none⟩ = some (.int .i64 0) := G0.cell 0
  have e1 : w4.cell? ⟨w.heap.size, 1, none⟩ = some (.bool false) := G0.cell 1
  have e2 : w4.cell? ⟨w.heap.size, 2, none⟩ = some (.bool false) := G0.cell 2
  have e3 : w4.cell? ⟨w.heap.size, 3, none⟩ = some (.int .i64 0) := G0.cell 3
  have e4 : w4.cell? ⟨w.heap.size, 4, none⟩ = some (.string ⟨#[]⟩) := G0.cell 4
  have e5 : w4.cell? ⟨w.heap.size, 5, none⟩ = some (.int .i64 0) := G0.cell 5
  have e6 : w4.cell? ⟨w.heap.size, 6, none⟩ = some (.slice none 0 0) := G0.cell 6
  have g0 : w4.cell? ⟨w.heap.size + 1, 0, none⟩ = some (.int .i64 1) := G1.cell 0
  simp [Leaves, settle, results, Tryd.results26, go_sem, e0, e1, e2, e3, e4, e5, e6, g0]
  rw [h1.out, h2.out]
  refine ⟨.agg zeroM, R1, rfl, ((((F0.out HF.out (fun i hi => by omega)).out F2 (fun i hi => by omega)).out HF3.out (fun i hi => hi.elim))).out F4 (fun i hi => by omega), hR1.out, fun b hb => ?_, rv_zero _ _⟩
  rcases hR2.out b hb with g | ⟨g1, g2⟩
  ·exact .inl g
  ·refine .inr ⟨Nat.lt_of_lt_of_le g1 (Nat.le_trans F2.size (Nat.le_trans HF3.out.size F4.size)), ?_⟩
   rcases g2 with g2 | g2
   ·omega
   ·exact Nat.le_trans F0.size g2
end Go.Proofs.YtjhdlcmecbngkaaDoor
namespace Go.Proofs.YtjhdlcmecbngkaaDoor
open Go Go.RowKit Pl
set_option linter.unusedVariables false
theorem recsP_bd {s : ByteArray} : ∀ {n a : Nat} {L : List Rr} {a' : Nat}, recsP s n a = some (L, a') → L.length = n ∧ ∀ r ∈ L, r.nm.size ≤ 1000 ∧ r.tx.size ≤ s.size ∧ r.tg.size ≤ 1000
 | 0, a, L, a', h => by
  unfold recsP at h
  cases h
  exact ⟨rfl, fun r hr => by cases hr⟩
 | n + 1, a, L, a', h => by
  unfold recsP at h
  rcases e : recP s a with _ | ⟨r, a1⟩
  ·rw [e] at h; cases h
  rw [e, Option.bind_some] at h
  simp only at h
  rcases e2 : recsP s n a1 with _ | ⟨L1, a2⟩
  ·rw [e2] at h; cases h
  rw [e2, Option.bind_some] at h
  cases h
  obtain ⟨h1, h2⟩ := recsP_bd e2
  have hb := recP_bd e
  refine ⟨by rw [List.length_cons, h1], fun x hx => ?_⟩
  rcases List.mem_cons.1 hx with rfl | hx
  ·exact ⟨hb.2.1, hb.2.2.1, hb.2.2.2⟩
  ·exact h2 x hx
theorem msgP_bd {s : ByteArray} {m : Ms} (hs : s.size ≤ 1000000) (h : msgP s = some m) : m.Sized ∧ m.rs.length ≤ 20 := by
 unfold msgP at h
 rcases e1 : twoP s 0 with _ | ⟨x1, a1⟩
 ·rw [e1] at h; cases h
 rw [e1, Option.bind_some] at h; simp only at h
 rcases e2 : byteP s a1 with _ | ⟨x2, a2⟩
 ·rw [e2] at h; cases h
 rw [e2, Option.bind_some] at h; simp only at h
 rcases e3 : byteP s a2 with _ | ⟨x3, a3⟩
 ·rw [e3] at h; cases h
 rw [e3, Option.bind_some] at h; simp only at h
 split at h
 rotate_left
 ·cases h
 rcases e4 : twoP s a3 with _ | ⟨x4, a4⟩
 ·rw [e4] at h; cases h
 rw [e4, Option.bind_some] at h; simp only at h
 split at h
 rotate_left
 ·cases h
 rcases e5 : twoP s a4 with _ | ⟨x5, a5⟩
 ·rw [e5] at h; cases h
 rw [e5, Option.bind_some] at h; simp only at h
 split at h
 rotate_left
 ·cases h
 rename_i c5
 rcases e6 : twoP s a5 with _ | ⟨x6, a6⟩
 ·rw [e6] at h; cases h
 rw [e6, Option.bind_some] at h; simp only at h
 split at h
 rotate_left
 ·cases h
 rcases e7 : twoP s a6 with _ | ⟨x7, a7⟩
 ·rw [e7] at h; cases h
 rw [e7, Option.bind_some] at h; simp only at h
 split at h
 rotate_left
 ·cases h
 rcases e8 : nameP s a7 with _ | ⟨x8, a8⟩
 ·rw [e8] at h; cases h
 rw [e8, Option.bind_some] at h; simp only at h
 rcases e9 : twoP s a8 with _ | ⟨x9, a9⟩
 ·rw [e9] at h; cases h
 rw [e9, Option.bind_some] at h; simp only at h
 rcases e10 : twoP s a9 with _ | ⟨x10, a10⟩
 ·rw [e10] at h; cases h
 rw [e10, Option.bind_some] at h; simp only at h
 split at h
 rotate_left
 ·cases h
 rcases e11 : recsP s x5 a10 with _ | ⟨x11, a11⟩
 ·rw [e11] at h; cases h
 rw [e11, Option.bind_some] at h; simp only at h
 split at h
 rotate_left
 ·cases h
 cases h
 obtain ⟨h1, h2⟩ := recsP_bd e11
 have h8 := (nameP_bd e8).2
 refine ⟨⟨by show x8.size ≤ _; omega, fun r hr => ?_⟩, by show x11.length ≤ 20; omega⟩
 obtain ⟨g1, g2, g3⟩ := h2 r hr
 exact ⟨by omega, by omega, by omega⟩
theorem rdP_long {s : ByteArray} (h : 512 < s.size) : rdP s = (zeroMs, 2) := if_pos h
theorem rdP_none {s : ByteArray} (h : ¬ 512 < s.size) (e : msgP s = none) : rdP s = (zeroMs, 1) := by unfold rdP; rw [if_neg h, e]
theorem rdP_some {s : ByteArray} {m : Ms} (h : ¬ 512 < s.size) (e : msgP s = some m) : rdP s = if msgErr m = 0 then (m, 0) else (zeroMs, 1) := by unfold rdP; rw [if_neg h, e]
theorem read_any (s : ByteArray) (w : World) (R : Nat → Prop) (hlt : ∀ b, R b → b < w.heap.size) : Calls Tryd.prog 26 #[.string s] w (RdPost R w (rdP s).1 (rdP s).2) := by
 by_cases h : 512 < s.size
 ·rw [rdP_long h]
  exact read_long s w (by omega) R hlt
 ·rcases e : msgP s with _ | m
  ·rw [rdP_none h e]
   exact read_die s w (by omega) R hlt (rmessage_die e (by omega))
  ·obtain ⟨h1, h2⟩ := msgP_bd (by omega) e
   rw [rdP_some h e]
   refine read_ok s m w (by omega) R hlt (rmessage_fun e (by omega)) (check_fun m h1 (by omega)) _ _ (fun he => ?_) (fun he => ?_)
   ·rw [if_pos he]; exact ⟨rfl, rfl⟩
   ·rw [if_neg he]; exact ⟨rfl, rfl⟩
theorem Read_fun (s : ByteArray) : Fun Tryd.prog 26 [.c (.v (.string s))] [.c (.agg (rdP s).1.row), .c (.v (.int .i64 (rdP s).2))] := by
 refine ⟨⟨_, Tryd.func26, by kernel_rfl, by kernel_rfl⟩, fun w R xs hlt hp => ?_⟩
 obtain ⟨x, rfl⟩ : ∃ x, xs = [x] := by
  have hl := hp.len
  rcases xs with _ | ⟨x, _ | ⟨x', xs⟩⟩ <;> simp at hl
  exact ⟨x, rfl⟩
 have hx : x = .string s := rv_v (hp.ok 0 _ _ rfl rfl)
 subst hx
 refine (read_any s w R hlt).mono ?_
 rintro e w' ⟨x, R', rfl, hf, h1, h2, h3⟩
 have hnb : ∀ b, ¬ ParBlk [.c (.agg (rdP s).1.row), .c (.v (.int .i64 (rdP s).2))] [x, .int .i64 (rdP s).2] b := fun b => no_blk (by intro p hp; rcases List.mem_cons.1 hp with rfl | hp; exact ⟨_, rfl⟩; rcases List.mem_cons.1 hp with rfl | hp; exact ⟨_, rfl⟩; cases hp)
 refine ⟨[x, .int .i64 (rdP s).2], R', rfl, ⟨hf.os, hf.tape, hf.output, hf.size, fun k hk _ => hf.block k hk id⟩, h1, fun b hb => (h2 b hb).imp id (fun g => ⟨g.1, .inr g.2⟩), ⟨rfl, fun i p y q1 q2 => ?_, fun i j T sz rows T' sz' rows' x y b hij q1 => ?_, fun b hb => (hnb b hb).elim⟩, fun b hb => (hnb b hb).elim⟩
 ·rcases i with _ | _ | i
  ·cases q1; cases q2; exact h3
  ·cases q1; cases q2; exact .v _
  ·simp at q1
 ·rcases i with _ | _ | i <;> simp at q1
end Go.Proofs.YtjhdlcmecbngkaaDoor
namespace Go.Proofs.YtjhdlcmecbngkaaDoor
open Go Go.RowKit Pl
set_option linter.unusedVariables false
namespace Pl
def m0 : Ms := ⟨258, false, false, 0, ⟨#[97, 46, 98]⟩, 1, []⟩
theorem m0_err : msgErr m0 = 0 := by decide +kernel
theorem m0_len : (msgB m0).length = 21 := by decide +kernel
theorem rdP_back {m : Ms} (h : msgErr m = 0) (hl : ¬ 512 < (msgB m).length) : rdP ⟨(msgB m).toArray⟩ = (m, 0) := by
 obtain ⟨h1, h2⟩ := goodM_of h
 rw [rdP_some (by simpa [ByteArray.size] using hl) (msg_back h1 h2), if_pos h]
end Pl
theorem Fun.sub1 {P : Program} {f : FuncId} {u u' : V} {rs : List Par} (h : Fun P f [.c u] rs) (hs : ∀ (w : World) (R : Nat → Prop) (x : Value), RV w R noG u' x → RV w R noG u x) : Fun P f [.c u'] rs := by
 refine ⟨h.1, fun w R xs hlt hp => ?_⟩
 obtain ⟨x, rfl⟩ : ∃ x, xs = [x] := by
  have hl := hp.len
  rcases xs with _ | ⟨x, _ | ⟨x', xs⟩⟩ <;> simp at hl
  exact ⟨x, rfl⟩
 have hq : ∀ b, ParBlk [.c u] [x] b ↔ ParBlk [.c u'] [x] b := fun b => ⟨fun h => (no_blk1 h).elim, fun h => (no_blk1 h).elim⟩
 refine (h.2 w R [x] hlt (pars_one (hs w R x (hp.ok 0 _ _ rfl rfl)))).mono ?_
 rintro e w' ⟨ys, R', h1, h2, h3, h4, h5, h6⟩
 exact ⟨ys, R', h1, ⟨h2.os, h2.tape, h2.output, h2.size, fun k hk hn => h2.block k hk fun q => hn ((hq k).1 q)⟩, h3, fun b hb => (h4 b hb).imp id fun g => ⟨g.1, g.2.imp (hq b).1 id⟩, h5, fun b hb => (h6 b hb).imp (hq b).1 id⟩
def nilRow (m : Ms) : List V := [.v (.int .i64 m.id), .v (.bool m.an), .v (.bool m.ct), .v (.int .i64 m.co), .v (.string m.qn), .v (.int .i64 m.qt), .v (.slice none 0 0)]
theorem rv_nil {w : World} {R : Nat → Prop} {m : Ms} {x : Value} (hm : m.rs = []) (h : RV w R noG (.agg (nilRow m)) x) : RV w R noG (.agg m.row) x := by
 cases h with
 | agg cs xs hl h =>
  obtain ⟨x0, x1, x2, x3, x4, x5, x6, rfl⟩ : ∃ x0 x1 x2 x3 x4 x5 x6, xs = [x0, x1, x2, x3, x4, x5, x6] := by
   rcases xs with _ | ⟨x0, _ | ⟨x1, _ | ⟨x2, _ | ⟨x3, _ | ⟨x4, _ | ⟨x5, _ | ⟨x6, _ | ⟨x7, xs⟩⟩⟩⟩⟩⟩⟩⟩ <;> simp [nilRow] at hl
   exact ⟨_, _, _, _, _, _, _, rfl⟩
  have h0 := rv_v (h 0 _ _ rfl rfl)
  have h1 := rv_v (h 1 _ _ rfl rfl)
  have h2 := rv_v (h 2 _ _ rfl rfl)
  have h3 := rv_v (h 3 _ _ rfl rfl)
  have h4 := rv_v (h 4 _ _ rfl rfl)
  have h5 := rv_v (h 5 _ _ rfl rfl)
  have h6 := rv_v (h 6 _ _ rfl rfl)
  subst h0 h1 h2 h3 h4 h5 h6
  exact rv_ms (by rw [hm]; exact .nil false none 0 (by simp))
theorem begun : Fun Tryd.prog 20 [] [.c (.v (.bool true))] := by
 obtain ⟨w1, w2⟩ := wr_ok m0_err (by rw [m0_len]; decide)
 have r1 := rdP_back m0_err (by rw [m0_len]; decide)
 have hW := (Write_fun m0 ⟨by decide, by simp [m0]⟩ (by decide)).sub1 (u' := .agg (nilRow m0)) fun w R x h => rv_nil rfl h
 rw [w1, w2] at hW
 obtain ⟨t, ht⟩ : ∃ t : ByteArray, t = ⟨(msgB m0).toArray⟩ := ⟨_, rfl⟩
 have hs : t.size = 21 := by rw [ht]; simpa [ByteArray.size] using m0_len
 rw [← ht] at hW r1
 have hR := Read_fun t
 rw [r1] at hR
 simp only at hR
 refine fun_x ck_hearsaylaw_dnsBegun rfl ?_
 (refine goI ?_; repeat (intro gg; refine goI ?_))
 (refine .inl ⟨_, _, false, [], aI, hW, nobor, nI, ?_⟩)
 (refine goI ?_; repeat (intro gg; refine goI ?_))
 (refine .inl ⟨_, _, false, [], aI, hR, nobor, nI, ?_⟩)
 (refine goI ?_; repeat (intro gg; refine goI ?_))
 rw [hs]
 (refine goI ?_; repeat (intro gg; refine goI ?_))
 rw [show (m0.qn.toList == (⟨#[97, 46, 98]⟩ : ByteArray).toList) = true from beq_self_eq_true _]
 (exact ⟨[], aI⟩)
end Go.Proofs.YtjhdlcmecbngkaaDoor
namespace Go.Proofs.YtjhdlcmecbngkaaDoor
open Go Go.RowKit Pl
set_option linter.unusedVariables false
namespace Pl
def bA (l : List UInt8) : ByteArray := ⟨l.toArray⟩
theorem bA_app (l r : List UInt8) : bA l ++ bA r = bA (l ++ r) := by
 apply ByteArray.ext
 rw [ByteArray.data_append]
 simp [bA]
theorem bA_size (l : List UInt8) : (bA l).size = l.length := by simp [bA, ByteArray.size]
theorem bA_of (s : ByteArray) : bA s.data.toList = s := by simp [bA]
def lo8 (n : Int) : UInt8 := UInt8.ofNat (n % 256).toNat
def digB (n : Int) : Nat → List UInt8
 | 0 => []
 | k + 1 => digB (n / 256) k ++ [lo8 n]
theorem lo8_nat {n : Nat} (h : n < 256) : lo8 (n : Int) = UInt8.ofNat n := by
 unfold lo8
 rw [show ((n : Int) % 256).toNat = n by omega]
theorem digB_len (n : Int) (k : Nat) : (digB n k).length = k := by
 induction k generalizing n with
 | zero => rfl
 | succ k ih => simp [digB, ih]
theorem digB_next {x n : Int} {k i : Nat} {l : List UInt8} (hlt : i < k) (h : digB x (k - i) ++ l = digB n k) : digB (x / 256) (k - (i + 1)) ++ lo8 x :: l = digB n k := by
 rw [← h, show k - i = (k - (i + 1)) + 1 by omega, digB]
 simp
end Pl
theorem number_fun (n : Int) (k : Nat) (h0 : 0 ≤ n) (hn : n ≤ 4611686018427387904) (hk : k ≤ 100) : Fun Tryd.prog 48 [.c (.v (.int .i64 n)), .c (.v (.int .i64 (k : Int)))] [.c (.v (.string (bA (digB n k))))] := by
 refine fun_x ck_hearsayref_Number rfl ?_
 (refine goI ?_; repeat (intro gg; refine goI ?_))
 (refine ⟨[], none, {p : Nat × Int × List UInt8 // p.1 ≤ k ∧ 0 ≤ p.2.1 ∧ p.2.1 ≤ 4611686018427387904 ∧ p.2.2.length = p.1 ∧ digB p.2.1 (k - p.1) ++ p.2.2 = digB n k}, [1], fun ⟨⟨i, x, l⟩, h1, h2, h3, h4, h5⟩ => [(0, .v (.int .i64 x)), (5, .v (.string (bA l))), (6, .v (.int .i64 (i : Int)))], [], fun ⟨⟨i, x, l⟩, h1, h2, h3, h4, h5⟩ => [], fun ⟨⟨i, x, l⟩, h1, h2, h3, h4, h5⟩ => k - i, trivial, fun _ => ⟨trivial, fun _ => ⟨⟨(0, n, []), Nat.zero_le _, h0, hn, rfl, List.append_nil _⟩, tI, keptE_refl _ _, tI, keptH_refl _ _⟩⟩, fun ⟨⟨i, x, l⟩, h1, h2, h3, h4, h5⟩ => ?_⟩)
 simp only at h1 h2 h3 h4 h5
 (refine goI ?_; repeat (intro gg; refine goI ?_))
 (refine bIf_of (fun h => ?_) (fun h => ?_) <;> rw [h])
 ·have hlt : i < k := (by have := of_decide_eq_true h; omega)
  (refine goI ?_; repeat (intro gg; refine goI ?_))
  refine ⟨by omega, x % 256, Int.tmod_eq_emod_of_nonneg h2, ?_⟩
  (refine goI ?_; repeat (intro gg; refine goI ?_))
  refine ⟨x % 256, by rw [u8_wrap]; omega, ?_⟩
  (refine goI ?_; repeat (intro gg; refine goI ?_))
  refine ⟨[x % 256], rfl, ?_⟩
  (refine goI ?_; repeat (intro gg; refine goI ?_))
  refine ⟨by have e1 : (strNs [x % 256]).size = 1 := rfl; have e2 := bA_size l; omega, ?_⟩
  rw [show strNs [x % 256] ++ bA l = bA (lo8 x :: l) from bA_app [lo8 x] l]
  (refine goI ?_; repeat (intro gg; refine goI ?_))
  refine ⟨by omega, x / 256, by rw [Int.tdiv_eq_ediv_of_nonneg h2]; exact wrap_ok (by omega) (by omega), ?_⟩
  (refine goI ?_; repeat (intro gg; refine goI ?_))
  (exact ⟨none, trivial, fun _ => ⟨⟨(i + 1, x / 256, lo8 x :: l), by show i + 1 ≤ k; omega, by show 0 ≤ x / 256; omega, by show x / 256 ≤ 4611686018427387904; omega, by show l.length + 1 = i + 1; omega, digB_next hlt h5⟩, by show k - (i + 1) < k - i; omega, tI, tI, tI, tI⟩⟩)
 ·have hge : ¬ i < k := (by have := of_decide_eq_false h; omega)
  (refine goI ?_; repeat (intro gg; refine goI ?_))
  have e : l = digB n k := by
   have : k - i = 0 := by omega
   rw [this] at h5
   exact h5
  rw [show bA l = bA (digB n k) from congrArg bA e]
  (exact ⟨[], aI⟩)
theorem rname_bytes (s : ByteArray) (hs : s.size ≤ 120) : Fun Tryd.prog 49 [.c (.v (.string s))] [.c (.v (.string (bA (nameB s))))] := by
 have hL := labelsP_len s
 have hsm : ∀ x ∈ labelsP s, x.size ≤ 120 := fun x hx => Nat.le_trans (labelsP_size hx) hs
 refine fun_x ck_hearsayref_NameBytes rfl ?_
 (refine goI ?_; repeat (intro gg; refine goI ?_))
 (refine .inl ⟨_, _, false, [], aI, rlabels_fun s (by omega), nobor, nI, ?_⟩)
 unfold nameB
 generalize labelsP s = ls at *
 (refine goI ?_; repeat (intro gg; refine goI ?_))
 (refine ⟨[], none, {k : Nat // k ≤ ls.length}, [4], fun ⟨k, hk⟩ => [(3, .v (.string (bA (labsB (ls.take k))))), (5, .v (.int .i64 (k : Int)))], [], fun ⟨k, hk⟩ => [], fun ⟨k, hk⟩ => ls.length - k, trivial, fun _ => ⟨trivial, fun _ => ⟨⟨0, by omega⟩, tI, keptE_refl _ _, tI, keptH_refl _ _⟩⟩, fun ⟨k, hk⟩ => ?_⟩)
 have hlen : (labsB (ls.take k)).length ≤ 121 * 121 := by
  have h1 := labsB_len (l := ls.take k) (m := 120) (fun x hx => hsm x (List.mem_of_mem_take hx))
  rw [List.length_take] at h1
  have : min k ls.length ≤ 121 := by omega
  have := Nat.mul_le_mul_left 121 this
  omega
 (refine goI ?_; repeat (intro gg; refine goI ?_))
 rw [List.length_map]
 (refine bIf_of (fun h1 => ?_) (fun h1 => ?_) <;> rw [h1])
 ·have hlt : k < ls.length := (by have := of_decide_eq_true h1; omega)
  have hz := hsm _ (List.getElem_mem hlt)
  have e : bA (labsB (ls.take k)) ++ (bA (digB ((ls[k].size : Nat) : Int) 1) ++ ls[k]) = bA (labsB (ls.take (k + 1))) := by
   rw [labsB_next hlt, show digB ((ls[k].size : Nat) : Int) 1 = [UInt8.ofNat ls[k].size] from by rw [← lo8_nat (by omega)]; rfl]
   conv => lhs; rhs; rhs; rw [← bA_of ls[k]]
   rw [bA_app, bA_app, List.append_assoc]
  (refine goI ?_; repeat (intro gg; refine goI ?_))
  refine ⟨k, _, rfl, row_map hlt, ?_⟩
  (refine goI ?_; repeat (intro gg; refine goI ?_))
  (refine ⟨_, _, false, aI, number_fun ((ls[k].size : Nat) : Int) 1 (by omega) (by omega) (by omega), nobor, nI, ?_⟩)
  (refine goI ?_; repeat (intro gg; refine goI ?_))
  refine ⟨k, _, rfl, row_map hlt, ?_⟩
  (refine goI ?_; repeat (intro gg; refine goI ?_))
  refine ⟨by rw [bA_size, digB_len]; omega, ?_⟩
  (refine goI ?_; repeat (intro gg; refine goI ?_))
  refine ⟨by rw [ByteArray.size_append, bA_size, bA_size, digB_len]; omega, ?_⟩
  rw [e]
  (refine goI ?_; repeat (intro gg; refine goI ?_))
  (exact ⟨none, trivial, fun _ => ⟨⟨k + 1, by omega⟩, by show ls.length - (k + 1) < ls.length - k; omega, tI, tI, tI, tI⟩⟩)
 ·have hge : ¬ k < ls.length := (by have := of_decide_eq_false h1; omega)
  obtain rfl : k = ls.length := by omega
  (refine goI ?_; repeat (intro gg; refine goI ?_))
  (refine .inl ⟨_, _, false, [], aI, number_fun 0 1 (by omega) (by omega) (by omega), nobor, nI, ?_⟩)
  (refine goI ?_; repeat (intro gg; refine goI ?_))
  refine ⟨by rw [bA_size, bA_size, digB_len]; omega, ?_⟩
  rw [show bA (labsB (ls.take ls.length)) ++ bA (digB 0 1) = bA (labsB ls ++ [0]) by rw [bA_app, List.take_length]; rfl]
  (refine goI ?_; repeat (intro gg; refine goI ?_))
  (exact ⟨[], aI⟩)
end Go.Proofs.YtjhdlcmecbngkaaDoor
namespace Go.Proofs.YtjhdlcmecbngkaaDoor
open Go Go.RowKit Pl
set_option linter.unusedVariables false
namespace Pl
theorem digB_two {n : Int} (h0 : 0 ≤ n) (h1 : n ≤ 65535) : digB n 2 = twosB [n] := by
 show ([] ++ [lo8 (n / 256)]) ++ [lo8 n] = [UInt8.ofNat (n / 256).toNat, UInt8.ofNat (n % 256).toNat]
 unfold lo8
 rw [show n / 256 % 256 = n / 256 by omega]
 rfl
theorem digB_four {n : Int} (h0 : 0 ≤ n) (h1 : n ≤ 4294967295) : digB n 4 = twosB [n / 65536, n % 65536] := by
 show ((([] ++ [lo8 (n / 256 / 256 / 256)]) ++ [lo8 (n / 256 / 256)]) ++ [lo8 (n / 256)]) ++ [lo8 n] = [UInt8.ofNat (n / 65536 / 256).toNat, UInt8.ofNat (n / 65536 % 256).toNat, UInt8.ofNat (n % 65536 / 256).toNat, UInt8.ofNat (n % 65536 % 256).toNat]
 unfold lo8
 rw [show n / 256 / 256 / 256 % 256 = n / 65536 / 256 by omega, show n / 256 / 256 % 256 = n / 65536 % 256 by omega, show n / 256 % 256 = n % 65536 / 256 by omega, show n % 65536 % 256 = n % 256 by omega]
 rfl
theorem digB_flags {f co : Int} (h0 : 0 ≤ f) (h1 : f ≤ 255) (h2 : 0 ≤ co) (h3 : co ≤ 15) : digB f 1 ++ digB co 1 = twosB [co + 256 * f] := by
 show ([] ++ [lo8 f]) ++ ([] ++ [lo8 co]) = [UInt8.ofNat ((co + 256 * f) / 256).toNat, UInt8.ofNat ((co + 256 * f) % 256).toNat]
 unfold lo8
 rw [show (co + 256 * f) / 256 = f by omega, show (co + 256 * f) % 256 = co % 256 by omega, show f % 256 = f by omega]
 rfl
def hdB (m : Ms) : List UInt8 := twosB [m.id, flagsM m, 1, (m.rs.length : Int), 0, 0] ++ nameB m.qn ++ twosB [m.qt, 1]
theorem hdB_of {id : Int} {an ct : Bool} {co : Int} {qn : ByteArray} {qt : Int} {rs : List Rr} (h : (⟨id, an, ct, co, qn, qt, rs⟩ : Ms).Good) (f : Int) (hf : f = (if an then 128 else 0) + (if ct then 2 else 0)) :
  digB id 2 ++ digB f 1 ++ digB co 1 ++ digB 1 2 ++ digB (rs.length : Int) 2 ++ digB 0 4 ++ nameB qn ++ digB qt 2 ++ digB 1 2 = hdB ⟨id, an, ct, co, qn, qt, rs⟩ := by
 obtain ⟨h1, h2, _, _, h5, h6, _⟩ := h
 simp only at h1 h2 h5 h6
 have hf' : 0 ≤ f ∧ f ≤ 255 := by subst hf; cases an <;> cases ct <;> decide
 have e : flagsM ⟨id, an, ct, co, qn, qt, rs⟩ = co + 256 * f := by
  subst hf; unfold flagsM; simp only
  cases an <;> cases ct <;> simp <;> omega
 unfold hdB
 rw [e, digB_two h1.1 h1.2, digB_two (by omega) (by omega : (1 : Int) ≤ 65535), digB_two (by omega) (by omega : (rs.length : Int) ≤ 65535), digB_four (by omega) (by omega : (0 : Int) ≤ 4294967295), digB_two (by omega) (by omega : qt ≤ 65535),
  List.append_assoc (twosB [id]), digB_flags hf'.1 hf'.2 h2.1 h2.2]
 simp [twosB]
theorem hdB_len {m : Ms} (h : m.Good) : (hdB m).length ≤ 15100 := by
 have := nameB_len h.qnz
 unfold hdB
 rw [List.length_append, List.length_append, twosB_len, twosB_len]
 simp only [List.length_cons, List.length_nil]
 omega
theorem recB_of {r : Rr} (h : r.Good) (i : List UInt8) (hi : i = inB r) : nameB r.nm ++ digB r.ty 2 ++ digB 1 2 ++ digB r.ls 4 ++ digB (i.length : Int) 2 ++ i = recB r := by
 have := inB_len h
 subst hi
 obtain ⟨_, _, h3, h4, _⟩ := h
 unfold recB
 rw [digB_two (by omega) (by omega : r.ty ≤ 65535), digB_two (by omega) (by omega : (1 : Int) ≤ 65535), digB_four h4.1 (by omega), digB_two (by omega) (by omega)]
 simp [twosB]
theorem inB_a {r : Rr} (h : r.Good) (ht : r.ty = 1) : digB r.ad 4 = inB r := by
 unfold inB
 rw [if_pos ht, digB_four h.ad.1 h.ad.2]
theorem inB_t {r : Rr} (h : r.Good) (ht : r.ty = 16) : digB ((r.tx.size : Nat) : Int) 1 ++ r.tx.data.toList = inB r := by
 have := h.tx
 unfold inB
 rw [if_neg (by omega), if_pos ht]
 show ([] ++ [lo8 _]) ++ _ = _
 rw [lo8_nat (by omega)]
 rfl
theorem inB_s {r : Rr} (h : r.Good) (ht : r.ty = 33) : digB 0 4 ++ digB r.pt 2 ++ nameB r.tg = inB r := by
 unfold inB
 rw [if_neg (by omega), if_neg (by omega), digB_four (by omega) (by omega), digB_two h.pt.1 h.pt.2]
 simp [twosB]
end Pl
set_option maxHeartbeats 2000000 in
theorem rMsgB_ff (id : Int) (co : Int) (qn : ByteArray) (qt : Int) (rs : List Rr) (hm : (⟨id, false, false, co, qn, qt, rs⟩ : Ms).Good) : Fun Tryd.prog 25 [.c (.agg (⟨id, false, false, co, qn, qt, rs⟩ : Ms).row)] [.c (.v (.string (bA (msgB (⟨id, false, false, co, qn, qt, rs⟩ : Ms)))))] := by
 have hH := hdB_of hm 0 rfl
 have hHl := hdB_len hm
 have hrl := recsB_len hm.rs
 obtain ⟨h1, h2, h3, hq, h5, h6, hr⟩ := hm
 simp only at h1 h2 hq h5 h6 hr hrl
 have hnl := nameB_len hq
 refine fun_x ck_hearsayref_MessageBytes rfl ?_
 (refine goI ?_; repeat (intro gg; refine goI ?_))
 (refine ⟨_, _, false, aI, number_fun id 2 (by omega) (by omega) (by omega), nobor, nI, ?_⟩)
 (refine goI ?_; repeat (intro gg; refine goI ?_))
 (refine ⟨_, _, false, aI, number_fun 0 1 (by omega) (by omega) (by omega), nobor, nI, ?_⟩)
 (refine goI ?_; repeat (intro gg; refine goI ?_))
 refine ⟨by simp only [ByteArray.size_append, bA_size, List.length_append, digB_len]; omega, ?_⟩
 rw [bA_app]
 (refine goI ?_; repeat (intro gg; refine goI ?_))
 (refine ⟨_, _, false, aI, number_fun co 1 (by omega) (by omega) (by omega), nobor, nI, ?_⟩)
 (refine goI ?_; repeat (intro gg; refine goI ?_))
 refine ⟨by simp only [ByteArray.size_append, bA_size, List.length_append, digB_len]; omega, ?_⟩
 rw [bA_app]
 (refine goI ?_; repeat (intro gg; refine goI ?_))
 (refine ⟨_, _, false, aI, number_fun 1 2 (by omega) (by omega) (by omega), nobor, nI, ?_⟩)
 (refine goI ?_; repeat (intro gg; refine goI ?_))
 refine ⟨by simp only [ByteArray.size_append, bA_size, List.length_append, digB_len]; omega, ?_⟩
 rw [bA_app]
 (refine goI ?_; repeat (intro gg; refine goI ?_))
 simp only [List.length_map]
 (refine ⟨_, _, false, aI, number_fun ((rs.length : Nat) : Int) 2 (by omega) (by omega) (by omega), nobor, nI, ?_⟩)
 (refine goI ?_; repeat (intro gg; refine goI ?_))
 refine ⟨by simp only [ByteArray.size_append, bA_size, List.length_append, digB_len]; omega, ?_⟩
 rw [bA_app]
 (refine goI ?_; repeat (intro gg; refine goI ?_))
 (refine ⟨_, _, false, aI, number_fun 0 4 (by omega) (by omega) (by omega), nobor, nI, ?_⟩)
 (refine goI ?_; repeat (intro gg; refine goI ?_))
 refine ⟨by simp only [ByteArray.size_append, bA_size, List.length_append, digB_len]; omega, ?_⟩
 rw [bA_app]
 (refine goI ?_; repeat (intro gg; refine goI ?_))
 (refine ⟨_, _, false, aI, rname_bytes qn hq, nobor, nI, ?_⟩)
 (refine goI ?_; repeat (intro gg; refine goI ?_))
 refine ⟨by simp only [ByteArray.size_append, bA_size, List.length_append, digB_len]; omega, ?_⟩
 rw [bA_app]
 (refine goI ?_; repeat (intro gg; refine goI ?_))
 (refine ⟨_, _, false, aI, number_fun qt 2 (by omega) (by omega) (by omega), nobor, nI, ?_⟩)
 (refine goI ?_; repeat (intro gg; refine goI ?_))
 refine ⟨by simp only [ByteArray.size_append, bA_size, List.length_append, digB_len]; omega, ?_⟩
 rw [bA_app]
 (refine goI ?_; repeat (intro gg; refine goI ?_))
 (refine ⟨_, _, false, aI, number_fun 1 2 (by omega) (by omega) (by omega), nobor, nI, ?_⟩)
 (refine goI ?_; repeat (intro gg; refine goI ?_))
 refine ⟨by simp only [ByteArray.size_append, bA_size, List.length_append, digB_len]; omega, ?_⟩
 rw [bA_app]
 (refine goI ?_; repeat (intro gg; refine goI ?_))
 rw [hH, show bA (hdB (⟨id, false, false, co, qn, qt, rs⟩ : Ms)) = bA (hdB (⟨id, false, false, co, qn, qt, rs⟩ : Ms) ++ recsB (rs.take 0)) from by simp [recsB]]
 (refine goI ?_; repeat (intro gg; refine goI ?_))
 (refine ⟨[], none, {k : Nat // k ≤ rs.length}, [1], fun ⟨k, hk⟩ => [(4, .v (.string (bA (hdB (⟨id, false, false, co, qn, qt, rs⟩ : Ms) ++ recsB (rs.take k))))), (5, .v (.int .i64 (k : Int)))], [16], fun ⟨k, hk⟩ => [], fun ⟨k, hk⟩ => rs.length - k, trivial, fun _ => ⟨trivial, fun _ => ⟨⟨0, by omega⟩, tI, keptE_refl _ _, tI, keptH_refl _ _⟩⟩, fun ⟨k, hk⟩ => ?_⟩)
 have hsl : (recsB (rs.take k)).length ≤ 620000 := by
  have h := recsB_len (l := rs.take k) (fun r hx => hr r (List.mem_of_mem_take hx))
  rw [List.length_take] at h
  have : min k rs.length ≤ 20 := by omega
  have := Nat.mul_le_mul_left 31000 this
  omega
 (refine goI ?_; repeat (intro gg; refine goI ?_))
 simp only [List.length_map]
 (refine bIf_of (fun h => ?_) (fun h => ?_) <;> rw [h])
 ·have hlt : k < rs.length := (by have := of_decide_eq_true h; omega)
  obtain ⟨g1, g2, g3, g4, g5, g6, g7, g8, g9⟩ := hr _ (List.getElem_mem hlt)
  have hnn := nameB_len g2
  have hnt := nameB_len g9
  have hil := inB_len (hr _ (List.getElem_mem hlt))
  have hrb := recB_len (hr _ (List.getElem_mem hlt))
  (refine goI ?_; repeat (intro gg; refine goI ?_))
  refine ⟨k, _, rfl, row_map hlt, ?_⟩
  (refine goI ?_; repeat (intro gg; refine goI ?_))
  rcases g3 with g3 | g3 | g3
  ·rw [show (rs[k].ty == 1) = true from by rw [g3]; rfl]
   (refine goI ?_; repeat (intro gg; refine goI ?_))
   (refine .inl ⟨_, _, false, [], aI, number_fun rs[k].ad 4 (by omega) (by omega) (by omega), nobor, nI, ?_⟩)
   (refine goI ?_; repeat (intro gg; refine goI ?_))
   obtain ⟨I, hI⟩ : ∃ I, I = digB rs[k].ad 4 := ⟨_, rfl⟩
   rw [← hI]
   have hIe := hI.trans (inB_a (hr _ (List.getElem_mem hlt)) g3)
   clear hI
   have hIl : I.length ≤ 15100 := by rw [hIe]; exact hil.2
   (refine ⟨_, _, false, aI, rname_bytes rs[k].nm g2, nobor, nI, ?_⟩)
   (refine goI ?_; repeat (intro gg; refine goI ?_))
   (refine ⟨_, _, false, aI, number_fun rs[k].ty 2 (by omega) (by omega) (by omega), nobor, nI, ?_⟩)
   (refine goI ?_; repeat (intro gg; refine goI ?_))
   refine ⟨by simp only [ByteArray.size_append, bA_size, List.length_append, digB_len]; omega, ?_⟩
   rw [bA_app]
   (refine goI ?_; repeat (intro gg; refine goI ?_))
   (refine ⟨_, _, false, aI, number_fun 1 2 (by omega) (by omega) (by omega), nobor, nI, ?_⟩)
   (refine goI ?_; repeat (intro gg; refine goI ?_))
   refine ⟨by simp only [ByteArray.size_append, bA_size, List.length_append, digB_len]; omega, ?_⟩
   rw [bA_app]
   (refine goI ?_; repeat (intro gg; refine goI ?_))
   (refine ⟨_, _, false, aI, number_fun rs[k].ls 4 (by omega) (by omega) (by omega), nobor, nI, ?_⟩)
   (refine goI ?_; repeat (intro gg; refine goI ?_))
   refine ⟨by simp only [ByteArray.size_append, bA_size, List.length_append, digB_len]; omega, ?_⟩
   rw [bA_app]
   (refine goI ?_; repeat (intro gg; refine goI ?_))
   rw [bA_size]
   (refine ⟨_, _, false, aI, number_fun ((I : List UInt8).length : Int) 2 (by omega) (by omega) (by omega), nobor, nI, ?_⟩)
   (refine goI ?_; repeat (intro gg; refine goI ?_))
   refine ⟨by simp only [ByteArray.size_append, bA_size, List.length_append, digB_len]; omega, ?_⟩
   rw [bA_app]
   (refine goI ?_; repeat (intro gg; refine goI ?_))
   refine ⟨by simp only [ByteArray.size_append, bA_size, List.length_append, digB_len]; omega, ?_⟩
   rw [bA_app]
   (refine goI ?_; repeat (intro gg; refine goI ?_))
   rw [recB_of (hr _ (List.getElem_mem hlt)) _ (hIe)]
   (refine goI ?_; repeat (intro gg; refine goI ?_))
   refine ⟨by simp only [ByteArray.size_append, bA_size, List.length_append, digB_len]; omega, ?_⟩
   rw [show bA (hdB (⟨id, false, false, co, qn, qt, rs⟩ : Ms) ++ recsB (rs.take k)) ++ bA (recB rs[k]) = bA (hdB (⟨id, false, false, co, qn, qt, rs⟩ : Ms) ++ recsB (rs.take (k + 1))) by rw [bA_app, recsB_next hlt, List.append_assoc]]
   (refine goI ?_; repeat (intro gg; refine goI ?_))
   (exact ⟨none, trivial, fun _ => ⟨⟨k + 1, by omega⟩, by show rs.length - (k + 1) < rs.length - k; omega, tI, tI, tI, tI⟩⟩)
  ·rw [show (rs[k].ty == 1) = false from by rw [g3]; rfl]
   (refine goI ?_; repeat (intro gg; refine goI ?_))
   rw [show (rs[k].ty == 16) = true from by rw [g3]; rfl]
   (refine goI ?_; repeat (intro gg; refine goI ?_))
   (refine ⟨_, _, false, aI, number_fun ((rs[k].tx.size : Nat) : Int) 1 (by omega) (by omega) (by omega), nobor, nI, ?_⟩)
   (refine goI ?_; repeat (intro gg; refine goI ?_))
   refine ⟨by simp only [ByteArray.size_append, bA_size, List.length_append, digB_len]; omega, ?_⟩
   rw [show bA (digB ((rs[k].tx.size : Nat) : Int) 1) ++ rs[k].tx = bA (digB ((rs[k].tx.size : Nat) : Int) 1 ++ rs[k].tx.data.toList) by rw [← bA_app, bA_of]]
   (refine goI ?_; repeat (intro gg; refine goI ?_))
   obtain ⟨I, hI⟩ : ∃ I, I = digB ((rs[k].tx.size : Nat) : Int) 1 ++ rs[k].tx.data.toList := ⟨_, rfl⟩
   rw [← hI]
   have hIe := hI.trans (inB_t (hr _ (List.getElem_mem hlt)) g3)
   clear hI
   have hIl : I.length ≤ 15100 := by rw [hIe]; exact hil.2
   (refine ⟨_, _, false, aI, rname_bytes rs[k].nm g2, nobor, nI, ?_⟩)
   (refine goI ?_; repeat (intro gg; refine goI ?_))
   (refine ⟨_, _, false, aI, number_fun rs[k].ty 2 (by omega) (by omega) (by omega), nobor, nI, ?_⟩)
   (refine goI ?_; repeat (intro gg; refine goI ?_))
   refine ⟨by simp only [ByteArray.size_append, bA_size, List.length_append, digB_len]; omega, ?_⟩
   rw [bA_app]
   (refine goI ?_; repeat (intro gg; refine goI ?_))
   (refine ⟨_, _, false, aI, number_fun 1 2 (by omega) (by omega) (by omega), nobor, nI, ?_⟩)
   (refine goI ?_; repeat (intro gg; refine goI ?_))
   refine ⟨by simp only [ByteArray.size_append, bA_size, List.length_append, digB_len]; omega, ?_⟩
   rw [bA_app]
   (refine goI ?_; repeat (intro gg; refine goI ?_))
   (refine ⟨_, _, false, aI, number_fun rs[k].ls 4 (by omega) (by omega) (by omega), nobor, nI, ?_⟩)
   (refine goI ?_; repeat (intro gg; refine goI ?_))
   refine ⟨by simp only [ByteArray.size_append, bA_size, List.length_append, digB_len]; omega, ?_⟩
   rw [bA_app]
   (refine goI ?_; repeat (intro gg; refine goI ?_))
   rw [bA_size]
   (refine ⟨_, _, false, aI, number_fun ((I : List UInt8).length : Int) 2 (by omega) (by omega) (by omega), nobor, nI, ?_⟩)
   (refine goI ?_; repeat (intro gg; refine goI ?_))
   refine ⟨by simp only [ByteArray.size_append, bA_size, List.length_append, digB_len]; omega, ?_⟩
   rw [bA_app]
   (refine goI ?_; repeat (intro gg; refine goI ?_))
   refine ⟨by simp only [ByteArray.size_append, bA_size, List.length_append, digB_len]; omega, ?_⟩
   rw [bA_app]
   (refine goI ?_; repeat (intro gg; refine goI ?_))
   rw [recB_of (hr _ (List.getElem_mem hlt)) _ (hIe)]
   (refine goI ?_; repeat (intro gg; refine goI ?_))
   refine ⟨by simp only [ByteArray.size_append, bA_size, List.length_append, digB_len]; omega, ?_⟩
   rw [show bA (hdB (⟨id, false, false, co, qn, qt, rs⟩ : Ms) ++ recsB (rs.take k)) ++ bA (recB rs[k]) = bA (hdB (⟨id, false, false, co, qn, qt, rs⟩ : Ms) ++ recsB (rs.take (k + 1))) by rw [bA_app, recsB_next hlt, List.append_assoc]]
   (refine goI ?_; repeat (intro gg; refine goI ?_))
   (exact ⟨none, trivial, fun _ => ⟨⟨k + 1, by omega⟩, by show rs.length - (k + 1) < rs.length - k; omega, tI, tI, tI, tI⟩⟩)
  ·rw [show (rs[k].ty == 1) = false from by rw [g3]; rfl]
   (refine goI ?_; repeat (intro gg; refine goI ?_))
   rw [show (rs[k].ty == 16) = false from by rw [g3]; rfl]
   (refine goI ?_; repeat (intro gg; refine goI ?_))
   rw [show (rs[k].ty == 33) = true from by rw [g3]; rfl]
   (refine goI ?_; repeat (intro gg; refine goI ?_))
   (refine ⟨_, _, false, aI, number_fun 0 4 (by omega) (by omega) (by omega), nobor, nI, ?_⟩)
   (refine goI ?_; repeat (intro gg; refine goI ?_))
   (refine ⟨_, _, false, aI, number_fun rs[k].pt 2 (by omega) (by omega) (by omega), nobor, nI, ?_⟩)
   (refine goI ?_; repeat (intro gg; refine goI ?_))
   refine ⟨by simp only [ByteArray.size_append, bA_size, List.length_append, digB_len]; omega, ?_⟩
   rw [bA_app]
   (refine goI ?_; repeat (intro gg; refine goI ?_))
   (refine ⟨_, _, false, aI, rname_bytes rs[k].tg g9, nobor, nI, ?_⟩)
   (refine goI ?_; repeat (intro gg; refine goI ?_))
   refine ⟨by simp only [ByteArray.size_append, bA_size, List.length_append, digB_len]; omega, ?_⟩
   rw [bA_app]
   (refine goI ?_; repeat (intro gg; refine goI ?_))
   obtain ⟨I, hI⟩ : ∃ I, I = digB 0 4 ++ digB rs[k].pt 2 ++ nameB rs[k].tg := ⟨_, rfl⟩
   rw [← hI]
   have hIe := hI.trans (inB_s (hr _ (List.getElem_mem hlt)) g3)
   clear hI
   have hIl : I.length ≤ 15100 := by rw [hIe]; exact hil.2
   (refine ⟨_, _, false, aI, rname_bytes rs[k].nm g2, nobor, nI, ?_⟩)
   (refine goI ?_; repeat (intro gg; refine goI ?_))
   (refine ⟨_, _, false, aI, number_fun rs[k].ty 2 (by omega) (by omega) (by omega), nobor, nI, ?_⟩)
   (refine goI ?_; repeat (intro gg; refine goI ?_))
   refine ⟨by simp only [ByteArray.size_append, bA_size, List.length_append, digB_len]; omega, ?_⟩
   rw [bA_app]
   (refine goI ?_; repeat (intro gg; refine goI ?_))
   (refine ⟨_, _, false, aI, number_fun 1 2 (by omega) (by omega) (by omega), nobor, nI, ?_⟩)
   (refine goI ?_; repeat (intro gg; refine goI ?_))
   refine ⟨by simp only [ByteArray.size_append, bA_size, List.length_append, digB_len]; omega, ?_⟩
   rw [bA_app]
   (refine goI ?_; repeat (intro gg; refine goI ?_))
   (refine ⟨_, _, false, aI, number_fun rs[k].ls 4 (by omega) (by omega) (by omega), nobor, nI, ?_⟩)
   (refine goI ?_; repeat (intro gg; refine goI ?_))
   refine ⟨by simp only [ByteArray.size_append, bA_size, List.length_append, digB_len]; omega, ?_⟩
   rw [bA_app]
   (refine goI ?_; repeat (intro gg; refine goI ?_))
   rw [bA_size]
   (refine ⟨_, _, false, aI, number_fun ((I : List UInt8).length : Int) 2 (by omega) (by omega) (by omega), nobor, nI, ?_⟩)
   (refine goI ?_; repeat (intro gg; refine goI ?_))
   refine ⟨by simp only [ByteArray.size_append, bA_size, List.length_append, digB_len]; omega, ?_⟩
   rw [bA_app]
   (refine goI ?_; repeat (intro gg; refine goI ?_))
   refine ⟨by simp only [ByteArray.size_append, bA_size, List.length_append, digB_len]; omega, ?_⟩
   rw [bA_app]
   (refine goI ?_; repeat (intro gg; refine goI ?_))
   rw [recB_of (hr _ (List.getElem_mem hlt)) _ (hIe)]
   (refine goI ?_; repeat (intro gg; refine goI ?_))
   refine ⟨by simp only [ByteArray.size_append, bA_size, List.length_append, digB_len]; omega, ?_⟩
   rw [show bA (hdB (⟨id, false, false, co, qn, qt, rs⟩ : Ms) ++ recsB (rs.take k)) ++ bA (recB rs[k]) = bA (hdB (⟨id, false, false, co, qn, qt, rs⟩ : Ms) ++ recsB (rs.take (k + 1))) by rw [bA_app, recsB_next hlt, List.append_assoc]]
   (refine goI ?_; repeat (intro gg; refine goI ?_))
   (exact ⟨none, trivial, fun _ => ⟨⟨k + 1, by omega⟩, by show rs.length - (k + 1) < rs.length - k; omega, tI, tI, tI, tI⟩⟩)
 ·have hge : ¬ k < rs.length := (by have := of_decide_eq_false h; omega)
  obtain rfl : k = rs.length := by omega
  (refine goI ?_; repeat (intro gg; refine goI ?_))
  rw [List.take_length, show hdB (⟨id, false, false, co, qn, qt, rs⟩ : Ms) ++ recsB rs = msgB (⟨id, false, false, co, qn, qt, rs⟩ : Ms) from rfl]
  (exact ⟨[], aI⟩)
set_option maxHeartbeats 2000000 in
theorem rMsgB_ft (id : Int) (co : Int) (qn : ByteArray) (qt : Int) (rs : List Rr) (hm : (⟨id, false, true, co, qn, qt, rs⟩ : Ms).Good) : Fun Tryd.prog 25 [.c (.agg (⟨id, false, true, co, qn, qt, rs⟩ : Ms).row)] [.c (.v (.string (bA (msgB (⟨id, false, true, co, qn, qt, rs⟩ : Ms)))))] := by
 have hH := hdB_of hm 2 rfl
 have hHl := hdB_len hm
 have hrl := recsB_len hm.rs
 obtain ⟨h1, h2, h3, hq, h5, h6, hr⟩ := hm
 simp only at h1 h2 hq h5 h6 hr hrl
 have hnl := nameB_len hq
 refine fun_x ck_hearsayref_MessageBytes rfl ?_
 (refine goI ?_; repeat (intro gg; refine goI ?_))
 (refine ⟨_, _, false, aI, number_fun id 2 (by omega) (by omega) (by omega), nobor, nI, ?_⟩)
 (refine goI ?_; repeat (intro gg; refine goI ?_))
 (refine ⟨_, _, false, aI, number_fun 2 1 (by omega) (by omega) (by omega), nobor, nI, ?_⟩)
 (refine goI ?_; repeat (intro gg; refine goI ?_))
 refine ⟨by simp only [ByteArray.size_append, bA_size, List.length_append, digB_len]; omega, ?_⟩
 rw [bA_app]
 (refine goI ?_; repeat (intro gg; refine goI ?_))
 (refine ⟨_, _, false, aI, number_fun co 1 (by omega) (by omega) (by omega), nobor, nI, ?_⟩)
 (refine goI ?_; repeat (intro gg; refine goI ?_))
 refine ⟨by simp only [ByteArray.size_append, bA_size, List.length_append, digB_len]; omega, ?_⟩
 rw [bA_app]
 (refine goI ?_; repeat (intro gg; refine goI ?_))
 (refine ⟨_, _, false, aI, number_fun 1 2 (by omega) (by omega) (by omega), nobor, nI, ?_⟩)
 (refine goI ?_; repeat (intro gg; refine goI ?_))
 refine ⟨by simp only [ByteArray.size_append, bA_size, List.length_append, digB_len]; omega, ?_⟩
 rw [bA_app]
 (refine goI ?_; repeat (intro gg; refine goI ?_))
 simp only [List.length_map]
 (refine ⟨_, _, false, aI, number_fun ((rs.length : Nat) : Int) 2 (by omega) (by omega) (by omega), nobor, nI, ?_⟩)
 (refine goI ?_; repeat (intro gg; refine goI ?_))
 refine ⟨by simp only [ByteArray.size_append, bA_size, List.length_append, digB_len]; omega, ?_⟩
 rw [bA_app]
 (refine goI ?_; repeat (intro gg; refine goI ?_))
 (refine ⟨_, _, false, aI, number_fun 0 4 (by omega) (by omega) (by omega), nobor, nI, ?_⟩)
 (refine goI ?_; repeat (intro gg; refine goI ?_))
 refine ⟨by simp only [ByteArray.size_append, bA_size, List.length_append, digB_len]; omega, ?_⟩
 rw [bA_app]
 (refine goI ?_; repeat (intro gg; refine goI ?_))
 (refine ⟨_, _, false, aI, rname_bytes qn hq, nobor, nI, ?_⟩)
 (refine goI ?_; repeat (intro gg; refine goI ?_))
 refine ⟨by simp only [ByteArray.size_append, bA_size, List.length_append, digB_len]; omega, ?_⟩
 rw [bA_app]
 (refine goI ?_; repeat (intro gg; refine goI ?_))
 (refine ⟨_, _, false, aI, number_fun qt 2 (by omega) (by omega) (by omega), nobor, nI, ?_⟩)
 (refine goI ?_; repeat (intro gg; refine goI ?_))
 refine ⟨by simp only [ByteArray.size_append, bA_size, List.length_append, digB_len]; omega, ?_⟩
 rw [bA_app]
 (refine goI ?_; repeat (intro gg; refine goI ?_))
 (refine ⟨_, _, false, aI, number_fun 1 2 (by omega) (by omega) (by omega), nobor, nI, ?_⟩)
 (refine goI ?_; repeat (intro gg; refine goI ?_))
 refine ⟨by simp only [ByteArray.size_append, bA_size, List.length_append, digB_len]; omega, ?_⟩
 rw [bA_app]
 (refine goI ?_; repeat (intro gg; refine goI ?_))
 rw [hH, show bA (hdB (⟨id, false, true, co, qn, qt, rs⟩ : Ms)) = bA (hdB (⟨id, false, true, co, qn, qt, rs⟩ : Ms) ++ recsB (rs.take 0)) from by simp [recsB]]
 (refine goI ?_; repeat (intro gg; refine goI ?_))
 (refine ⟨[], none, {k : Nat // k ≤ rs.length}, [1], fun ⟨k, hk⟩ => [(4, .v (.string (bA (hdB (⟨id, false, true, co, qn, qt, rs⟩ : Ms) ++ recsB (rs.take k))))), (5, .v (.int .i64 (k : Int)))], [16], fun ⟨k, hk⟩ => [], fun ⟨k, hk⟩ => rs.length - k, trivial, fun _ => ⟨trivial, fun _ => ⟨⟨0, by omega⟩, tI, keptE_refl _ _, tI, keptH_refl _ _⟩⟩, fun ⟨k, hk⟩ => ?_⟩)
 have hsl : (recsB (rs.take k)).length ≤ 620000 := by
  have h := recsB_len (l := rs.take k) (fun r hx => hr r (List.mem_of_mem_take hx))
  rw [List.length_take] at h
  have : min k rs.length ≤ 20 := by omega
  have := Nat.mul_le_mul_left 31000 this
  omega
 (refine goI ?_; repeat (intro gg; refine goI ?_))
 simp only [List.length_map]
 (refine bIf_of (fun h => ?_) (fun h => ?_) <;> rw [h])
 ·have hlt : k < rs.length := (by have := of_decide_eq_true h; omega)
  obtain ⟨g1, g2, g3, g4, g5, g6, g7, g8, g9⟩ := hr _ (List.getElem_mem hlt)
  have hnn := nameB_len g2
  have hnt := nameB_len g9
  have hil := inB_len (hr _ (List.getElem_mem hlt))
  have hrb := recB_len (hr _ (List.getElem_mem hlt))
  (refine goI ?_; repeat (intro gg; refine goI ?_))
  refine ⟨k, _, rfl, row_map hlt, ?_⟩
  (refine goI ?_; repeat (intro gg; refine goI ?_))
  rcases g3 with g3 | g3 | g3
  ·rw [show (rs[k].ty == 1) = true from by rw [g3]; rfl]
   (refine goI ?_; repeat (intro gg; refine goI ?_))
   (refine .inl ⟨_, _, false, [], aI, number_fun rs[k].ad 4 (by omega) (by omega) (by omega), nobor, nI, ?_⟩)
   (refine goI ?_; repeat (intro gg; refine goI ?_))
   obtain ⟨I, hI⟩ : ∃ I, I = digB rs[k].ad 4 := ⟨_, rfl⟩
   rw [← hI]
   have hIe := hI.trans (inB_a (hr _ (List.getElem_mem hlt)) g3)
   clear hI
   have hIl : I.length ≤ 15100 := by rw [hIe]; exact hil.2
   (refine ⟨_, _, false, aI, rname_bytes rs[k].nm g2, nobor, nI, ?_⟩)
   (refine goI ?_; repeat (intro gg; refine goI ?_))
   (refine ⟨_, _, false, aI, number_fun rs[k].ty 2 (by omega) (by omega) (by omega), nobor, nI, ?_⟩)
   (refine goI ?_; repeat (intro gg; refine goI ?_))
   refine ⟨by simp only [ByteArray.size_append, bA_size, List.length_append, digB_len]; omega, ?_⟩
   rw [bA_app]
   (refine goI ?_; repeat (intro gg; refine goI ?_))
   (refine ⟨_, _, false, aI, number_fun 1 2 (by omega) (by omega) (by omega), nobor, nI, ?_⟩)
   (refine goI ?_; repeat (intro gg; refine goI ?_))
   refine ⟨by simp only [ByteArray.size_append, bA_size, List.length_append, digB_len]; omega, ?_⟩
   rw [bA_app]
   (refine goI ?_; repeat (intro gg; refine goI ?_))
   (refine ⟨_, _, false, aI, number_fun rs[k].ls 4 (by omega) (by omega) (by omega), nobor, nI, ?_⟩)
   (refine goI ?_; repeat (intro gg; refine goI ?_))
   refine ⟨by simp only [ByteArray.size_append, bA_size, List.length_append, digB_len]; omega, ?_⟩
   rw [bA_app]
   (refine goI ?_; repeat (intro gg; refine goI ?_))
   rw [bA_size]
   (refine ⟨_, _, false, aI, number_fun ((I : List UInt8).length : Int) 2 (by omega) (by omega) (by omega), nobor, nI, ?_⟩)
   (refine goI ?_; repeat (intro gg; refine goI ?_))
   refine ⟨by simp only [ByteArray.size_append, bA_size, List.length_append, digB_len]; omega, ?_⟩
   rw [bA_app]
   (refine goI ?_; repeat (intro gg; refine goI ?_))
   refine ⟨by simp only [ByteArray.size_append, bA_size, List.length_append, digB_len]; omega, ?_⟩
   rw [bA_app]
   (refine goI ?_; repeat (intro gg; refine goI ?_))
   rw [recB_of (hr _ (List.getElem_mem hlt)) _ (hIe)]
   (refine goI ?_; repeat (intro gg; refine goI ?_))
   refine ⟨by simp only [ByteArray.size_append, bA_size, List.length_append, digB_len]; omega, ?_⟩
   rw [show bA (hdB (⟨id, false, true, co, qn, qt, rs⟩ : Ms) ++ recsB (rs.take k)) ++ bA (recB rs[k]) = bA (hdB (⟨id, false, true, co, qn, qt, rs⟩ : Ms) ++ recsB (rs.take (k + 1))) by rw [bA_app, recsB_next hlt, List.append_assoc]]
   (refine goI ?_; repeat (intro gg; refine goI ?_))
   (exact ⟨none, trivial, fun _ => ⟨⟨k + 1, by omega⟩, by show rs.length - (k + 1) < rs.length - k; omega, tI, tI, tI, tI⟩⟩)
  ·rw [show (rs[k].ty == 1) = false from by rw [g3]; rfl]
   (refine goI ?_; repeat (intro gg; refine goI ?_))
   rw [show (rs[k].ty == 16) = true from by rw [g3]; rfl]
   (refine goI ?_; repeat (intro gg; refine goI ?_))
   (refine ⟨_, _, false, aI, number_fun ((rs[k].tx.size : Nat) : Int) 1 (by omega) (by omega) (by omega), nobor, nI, ?_⟩)
   (refine goI ?_; repeat (intro gg; refine goI ?_))
   refine ⟨by simp only [ByteArray.size_append, bA_size, List.length_append, digB_len]; omega, ?_⟩
   rw [show bA (digB ((rs[k].tx.size : Nat) : Int) 1) ++ rs[k].tx = bA (digB ((rs[k].tx.size : Nat) : Int) 1 ++ rs[k].tx.data.toList) by rw [← bA_app, bA_of]]
   (refine goI ?_; repeat (intro gg; refine goI ?_))
   obtain ⟨I, hI⟩ : ∃ I, I = digB ((rs[k].tx.size : Nat) : Int) 1 ++ rs[k].tx.data.toList := ⟨_, rfl⟩
   rw [← hI]
   have hIe := hI.trans (inB_t (hr _ (List.getElem_mem hlt)) g3)
   clear hI
   have hIl : I.length ≤ 15100 := by rw [hIe]; exact hil.2
   (refine ⟨_, _, false, aI, rname_bytes rs[k].nm g2, nobor, nI, ?_⟩)
   (refine goI ?_; repeat (intro gg; refine goI ?_))
   (refine ⟨_, _, false, aI, number_fun rs[k].ty 2 (by omega) (by omega) (by omega), nobor, nI, ?_⟩)
   (refine goI ?_; repeat (intro gg; refine goI ?_))
   refine ⟨by simp only [ByteArray.size_append, bA_size, List.length_append, digB_len]; omega, ?_⟩
   rw [bA_app]
   (refine goI ?_; repeat (intro gg; refine goI ?_))
   (refine ⟨_, _, false, aI, number_fun 1 2 (by omega) (by omega) (by omega), nobor, nI, ?_⟩)
   (refine goI ?_; repeat (intro gg; refine goI ?_))
   refine ⟨by simp only [ByteArray.size_append, bA_size, List.length_append, digB_len]; omega, ?_⟩
   rw [bA_app]
   (refine goI ?_; repeat (intro gg; refine goI ?_))
   (refine ⟨_, _, false, aI, number_fun rs[k].ls 4 (by omega) (by omega) (by omega), nobor, nI, ?_⟩)
   (refine goI ?_; repeat (intro gg; refine goI ?_))
   refine ⟨by simp only [ByteArray.size_append, bA_size, List.length_append, digB_len]; omega, ?_⟩
   rw [bA_app]
   (refine goI ?_; repeat (intro gg; refine goI ?_))
   rw [bA_size]
   (refine ⟨_, _, false, aI, number_fun ((I : List UInt8).length : Int) 2 (by omega) (by omega) (by omega), nobor, nI, ?_⟩)
   (refine goI ?_; repeat (intro gg; refine goI ?_))
   refine ⟨by simp only [ByteArray.size_append, bA_size, List.length_append, digB_len]; omega, ?_⟩
   rw [bA_app]
   (refine goI ?_; repeat (intro gg; refine goI ?_))
   refine ⟨by simp only [ByteArray.size_append, bA_size, List.length_append, digB_len]; omega, ?_⟩
   rw [bA_app]
   (refine goI ?_; repeat (intro gg; refine goI ?_))
   rw [recB_of (hr _ (List.getElem_mem hlt)) _ (hIe)]
   (refine goI ?_; repeat (intro gg; refine goI ?_))
   refine ⟨by simp only [ByteArray.size_append, bA_size, List.length_append, digB_len]; omega, ?_⟩
   rw [show bA (hdB (⟨id, false, true, co, qn, qt, rs⟩ : Ms) ++ recsB (rs.take k)) ++ bA (recB rs[k]) = bA (hdB (⟨id, false, true, co, qn, qt, rs⟩ : Ms) ++ recsB (rs.take (k + 1))) by rw [bA_app, recsB_next hlt, List.append_assoc]]
   (refine goI ?_; repeat (intro gg; refine goI ?_))
   (exact ⟨none, trivial, fun _ => ⟨⟨k + 1, by omega⟩, by show rs.length - (k + 1) < rs.length - k; omega, tI, tI, tI, tI⟩⟩)
  ·rw [show (rs[k].ty == 1) = false from by rw [g3]; rfl]
   (refine goI ?_; repeat (intro gg; refine goI ?_))
   rw [show (rs[k].ty == 16) = false from by rw [g3]; rfl]
   (refine goI ?_; repeat (intro gg; refine goI ?_))
   rw [show (rs[k].ty == 33) = true from by rw [g3]; rfl]
   (refine goI ?_; repeat (intro gg; refine goI ?_))
   (refine ⟨_, _, false, aI, number_fun 0 4 (by omega) (by omega) (by omega), nobor, nI, ?_⟩)
   (refine goI ?_; repeat (intro gg; refine goI ?_))
   (refine ⟨_, _, false, aI, number_fun rs[k].pt 2 (by omega) (by omega) (by omega), nobor, nI, ?_⟩)
   (refine goI ?_; repeat (intro gg; refine goI ?_))
   refine ⟨by simp only [ByteArray.size_append, bA_size, List.length_append, digB_len]; omega, ?_⟩
   rw [bA_app]
   (refine goI ?_; repeat (intro gg; refine goI ?_))
   (refine ⟨_, _, false, aI, rname_bytes rs[k].tg g9, nobor, nI, ?_⟩)
   (refine goI ?_; repeat (intro gg; refine goI ?_))
   refine ⟨by simp only [ByteArray.size_append, bA_size, List.length_append, digB_len]; omega, ?_⟩
   rw [bA_app]
   (refine goI ?_; repeat (intro gg; refine goI ?_))
   obtain ⟨I, hI⟩ : ∃ I, I = digB 0 4 ++ digB rs[k].pt 2 ++ nameB rs[k].tg := ⟨_, rfl⟩
   rw [← hI]
   have hIe := hI.trans (inB_s (hr _ (List.getElem_mem hlt)) g3)
   clear hI
   have hIl : I.length ≤ 15100 := by rw [hIe]; exact hil.2
   (refine ⟨_, _, false, aI, rname_bytes rs[k].nm g2, nobor, nI, ?_⟩)
   (refine goI ?_; repeat (intro gg; refine goI ?_))
   (refine ⟨_, _, false, aI, number_fun rs[k].ty 2 (by omega) (by omega) (by omega), nobor, nI, ?_⟩)
   (refine goI ?_; repeat (intro gg; refine goI ?_))
   refine ⟨by simp only [ByteArray.size_append, bA_size, List.length_append, digB_len]; omega, ?_⟩
   rw [bA_app]
   (refine goI ?_; repeat (intro gg; refine goI ?_))
   (refine ⟨_, _, false, aI, number_fun 1 2 (by omega) (by omega) (by omega), nobor, nI, ?_⟩)
   (refine goI ?_; repeat (intro gg; refine goI ?_))
   refine ⟨by simp only [ByteArray.size_append, bA_size, List.length_append, digB_len]; omega, ?_⟩
   rw [bA_app]
   (refine goI ?_; repeat (intro gg; refine goI ?_))
   (refine ⟨_, _, false, aI, number_fun rs[k].ls 4 (by omega) (by omega) (by omega), nobor, nI, ?_⟩)
   (refine goI ?_; repeat (intro gg; refine goI ?_))
   refine ⟨by simp only [ByteArray.size_append, bA_size, List.length_append, digB_len]; omega, ?_⟩
   rw [bA_app]
   (refine goI ?_; repeat (intro gg; refine goI ?_))
   rw [bA_size]
   (refine ⟨_, _, false, aI, number_fun ((I : List UInt8).length : Int) 2 (by omega) (by omega) (by omega), nobor, nI, ?_⟩)
   (refine goI ?_; repeat (intro gg; refine goI ?_))
   refine ⟨by simp only [ByteArray.size_append, bA_size, List.length_append, digB_len]; omega, ?_⟩
   rw [bA_app]
   (refine goI ?_; repeat (intro gg; refine goI ?_))
   refine ⟨by simp only [ByteArray.size_append, bA_size, List.length_append, digB_len]; omega, ?_⟩
   rw [bA_app]
   (refine goI ?_; repeat (intro gg; refine goI ?_))
   rw [recB_of (hr _ (List.getElem_mem hlt)) _ (hIe)]
   (refine goI ?_; repeat (intro gg; refine goI ?_))
   refine ⟨by simp only [ByteArray.size_append, bA_size, List.length_append, digB_len]; omega, ?_⟩
   rw [show bA (hdB (⟨id, false, true, co, qn, qt, rs⟩ : Ms) ++ recsB (rs.take k)) ++ bA (recB rs[k]) = bA (hdB (⟨id, false, true, co, qn, qt, rs⟩ : Ms) ++ recsB (rs.take (k + 1))) by rw [bA_app, recsB_next hlt, List.append_assoc]]
   (refine goI ?_; repeat (intro gg; refine goI ?_))
   (exact ⟨none, trivial, fun _ => ⟨⟨k + 1, by omega⟩, by show rs.length - (k + 1) < rs.length - k; omega, tI, tI, tI, tI⟩⟩)
 ·have hge : ¬ k < rs.length := (by have := of_decide_eq_false h; omega)
  obtain rfl : k = rs.length := by omega
  (refine goI ?_; repeat (intro gg; refine goI ?_))
  rw [List.take_length, show hdB (⟨id, false, true, co, qn, qt, rs⟩ : Ms) ++ recsB rs = msgB (⟨id, false, true, co, qn, qt, rs⟩ : Ms) from rfl]
  (exact ⟨[], aI⟩)
set_option maxHeartbeats 2000000 in
theorem rMsgB_tf (id : Int) (co : Int) (qn : ByteArray) (qt : Int) (rs : List Rr) (hm : (⟨id, true, false, co, qn, qt, rs⟩ : Ms).Good) : Fun Tryd.prog 25 [.c (.agg (⟨id, true, false, co, qn, qt, rs⟩ : Ms).row)] [.c (.v (.string (bA (msgB (⟨id, true, false, co, qn, qt, rs⟩ : Ms)))))] := by
 have hH := hdB_of hm 128 rfl
 have hHl := hdB_len hm
 have hrl := recsB_len hm.rs
 obtain ⟨h1, h2, h3, hq, h5, h6, hr⟩ := hm
 simp only at h1 h2 hq h5 h6 hr hrl
 have hnl := nameB_len hq
 refine fun_x ck_hearsayref_MessageBytes rfl ?_
 (refine goI ?_; repeat (intro gg; refine goI ?_))
 (refine ⟨_, _, false, aI, number_fun id 2 (by omega) (by omega) (by omega), nobor, nI, ?_⟩)
 (refine goI ?_; repeat (intro gg; refine goI ?_))
 (refine ⟨_, _, false, aI, number_fun 128 1 (by omega) (by omega) (by omega), nobor, nI, ?_⟩)
 (refine goI ?_; repeat (intro gg; refine goI ?_))
 refine ⟨by simp only [ByteArray.size_append, bA_size, List.length_append, digB_len]; omega, ?_⟩
 rw [bA_app]
 (refine goI ?_; repeat (intro gg; refine goI ?_))
 (refine ⟨_, _, false, aI, number_fun co 1 (by omega) (by omega) (by omega), nobor, nI, ?_⟩)
 (refine goI ?_; repeat (intro gg; refine goI ?_))
 refine ⟨by simp only [ByteArray.size_append, bA_size, List.length_append, digB_len]; omega, ?_⟩
 rw [bA_app]
 (refine goI ?_; repeat (intro gg; refine goI ?_))
 (refine ⟨_, _, false, aI, number_fun 1 2 (by omega) (by omega) (by omega), nobor, nI, ?_⟩)
 (refine goI ?_; repeat (intro gg; refine goI ?_))
 refine ⟨by simp only [ByteArray.size_append, bA_size, List.length_append, digB_len]; omega, ?_⟩
 rw [bA_app]
 (refine goI ?_; repeat (intro gg; refine goI ?_))
 simp only [List.length_map]
 (refine ⟨_, _, false, aI, number_fun ((rs.length : Nat) : Int) 2 (by omega) (by omega) (by omega), nobor, nI, ?_⟩)
 (refine goI ?_; repeat (intro gg; refine goI ?_))
 refine ⟨by simp only [ByteArray.size_append, bA_size, List.length_append, digB_len]; omega, ?_⟩
 rw [bA_app]
 (refine goI ?_; repeat (intro gg; refine goI ?_))
 (refine ⟨_, _, false, aI, number_fun 0 4 (by omega) (by omega) (by omega), nobor, nI, ?_⟩)
 (refine goI ?_; repeat (intro gg; refine goI ?_))
 refine ⟨by simp only [ByteArray.size_append, bA_size, List.length_append, digB_len]; omega, ?_⟩
 rw [bA_app]
 (refine goI ?_; repeat (intro gg; refine goI ?_))
 (refine ⟨_, _, false, aI, rname_bytes qn hq, nobor, nI, ?_⟩)
 (refine goI ?_; repeat (intro gg; refine goI ?_))
 refine ⟨by simp only [ByteArray.size_append, bA_size, List.length_append, digB_len]; omega, ?_⟩
 rw [bA_app]
 (refine goI ?_; repeat (intro gg; refine goI ?_))
 (refine ⟨_, _, false, aI, number_fun qt 2 (by omega) (by omega) (by omega), nobor, nI, ?_⟩)
 (refine goI ?_; repeat (intro gg; refine goI ?_))
 refine ⟨by simp only [ByteArray.size_append, bA_size, List.length_append, digB_len]; omega, ?_⟩
 rw [bA_app]
 (refine goI ?_; repeat (intro gg; refine goI ?_))
 (refine ⟨_, _, false, aI, number_fun 1 2 (by omega) (by omega) (by omega), nobor, nI, ?_⟩)
 (refine goI ?_; repeat (intro gg; refine goI ?_))
 refine ⟨by simp only [ByteArray.size_append, bA_size, List.length_append, digB_len]; omega, ?_⟩
 rw [bA_app]
 (refine goI ?_; repeat (intro gg; refine goI ?_))
 rw [hH, show bA (hdB (⟨id, true, false, co, qn, qt, rs⟩ : Ms)) = bA (hdB (⟨id, true, false, co, qn, qt, rs⟩ : Ms) ++ recsB (rs.take 0)) from by simp [recsB]]
 (refine goI ?_; repeat (intro gg; refine goI ?_))
 (refine ⟨[], none, {k : Nat // k ≤ rs.length}, [1], fun ⟨k, hk⟩ => [(4, .v (.string (bA (hdB (⟨id, true, false, co, qn, qt, rs⟩ : Ms) ++ recsB (rs.take k))))), (5, .v (.int .i64 (k : Int)))], [16], fun ⟨k, hk⟩ => [], fun ⟨k, hk⟩ => rs.length - k, trivial, fun _ => ⟨trivial, fun _ => ⟨⟨0, by omega⟩, tI, keptE_refl _ _, tI, keptH_refl _ _⟩⟩, fun ⟨k, hk⟩ => ?_⟩)
 have hsl : (recsB (rs.take k)).length ≤ 620000 := by
  have h := recsB_len (l := rs.take k) (fun r hx => hr r (List.mem_of_mem_take hx))
  rw [List.length_take] at h
  have : min k rs.length ≤ 20 := by omega
  have := Nat.mul_le_mul_left 31000 this
  omega
 (refine goI ?_; repeat (intro gg; refine goI ?_))
 simp only [List.length_map]
 (refine bIf_of (fun h => ?_) (fun h => ?_) <;> rw [h])
 ·have hlt : k < rs.length := (by have := of_decide_eq_true h; omega)
  obtain ⟨g1, g2, g3, g4, g5, g6, g7, g8, g9⟩ := hr _ (List.getElem_mem hlt)
  have hnn := nameB_len g2
  have hnt := nameB_len g9
  have hil := inB_len (hr _ (List.getElem_mem hlt))
  have hrb := recB_len (hr _ (List.getElem_mem hlt))
  (refine goI ?_; repeat (intro gg; refine goI ?_))
  refine ⟨k, _, rfl, row_map hlt, ?_⟩
  (refine goI ?_; repeat (intro gg; refine goI ?_))
  rcases g3 with g3 | g3 | g3
  ·rw [show (rs[k].ty == 1) = true from by rw [g3]; rfl]
   (refine goI ?_; repeat (intro gg; refine goI ?_))
   (refine .inl ⟨_, _, false, [], aI, number_fun rs[k].ad 4 (by omega) (by omega) (by omega), nobor, nI, ?_⟩)
   (refine goI ?_; repeat (intro gg; refine goI ?_))
   obtain ⟨I, hI⟩ : ∃ I, I = digB rs[k].ad 4 := ⟨_, rfl⟩
   rw [← hI]
   have hIe := hI.trans (inB_a (hr _ (List.getElem_mem hlt)) g3)
   clear hI
   have hIl : I.length ≤ 15100 := by rw [hIe]; exact hil.2
   (refine ⟨_, _, false, aI, rname_bytes rs[k].nm g2, nobor, nI, ?_⟩)
   (refine goI ?_; repeat (intro gg; refine goI ?_))
   (refine ⟨_, _, false, aI, number_fun rs[k].ty 2 (by omega) (by omega) (by omega), nobor, nI, ?_⟩)
   (refine goI ?_; repeat (intro gg; refine goI ?_))
   refine ⟨by simp only [ByteArray.size_append, bA_size, List.length_append, digB_len]; omega, ?_⟩
   rw [bA_app]
   (refine goI ?_; repeat (intro gg; refine goI ?_))
   (refine ⟨_, _, false, aI, number_fun 1 2 (by omega) (by omega) (by omega), nobor, nI, ?_⟩)
   (refine goI ?_; repeat (intro gg; refine goI ?_))
   refine ⟨by simp only [ByteArray.size_append, bA_size, List.length_append, digB_len]; omega, ?_⟩
   rw [bA_app]
   (refine goI ?_; repeat (intro gg; refine goI ?_))
   (refine ⟨_, _, false, aI, number_fun rs[k].ls 4 (by omega) (by omega) (by omega), nobor, nI, ?_⟩)
   (refine goI ?_; repeat (intro gg; refine goI ?_))
   refine ⟨by simp only [ByteArray.size_append, bA_size, List.length_append, digB_len]; omega, ?_⟩
   rw [bA_app]
   (refine goI ?_; repeat (intro gg; refine goI ?_))
   rw [bA_size]
   (refine ⟨_, _, false, aI, number_fun ((I : List UInt8).length : Int) 2 (by omega) (by omega) (by omega), nobor, nI, ?_⟩)
   (refine goI ?_; repeat (intro gg; refine goI ?_))
   refine ⟨by simp only [ByteArray.size_append, bA_size, List.length_append, digB_len]; omega, ?_⟩
   rw [bA_app]
   (refine goI ?_; repeat (intro gg; refine goI ?_))
   refine ⟨by simp only [ByteArray.size_append, bA_size, List.length_append, digB_len]; omega, ?_⟩
   rw [bA_app]
   (refine goI ?_; repeat (intro gg; refine goI ?_))
   rw [recB_of (hr _ (List.getElem_mem hlt)) _ (hIe)]
   (refine goI ?_; repeat (intro gg; refine goI ?_))
   refine ⟨by simp only [ByteArray.size_append, bA_size, List.length_append, digB_len]; omega, ?_⟩
   rw [show bA (hdB (⟨id, true, false, co, qn, qt, rs⟩ : Ms) ++ recsB (rs.take k)) ++ bA (recB rs[k]) = bA (hdB (⟨id, true, false, co, qn, qt, rs⟩ : Ms) ++ recsB (rs.take (k + 1))) by rw [bA_app, recsB_next hlt, List.append_assoc]]
   (refine goI ?_; repeat (intro gg; refine goI ?_))
   (exact ⟨none, trivial, fun _ => ⟨⟨k + 1, by omega⟩, by show rs.length - (k + 1) < rs.length - k; omega, tI, tI, tI, tI⟩⟩)
  ·rw [show (rs[k].ty == 1) = false from by rw [g3]; rfl]
   (refine goI ?_; repeat (intro gg; refine goI ?_))
   rw [show (rs[k].ty == 16) = true from by rw [g3]; rfl]
   (refine goI ?_; repeat (intro gg; refine goI ?_))
   (refine ⟨_, _, false, aI, number_fun ((rs[k].tx.size : Nat) : Int) 1 (by omega) (by omega) (by omega), nobor, nI, ?_⟩)
   (refine goI ?_; repeat (intro gg; refine goI ?_))
   refine ⟨by simp only [ByteArray.size_append, bA_size, List.length_append, digB_len]; omega, ?_⟩
   rw [show bA (digB ((rs[k].tx.size : Nat) : Int) 1) ++ rs[k].tx = bA (digB ((rs[k].tx.size : Nat) : Int) 1 ++ rs[k].tx.data.toList) by rw [← bA_app, bA_of]]
   (refine goI ?_; repeat (intro gg; refine goI ?_))
   obtain ⟨I, hI⟩ : ∃ I, I = digB ((rs[k].tx.size : Nat) : Int) 1 ++ rs[k].tx.data.toList := ⟨_, rfl⟩
   rw [← hI]
   have hIe := hI.trans (inB_t (hr _ (List.getElem_mem hlt)) g3)
   clear hI
   have hIl : I.length ≤ 15100 := by rw [hIe]; exact hil.2
   (refine ⟨_, _, false, aI, rname_bytes rs[k].nm g2, nobor, nI, ?_⟩)
   (refine goI ?_; repeat (intro gg; refine goI ?_))
   (refine ⟨_, _, false, aI, number_fun rs[k].ty 2 (by omega) (by omega) (by omega), nobor, nI, ?_⟩)
   (refine goI ?_; repeat (intro gg; refine goI ?_))
   refine ⟨by simp only [ByteArray.size_append, bA_size, List.length_append, digB_len]; omega, ?_⟩
   rw [bA_app]
   (refine goI ?_; repeat (intro gg; refine goI ?_))
   (refine ⟨_, _, false, aI, number_fun 1 2 (by omega) (by omega) (by omega), nobor, nI, ?_⟩)
   (refine goI ?_; repeat (intro gg; refine goI ?_))
   refine ⟨by simp only [ByteArray.size_append, bA_size, List.length_append, digB_len]; omega, ?_⟩
   rw [bA_app]
   (refine goI ?_; repeat (intro gg; refine goI ?_))
   (refine ⟨_, _, false, aI, number_fun rs[k].ls 4 (by omega) (by omega) (by omega), nobor, nI, ?_⟩)
   (refine goI ?_; repeat (intro gg; refine goI ?_))
   refine ⟨by simp only [ByteArray.size_append, bA_size, List.length_append, digB_len]; omega, ?_⟩
   rw [bA_app]
   (refine goI ?_; repeat (intro gg; refine goI ?_))
   rw [bA_size]
   (refine ⟨_, _, false, aI, number_fun ((I : List UInt8).length : Int) 2 (by omega) (by omega) (by omega), nobor, nI, ?_⟩)
   (refine goI ?_; repeat (intro gg; refine goI ?_))
   refine ⟨by simp only [ByteArray.size_append, bA_size, List.length_append, digB_len]; omega, ?_⟩
   rw [bA_app]
   (refine goI ?_; repeat (intro gg; refine goI ?_))
   refine ⟨by simp only [ByteArray.size_append, bA_size, List.length_append, digB_len]; omega, ?_⟩
   rw [bA_app]
   (refine goI ?_; repeat (intro gg; refine goI ?_))
   rw [recB_of (hr _ (List.getElem_mem hlt)) _ (hIe)]
   (refine goI ?_; repeat (intro gg; refine goI ?_))
   refine ⟨by simp only [ByteArray.size_append, bA_size, List.length_append, digB_len]; omega, ?_⟩
   rw [show bA (hdB (⟨id, true, false, co, qn, qt, rs⟩ : Ms) ++ recsB (rs.take k)) ++ bA (recB rs[k]) = bA (hdB (⟨id, true, false, co, qn, qt, rs⟩ : Ms) ++ recsB (rs.take (k + 1))) by rw [bA_app, recsB_next hlt, List.append_assoc]]
   (refine goI ?_; repeat (intro gg; refine goI ?_))
   (exact ⟨none, trivial, fun _ => ⟨⟨k + 1, by omega⟩, by show rs.length - (k + 1) < rs.length - k; omega, tI, tI, tI, tI⟩⟩)
  ·rw [show (rs[k].ty == 1) = false from by rw [g3]; rfl]
   (refine goI ?_; repeat (intro gg; refine goI ?_))
   rw [show (rs[k].ty == 16) = false from by rw [g3]; rfl]
   (refine goI ?_; repeat (intro gg; refine goI ?_))
   rw [show (rs[k].ty == 33) = true from by rw [g3]; rfl]
   (refine goI ?_; repeat (intro gg; refine goI ?_))
   (refine ⟨_, _, false, aI, number_fun 0 4 (by omega) (by omega) (by omega), nobor, nI, ?_⟩)
   (refine goI ?_; repeat (intro gg; refine goI ?_))
   (refine ⟨_, _, false, aI, number_fun rs[k].pt 2 (by omega) (by omega) (by omega), nobor, nI, ?_⟩)
   (refine goI ?_; repeat (intro gg; refine goI ?_))
   refine ⟨by simp only [ByteArray.size_append, bA_size, List.length_append, digB_len]; omega, ?_⟩
   rw [bA_app]
   (refine goI ?_; repeat (intro gg; refine goI ?_))
   (refine ⟨_, _, false, aI, rname_bytes rs[k].tg g9, nobor, nI, ?_⟩)
   (refine goI ?_; repeat (intro gg; refine goI ?_))
   refine ⟨by simp only [ByteArray.size_append, bA_size, List.length_append, digB_len]; omega, ?_⟩
   rw [bA_app]
   (refine goI ?_; repeat (intro gg; refine goI ?_))
   obtain ⟨I, hI⟩ : ∃ I, I = digB 0 4 ++ digB rs[k].pt 2 ++ nameB rs[k].tg := ⟨_, rfl⟩
   rw [← hI]
   have hIe := hI.trans (inB_s (hr _ (List.getElem_mem hlt)) g3)
   clear hI
   have hIl : I.length ≤ 15100 := by rw [hIe]; exact hil.2
   (refine ⟨_, _, false, aI, rname_bytes rs[k].nm g2, nobor, nI, ?_⟩)
   (refine goI ?_; repeat (intro gg; refine goI ?_))
   (refine ⟨_, _, false, aI, number_fun rs[k].ty 2 (by omega) (by omega) (by omega), nobor, nI, ?_⟩)
   (refine goI ?_; repeat (intro gg; refine goI ?_))
   refine ⟨by simp only [ByteArray.size_append, bA_size, List.length_append, digB_len]; omega, ?_⟩
   rw [bA_app]
   (refine goI ?_; repeat (intro gg; refine goI ?_))
   (refine ⟨_, _, false, aI, number_fun 1 2 (by omega) (by omega) (by omega), nobor, nI, ?_⟩)
   (refine goI ?_; repeat (intro gg; refine goI ?_))
   refine ⟨by simp only [ByteArray.size_append, bA_size, List.length_append, digB_len]; omega, ?_⟩
   rw [bA_app]
   (refine goI ?_; repeat (intro gg; refine goI ?_))
   (refine ⟨_, _, false, aI, number_fun rs[k].ls 4 (by omega) (by omega) (by omega), nobor, nI, ?_⟩)
   (refine goI ?_; repeat (intro gg; refine goI ?_))
   refine ⟨by simp only [ByteArray.size_append, bA_size, List.length_append, digB_len]; omega, ?_⟩
   rw [bA_app]
   (refine goI ?_; repeat (intro gg; refine goI ?_))
   rw [bA_size]
   (refine ⟨_, _, false, aI, number_fun ((I : List UInt8).length : Int) 2 (by omega) (by omega) (by omega), nobor, nI, ?_⟩)
   (refine goI ?_; repeat (intro gg; refine goI ?_))
   refine ⟨by simp only [ByteArray.size_append, bA_size, List.length_append, digB_len]; omega, ?_⟩
   rw [bA_app]
   (refine goI ?_; repeat (intro gg; refine goI ?_))
   refine ⟨by simp only [ByteArray.size_append, bA_size, List.length_append, digB_len]; omega, ?_⟩
   rw [bA_app]
   (refine goI ?_; repeat (intro gg; refine goI ?_))
   rw [recB_of (hr _ (List.getElem_mem hlt)) _ (hIe)]
   (refine goI ?_; repeat (intro gg; refine goI ?_))
   refine ⟨by simp only [ByteArray.size_append, bA_size, List.length_append, digB_len]; omega, ?_⟩
   rw [show bA (hdB (⟨id, true, false, co, qn, qt, rs⟩ : Ms) ++ recsB (rs.take k)) ++ bA (recB rs[k]) = bA (hdB (⟨id, true, false, co, qn, qt, rs⟩ : Ms) ++ recsB (rs.take (k + 1))) by rw [bA_app, recsB_next hlt, List.append_assoc]]
   (refine goI ?_; repeat (intro gg; refine goI ?_))
   (exact ⟨none, trivial, fun _ => ⟨⟨k + 1, by omega⟩, by show rs.length - (k + 1) < rs.length - k; omega, tI, tI, tI, tI⟩⟩)
 ·have hge : ¬ k < rs.length := (by have := of_decide_eq_false h; omega)
  obtain rfl : k = rs.length := by omega
  (refine goI ?_; repeat (intro gg; refine goI ?_))
  rw [List.take_length, show hdB (⟨id, true, false, co, qn, qt, rs⟩ : Ms) ++ recsB rs = msgB (⟨id, true, false, co, qn, qt, rs⟩ : Ms) from rfl]
  (exact ⟨[], aI⟩)
set_option maxHeartbeats 2000000 in
theorem rMsgB_tt (id : Int) (co : Int) (qn : ByteArray) (qt : Int) (rs : List Rr) (hm : (⟨id, true, true, co, qn, qt, rs⟩ : Ms).Good) : Fun Tryd.prog 25 [.c (.agg (⟨id, true, true, co, qn, qt, rs⟩ : Ms).row)] [.c (.v (.string (bA (msgB (⟨id, true, true, co, qn, qt, rs⟩ : Ms)))))] := by
 have hH := hdB_of hm 130 rfl
 have hHl := hdB_len hm
 have hrl := recsB_len hm.rs
 obtain ⟨h1, h2, h3, hq, h5, h6, hr⟩ := hm
 simp only at h1 h2 hq h5 h6 hr hrl
 have hnl := nameB_len hq
 refine fun_x ck_hearsayref_MessageBytes rfl ?_
 (refine goI ?_; repeat (intro gg; refine goI ?_))
 (refine ⟨_, _, false, aI, number_fun id 2 (by omega) (by omega) (by omega), nobor, nI, ?_⟩)
 (refine goI ?_; repeat (intro gg; refine goI ?_))
 (refine ⟨_, _, false, aI, number_fun 130 1 (by omega) (by omega) (by omega), nobor, nI, ?_⟩)
 (refine goI ?_; repeat (intro gg; refine goI ?_))
 refine ⟨by simp only [ByteArray.size_append, bA_size, List.length_append, digB_len]; omega, ?_⟩
 rw [bA_app]
 (refine goI ?_; repeat (intro gg; refine goI ?_))
 (refine ⟨_, _, false, aI, number_fun co 1 (by omega) (by omega) (by omega), nobor, nI, ?_⟩)
 (refine goI ?_; repeat (intro gg; refine goI ?_))
 refine ⟨by simp only [ByteArray.size_append, bA_size, List.length_append, digB_len]; omega, ?_⟩
 rw [bA_app]
 (refine goI ?_; repeat (intro gg; refine goI ?_))
 (refine ⟨_, _, false, aI, number_fun 1 2 (by omega) (by omega) (by omega), nobor, nI, ?_⟩)
 (refine goI ?_; repeat (intro gg; refine goI ?_))
 refine ⟨by simp only [ByteArray.size_append, bA_size, List.length_append, digB_len]; omega, ?_⟩
 rw [bA_app]
 (refine goI ?_; repeat (intro gg; refine goI ?_))
 simp only [List.length_map]
 (refine ⟨_, _, false, aI, number_fun ((rs.length : Nat) : Int) 2 (by omega) (by omega) (by omega), nobor, nI, ?_⟩)
 (refine goI ?_; repeat (intro gg; refine goI ?_))
 refine ⟨by simp only [ByteArray.size_append, bA_size, List.length_append, digB_len]; omega, ?_⟩
 rw [bA_app]
 (refine goI ?_; repeat (intro gg; refine goI ?_))
 (refine ⟨_, _, false, aI, number_fun 0 4 (by omega) (by omega) (by omega), nobor, nI, ?_⟩)
 (refine goI ?_; repeat (intro gg; refine goI ?_))
 refine ⟨by simp only [ByteArray.size_append, bA_size, List.length_append, digB_len]; omega, ?_⟩
 rw [bA_app]
 (refine goI ?_; repeat (intro gg; refine goI ?_))
 (refine ⟨_, _, false, aI, rname_bytes qn hq, nobor, nI, ?_⟩)
 (refine goI ?_; repeat (intro gg; refine goI ?_))
 refine ⟨by simp only [ByteArray.size_append, bA_size, List.length_append, digB_len]; omega, ?_⟩
 rw [bA_app]
 (refine goI ?_; repeat (intro gg; refine goI ?_))
 (refine ⟨_, _, false, aI, number_fun qt 2 (by omega) (by omega) (by omega), nobor, nI, ?_⟩)
 (refine goI ?_; repeat (intro gg; refine goI ?_))
 refine ⟨by simp only [ByteArray.size_append, bA_size, List.length_append, digB_len]; omega, ?_⟩
 rw [bA_app]
 (refine goI ?_; repeat (intro gg; refine goI ?_))
 (refine ⟨_, _, false, aI, number_fun 1 2 (by omega) (by omega) (by omega), nobor, nI, ?_⟩)
 (refine goI ?_; repeat (intro gg; refine goI ?_))
 refine ⟨by simp only [ByteArray.size_append, bA_size, List.length_append, digB_len]; omega, ?_⟩
 rw [bA_app]
 (refine goI ?_; repeat (intro gg; refine goI ?_))
 rw [hH, show bA (hdB (⟨id, true, true, co, qn, qt, rs⟩ : Ms)) = bA (hdB (⟨id, true, true, co, qn, qt, rs⟩ : Ms) ++ recsB (rs.take 0)) from by simp [recsB]]
 (refine goI ?_; repeat (intro gg; refine goI ?_))
 (refine ⟨[], none, {k : Nat // k ≤ rs.length}, [1], fun ⟨k, hk⟩ => [(4, .v (.string (bA (hdB (⟨id, true, true, co, qn, qt, rs⟩ : Ms) ++ recsB (rs.take k))))), (5, .v (.int .i64 (k : Int)))], [16], fun ⟨k, hk⟩ => [], fun ⟨k, hk⟩ => rs.length - k, trivial, fun _ => ⟨trivial, fun _ => ⟨⟨0, by omega⟩, tI, keptE_refl _ _, tI, keptH_refl _ _⟩⟩, fun ⟨k, hk⟩ => ?_⟩)
 have hsl : (recsB (rs.take k)).length ≤ 620000 := by
  have h := recsB_len (l := rs.take k) (fun r hx => hr r (List.mem_of_mem_take hx))
  rw [List.length_take] at h
  have : min k rs.length ≤ 20 := by omega
  have := Nat.mul_le_mul_left 31000 this
  omega
 (refine goI ?_; repeat (intro gg; refine goI ?_))
 simp only [List.length_map]
 (refine bIf_of (fun h => ?_) (fun h => ?_) <;> rw [h])
 ·have hlt : k < rs.length := (by have := of_decide_eq_true h; omega)
  obtain ⟨g1, g2, g3, g4, g5, g6, g7, g8, g9⟩ := hr _ (List.getElem_mem hlt)
  have hnn := nameB_len g2
  have hnt := nameB_len g9
  have hil := inB_len (hr _ (List.getElem_mem hlt))
  have hrb := recB_len (hr _ (List.getElem_mem hlt))
  (refine goI ?_; repeat (intro gg; refine goI ?_))
  refine ⟨k, _, rfl, row_map hlt, ?_⟩
  (refine goI ?_; repeat (intro gg; refine goI ?_))
  rcases g3 with g3 | g3 | g3
  ·rw [show (rs[k].ty == 1) = true from by rw [g3]; rfl]
   (refine goI ?_; repeat (intro gg; refine goI ?_))
   (refine .inl ⟨_, _, false, [], aI, number_fun rs[k].ad 4 (by omega) (by omega) (by omega), nobor, nI, ?_⟩)
   (refine goI ?_; repeat (intro gg; refine goI ?_))
   obtain ⟨I, hI⟩ : ∃ I, I = digB rs[k].ad 4 := ⟨_, rfl⟩
   rw [← hI]
   have hIe := hI.trans (inB_a (hr _ (List.getElem_mem hlt)) g3)
   clear hI
   have hIl : I.length ≤ 15100 := by rw [hIe]; exact hil.2
   (refine ⟨_, _, false, aI, rname_bytes rs[k].nm g2, nobor, nI, ?_⟩)
   (refine goI ?_; repeat (intro gg; refine goI ?_))
   (refine ⟨_, _, false, aI, number_fun rs[k].ty 2 (by omega) (by omega) (by omega), nobor, nI, ?_⟩)
   (refine goI ?_; repeat (intro gg; refine goI ?_))
   refine ⟨by simp only [ByteArray.size_append, bA_size, List.length_append, digB_len]; omega, ?_⟩
   rw [bA_app]
   (refine goI ?_; repeat (intro gg; refine goI ?_))
   (refine ⟨_, _, false, aI, number_fun 1 2 (by omega) (by omega) (by omega), nobor, nI, ?_⟩)
   (refine goI ?_; repeat (intro gg; refine goI ?_))
   refine ⟨by simp only [ByteArray.size_append, bA_size, List.length_append, digB_len]; omega, ?_⟩
   rw [bA_app]
   (refine goI ?_; repeat (intro gg; refine goI ?_))
   (refine ⟨_, _, false, aI, number_fun rs[k].ls 4 (by omega) (by omega) (by omega), nobor, nI, ?_⟩)
   (refine goI ?_; repeat (intro gg; refine goI ?_))
   refine ⟨by simp only [ByteArray.size_append, bA_size, List.length_append, digB_len]; omega, ?_⟩
   rw [bA_app]
   (refine goI ?_; repeat (intro gg; refine goI ?_))
   rw [bA_size]
   (refine ⟨_, _, false, aI, number_fun ((I : List UInt8).length : Int) 2 (by omega) (by omega) (by omega), nobor, nI, ?_⟩)
   (refine goI ?_; repeat (intro gg; refine goI ?_))
   refine ⟨by simp only [ByteArray.size_append, bA_size, List.length_append, digB_len]; omega, ?_⟩
   rw [bA_app]
   (refine goI ?_; repeat (intro gg; refine goI ?_))
   refine ⟨by simp only [ByteArray.size_append, bA_size, List.length_append, digB_len]; omega, ?_⟩
   rw [bA_app]
   (refine goI ?_; repeat (intro gg; refine goI ?_))
   rw [recB_of (hr _ (List.getElem_mem hlt)) _ (hIe)]
   (refine goI ?_; repeat (intro gg; refine goI ?_))
   refine ⟨by simp only [ByteArray.size_append, bA_size, List.length_append, digB_len]; omega, ?_⟩
   rw [show bA (hdB (⟨id, true, true, co, qn, qt, rs⟩ : Ms) ++ recsB (rs.take k)) ++ bA (recB rs[k]) = bA (hdB (⟨id, true, true, co, qn, qt, rs⟩ : Ms) ++ recsB (rs.take (k + 1))) by rw [bA_app, recsB_next hlt, List.append_assoc]]
   (refine goI ?_; repeat (intro gg; refine goI ?_))
   (exact ⟨none, trivial, fun _ => ⟨⟨k + 1, by omega⟩, by show rs.length - (k + 1) < rs.length - k; omega, tI, tI, tI, tI⟩⟩)
  ·rw [show (rs[k].ty == 1) = false from by rw [g3]; rfl]
   (refine goI ?_; repeat (intro gg; refine goI ?_))
   rw [show (rs[k].ty == 16) = true from by rw [g3]; rfl]
   (refine goI ?_; repeat (intro gg; refine goI ?_))
   (refine ⟨_, _, false, aI, number_fun ((rs[k].tx.size : Nat) : Int) 1 (by omega) (by omega) (by omega), nobor, nI, ?_⟩)
   (refine goI ?_; repeat (intro gg; refine goI ?_))
   refine ⟨by simp only [ByteArray.size_append, bA_size, List.length_append, digB_len]; omega, ?_⟩
   rw [show bA (digB ((rs[k].tx.size : Nat) : Int) 1) ++ rs[k].tx = bA (digB ((rs[k].tx.size : Nat) : Int) 1 ++ rs[k].tx.data.toList) by rw [← bA_app, bA_of]]
   (refine goI ?_; repeat (intro gg; refine goI ?_))
   obtain ⟨I, hI⟩ : ∃ I, I = digB ((rs[k].tx.size : Nat) : Int) 1 ++ rs[k].tx.data.toList := ⟨_, rfl⟩
   rw [← hI]
   have hIe := hI.trans (inB_t (hr _ (List.getElem_mem hlt)) g3)
   clear hI
   have hIl : I.length ≤ 15100 := by rw [hIe]; exact hil.2
   (refine ⟨_, _, false, aI, rname_bytes rs[k].nm g2, nobor, nI, ?_⟩)
   (refine goI ?_; repeat (intro gg; refine goI ?_))
   (refine ⟨_, _, false, aI, number_fun rs[k].ty 2 (by omega) (by omega) (by omega), nobor, nI, ?_⟩)
   (refine goI ?_; repeat (intro gg; refine goI ?_))
   refine ⟨by simp only [ByteArray.size_append, bA_size, List.length_append, digB_len]; omega, ?_⟩
   rw [bA_app]
   (refine goI ?_; repeat (intro gg; refine goI ?_))
   (refine ⟨_, _, false, aI, number_fun 1 2 (by omega) (by omega) (by omega), nobor, nI, ?_⟩)
   (refine goI ?_; repeat (intro gg; refine goI ?_))
   refine ⟨by simp only [ByteArray.size_append, bA_size, List.length_append, digB_len]; omega, ?_⟩
   rw [bA_app]
   (refine goI ?_; repeat (intro gg; refine goI ?_))
   (refine ⟨_, _, false, aI, number_fun rs[k].ls 4 (by omega) (by omega) (by omega), nobor, nI, ?_⟩)
   (refine goI ?_; repeat (intro gg; refine goI ?_))
   refine ⟨by simp only [ByteArray.size_append, bA_size, List.length_append, digB_len]; omega, ?_⟩
   rw [bA_app]
   (refine goI ?_; repeat (intro gg; refine goI ?_))
   rw [bA_size]
   (refine ⟨_, _, false, aI, number_fun ((I : List UInt8).length : Int) 2 (by omega) (by omega) (by omega), nobor, nI, ?_⟩)
   (refine goI ?_; repeat (intro gg; refine goI ?_))
   refine ⟨by simp only [ByteArray.size_append, bA_size, List.length_append, digB_len]; omega, ?_⟩
   rw [bA_app]
   (refine goI ?_; repeat (intro gg; refine goI ?_))
   refine ⟨by simp only [ByteArray.size_append, bA_size, List.length_append, digB_len]; omega, ?_⟩
   rw [bA_app]
   (refine goI ?_; repeat (intro gg; refine goI ?_))
   rw [recB_of (hr _ (List.getElem_mem hlt)) _ (hIe)]
   (refine goI ?_; repeat (intro gg; refine goI ?_))
   refine ⟨by simp only [ByteArray.size_append, bA_size, List.length_append, digB_len]; omega, ?_⟩
   rw [show bA (hdB (⟨id, true, true, co, qn, qt, rs⟩ : Ms) ++ recsB (rs.take k)) ++ bA (recB rs[k]) = bA (hdB (⟨id, true, true, co, qn, qt, rs⟩ : Ms) ++ recsB (rs.take (k + 1))) by rw [bA_app, recsB_next hlt, List.append_assoc]]
   (refine goI ?_; repeat (intro gg; refine goI ?_))
   (exact ⟨none, trivial, fun _ => ⟨⟨k + 1, by omega⟩, by show rs.length - (k + 1) < rs.length - k; omega, tI, tI, tI, tI⟩⟩)
  ·rw [show (rs[k].ty == 1) = false from by rw [g3]; rfl]
   (refine goI ?_; repeat (intro gg; refine goI ?_))
   rw [show (rs[k].ty == 16) = false from by rw [g3]; rfl]
   (refine goI ?_; repeat (intro gg; refine goI ?_))
   rw [show (rs[k].ty == 33) = true from by rw [g3]; rfl]
   (refine goI ?_; repeat (intro gg; refine goI ?_))
   (refine ⟨_, _, false, aI, number_fun 0 4 (by omega) (by omega) (by omega), nobor, nI, ?_⟩)
   (refine goI ?_; repeat (intro gg; refine goI ?_))
   (refine ⟨_, _, false, aI, number_fun rs[k].pt 2 (by omega) (by omega) (by omega), nobor, nI, ?_⟩)
   (refine goI ?_; repeat (intro gg; refine goI ?_))
   refine ⟨by simp only [ByteArray.size_append, bA_size, List.length_append, digB_len]; omega, ?_⟩
   rw [bA_app]
   (refine goI ?_; repeat (intro gg; refine goI ?_))
   (refine ⟨_, _, false, aI, rname_bytes rs[k].tg g9, nobor, nI, ?_⟩)
   (refine goI ?_; repeat (intro gg; refine goI ?_))
   refine ⟨by simp only [ByteArray.size_append, bA_size, List.length_append, digB_len]; omega, ?_⟩
   rw [bA_app]
   (refine goI ?_; repeat (intro gg; refine goI ?_))
   obtain ⟨I, hI⟩ : ∃ I, I = digB 0 4 ++ digB rs[k].pt 2 ++ nameB rs[k].tg := ⟨_, rfl⟩
   rw [← hI]
   have hIe := hI.trans (inB_s (hr _ (List.getElem_mem hlt)) g3)
   clear hI
   have hIl : I.length ≤ 15100 := by rw [hIe]; exact hil.2
   (refine ⟨_, _, false, aI, rname_bytes rs[k].nm g2, nobor, nI, ?_⟩)
   (refine goI ?_; repeat (intro gg; refine goI ?_))
   (refine ⟨_, _, false, aI, number_fun rs[k].ty 2 (by omega) (by omega) (by omega), nobor, nI, ?_⟩)
   (refine goI ?_; repeat (intro gg; refine goI ?_))
   refine ⟨by simp only [ByteArray.size_append, bA_size, List.length_append, digB_len]; omega, ?_⟩
   rw [bA_app]
   (refine goI ?_; repeat (intro gg; refine goI ?_))
   (refine ⟨_, _, false, aI, number_fun 1 2 (by omega) (by omega) (by omega), nobor, nI, ?_⟩)
   (refine goI ?_; repeat (intro gg; refine goI ?_))
   refine ⟨by simp only [ByteArray.size_append, bA_size, List.length_append, digB_len]; omega, ?_⟩
   rw [bA_app]
   (refine goI ?_; repeat (intro gg; refine goI ?_))
   (refine ⟨_, _, false, aI, number_fun rs[k].ls 4 (by omega) (by omega) (by omega), nobor, nI, ?_⟩)
   (refine goI ?_; repeat (intro gg; refine goI ?_))
   refine ⟨by simp only [ByteArray.size_append, bA_size, List.length_append, digB_len]; omega, ?_⟩
   rw [bA_app]
   (refine goI ?_; repeat (intro gg; refine goI ?_))
   rw [bA_size]
   (refine ⟨_, _, false, aI, number_fun ((I : List UInt8).length : Int) 2 (by omega) (by omega) (by omega), nobor, nI, ?_⟩)
   (refine goI ?_; repeat (intro gg; refine goI ?_))
   refine ⟨by simp only [ByteArray.size_append, bA_size, List.length_append, digB_len]; omega, ?_⟩
   rw [bA_app]
   (refine goI ?_; repeat (intro gg; refine goI ?_))
   refine ⟨by simp only [ByteArray.size_append, bA_size, List.length_append, digB_len]; omega, ?_⟩
   rw [bA_app]
   (refine goI ?_; repeat (intro gg; refine goI ?_))
   rw [recB_of (hr _ (List.getElem_mem hlt)) _ (hIe)]
   (refine goI ?_; repeat (intro gg; refine goI ?_))
   refine ⟨by simp only [ByteArray.size_append, bA_size, List.length_append, digB_len]; omega, ?_⟩
   rw [show bA (hdB (⟨id, true, true, co, qn, qt, rs⟩ : Ms) ++ recsB (rs.take k)) ++ bA (recB rs[k]) = bA (hdB (⟨id, true, true, co, qn, qt, rs⟩ : Ms) ++ recsB (rs.take (k + 1))) by rw [bA_app, recsB_next hlt, List.append_assoc]]
   (refine goI ?_; repeat (intro gg; refine goI ?_))
   (exact ⟨none, trivial, fun _ => ⟨⟨k + 1, by omega⟩, by show rs.length - (k + 1) < rs.length - k; omega, tI, tI, tI, tI⟩⟩)
 ·have hge : ¬ k < rs.length := (by have := of_decide_eq_false h; omega)
  obtain rfl : k = rs.length := by omega
  (refine goI ?_; repeat (intro gg; refine goI ?_))
  rw [List.take_length, show hdB (⟨id, true, true, co, qn, qt, rs⟩ : Ms) ++ recsB rs = msgB (⟨id, true, true, co, qn, qt, rs⟩ : Ms) from rfl]
  (exact ⟨[], aI⟩)
theorem rMsgB_fun (m : Ms) (hm : m.Good) : Fun Tryd.prog 25 [.c (.agg m.row)] [.c (.v (.string (bA (msgB m))))] := by
 obtain ⟨id, an, ct, co, qn, qt, rs⟩ := m
 cases an <;> cases ct
 ·exact rMsgB_ff id co qn qt rs hm
 ·exact rMsgB_ft id co qn qt rs hm
 ·exact rMsgB_tf id co qn qt rs hm
 ·exact rMsgB_tt id co qn qt rs hm
end Go.Proofs.YtjhdlcmecbngkaaDoor
namespace Go.Proofs.YtjhdlcmecbngkaaDoor
open Go.Joins Go.ChangeShapes Go.WideShapes Go.RowKit Go.Deep
set_option linter.unusedVariables false
def Bd1 (B : Nat) : V → Prop
 | .v (.string x) => x.size ≤ B
 | _ => True
def Bd (B : Nat) : V → Prop
 | .v (.string x) => x.size ≤ B
 | .sl _ rows => rows.length ≤ B ∧ ∀ row ∈ rows, ∀ u ∈ row, Bd1 B u
 | _ => True
theorem Bd.one {B : Nat} {u : V} (h : Bd B u) : Bd1 B u := by
 unfold Bd at h
 unfold Bd1
 split at h <;> simp_all
structure Bulk {H : Type} (bk : DataW H → Nat) : Prop where
 str : ∀ l, l.length ≤ bk (.lit (.string l))
 agg : ∀ ds d, d ∈ ds → bk d ≤ bk (.agg ds)
 sl : ∀ es sp, es.length ≤ bk (.slice es sp) ∧ ∀ d ∈ es, bk d ≤ bk (.slice es sp)
section
variable {H : Type} {enc : TypeId × Value → H} {P : Program} {w : World} {base : Nat} {spare : Nat → Bool} {held : Bool} {bk : DataW H → Nat} {B : Nat}
theorem reads_fieldsB {d fuel : Nat} {cs : List Value} (rc : ∀ (t : TypeId) (tys : List Ty) (cs : List Value) (x : DataW H × List MemPlace), tyOf P d t = some tys → DataW.trod enc P w base spare held fuel t cs = some x → bk x.1 ≤ B → ∃ us, Reads w tys cs us ∧ ∀ u ∈ us, Bd B u) :
  ∀ (fs : List Field) (off : Nat) (tys : List Ty) (xs : List (DataW H × List MemPlace)), tyFs P (tyOf P d) fs off = some tys → (∀ (i : Nat) (f : Field), fs[i]? = some f → ∃ x, DataW.trod enc P w base spare held fuel f.type ((cs.drop f.offset).take (P.cellsOf f.type)) = some x ∧ bk x.1 ≤ B) →
   ∃ us, Reads w tys ((cs.drop off).take tys.length) us ∧ ∀ u ∈ us, Bd B u := by
 intro fs
 induction fs with
 | nil =>
  intro off tys xs h _
  simp only [tyFs, Option.some.injEq] at h; subst h
  exact ⟨[], ⟨⟨rfl, by simp⟩, by simp, by simp⟩, by simp⟩
 | cons f fs ih =>
  intro off tys xs h hf
  simp only [tyFs] at h
  split at h
  ·rename_i ts hts
   split at h
   ·rename_i hc
    simp only [Bool.and_eq_true, beq_iff_eq] at hc
    split at h
    ·rename_i r hr
     injection h with h; subst h
     obtain ⟨x0, hx0, hB0⟩ := hf 0 f rfl
     obtain ⟨us1, h1, hb1⟩ := rc _ _ _ _ hts hx0 hB0
     obtain ⟨us2, h2, hb2⟩ := ih _ _ xs hr (fun i g hg => hf (i + 1) g (by simpa using hg))
     rw [hc.1, hc.2] at h1
     have hlen : ((cs.drop off).take ts.length).length = ts.length := by rw [h1.2.1, ← h1.1.1]
     refine ⟨us1 ++ us2, ?_, fun u hu => (List.mem_append.1 hu).elim (hb1 u) (hb2 u)⟩
     have e : (cs.drop off).take (ts ++ r).length = (cs.drop off).take ts.length ++ (cs.drop (off + ts.length)).take r.length := by
      rw [List.length_append, List.take_add, List.drop_drop]
     rw [e]
     exact h1.app h2
    ·cases h
   ·cases h
  ·cases h
theorem reads_ofB (hk : Bulk bk) : ∀ (d fuel : Nat) (t : TypeId) (tys : List Ty) (cs : List Value) (x : DataW H × List MemPlace), tyOf P d t = some tys → DataW.trod enc P w base spare held fuel t cs = some x → bk x.1 ≤ B → ∃ us, Reads w tys cs us ∧ ∀ u ∈ us, Bd B u := by
 intro d
 induction d with
 | zero => intro fuel t tys cs x h; cases h
 | succ d ih =>
  intro fuel t tys cs x h hd hBd
  simp only [tyOf] at h
  split at h
  ·rename_i hu
   injection h with h; subst h
   obtain ⟨n, rfl, _, hw⟩ := DataW.trod_int hu hd
   have hb : -9223372036854775808 ≤ n ∧ n ≤ 9223372036854775807 := by simpa [Lit.wf, IntKind.min, IntKind.max, IntKind.signed, IntKind.bits] using hw
   exact ⟨_, reads_one (.i n hb.1 hb.2) (.v _), by simp [Bd]⟩
  ·rename_i hu
   injection h with h; subst h
   obtain ⟨s, rfl, rfl, hs⟩ := DataW.trod_string hu hd
   exact ⟨_, reads_one (.s s (by simpa [maxLen] using hs)) (.v _), by
    have h1 := Nat.le_trans (hk.str s.data.toList) hBd
    have e : s.data.toList.length = s.size := by simp
    simp [Bd]; omega⟩
  ·rename_i hu
   injection h with h; subst h
   obtain ⟨s, rfl, _⟩ := DataW.trod_bool hu hd
   exact ⟨_, reads_one (.b s) (.v _), by simp [Bd]⟩
  ·rename_i fs hu
   split at h
   ·rename_i ts hts
    split at h
    ·rename_i hc
     simp only [beq_iff_eq] at hc
     injection h with h; subst h
     obtain ⟨xs, n, rfl, rfl, hcl, hxl, hf⟩ := DataW.trod_struct hu hd
     obtain ⟨us, hus, hub⟩ := reads_fieldsB (B := B) (bk := bk) (cs := cs) (fun t tys cs x h1 h2 => ih n t tys cs x h1 h2) fs.toList 0 ts xs hts (fun i f hi => by
      have hi' : fs[i]? = some f := by simpa using hi
      have hlt : i < xs.length := by rw [hxl]; exact (Array.getElem?_eq_some_iff.1 hi').1
      exact ⟨_, (hf i f hi').trans (List.getElem?_eq_getElem hlt), Nat.le_trans (hk.agg _ _ (List.mem_map_of_mem (List.getElem_mem hlt))) hBd⟩)
     refine ⟨us, ?_, hub⟩
     rwa [List.drop_zero, ← hc, ← hcl, List.take_length] at hus
    ·cases h
   ·cases h
  ·rename_i e hu
   split at h
   ·rename_i ts hts
    split at h
    ·rename_i hc
     simp only [Bool.and_eq_true, beq_iff_eq, decide_eq_true_eq] at hc
     injection h with h; subst h
     rcases open_slice hu hd with ⟨rfl, _⟩ | ⟨a, len, cap, m, n, D, Pl, rfl, hb, hl, hm, hmm, rfl, hi⟩
     ·exact ⟨[.sl false []], reads_one (.l _ [] (by simp) (by simp) (by simp)) (.nil _ _ _ (by simp)), by simp [Bd]⟩
     ·have hlm : len ≤ m := by rw [hmm]; split <;> omega
      have hall : ∀ i : Nat, ∃ p : List Value × List V, i < len → (Reads w ts p.1 p.2 ∧ ∀ j, j < ts.length → w.cell? (a.add (i * ts.length + j)) = p.1[j]?) ∧ ∀ u ∈ p.2, Bd B u := fun i => by
       by_cases hil : i < len
       ·obtain ⟨cs', h1, h2⟩ := hi i (by omega)
        obtain ⟨us, hus, hub⟩ := ih n e ts cs' _ hts h2 (Nat.le_trans ((hk.sl _ _).2 _ (List.mem_map.2 ⟨i, List.mem_range.2 hil, rfl⟩)) hBd)
        obtain ⟨_, h3, h4⟩ := World.cells?_some h1
        rw [hc.1] at h3 h4
        exact ⟨(cs', us), fun _ => ⟨⟨hus, fun j hj => by rw [← Go.Deep.add_add]; exact h4 j hj⟩, hub⟩⟩
       ·exact ⟨([], []), fun h => absurd h hil⟩
      obtain ⟨f, hf0⟩ := Classical.axiomOfChoice hall
      have hf : ∀ i, i < len → Reads w ts (f i).1 (f i).2 ∧ ∀ j, j < ts.length → w.cell? (a.add (i * ts.length + j)) = (f i).1[j]? := fun i h => (hf0 i h).1
      have hsp : 0 < len → a.spot = none ∧ a.block < w.heap.size := fun h0 => by
       obtain ⟨h1, h2⟩ := hf 0 h0
       have hx := h2 0 hc.2
       have hlt : 0 < (f 0).1.length := by rw [h1.2.1, ← h1.1.1]; exact hc.2
       rw [List.getElem?_eq_getElem hlt] at hx
       have e : a.add (0 * ts.length + 0) = a := by simp [Addr.add]
       rw [e] at hx
       refine ⟨?_, World.block_lt_of_cell? w _ hx⟩
       unfold World.cell? at hx
       split at hx
       ·cases hq : a.spot with
        | none => rfl
        | some k => simp [hq] at hx
       ·cases hx
      refine ⟨[.sl false ((List.range len).map fun i => (f i).2)], reads_one (.l _ _ (by simp only [List.length_map, List.length_range]; simp only [maxLen] at hm; omega) ?_ ?_) ?_, ?_⟩
      ·intro row hrow
       simp only [List.mem_map, List.mem_range] at hrow
       obtain ⟨i, hil, rfl⟩ := hrow
       exact (hf i hil).1.1.1
      ·intro row hrow j t u g1 g2
       simp only [List.mem_map, List.mem_range] at hrow
       obtain ⟨i, hil, rfl⟩ := hrow
       exact (hf i hil).1.1.2 j t u g1 g2
      ·rcases Nat.eq_zero_or_pos len with h0 | h0
       ·subst h0; exact .nil _ _ _ (by simp)
       ·obtain ⟨h1, h2⟩ := hsp h0
        obtain ⟨b, off, sp⟩ := a
        simp only at h1 h2
        subst h1
        have hrows : ∀ (i : Nat) (row : List V), ((List.range len).map fun i => (f i).2)[i]? = some row → i < len ∧ row = (f i).2 := fun i row h => by
         have hlt := (List.getElem?_eq_some_iff.1 h).1
         simp only [List.length_map, List.length_range] at hlt
         simp [hlt] at h
         exact ⟨hlt, h.symm⟩
        have e := RV.sl (w := w) (R := fun b => b < w.heap.size) (G := noG) false ((List.range len).map fun i => (f i).2) b off cap ts.length (fun i j => ((f i).1[j]?).getD undef) h2 (by simpa using hl) (by simp) (by
          intro row hrow
          simp only [List.mem_map, List.mem_range] at hrow
          obtain ⟨i, hil, rfl⟩ := hrow
          exact (hf i hil).1.1.1.symm) (by
          intro i j row u g1 g2
          obtain ⟨hil, rfl⟩ := hrows i row g1
          have hj : j < ts.length := by have := (List.getElem?_eq_some_iff.1 g2).1; rw [(hf i hil).1.1.1]; exact this
          have hjl : j < (f i).1.length := by rw [(hf i hil).1.2.1, ← (hf i hil).1.1.1]; exact hj
          have hx := (hf i hil).2 j hj
          rw [add_full _ _ rfl, List.getElem?_eq_getElem hjl] at hx
          rw [List.getElem?_eq_getElem hjl]
          simp only [Option.getD_some]
          rw [Nat.add_assoc]; exact hx) (by
          intro i j row u g1 g2
          obtain ⟨hil, rfl⟩ := hrows i row g1
          have hj : j < ts.length := by have := (List.getElem?_eq_some_iff.1 g2).1; rw [(hf i hil).1.1.1]; exact this
          have hjl : j < (f i).1.length := by rw [(hf i hil).1.2.1, ← (hf i hil).1.1.1]; exact hj
          rw [List.getElem?_eq_getElem hjl]
          exact (hf i hil).1.2.2 j u _ g2 (List.getElem?_eq_getElem hjl))
        have e2 : ((List.range len).map fun i => (f i).2).length = len := by simp
        rw [e2] at e
        exact e
      ·intro u hu
       simp only [List.mem_singleton] at hu
       subst hu
       refine ⟨?_, fun row hrow u hu => ?_⟩
       ·have := Nat.le_trans (hk.sl _ _).1 hBd
        simpa using this
       ·simp only [List.mem_map, List.mem_range] at hrow
        obtain ⟨i, hil, rfl⟩ := hrow
        exact (hf0 i hil).2 u hu |>.one
    ·cases h
   ·cases h
  ·cases h
theorem open_structB {t : TypeId} {tys : List Ty} {r : Reach} {b0 : Nat} {v : Value} {fs : Array Field} {d : DataW H} {p : List MemPlace} {dp : Nat} (hk : Bulk bk) (hs : P.underlying t = some (.struct fs)) (ht : tyOf P dp t = some tys) (hv : Value.okWide P w r b0 t v) (h : DataW.Trod enc P w base spare held t v d p) (hB : bk d ≤ B) :
  ∃ us, Fits tys us ∧ RV w (fun b => b < w.heap.size) noG (.agg us) v ∧ ∀ u ∈ us, Bd B u := by
 obtain ⟨cs, rfl, hsz⟩ := okWide_struct hs hv
 obtain ⟨fuel, hf⟩ := h
 obtain ⟨us, ⟨h1, h3, h4⟩, h5⟩ := reads_ofB hk dp fuel t _ _ _ ht hf hB
 obtain ⟨cs⟩ := cs
 exact ⟨us, h1, .agg us cs h3.symm h4, h5⟩
end
end Go.Proofs.YtjhdlcmecbngkaaDoor
namespace Go.Proofs.YtjhdlcmecbngkaaDoor
open Go
set_option linter.unusedVariables false
theorem upto_pos {H : Type} (d : DataW H) : 1 ≤ Rows.uptoBulk d := by
 cases d with
 | lit l => cases l <;> simp [Rows.uptoBulk]
 | _ => simp [Rows.uptoBulk]
theorem upto_mem {H : Type} : ∀ (ds : List (DataW H)) (d : DataW H), d ∈ ds → Rows.uptoBulk d ≤ Rows.uptoBulkAll ds
 | [], d, h => by simp at h
 | e :: ds, d, h => by
  simp only [Rows.uptoBulkAll]
  rcases List.mem_cons.1 h with rfl | h
  ·omega
  ·have := upto_mem ds d h; omega
theorem upto_len {H : Type} : ∀ (ds : List (DataW H)), ds.length ≤ Rows.uptoBulkAll ds
 | [] => by simp
 | e :: ds => by
  simp only [Rows.uptoBulkAll, List.length_cons]
  have := upto_len ds
  have := upto_pos e
  omega
theorem upto_bulk {H : Type} : Bulk (Rows.uptoBulk (H := H)) := by
 refine ⟨fun l => by simp [Rows.uptoBulk], fun ds d hd => ?_, fun es sp => ⟨?_, fun d hd => ?_⟩⟩
 ·have := upto_mem ds d hd
  simp only [Rows.uptoBulk]; omega
 ·have := upto_len es
  simp only [Rows.uptoBulk]; omega
 ·have := upto_mem es d hd
  simp only [Rows.uptoBulk]; omega
end Go.Proofs.YtjhdlcmecbngkaaDoor
namespace Go.Proofs.YtjhdlcmecbngkaaDoor
open Go Go.RowKit Pl
set_option linter.unusedVariables false
theorem rr_dec (row : List V) (h : Fits [.s, .i, .i, .i, .s, .i, .s] row) : ∃ r : Rr, row = r.row ∧ True := by
 obtain ⟨u0, _, rfl, f0, h⟩ := fits_cons h
 obtain ⟨u1, _, rfl, f1, h⟩ := fits_cons h
 obtain ⟨u2, _, rfl, f2, h⟩ := fits_cons h
 obtain ⟨u3, _, rfl, f3, h⟩ := fits_cons h
 obtain ⟨u4, _, rfl, f4, h⟩ := fits_cons h
 obtain ⟨u5, _, rfl, f5, h⟩ := fits_cons h
 obtain ⟨u6, _, rfl, f6, h⟩ := fits_cons h
 obtain rfl := fits_nil h
 obtain ⟨a, rfl, _⟩ := fit_s f0
 obtain ⟨b, rfl, _⟩ := fit_i f1
 obtain ⟨c, rfl, _⟩ := fit_i f2
 obtain ⟨d, rfl, _⟩ := fit_i f3
 obtain ⟨e, rfl, _⟩ := fit_s f4
 obtain ⟨f, rfl, _⟩ := fit_i f5
 obtain ⟨g, rfl, _⟩ := fit_s f6
 exact ⟨⟨a, b, c, d, e, f, g⟩, rfl, trivial⟩
structure MsIn (m : Ms) : Prop where
 sz : m.Sized
 ln : m.rs.length ≤ 1048576
theorem ms_dec {B : Nat} (hB : B ≤ 1048576) (us : List V) (h : Fits [.i, .b, .b, .i, .s, .i, .l [.s, .i, .i, .i, .s, .i, .s]] us) (hb : ∀ u ∈ us, Bd B u) : ∃ m : Ms, us = m.row ∧ MsIn m := by
 obtain ⟨u0, _, rfl, f0, h⟩ := fits_cons h
 obtain ⟨u1, _, rfl, f1, h⟩ := fits_cons h
 obtain ⟨u2, _, rfl, f2, h⟩ := fits_cons h
 obtain ⟨u3, _, rfl, f3, h⟩ := fits_cons h
 obtain ⟨u4, _, rfl, f4, h⟩ := fits_cons h
 obtain ⟨u5, _, rfl, f5, h⟩ := fits_cons h
 obtain ⟨u6, _, rfl, f6, h⟩ := fits_cons h
 obtain rfl := fits_nil h
 obtain ⟨a, rfl, _⟩ := fit_i f0
 obtain ⟨b, rfl⟩ := fit_b f1
 obtain ⟨c, rfl⟩ := fit_b f2
 obtain ⟨d, rfl, _⟩ := fit_i f3
 obtain ⟨e, rfl, _⟩ := fit_s f4
 obtain ⟨f, rfl, _⟩ := fit_i f5
 obtain ⟨l, rfl, _, _⟩ := fit_list rr_dec f6
 have he : e.size ≤ B := hb (.v (.string e)) (by simp)
 obtain ⟨hl, hr⟩ : (l.map Rr.row).length ≤ B ∧ ∀ row ∈ l.map Rr.row, ∀ u ∈ row, Bd1 B u := hb (.sl false (l.map Rr.row)) (by simp)
 rw [List.length_map] at hl
 refine ⟨⟨a, b, c, d, e, f, l⟩, rfl, ⟨by show e.size ≤ _; omega, fun r hx => ?_⟩, by show l.length ≤ _; omega⟩
 have h1 := hr r.row (List.mem_map_of_mem hx)
 have g1 : r.nm.size ≤ B := h1 (.v (.string r.nm)) (by simp [Rr.row])
 have g2 : r.tx.size ≤ B := h1 (.v (.string r.tx)) (by simp [Rr.row])
 have g3 : r.tg.size ≤ B := h1 (.v (.string r.tg)) (by simp [Rr.row])
 omega
theorem same_rr (r : Rr) : (r.nm.toList == r.nm.toList && (r.ty == r.ty && (r.ls == r.ls && (r.ad == r.ad && (r.tx.toList == r.tx.toList && (r.pt == r.pt && (r.tg.toList == r.tg.toList && true))))))) = true := by simp
theorem sameRecs_fun (c d : Bool) (l : List Rr) (hl : l.length ≤ 9223372036854775807) : Fun Tryd.prog 31 [.c (.sl c (l.map Rr.row)), .c (.sl d (l.map Rr.row))] [.c (.v (.bool true))] := by
 refine fun_x ck_hearsayref_SameRecords rfl ?_
 (refine goI ?_; repeat (intro gg; refine goI ?_))
 rw [show (((l.map Rr.row).length : Int) != ((l.map Rr.row).length : Int)) = false by simp]
 (refine goI ?_; repeat (intro gg; refine goI ?_))
 (refine ⟨[], none, {k : Nat // k ≤ l.length}, [0, 1], fun ⟨k, hk⟩ => [(5, .v (.int .i64 k))], [], fun ⟨k, hk⟩ => [], fun ⟨k, hk⟩ => l.length - k, trivial, fun _ => ⟨trivial, fun _ => ⟨⟨0, by omega⟩, tI, keptE_refl _ _, tI, keptH_refl _ _⟩⟩, fun ⟨k, hk⟩ => ?_⟩)
 (refine goI ?_; repeat (intro gg; refine goI ?_))
 simp only [List.length_map]
 (refine bIf_of (fun h2 => ?_) (fun h2 => ?_) <;> rw [h2])
 ·have hlt : k < l.length := (by have := of_decide_eq_true h2; omega)
  (refine goI ?_; repeat (intro gg; refine goI ?_))
  refine ⟨k, _, rfl, row_map hlt, ?_⟩
  (refine goI ?_; repeat (intro gg; refine goI ?_))
  refine ⟨k, _, rfl, row_map hlt, ?_⟩
  (refine goI ?_; repeat (intro gg; refine goI ?_))
  rw [same_rr]
  (refine goI ?_; repeat (intro gg; refine goI ?_))
  (exact ⟨none, trivial, fun _ => ⟨⟨k + 1, by omega⟩, by show l.length - (k + 1) < l.length - k; omega, tI, tI, tI, tI⟩⟩)
 ·have hge : ¬ k < l.length := (by have := of_decide_eq_false h2; omega)
  (refine goI ?_; repeat (intro gg; refine goI ?_))
  (exact ⟨[], aI⟩)
theorem sameMsg_fun (m : Ms) (hl : m.rs.length ≤ 9223372036854775807) : Fun Tryd.prog 28 [.c (.agg m.row), .c (.agg m.row)] [.c (.v (.bool true))] := by
 refine fun_x ck_hearsayref_SameMessage rfl ?_
 (refine goI ?_; repeat (intro gg; refine goI ?_))
 rw [show (m.id == m.id) = true from beq_self_eq_true _]
 (refine goI ?_; repeat (intro gg; refine goI ?_))
 rw [show (m.an == m.an) = true from beq_self_eq_true _]
 (refine goI ?_; repeat (intro gg; refine goI ?_))
 rw [show (m.ct == m.ct) = true from beq_self_eq_true _]
 (refine goI ?_; repeat (intro gg; refine goI ?_))
 rw [show (m.co == m.co) = true from beq_self_eq_true _]
 (refine goI ?_; repeat (intro gg; refine goI ?_))
 rw [show (m.qn.toList == m.qn.toList && (m.qt == m.qt && true)) = true by simp]
 (refine goI ?_; repeat (intro gg; refine goI ?_))
 (refine .inl ⟨_, _, false, [], aI, sameRecs_fun false false m.rs hl, nobor, nI, ?_⟩)
 (refine goI ?_; repeat (intro gg; refine goI ?_))
 (exact ⟨[], aI⟩)
theorem textIs_law (s w : ByteArray) (e f : Int) : Fun Tryd.prog 17 [.c (.v (.string s)), .c (.v (.int .i64 e)), .c (.v (.int .i64 f)), .c (.v (.string w))]
  [.c (.v (.bool (bif f != 0 then (bif e == f then s.toList == (⟨#[]⟩ : ByteArray).toList else false) else (bif e == f then s.toList == w.toList else false))))] := by
 refine fun_x ck_hearsaylaw_textIs rfl ?_
 (refine goI ?_; repeat (intro gg; refine goI ?_))
 (refine bIf_of (fun h1 => ?_) (fun h1 => ?_) <;> rw [h1])
 ·(refine goI ?_; repeat (intro gg; refine goI ?_))
  (refine bIf_of (fun h2 => ?_) (fun h2 => ?_) <;> rw [h2])
  ·(refine goI ?_; repeat (intro gg; refine goI ?_))
   (exact ⟨[], aI⟩)
  ·(refine goI ?_; repeat (intro gg; refine goI ?_))
   (exact ⟨[], aI⟩)
 ·(refine goI ?_; repeat (intro gg; refine goI ?_))
  (refine bIf_of (fun h2 => ?_) (fun h2 => ?_) <;> rw [h2])
  ·(refine goI ?_; repeat (intro gg; refine goI ?_))
   (exact ⟨[], aI⟩)
  ·(refine goI ?_; repeat (intro gg; refine goI ?_))
   (exact ⟨[], aI⟩)
theorem textIs_ok (s : ByteArray) : Fun Tryd.prog 17 [.c (.v (.string s)), .c (.v (.int .i64 0)), .c (.v (.int .i64 0)), .c (.v (.string s))] [.c (.v (.bool true))] := by
 have h := textIs_law s s 0 0
 rwa [show (bif (0 : Int) != 0 then (bif (0 : Int) == 0 then s.toList == (⟨#[]⟩ : ByteArray).toList else false) else (bif (0 : Int) == 0 then s.toList == s.toList else false)) = true from beq_self_eq_true _] at h
theorem textIs_bad (w : ByteArray) (e : Int) (he : e ≠ 0) : Fun Tryd.prog 17 [.c (.v (.string ⟨#[]⟩)), .c (.v (.int .i64 e)), .c (.v (.int .i64 e)), .c (.v (.string w))] [.c (.v (.bool true))] := by
 have h := textIs_law ⟨#[]⟩ w e e
 rwa [show (e != 0) = true from bne_iff_ne.2 he, show (e == e) = true from beq_self_eq_true _, show (bif true then (bif true then (⟨#[]⟩ : ByteArray).toList == (⟨#[]⟩ : ByteArray).toList else false) else (bif true then (⟨#[]⟩ : ByteArray).toList == w.toList else false)) = true from beq_self_eq_true _] at h
end Go.Proofs.YtjhdlcmecbngkaaDoor
