/- Texts of this claim, joined. -/
import Derived.Test.YtjhdlcmecbngkaaDoorRows
import Derived.Test.YtjhdlcmecbngkaaDoorUa
import Derived.Test.YtjhdlcmecbngkaaDoorUb
import Derived.Test.YtjhdlcmecbngkaaDoorUc
set_option linter.unusedSimpArgs false
namespace Go.Proofs.YtjhdlcmecbngkaaDoor
open Go Go.RowKit Pl
set_option linter.unusedVariables false
namespace Pl
def zeroMs : Ms := ⟨0, false, false, 0, ⟨#[]⟩, 0, []⟩
def rdP (s : ByteArray) : Ms × Int := if 512 < s.size then (zeroMs, 2) else match msgP s with
 | none => (zeroMs, 1)
 | some m => if msgErr m = 0 then (m, 0) else (zeroMs, 1)
end Pl
theorem Fr.out {L : Nat → Prop} {a b c : World} (h : Fr (fun _ => False) a b) (k : Fr L b c) (hl : ∀ i, L i → a.heap.size ≤ i) : Fr (fun _ => False) a c :=
 ⟨k.os.trans h.os, k.tape.trans h.tape, k.output.trans h.output, Nat.le_trans h.size k.size, fun i hi _ => (k.block i (Nat.lt_of_lt_of_le hi h.size) (fun hL => by have := hl i hL; omega)).trans (h.block i hi id)⟩
theorem Fr.blk {L : Nat → Prop} {a b : World} {g : Nat} {t : TypeId} {cs : Array Value} (h : Fr L a b) (hb : Blk a g t cs) (hl : ¬ L g) : Blk b g t cs := (h.block g hb.lt hl).trans hb
def msV (m : Ms) (y : Value) : Value := .agg #[.int .i64 m.id, .bool m.an, .bool m.ct, .int .i64 m.co, .string m.qn, .int .i64 m.qt, y]
theorem rv_ms {w : World} {R : Nat → Prop} {m : Ms} {y : Value} (h : RV w R noG (.sl false (m.rs.map Rr.row)) y) : RV w R noG (.agg m.row) (msV m y) := by
 refine .agg m.row [.int .i64 m.id, .bool m.an, .bool m.ct, .int .i64 m.co, .string m.qn, .int .i64 m.qt, y] rfl fun i u x hu hx => ?_
 unfold Ms.row at hu
 rcases i with _ | _ | _ | _ | _ | _ | _ | i
 all_goals first
  | (cases hu; cases hx; exact .v _)
  | (cases hu; cases hx; exact h)
  | (simp at hu)
theorem ms_rv {w : World} {R : Nat → Prop} {m : Ms} {x : Value} (h : RV w R noG (.agg m.row) x) : ∃ y, x = msV m y ∧ RV w R noG (.sl false (m.rs.map Rr.row)) y := by
 cases h with
 | agg cs xs hl h =>
  obtain ⟨x0, x1, x2, x3, x4, x5, x6, rfl⟩ : ∃ x0 x1 x2 x3 x4 x5 x6, xs = [x0, x1, x2, x3, x4, x5, x6] := by
   rcases xs with _ | ⟨x0, _ | ⟨x1, _ | ⟨x2, _ | ⟨x3, _ | ⟨x4, _ | ⟨x5, _ | ⟨x6, _ | ⟨x7, xs⟩⟩⟩⟩⟩⟩⟩⟩ <;> simp [Ms.row] at hl
   exact ⟨_, _, _, _, _, _, _, rfl⟩
  have h0 := rv_v (h 0 _ _ rfl rfl)
  have h1 := rv_v (h 1 _ _ rfl rfl)
  have h2 := rv_v (h 2 _ _ rfl rfl)
  have h3 := rv_v (h 3 _ _ rfl rfl)
  have h4 := rv_v (h 4 _ _ rfl rfl)
  have h5 := rv_v (h 5 _ _ rfl rfl)
  subst h0 h1 h2 h3 h4 h5
  exact ⟨x6, rfl, h 6 _ _ rfl rfl⟩
theorem sl_slice {w : World} {R : Nat → Prop} {G : Nat → Option Loc} {cl : Bool} {rows : List (List V)} {x : Value} (h : RV w R G (.sl cl rows) x) : ∃ a k c, x = .slice a k c := by
 generalize e : V.sl cl rows = u at h
 cases h with
 | nil => exact ⟨_, _, _, rfl⟩
 | sl => exact ⟨_, _, _, rfl⟩
 | _ => cases e
theorem pars_one {w : World} {R : Nat → Prop} {u : V} {x : Value} (h : RV w R noG u x) : Pars w R [.c u] [x] := by
 refine ⟨rfl, fun i p y h1 h2 => ?_, fun i j T sz rows T' sz' rows' x y b hij h1 => ?_, fun b h => ?_⟩
 ·rcases i with _ | i
  ·cases h1; cases h2; exact h
  ·simp at h1
 ·rcases i with _ | i <;> simp at h1
 ·obtain ⟨i, T, sz, rows, x, h1, _⟩ := h
  rcases i with _ | i <;> simp at h1
theorem no_blk1 {u : V} {x : Value} {b : Nat} (h : ParBlk [.c u] [x] b) : False := by
 obtain ⟨i, T, sz, rows, x, h1, _⟩ := h
 rcases i with _ | i <;> simp at h1
theorem rv_zero (w : World) (R : Nat → Prop) : RV w R noG (.agg zeroMs.row) (.agg zeroM) := rv_ms (m := zeroMs) (y := .slice none 0 0) (.nil false none 0 (by simp))
def RdPost (R : Nat → Prop) (w : World) (m : Ms) (er : Int) (e : Ending) (w' : World) : Prop :=
 ∃ (x : Value) (R' : Nat → Prop), e = .returned (.tuple #[x, .int .i64 er]) ∧ Fr (fun _ => False) w w' ∧ (∀ b, R b → R' b) ∧ (∀ b, R' b → R b ∨ (b < w'.heap.size ∧ w.heap.size ≤ b)) ∧ RV w' R' noG (.agg m.row) x
theorem rd_pars {s : ByteArray} {W : World} {R : Nat → Prop} {n : Nat} {cs : List Par} (hb : Blk W n rdT #[.string s, .int .i64 0]) (hn : ¬ R n) : ParsM W R [.mn rdT (rdC s 0) cs] [.pointer (some ⟨n, 0, none⟩)] (fun k => k = n) := by
 have hp : Pars W R (rdC s 0) [.string s, .int .i64 0] := by
  refine ⟨rfl, fun i p x h1 h2 => ?_, fun i j T sz rows T' sz' rows' x y b hij h1 => ?_, fun b h => ?_⟩
  ·rcases i with _ | _ | i
   ·cases h1; cases h2; exact .v _
   ·cases h1; cases h2; exact .v _
   ·simp [rdC, rdZ] at h1
  ·rcases i with _ | _ | i <;> simp [rdC, rdZ] at h1
  ·obtain ⟨i, T, sz, rows, x, h1, _⟩ := h
   rcases i with _ | _ | i <;> simp [rdC, rdZ] at h1
 have hnb : ∀ k, ¬ ParBlk (rdC s 0) [.string s, .int .i64 0] k := fun k h => by
  obtain ⟨i, T, sz, rows, x, h1, _⟩ := h
  rcases i with _ | _ | i <;> simp [rdC, rdZ] at h1
 refine ⟨fun k => k = n, fun _ => False, ⟨n, [.string s, .int .i64 0], rfl, by simp [rdC, rdZ], ⟨rfl, .inr ⟨n, 1, _, rfl, Nat.zero_le _, hb, by simp, by decide, rfl, rfl⟩⟩, hp, by simp [Value.oneCell'], hnb n, fun k => ⟨.inl, fun h => h.elim id (fun h => absurd h (hnb k))⟩⟩, fun _ h => h, fun b h => ⟨id, by rw [h]; exact hn⟩, fun b => ⟨.inl, fun h => h.elim id False.elim⟩⟩
set_option maxRecDepth 100000 in
set_option maxHeartbeats 2000000 in
theorem read_long (s : ByteArray) (w : World) (h : (512 : Int) < (s.size : Int)) (R : Nat → Prop) (hlt : ∀ b, R b → b < w.heap.size) : Calls Tryd.prog 26 #[.string s] w (RdPost R w zeroMs 2) := by
 have hmf : ∀ (fn : Fn) (first cap : Array Value) (w : World), (Instr.makeFunc fn first cap).run Tryd.prog w = .ok (.func fn first cap) w := fun _ _ _ _ => rfl
 go_enter_defers Tryd.func26, Tryd.ntmps26
 go_wp2
 have B0 := Blk.new w 40 zeroM
 have B1 := Blk.new (w.alloc (.cells zeroM 40)) 24 #[.int .i64 2]
 have B2 := B0.alloc (.cells #[.int .i64 2] 24)
 simp [bodyPostD, Leaves, settle, results, Tryd.results26, go_sem]
 refine ⟨.agg zeroM, R, rfl, ?_, fun b h => h, fun b h => .inl h, rv_zero _ _⟩
 exact ((Fr.refl _ w).alloc_ _).alloc_ _
set_option maxRecDepth 100000 in
set_option maxHeartbeats 2000000 in
theorem read_die (s : ByteArray) (w : World) (h : ¬ (512 : Int) < (s.size : Int)) (R : Nat → Prop) (hlt : ∀ b, R b → b < w.heap.size) (hd : FunDie Tryd.prog 51 [.mn rdT (rdC s 0) (rdC s 0)] wrongV) : Calls Tryd.prog 26 #[.string s] w (RdPost R w zeroMs 1) := by
 have hmf : ∀ (fn : Fn) (first cap : Array Value) (w : World), (Instr.makeFunc fn first cap).run Tryd.prog w = .ok (.func fn first cap) w := fun _ _ _ _ => rfl
 go_enter_defers Tryd.func26, Tryd.ntmps26
 go_wp2_with fail
 have B0 := Blk.new w 40 zeroM
 have B1 := Blk.new_ (w.alloc (.cells zeroM 40)) 24 #[.int .i64 0] (g := w.heap.size + 1) (by simp [World.alloc, -World.alloc_eq])
 have B0' := B0.alloc (.cells #[.int .i64 0] 24)
 have B2 := Blk.new_ ((w.alloc (.cells zeroM 40)).alloc (.cells #[.int .i64 0] 24)) rdT #[.string s, .int .i64 0] (g := w.heap.size + 1 + 1) (by simp [World.alloc, -World.alloc_eq])
 have B0'' := B0'.alloc (.cells #[.string s, .int .i64 0] rdT)
 have B1'' := B1.alloc (.cells #[.string s, .int .i64 0] rdT)
 refine (hd.2 _ (fun _ => False) [_] _ (fun _ h => h.elim) (rd_pars B2 id)).mono ?_
 rintro e w1 ⟨rfl, hf⟩
 have C0 := hf.blk B0'' (by omega)
 have C1 := hf.blk B1'' (by omega)
 refine leaves_cons (f := 50) (args := #[.pointer (some ⟨w.heap.size, 0, none⟩), .pointer (some ⟨w.heap.size + 1, 0, none⟩)]) (by simp) (by simp [go_sem]) ?_
 refine (catch_dead w.heap.size (w.heap.size + 1) _ _ _ _ _ _ _ _ w1 C0 C1 (by omega)).mono ?_
 rintro e u' w2 ⟨rfl, rfl, hC⟩
 obtain ⟨D0, D1, hf2⟩ := hC
 have e0 : w2.cell? ⟨w.heap.size, 0, none⟩ = some (.int .i64 0) := D0.cell 0
 have e1 : w2.cell? ⟨w.heap.size, 1, none⟩ = some (.bool false) := D0.cell 1
 have e2 : w2.cell? ⟨w.heap.size, 2, none⟩ = some (.bool false) := D0.cell 2
 have e3 : w2.cell? ⟨w.heap.size, 3, none⟩ = some (.int .i64 0) := D0.cell 3
 have e4 : w2.cell? ⟨w.heap.size, 4, none⟩ = some (.string ⟨#[]⟩) := D0.cell 4
 have e5 : w2.cell? ⟨w.heap.size, 5, none⟩ = some (.int .i64 0) := D0.cell 5
 have e6 : w2.cell? ⟨w.heap.size, 6, none⟩ = some (.slice none 0 0) := D0.cell 6
 have g0 : w2.cell? ⟨w.heap.size + 1, 0, none⟩ = some (.int .i64 1) := D1.cell 0
 simp [Leaves, settle, results, Tryd.results26, go_sem, e0, e1, e2, e3, e4, e5, e6, g0]
 refine ⟨.agg zeroM, R, rfl, ?_, fun b h => h, fun b h => .inl h, rv_zero _ _⟩
 have F0 : Fr (fun _ => False) w _ := (((Fr.refl _ w).alloc_ (.cells zeroM 40)).alloc_ (.cells #[.int .i64 0] 24)).alloc_ (.cells #[.string s, .int .i64 0] rdT)
 exact (F0.out hf (fun i hi => by omega)).out hf2 (fun i hi => by omega)
set_option maxRecDepth 100000 in
set_option maxHeartbeats 2000000 in
theorem read_ok (s : ByteArray) (m : Ms) (w : World) (h : ¬ (512 : Int) < (s.size : Int)) (R : Nat → Prop) (hlt : ∀ b, R b → b < w.heap.size) (hm : FunM Tryd.prog 51 [.mn rdT (rdC s 0) (rdC s s.size)] [.p (.c (.agg m.row))])
  (hc : Fun Tryd.prog 43 [.c (.agg m.row)] [.c (.v (.int .i64 (msgErr m)))]) (v : Ms) (er : Int) (hv : msgErr m = 0 → v = m ∧ er = 0) (hz : msgErr m ≠ 0 → v = zeroMs ∧ er = 1) : Calls Tryd.prog 26 #[.string s] w (RdPost R w v er) := by
 have hv := hid hv
 have hz := hid hz
 have hmf : ∀ (fn : Fn) (first cap : Array Value) (w : World), (Instr.makeFunc fn first cap).run Tryd.prog w = .ok (.func fn first cap) w := fun _ _ _ _ => rfl
 go_enter_defers Tryd.func26, Tryd.ntmps26
 go_wp2_with fail
 have B0 := Blk.new w 40 zeroM
 have B1 := Blk.new_ (w.alloc (.cells zeroM 40)) 24 #[.int .i64 0] (g := w.heap.size + 1) (by simp [World.alloc, -World.alloc_eq])
 have B0' := B0.alloc (.cells #[.int .i64 0] 24)
 have B2 := Blk.new_ ((w.alloc (.cells zeroM 40)).alloc (.cells #[.int .i64 0] 24)) rdT #[.string s, .int .i64 0] (g := w.heap.size + 1 + 1) (by simp [World.alloc, -World.alloc_eq])
 have B0'' := B0'.alloc (.cells #[.string s, .int .i64 0] rdT)
 have B1'' := B1.alloc (.cells #[.string s, .int .i64 0] rdT)
 have F0 : Fr (fun _ => False) w _ := (((Fr.refl _ w).alloc_ (.cells zeroM 40)).alloc_ (.cells #[.int .i64 0] 24)).alloc_ (.cells #[.string s, .int .i64 0] rdT)
 refine (hm.2 _ R [_] _ (fun b hb => Nat.lt_of_lt_of_le (hlt b hb) F0.size) (rd_pars B2 fun hR => by have := hlt _ hR; omega)).mono ?_
 rintro e w1 ⟨ys, R1, F1, rfl, hl, hf, hR1, hR2, hp, hF⟩
 have C0 := hf.blk B0'' (by omega)
 have C1 := hf.blk B1'' (by omega)
 obtain ⟨x, rfl⟩ : ∃ x, ys = [x] := by
  rcases ys with _ | ⟨x, _ | ⟨x', ys⟩⟩ <;> simp at hl
  exact ⟨x, rfl⟩
 obtain ⟨y, rfl, hy⟩ : ∃ y, x = msV m y ∧ RV w1 R1 noG (.sl false (m.rs.map Rr.row)) y := by
  obtain ⟨G1, G2, h1, _⟩ := hp
  exact ms_rv h1.1
 obtain ⟨a, k, c, rfl⟩ : ∃ a k c, y = .slice a k c := by
  exact sl_slice hy
 have hy := hid hy
 have hR1 := hid hR1
 have hR2 := hid hR2
 have hp := hid hp
 have hF := hid hF
 have HF := hid hf
 clear hf
 have e0 : w1.cell? ⟨w.heap.size, 0, none⟩ = some (.int .i64 0) := C0.cell 0
 have e1 : w1.cell? ⟨w.heap.size, 1, none⟩ = some (.bool false) := C0.cell 1
 have e2 : w1.cell? ⟨w.heap.size, 2, none⟩ = some (.bool false) := C0.cell 2
 have e3 : w1.cell? ⟨w.heap.size, 3, none⟩ = some (.int .i64 0) := C0.cell 3
 have e4 : w1.cell? ⟨w.heap.size, 4, none⟩ = some (.string ⟨#[]⟩) := C0.cell 4
 have e5 : w1.cell? ⟨w.heap.size, 5, none⟩ = some (.int .i64 0) := C0.cell 5
 have e6 : w1.cell? ⟨w.heap.size, 6, none⟩ = some (.slice none 0 0) := C0.cell 6
 have f0 := fun i => C0.frozen i
 have g0 : w1.cell? ⟨w.heap.size + 1, 0, none⟩ = some (.int .i64 0) := C1.cell 0
 have h0 := C1.frozen 0
 simp only [packV, msV]
 go_wp2_with fail
 have D0 : Blk (((((((w1.setCell ⟨w.heap.size, 0, none⟩ (.int .i64 m.id)).setCell ⟨w.heap.size, 1, none⟩ (.bool m.an)).setCell ⟨w.heap.size, 2, none⟩ (.bool m.ct)).setCell ⟨w.heap.size, 3, none⟩ (.int .i64 m.co)).setCell ⟨w.heap.size, 4, none⟩ (.string m.qn)).setCell ⟨w.heap.size, 5, none⟩ (.int .i64 m.qt)).setCell ⟨w.heap.size, 6, none⟩ (.slice a k c)) w.heap.size 40 #[.int .i64 m.id, .bool m.an, .bool m.ct, .int .i64 m.co, .string m.qn, .int .i64 m.qt, .slice a k c] :=
  ((((((C0.set_ 0 _).set_ 1 _).set_ 2 _).set_ 3 _).set_ 4 _).set_ 5 _).set_ 6 _
 have D1 := ((((((C1.far (p := ⟨w.heap.size, 0, none⟩) (by simp) (.int .i64 m.id)).far (p := ⟨w.heap.size, 1, none⟩) (by simp) (.bool m.an)).far (p := ⟨w.heap.size, 2, none⟩) (by simp) (.bool m.ct)).far (p := ⟨w.heap.size, 3, none⟩) (by simp) (.int .i64 m.co)).far (p := ⟨w.heap.size, 4, none⟩) (by simp) (.string m.qn)).far (p := ⟨w.heap.size, 5, none⟩) (by simp) (.int .i64 m.qt)).far (p := ⟨w.heap.size, 6, none⟩) (by simp) (.slice a k c)
 have F2 : Fr (fun k => k = w.heap.size) w1 _ := (((((((Fr.refl (fun k => k = w.heap.size) w1).set_ rfl 0 (.int .i64 m.id)).set_ rfl 1 (.bool m.an)).set_ rfl 2 (.bool m.ct)).set_ rfl 3 (.int .i64 m.co)).set_ rfl 4 (.string m.qn)).set_ rfl 5 (.int .i64 m.qt)).set_ rfl 6 (.slice a k c)
 generalize hw2 : (((((((w1.setCell ⟨w.heap.size, 0, none⟩ (.int .i64 m.id)).setCell ⟨w.heap.size, 1, none⟩ (.bool m.an)).setCell ⟨w.heap.size, 2, none⟩ (.bool m.ct)).setCell ⟨w.heap.size, 3, none⟩ (.int .i64 m.co)).setCell ⟨w.heap.size, 4, none⟩ (.string m.qn)).setCell ⟨w.heap.size, 5, none⟩ (.int .i64 m.qt)).setCell ⟨w.heap.size, 6, none⟩ (.slice a k c)) = w2 at D0 D1 F2 ⊢
 clear e0 e1 e2 e3 e4 e5 e6 f0 g0 h0 hw2
 have hn1 : ∀ b, R1 b → b ≠ w.heap.size ∧ b ≠ w.heap.size + 1 := fun b hb => by
  rcases hR2.out b hb with g | ⟨g1, g2⟩
  ·have := hlt b g; omega
  ·rcases g2 with g2 | g2
   ·omega
   ·have := F0.size; simp [World.alloc, -World.alloc_eq] at g2; omega
 have hlt1 : ∀ b, R1 b → b < w1.heap.size := fun b hb => by
  rcases hR2.out b hb with g | ⟨g1, g2⟩
  ·have := hlt b g; have := F0.size; have := HF.out.size; omega
  ·exact g1
 have hy2 := hy.out.mono (fun b hb => ⟨hb, F2.block b (hlt1 b hb) (hn1 b hb).1⟩) (Gle.refl _)
 refine (hc.2 _ R1 [_] (fun b hb => Nat.lt_of_lt_of_le (hlt1 b hb) F2.size) (pars_one (rv_ms hy2))).mono ?_
 rintro e w3 ⟨ys, R3, rfl, hf3, hR3, hR4, hp3, hF3⟩
 obtain ⟨x, rfl⟩ : ∃ x, ys = [x] := by
  have hl := hp3.len
  rcases ys with _ | ⟨x, _ | ⟨x', ys⟩⟩ <;> simp at hl
  exact ⟨x, rfl⟩
 have hx : x = .int .i64 (msgErr m) := rv_v (hp3.ok 0 _ _ rfl rfl)
 subst hx
 have hf3' : Fr (fun _ => False) w2 w3 := ⟨hf3.os, hf3.tape, hf3.output, hf3.size, fun k hk _ => hf3.block k hk no_blk1⟩
 have E0 := hf3'.blk D0 id
 have E1 := hf3'.blk D1 id
 have hy3 := hid (hy2.mono (fun b hb => ⟨hb, hf3'.block b (Nat.lt_of_lt_of_le (hlt1 b hb) F2.size) id⟩) (Gle.refl _))
 have HF3 := hid hf3'
 have hp3 := hid hp3
 have hn1 := hid hn1
 have hlt1 := hid hlt1
 clear hf3 hR3 hR4 hF3 hp3 hf3' hy2
 simp only [packV]
 have e0 : w3.cell? ⟨w.heap.size, 0, none⟩ = some (.int .i64 m.id) := E0.cell 0
 have e1 : w3.cell? ⟨w.heap.size, 1, none⟩ = some (.bool m.an) := E0.cell 1
 have e2 : w3.cell? ⟨w.heap.size, 2, none⟩ = some (.bool m.ct) := E0.cell 2
 have e3 : w3.cell? ⟨w.heap.size, 3, none⟩ = some (.int .i64 m.co) := E0.cell 3
 have e4 : w3.cell? ⟨w.heap.size, 4, none⟩ = some (.string m.qn) := E0.cell 4
 have e5 : w3.cell? ⟨w.heap.size, 5, none⟩ = some (.int .i64 m.qt) := E0.cell 5
 have e6 : w3.cell? ⟨w.heap.size, 6, none⟩ = some (.slice a k c) := E0.cell 6
 have f0 := fun i => E0.frozen i
 have g0 : w3.cell? ⟨w.heap.size + 1, 0, none⟩ = some (.int .i64 0) := E1.cell 0
 have h0 := E1.frozen 0
 by_cases hE : msgErr m = 0
 ·obtain ⟨h1, h2⟩ := hv.out hE
  have h1 := hid h1
  have h2 := hid h2
  go_wp2_with fail
  refine leaves_cons (f := 50) (args := #[.pointer (some ⟨w.heap.size, 0, none⟩), .pointer (some ⟨w.heap.size + 1, 0, none⟩)]) (by simp) (by simp [go_sem]) ?_
  refine (catch_idle w.heap.size (w.heap.size + 1) _).mono ?_
  rintro e u' w4 ⟨rfl, rfl, hw4⟩
  have F4 : Fr (fun k => k = w.heap.size ∨ k = w.heap.size + 1) w3 w4 := by rw [hw4]; exact (((((((((Fr.refl (fun k => k = w.heap.size ∨ k = w.heap.size + 1) w3).set_ (.inl rfl) 0 (.int .i64 m.id)).set_ (.inl rfl) 1 (.bool m.an)).set_ (.inl rfl) 2 (.bool m.ct)).set_ (.inl rfl) 3 (.int .i64 m.co)).set_ (.inl rfl) 4 (.string m.qn)).set_ (.inl rfl) 5 (.int .i64 m.qt)).set_ (.inl rfl) 6 (.slice a k c)).set_ (.inr rfl) 0 (.int .i64 0)).alloc_ (.cells #[] 68)
  have G0 : Blk w4 w.heap.size 40 #[.int .i64 m.id, .bool m.an, .bool m.ct, .int .i64 m.co, .string m.qn, .int .i64 m.qt, .slice a k c] := by rw [hw4]; exact ((((((((E0.set_ 0 (.int .i64 m.id)).set_ 1 (.bool m.an)).set_ 2 (.bool m.ct)).set_ 3 (.int .i64 m.co)).set_ 4 (.string m.qn)).set_ 5 (.int .i64 m.qt)).set_ 6 (.slice a k c)).far (p := ⟨w.heap.size + 1, 0, none⟩) (by simp) (.int .i64 0)).alloc (.cells #[] 68)
  have G1 : Blk w4 (w.heap.size + 1) 24 #[.int .i64 0] := by rw [hw4]; exact ((((((((E1.far (p := ⟨w.heap.size, 0, none⟩) (by simp) (.int .i64 m.id)).far (p := ⟨w.heap.size, 1, none⟩) (by simp) (.bool m.an)).far (p := ⟨w.heap.size, 2, none⟩) (by simp) (.bool m.ct)).far (p := ⟨w.heap.size, 3, none⟩) (by simp) (.int .i64 m.co)).far (p := ⟨w.heap.size, 4, none⟩) (by simp) (.string m.qn)).far (p := ⟨w.heap.size, 5, none⟩) (by simp) (.int .i64 m.qt)).far (p := ⟨w.heap.size, 6, none⟩) (by simp) (.slice a k c)).set_ 0 (.int .i64 0)).alloc (.cells #[] 68)
  clear hw4 e0 e1 e2 e3 e4 e5 e6 f0 g0 h0
  have e0 : w4.cell? ⟨w.heap.size, 0, none⟩ = some (.int .i64 m.id) := G0.cell 0
  have e1 : w4.cell? ⟨w.heap.size, 1, none⟩ = some (.bool m.an) := G0.cell 1
  have e2 : w4.cell? ⟨w.heap.size, 2, none⟩ = some (.bool m.ct) := G0.cell 2
  have e3 : w4.cell? ⟨w.heap.size, 3, none⟩ = some (.int .i64 m.co) := G0.cell 3
  have e4 : w4.cell? ⟨w.heap.size, 4, none⟩ = some (.string m.qn) := G0.cell 4
  have e5 : w4.cell? ⟨w.heap.size, 5, none⟩ = some (.int .i64 m.qt) := G0.cell 5
  have e6 : w4.cell? ⟨w.heap.size, 6, none⟩ = some (.slice a k c) := G0.cell 6
  have g0 : w4.cell? ⟨w.heap.size + 1, 0, none⟩ = some (.int .i64 0) := G1.cell 0
  simp [Leaves, settle, results, Tryd.results26, go_sem, e0, e1, e2, e3, e4, e5, e6, g0]
  rw [h1.out, h2.out]
  refine ⟨msV m (.slice a k c), R1, rfl, ((((F0.out HF.out (fun i hi => by omega)).out F2 (fun i hi => by omega)).out HF3.out (fun i hi => hi.elim))).out F4 (fun i hi => by omega), hR1.out, fun b hb => ?_, rv_ms (hy3.out.mono (fun b hb => ⟨hb, F4.block b (Nat.lt_of_lt_of_le (hlt1.out b hb) (Nat.le_trans F2.size HF3.out.size)) (by have := hn1.out b hb; omega)⟩) (Gle.refl _))⟩
  rcases hR2.out b hb with g | ⟨g1, g2⟩
  ·exact .inl g
  ·refine .inr ⟨Nat.lt_of_lt_of_le g1 (Nat.le_trans F2.size (Nat.le_trans HF3.out.size F4.size)), ?_⟩
   rcases g2 with g2 | g2
   ·omega
   ·exact Nat.le_trans F0.size g2
 ·obtain ⟨h1, h2⟩ := hz.out hE
  have h1 := hid h1
  have h2 := hid h2
  go_wp2_with fail
  refine leaves_cons (f := 50) (args := #[.pointer (some ⟨w.heap.size, 0, none⟩), .pointer (some ⟨w.heap.size + 1, 0, none⟩)]) (by simp) (by simp [go_sem]) ?_
  refine (catch_idle w.heap.size (w.heap.size + 1) _).mono ?_
  rintro e u' w4 ⟨rfl, rfl, hw4⟩
  have F4 : Fr (fun k => k = w.heap.size ∨ k = w.heap.size + 1) w3 w4 := by rw [hw4]; exact (((((((((Fr.refl (fun k => k = w.heap.size ∨ k = w.heap.size + 1) w3).set_ (.inl rfl) 0 (.int .i64 0)).set_ (.inl rfl) 1 (.bool false)).set_ (.inl rfl) 2 (.bool false)).set_ (.inl rfl) 3 (.int .i64 0)).set_ (.inl rfl) 4 (.string ⟨#[]⟩)).set_ (.inl rfl) 5 (.int .i64 0)).set_ (.inl rfl) 6 (.slice none 0 0)).set_ (.inr rfl) 0 (.int .i64 1)).alloc_ (.cells #[] 68)
  have G0 : Blk w4 w.heap.size 40 #[.int .i64 0, .bool false, .bool false, .int .i64 0, .string ⟨#[]⟩, .int .i64 0, .slice none 0 0] := by rw [hw4]; exact ((((((((E0.set_ 0 (.int .i64 0)).set_ 1 (.bool false)).set_ 2 (.bool false)).set_ 3 (.int .i64 0)).set_ 4 (.string ⟨#[]⟩)).set_ 5 (.int .i64 0)).set_ 6 (.slice none 0 0)).far (p := ⟨w.heap.size + 1, 0, none⟩) (by simp) (.int .i64 1)).alloc (.cells #[] 68)
  have G1 : Blk w4 (w.heap.size + 1) 24 #[.int .i64 1] := by rw [hw4]; exact ((((((((E1.far (p := ⟨w.heap.size, 0, none⟩) (by simp) (.int .i64 0)).far (p := ⟨w.heap.size, 1, none⟩) (by simp) (.bool false)).far (p := ⟨w.heap.size, 2, none⟩) (by simp) (.bool false)).far (p := ⟨w.heap.size, 3, none⟩) (by simp) (.int .i64 0)).far (p := ⟨w.heap.size, 4, none⟩) (by simp) (.string ⟨#[]⟩)).far (p := ⟨w.heap.size, 5, none⟩) (by simp) (.int .i64 0)).far (p := ⟨w.heap.size, 6, none⟩) (by simp) (.slice none 0 0)).set_ 0 (.int .i64 1)).alloc (.cells #[] 68)
  clear hw4 e0 e1 e2 e3 e4 e5 e6 f0 g0 h0
  have e0 : w4.cell? ⟨w.heap.size, 0, none⟩ = some (.int .i64 0) := G0.cell 0
  have e1 : w4.cell? ⟨w.heap.size, 1, none⟩ = some (.bool false) := G0.cell 1
  have e2 : w4.cell? ⟨w.heap.size, 2, none⟩ = some (.bool false) := G0.cell 2
  have e3 : w4.cell? ⟨w.heap.size, 3, none⟩ = some (.int .i64 0) := G0.cell 3
  have e4 : w4.cell? ⟨w.heap.size, 4, none⟩ = some (.string ⟨#[]⟩) := G0.cell 4
  have e5 : w4.cell? ⟨w.heap.size, 5, none⟩ = some (.int .i64 0) := G0.cell 5
  have e6 : w4.cell? ⟨w.heap.size, 6, none⟩ = some (.slice none 0 0) := G0.cell 6
  have g0 : w4.cell? ⟨w.heap.size + 1, 0, none⟩ = some (.int .i64 1) := G1.cell 0
  simp [Leaves, settle, results, Tryd.results26, go_sem, e0, e1, e2, e3, e4, e5, e6, g0]
  rw [h1.out, h2.out]
  refine ⟨.agg zeroM, R1, rfl, ((((F0.out HF.out (fun i hi => by omega)).out F2 (fun i hi => by omega)).out HF3.out (fun i hi => hi.elim))).out F4 (fun i hi => by omega), hR1.out, fun b hb => ?_, rv_zero _ _⟩
  rcases hR2.out b hb with g | ⟨g1, g2⟩
  ·exact .inl g
  ·refine .inr ⟨Nat.lt_of_lt_of_le g1 (Nat.le_trans F2.size (Nat.le_trans HF3.out.size F4.size)), ?_⟩
   rcases g2 with g2 | g2
   ·omega
   ·exact Nat.le_trans F0.size g2
end Go.Proofs.YtjhdlcmecbngkaaDoor
namespace Go.Proofs.YtjhdlcmecbngkaaDoor
open Go Go.RowKit Pl
set_option linter.unusedVariables false
theorem recsP_bd {s : ByteArray} : ∀ {n a : Nat} {L : List Rr} {a' : Nat}, recsP s n a = some (L, a') → L.length = n ∧ ∀ r ∈ L, r.nm.size ≤ 1000 ∧ r.tx.size ≤ s.size ∧ r.tg.size ≤ 1000
 | 0, a, L, a', h => by
  unfold recsP at h
  cases h
  exact ⟨rfl, fun r hr => by cases hr⟩
 | n + 1, a, L, a', h => by
  unfold recsP at h
  rcases e : recP s a with _ | ⟨r, a1⟩
  ·rw [e] at h; cases h
  rw [e, Option.bind_some] at h
  simp only at h
  rcases e2 : recsP s n a1 with _ | ⟨L1, a2⟩
  ·rw [e2] at h; cases h
  rw [e2, Option.bind_some] at h
  cases h
  obtain ⟨h1, h2⟩ := recsP_bd e2
  have hb := recP_bd e
  refine ⟨by rw [List.length_cons, h1], fun x hx => ?_⟩
  rcases List.mem_cons.1 hx with rfl | hx
  ·exact ⟨hb.2.1, hb.2.2.1, hb.2.2.2⟩
  ·exact h2 x hx
theorem msgP_bd {s : ByteArray} {m : Ms} (hs : s.size ≤ 1000000) (h : msgP s = some m) : m.Sized ∧ m.rs.length ≤ 20 := by
 unfold msgP at h
 rcases e1 : twoP s 0 with _ | ⟨x1, a1⟩
 ·rw [e1] at h; cases h
 rw [e1, Option.bind_some] at h; simp only at h
 rcases e2 : byteP s a1 with _ | ⟨x2, a2⟩
 ·rw [e2] at h; cases h
 rw [e2, Option.bind_some] at h; simp only at h
 rcases e3 : byteP s a2 with _ | ⟨x3, a3⟩
 ·rw [e3] at h; cases h
 rw [e3, Option.bind_some] at h; simp only at h
 split at h
 rotate_left
 ·cases h
 rcases e4 : twoP s a3 with _ | ⟨x4, a4⟩
 ·rw [e4] at h; cases h
 rw [e4, Option.bind_some] at h; simp only at h
 split at h
 rotate_left
 ·cases h
 rcases e5 : twoP s a4 with _ | ⟨x5, a5⟩
 ·rw [e5] at h; cases h
 rw [e5, Option.bind_some] at h; simp only at h
 split at h
 rotate_left
 ·cases h
 rename_i c5
 rcases e6 : twoP s a5 with _ | ⟨x6, a6⟩
 ·rw [e6] at h; cases h
 rw [e6, Option.bind_some] at h; simp only at h
 split at h
 rotate_left
 ·cases h
 rcases e7 : twoP s a6 with _ | ⟨x7, a7⟩
 ·rw [e7] at h; cases h
 rw [e7, Option.bind_some] at h; simp only at h
 split at h
 rotate_left
 ·cases h
 rcases e8 : nameP s a7 with _ | ⟨x8, a8⟩
 ·rw [e8] at h; cases h
 rw [e8, Option.bind_some] at h; simp only at h
 rcases e9 : twoP s a8 with _ | ⟨x9, a9⟩
 ·rw [e9] at h; cases h
 rw [e9, Option.bind_some] at h; simp only at h
 rcases e10 : twoP s a9 with _ | ⟨x10, a10⟩
 ·rw [e10] at h; cases h
 rw [e10, Option.bind_some] at h; simp only at h
 split at h
 rotate_left
 ·cases h
 rcases e11 : recsP s x5 a10 with _ | ⟨x11, a11⟩
 ·rw [e11] at h; cases h
 rw [e11, Option.bind_some] at h; simp only at h
 split at h
 rotate_left
 ·cases h
 cases h
 obtain ⟨h1, h2⟩ := recsP_bd e11
 have h8 := (nameP_bd e8).2
 refine ⟨⟨by show x8.size ≤ _; omega, fun r hr => ?_⟩, by show x11.length ≤ 20; omega⟩
 obtain ⟨g1, g2, g3⟩ := h2 r hr
 exact ⟨by omega, by omega, by omega⟩
theorem rdP_long {s : ByteArray} (h : 512 < s.size) : rdP s = (zeroMs, 2) := if_pos h
theorem rdP_none {s : ByteArray} (h : ¬ 512 < s.size) (e : msgP s = none) : rdP s = (zeroMs, 1) := by unfold rdP; rw [if_neg h, e]
theorem rdP_some {s : ByteArray} {m : Ms} (h : ¬ 512 < s.size) (e : msgP s = some m) : rdP s = if msgErr m = 0 then (m, 0) else (zeroMs, 1) := by unfold rdP; rw [if_neg h, e]
theorem read_any (s : ByteArray) (w : World) (R : Nat → Prop) (hlt : ∀ b, R b → b < w.heap.size) : Calls Tryd.prog 26 #[.string s] w (RdPost R w (rdP s).1 (rdP s).2) := by
 by_cases h : 512 < s.size
 ·rw [rdP_long h]
  exact read_long s w (by omega) R hlt
 ·rcases e : msgP s with _ | m
  ·rw [rdP_none h e]
   exact read_die s w (by omega) R hlt (rmessage_die e (by omega))
  ·obtain ⟨h1, h2⟩ := msgP_bd (by omega) e
   rw [rdP_some h e]
   refine read_ok s m w (by omega) R hlt (rmessage_fun e (by omega)) (check_fun m h1 (by omega)) _ _ (fun he => ?_) (fun he => ?_)
   ·rw [if_pos he]; exact ⟨rfl, rfl⟩
   ·rw [if_neg he]; exact ⟨rfl, rfl⟩
theorem Read_fun (s : ByteArray) : Fun Tryd.prog 26 [.c (.v (.string s))] [.c (.agg (rdP s).1.row), .c (.v (.int .i64 (rdP s).2))] := by
 refine ⟨⟨_, Tryd.func26, by kernel_rfl, by kernel_rfl⟩, fun w R xs hlt hp => ?_⟩
 obtain ⟨x, rfl⟩ : ∃ x, xs = [x] := by
  have hl := hp.len
  rcases xs with _ | ⟨x, _ | ⟨x', xs⟩⟩ <;> simp at hl
  exact ⟨x, rfl⟩
 have hx : x = .string s := rv_v (hp.ok 0 _ _ rfl rfl)
 subst hx
 refine (read_any s w R hlt).mono ?_
 rintro e w' ⟨x, R', rfl, hf, h1, h2, h3⟩
 have hnb : ∀ b, ¬ ParBlk [.c (.agg (rdP s).1.row), .c (.v (.int .i64 (rdP s).2))] [x, .int .i64 (rdP s).2] b := fun b => no_blk (by intro p hp; rcases List.mem_cons.1 hp with rfl | hp; exact ⟨_, rfl⟩; rcases List.mem_cons.1 hp with rfl | hp; exact ⟨_, rfl⟩; cases hp)
 refine ⟨[x, .int .i64 (rdP s).2], R', rfl, ⟨hf.os, hf.tape, hf.output, hf.size, fun k hk _ => hf.block k hk id⟩, h1, fun b hb => (h2 b hb).imp id (fun g => ⟨g.1, .inr g.2⟩), ⟨rfl, fun i p y q1 q2 => ?_, fun i j T sz rows T' sz' rows' x y b hij q1 => ?_, fun b hb => (hnb b hb).elim⟩, fun b hb => (hnb b hb).elim⟩
 ·rcases i with _ | _ | i
  ·cases q1; cases q2; exact h3
  ·cases q1; cases q2; exact .v _
  ·simp at q1
 ·rcases i with _ | _ | i <;> simp at q1
end Go.Proofs.YtjhdlcmecbngkaaDoor
namespace Go.Proofs.YtjhdlcmecbngkaaDoor
open Go Go.RowKit Pl
set_option linter.unusedVariables false
namespace Pl
def m0 : Ms := ⟨258, false, false, 0, ⟨#[97, 46, 98]⟩, 1, []⟩
theorem m0_err : msgErr m0 = 0 := by decide +kernel
theorem m0_len : (msgB m0).length = 21 := by decide +kernel
theorem rdP_back {m : Ms} (h : msgErr m = 0) (hl : ¬ 512 < (msgB m).length) : rdP ⟨(msgB m).toArray⟩ = (m, 0) := by
 obtain ⟨h1, h2⟩ := goodM_of h
 rw [rdP_some (by simpa [ByteArray.size] using hl) (msg_back h1 h2), if_pos h]
end Pl
theorem Fun.sub1 {P : Program} {f : FuncId} {u u' : V} {rs : List Par} (h : Fun P f [.c u] rs) (hs : ∀ (w : World) (R : Nat → Prop) (x : Value), RV w R noG u' x → RV w R noG u x) : Fun P f [.c u'] rs := by
 refine ⟨h.1, fun w R xs hlt hp => ?_⟩
 obtain ⟨x, rfl⟩ : ∃ x, xs = [x] := by
  have hl := hp.len
  rcases xs with _ | ⟨x, _ | ⟨x', xs⟩⟩ <;> simp at hl
  exact ⟨x, rfl⟩
 have hq : ∀ b, ParBlk [.c u] [x] b ↔ ParBlk [.c u'] [x] b := fun b => ⟨fun h => (no_blk1 h).elim, fun h => (no_blk1 h).elim⟩
 refine (h.2 w R [x] hlt (pars_one (hs w R x (hp.ok 0 _ _ rfl rfl)))).mono ?_
 rintro e w' ⟨ys, R', h1, h2, h3, h4, h5, h6⟩
 exact ⟨ys, R', h1, ⟨h2.os, h2.tape, h2.output, h2.size, fun k hk hn => h2.block k hk fun q => hn ((hq k).1 q)⟩, h3, fun b hb => (h4 b hb).imp id fun g => ⟨g.1, g.2.imp (hq b).1 id⟩, h5, fun b hb => (h6 b hb).imp (hq b).1 id⟩
def nilRow (m : Ms) : List V := [.v (.int .i64 m.id), .v (.bool m.an), .v (.bool m.ct), .v (.int .i64 m.co), .v (.string m.qn), .v (.int .i64 m.qt), .v (.slice none 0 0)]
theorem rv_nil {w : World} {R : Nat → Prop} {m : Ms} {x : Value} (hm : m.rs = []) (h : RV w R noG (.agg (nilRow m)) x) : RV w R noG (.agg m.row) x := by
 cases h with
 | agg cs xs hl h =>
  obtain ⟨x0, x1, x2, x3, x4, x5, x6, rfl⟩ : ∃ x0 x1 x2 x3 x4 x5 x6, xs = [x0, x1, x2, x3, x4, x5, x6] := by
   rcases xs with _ | ⟨x0, _ | ⟨x1, _ | ⟨x2, _ | ⟨x3, _ | ⟨x4, _ | ⟨x5, _ | ⟨x6, _ | ⟨x7, xs⟩⟩⟩⟩⟩⟩⟩⟩ <;> simp [nilRow] at hl
   exact ⟨_, _, _, _, _, _, _, rfl⟩
  have h0 := rv_v (h 0 _ _ rfl rfl)
  have h1 := rv_v (h 1 _ _ rfl rfl)
  have h2 := rv_v (h 2 _ _ rfl rfl)
  have h3 := rv_v (h 3 _ _ rfl rfl)
  have h4 := rv_v (h 4 _ _ rfl rfl)
  have h5 := rv_v (h 5 _ _ rfl rfl)
  have h6 := rv_v (h 6 _ _ rfl rfl)
  subst h0 h1 h2 h3 h4 h5 h6
  exact rv_ms (by rw [hm]; exact .nil false none 0 (by simp))
theorem begun : Fun Tryd.prog 20 [] [.c (.v (.bool true))] := by
 obtain ⟨w1, w2⟩ := wr_ok m0_err (by rw [m0_len]; decide)
 have r1 := rdP_back m0_err (by rw [m0_len]; decide)
 have hW := (Write_fun m0 ⟨by decide, by simp [m0]⟩ (by decide)).sub1 (u' := .agg (nilRow m0)) fun w R x h => rv_nil rfl h
 rw [w1, w2] at hW
 obtain ⟨t, ht⟩ : ∃ t : ByteArray, t = ⟨(msgB m0).toArray⟩ := ⟨_, rfl⟩
 have hs : t.size = 21 := by rw [ht]; simpa [ByteArray.size] using m0_len
 rw [← ht] at hW r1
 have hR := Read_fun t
 rw [r1] at hR
 simp only at hR
 refine fun_x ck_hearsaylaw_dnsBegun rfl ?_
 (refine goI ?_; repeat (intro gg; refine goI ?_))
 (refine .inl ⟨_, _, false, [], aI, hW, nobor, nI, ?_⟩)
 (refine goI ?_; repeat (intro gg; refine goI ?_))
 (refine .inl ⟨_, _, false, [], aI, hR, nobor, nI, ?_⟩)
 (refine goI ?_; repeat (intro gg; refine goI ?_))
 rw [hs]
 (refine goI ?_; repeat (intro gg; refine goI ?_))
 rw [show (m0.qn.toList == (⟨#[97, 46, 98]⟩ : ByteArray).toList) = true from beq_self_eq_true _]
 (exact ⟨[], aI⟩)
end Go.Proofs.YtjhdlcmecbngkaaDoor
namespace Go.Proofs.YtjhdlcmecbngkaaDoor
open Go Go.RowKit Pl
set_option linter.unusedVariables false
namespace Pl
def bA (l : List UInt8) : ByteArray := ⟨l.toArray⟩
theorem bA_app (l r : List UInt8) : bA l ++ bA r = bA (l ++ r) := by
 apply ByteArray.ext
 rw [ByteArray.data_append]
 simp [bA]
theorem bA_size (l : List UInt8) : (bA l).size = l.length := by simp [bA, ByteArray.size]
theorem bA_of (s : ByteArray) : bA s.data.toList = s := by simp [bA]
end Pl
end Go.Proofs.YtjhdlcmecbngkaaDoor
namespace Go.Proofs.YtjhdlcmecbngkaaDoor
open Go Go.RowKit Pl
set_option linter.unusedVariables false
namespace Pl
end Pl
end Go.Proofs.YtjhdlcmecbngkaaDoor
namespace Go.Proofs.YtjhdlcmecbngkaaDoor
open Go.Joins Go.ChangeShapes Go.WideShapes Go.RowKit Go.Deep
set_option linter.unusedVariables false
def Bd1 (B : Nat) : V → Prop
 | .v (.string x) => x.size ≤ B
 | _ => True
def Bd (B : Nat) : V → Prop
 | .v (.string x) => x.size ≤ B
 | .sl _ rows => rows.length ≤ B ∧ ∀ row ∈ rows, ∀ u ∈ row, Bd1 B u
 | _ => True
theorem Bd.one {B : Nat} {u : V} (h : Bd B u) : Bd1 B u := by
 unfold Bd at h
 unfold Bd1
 split at h <;> simp_all
structure Bulk {H : Type} (bk : DataW H → Nat) : Prop where
 str : ∀ l, l.length ≤ bk (.lit (.string l))
 agg : ∀ ds d, d ∈ ds → bk d ≤ bk (.agg ds)
 sl : ∀ es sp, es.length ≤ bk (.slice es sp) ∧ ∀ d ∈ es, bk d ≤ bk (.slice es sp)
section
variable {H : Type} {enc : TypeId × Value → H} {P : Program} {w : World} {base : Nat} {spare : Nat → Bool} {held : Bool} {bk : DataW H → Nat} {B : Nat}
end
end Go.Proofs.YtjhdlcmecbngkaaDoor
namespace Go.Proofs.YtjhdlcmecbngkaaDoor
open Go
set_option linter.unusedVariables false
end Go.Proofs.YtjhdlcmecbngkaaDoor
namespace Go.Proofs.YtjhdlcmecbngkaaDoor
open Go Go.RowKit Pl
set_option linter.unusedVariables false
structure MsIn (m : Ms) : Prop where
 sz : m.Sized
 ln : m.rs.length ≤ 1048576
theorem same_rr (r : Rr) : (r.nm.toList == r.nm.toList && (r.ty == r.ty && (r.ls == r.ls && (r.ad == r.ad && (r.tx.toList == r.tx.toList && (r.pt == r.pt && (r.tg.toList == r.tg.toList && true))))))) = true := by simp
theorem sameRecs_fun (c d : Bool) (l : List Rr) (hl : l.length ≤ 9223372036854775807) : Fun Tryd.prog 31 [.c (.sl c (l.map Rr.row)), .c (.sl d (l.map Rr.row))] [.c (.v (.bool true))] := by
 refine fun_x ck_hearsayref_SameRecords rfl ?_
 (refine goI ?_; repeat (intro gg; refine goI ?_))
 rw [show (((l.map Rr.row).length : Int) != ((l.map Rr.row).length : Int)) = false by simp]
 (refine goI ?_; repeat (intro gg; refine goI ?_))
 (refine ⟨[], none, {k : Nat // k ≤ l.length}, [0, 1], fun ⟨k, hk⟩ => [(5, .v (.int .i64 k))], [], fun ⟨k, hk⟩ => [], fun ⟨k, hk⟩ => l.length - k, trivial, fun _ => ⟨trivial, fun _ => ⟨⟨0, by omega⟩, tI, keptE_refl _ _, tI, keptH_refl _ _⟩⟩, fun ⟨k, hk⟩ => ?_⟩)
 (refine goI ?_; repeat (intro gg; refine goI ?_))
 simp only [List.length_map]
 (refine bIf_of (fun h2 => ?_) (fun h2 => ?_) <;> rw [h2])
 ·have hlt : k < l.length := (by have := of_decide_eq_true h2; omega)
  (refine goI ?_; repeat (intro gg; refine goI ?_))
  refine ⟨k, _, rfl, row_map hlt, ?_⟩
  (refine goI ?_; repeat (intro gg; refine goI ?_))
  refine ⟨k, _, rfl, row_map hlt, ?_⟩
  (refine goI ?_; repeat (intro gg; refine goI ?_))
  rw [same_rr]
  (refine goI ?_; repeat (intro gg; refine goI ?_))
  (exact ⟨none, trivial, fun _ => ⟨⟨k + 1, by omega⟩, by show l.length - (k + 1) < l.length - k; omega, tI, tI, tI, tI⟩⟩)
 ·have hge : ¬ k < l.length := (by have := of_decide_eq_false h2; omega)
  (refine goI ?_; repeat (intro gg; refine goI ?_))
  (exact ⟨[], aI⟩)
theorem sameMsg_fun (m : Ms) (hl : m.rs.length ≤ 9223372036854775807) : Fun Tryd.prog 28 [.c (.agg m.row), .c (.agg m.row)] [.c (.v (.bool true))] := by
 refine fun_x ck_hearsayref_SameMessage rfl ?_
 (refine goI ?_; repeat (intro gg; refine goI ?_))
 rw [show (m.id == m.id) = true from beq_self_eq_true _]
 (refine goI ?_; repeat (intro gg; refine goI ?_))
 rw [show (m.an == m.an) = true from beq_self_eq_true _]
 (refine goI ?_; repeat (intro gg; refine goI ?_))
 rw [show (m.ct == m.ct) = true from beq_self_eq_true _]
 (refine goI ?_; repeat (intro gg; refine goI ?_))
 rw [show (m.co == m.co) = true from beq_self_eq_true _]
 (refine goI ?_; repeat (intro gg; refine goI ?_))
 rw [show (m.qn.toList == m.qn.toList && (m.qt == m.qt && true)) = true by simp]
 (refine goI ?_; repeat (intro gg; refine goI ?_))
 (refine .inl ⟨_, _, false, [], aI, sameRecs_fun false false m.rs hl, nobor, nI, ?_⟩)
 (refine goI ?_; repeat (intro gg; refine goI ?_))
 (exact ⟨[], aI⟩)
end Go.Proofs.YtjhdlcmecbngkaaDoor
namespace Go.Proofs.YtjhdlcmecbngkaaDoor
open Go Go.RowKit Pl
set_option linter.unusedVariables false
namespace Pl
end Pl
end Go.Proofs.YtjhdlcmecbngkaaDoor
namespace Go.Proofs.YtjhdlcmecbngkaaDoor
open Go Go.RowKit Pl
set_option linter.unusedVariables false
abbrev scT : TypeId := 76
def scZ (s : ByteArray) (x : Int) (b : Bool) : List Par := [.c (.v (.string s)), .c (.v (.int .i64 x)), .c (.v (.bool b))]
def scC (s : ByteArray) (a : Nat) (b : Bool) : List Par := scZ s (a : Int) b
namespace Pl
def atB (s : ByteArray) (a : Nat) : Nat := match s[a]? with | some c => c.toNat | none => 0
theorem atB_some {s : ByteArray} {a : Nat} {c : UInt8} (h : s[a]? = some c) : atB s a = c.toNat := by unfold atB; rw [h]
theorem atB_lt (s : ByteArray) (a : Nat) : atB s a < 256 := by
 unfold atB
 split
 ·exact UInt8.toNat_lt _
 ·omega
def numV (s : ByteArray) (a : Nat) : Nat → Nat
 | 0 => 0
 | k + 1 => 256 * numV s a k + atB s (a + k)
theorem numV_lt (s : ByteArray) (a k : Nat) : numV s a k < 256 ^ k := by
 induction k with
 | zero => exact Nat.zero_lt_one
 | succ k ih =>
  have := atB_lt s (a + k)
  rw [Nat.pow_succ]
  show 256 * numV s a k + atB s (a + k) < _
  omega
theorem numV_le (s : ByteArray) (a : Nat) {k : Nat} (h : k ≤ 4) : numV s a k ≤ 4294967295 := by
 have h1 := numV_lt s a k
 have h2 : 256 ^ k ≤ 256 ^ 4 := Nat.pow_le_pow_right (by decide) h
 have h3 : 256 ^ 4 = 4294967296 := by decide
 omega
def numN (s : ByteArray) (k a : Nat) : Nat := if a + k ≤ s.size then numV s a k else 0
def numA (s : ByteArray) (k a : Nat) : Nat := if a + k ≤ s.size then a + k else max a s.size
def numB (s : ByteArray) (k a : Nat) (b : Bool) : Bool := b || decide (s.size < a + k)
theorem num_yes {s : ByteArray} {k a : Nat} {b : Bool} (h : a + k ≤ s.size) : numN s k a = numV s a k ∧ numA s k a = a + k ∧ numB s k a b = b := by
 refine ⟨if_pos h, if_pos h, ?_⟩
 unfold numB
 rw [decide_eq_false (by omega), Bool.or_false]
theorem num_no {s : ByteArray} {k a : Nat} {b : Bool} (h : ¬ a + k ≤ s.size) : numN s k a = 0 ∧ numA s k a = max a s.size ∧ numB s k a b = true := by
 refine ⟨if_neg h, if_neg h, ?_⟩
 unfold numB
 rw [decide_eq_true (by omega), Bool.or_true]
theorem numA_le {s : ByteArray} {k a m : Nat} (h1 : a ≤ m) (h2 : s.size ≤ m) : numA s k a ≤ m := by
 unfold numA
 split <;> omega
theorem numN_le (s : ByteArray) (a : Nat) {k : Nat} (h : k ≤ 4) : numN s k a ≤ 4294967295 := by
 unfold numN
 split
 ·exact numV_le s a h
 ·omega
end Pl
set_option maxHeartbeats 2000000 in
theorem scan_number (s : ByteArray) (a k : Nat) (b : Bool) (hs : s.size ≤ 1000000) (ha : a ≤ 1000000) (hk0 : 0 < k) (hk : k ≤ 4) : FunM Tryd.prog 52 [.mn scT (scC s a b) (scC s (numA s k a) (numB s k a b)), .p (.c (.v (.int .i64 (k : Int))))] [.p (.c (.v (.int .i64 (numN s k a : Int))))] := by
 refine funM_x ck_hearsayref_Scan_number rfl rfl (nd_b rfl) ?_
 (refine goI ?_; repeat (intro gg; refine goI ?_))
 (refine ⟨[], none, {i : Nat // i ≤ k ∧ (0 < i → a + i ≤ s.size)}, [0, 1], fun ⟨i, hi, h0⟩ => [(5, .v (.int .i64 (numV s a i : Int))), (6, .v (.int .i64 (i : Int)))], [], fun ⟨i, hi, h0⟩ => [(0, ⟨0, .b scT, 3, [[.v (.string s), .v (.int .i64 ((a + i : Nat) : Int)), .v (.bool b)]]⟩)], fun ⟨i, hi, h0⟩ => k - i, trivial, fun _ => ⟨trivial, fun _ => ⟨⟨0, Nat.zero_le _, fun h => by omega⟩, tI, keptE_refl _ _, ?_, keptH_refl _ _⟩⟩, fun ⟨i, hi, h0⟩ => ?_⟩; focus (exact ⟨rfl, trivial⟩))
 have hV := numV_le s a (show i ≤ 4 by omega)
 (refine goI ?_; repeat (intro gg; refine goI ?_))
 by_cases h1 : i < k
 ·rw [show decide ((i : Int) < (k : Int)) = true from decide_eq_true (by omega)]
  have hV3 : numV s a i ≤ 16777215 := by
   have h1 := numV_lt s a i
   have h2 : 256 ^ i ≤ 256 ^ 3 := Nat.pow_le_pow_right (by decide) (by omega)
   have h3 : 256 ^ 3 = 16777216 := by decide
   omega
  (refine goI ?_; repeat (intro gg; refine goI ?_))
  by_cases h2 : s.size ≤ a + i
  ·rw [show decide ((s.size : Int) ≤ ((a + i : Nat) : Int)) = true from decide_eq_true (by omega)]
   obtain ⟨e1, e2, e3⟩ := num_no (s := s) (k := k) (a := a) (b := b) (by omega)
   rw [e1, e2, e3, show max a s.size = a + i by omega]
   (refine goI ?_; repeat (intro gg; refine goI ?_))
   (exact ⟨0 :: ([] ++ []), aM_same (by first | exact cl_b rfl | assumption) (aM_pn (gone := []) (gone1 := []) rfl aI (by decide) (by decide) (by decide) (.nil _))⟩)
  ·rw [show decide ((s.size : Int) ≤ ((a + i : Nat) : Int)) = false from decide_eq_false (by omega)]
   have hlt : a + i < s.size := by omega
   obtain ⟨c, hc⟩ : ∃ c, s[a + i]? = some c := ⟨s[a + i], by simp [hlt]⟩
   have hc8 : c.toNat < 256 := c.toNat_lt
   have hn : (256 * (numV s a i : Int) + (c.toNat : Int)) = (numV s a (i + 1) : Int) := by
    show _ = ((256 * numV s a i + atB s (a + i) : Nat) : Int)
    rw [atB_some hc]; omega
   (refine goI ?_; repeat (intro gg; refine goI ?_))
   refine ⟨a + i, c, rfl, hc, ?_⟩
   (refine goI ?_; repeat (intro gg; refine goI ?_))
   rw [hn]
   (refine goI ?_; repeat (intro gg; refine goI ?_))
   (exact ⟨none, trivial, fun gr => ⟨⟨i + 1, by omega, fun _ => by omega⟩, by show k - (i + 1) < k - i; omega, tI, tI, ⟨congrArg (fun x => some (Ent.mk 0 (.b scT) 3 [[.v (.string s), .v (.int .i64 x), .v (.bool b)]])) (show ((a + i : Nat) : Int) + 1 = ((a + (i + 1) : Nat) : Int) by omega), trivial⟩, tI⟩⟩)
 ·rw [show decide ((i : Int) < (k : Int)) = false from decide_eq_false (by omega)]
  obtain rfl : i = k := by omega
  obtain ⟨e1, e2, e3⟩ := num_yes (s := s) (k := i) (a := a) (b := b) (h0 hk0)
  rw [e1, e2, e3]
  (refine goI ?_; repeat (intro gg; refine goI ?_))
  (exact ⟨0 :: ([] ++ []), aM_same (by first | exact cl_b rfl | assumption) (aM_pn (gone := []) (gone1 := []) rfl aI (by decide) (by decide) (by decide) (.nil _))⟩)
end Go.Proofs.YtjhdlcmecbngkaaDoor
namespace Go.Proofs.YtjhdlcmecbngkaaDoor
open Go Go.RowKit Pl
set_option linter.unusedVariables false
namespace Pl
abbrev dotB : ByteArray := ⟨#[46]⟩
theorem joinB_bA (l : List ByteArray) : joinB dotB l = bA (Lib.join (l.map (·.data.toList)) [46]) := rfl
theorem joinB_one (x : ByteArray) : joinB dotB [x] = x := by
 rw [joinB_bA]
 simp [Lib.join, List.intercalate, bA_of]
theorem join_snoc (l : List (List UInt8)) (x sep : List UInt8) (h : l ≠ []) : Lib.join (l ++ [x]) sep = Lib.join l sep ++ (sep ++ x) := by
 rcases l with _ | ⟨y, l⟩
 ·exact absurd rfl h
 ·rw [List.cons_append, Lib.join_cons, Lib.join_cons]
  unfold Lib.joinTail
  simp
theorem joinB_snoc (l : List ByteArray) (x : ByteArray) (h : l ≠ []) : joinB dotB (l ++ [x]) = joinB dotB l ++ dotB ++ x := by
 rw [joinB_bA, joinB_bA, List.map_append, List.map_cons, List.map_nil, join_snoc _ _ _ (by simpa using h)]
 conv => rhs; rhs; rw [← bA_of x]
 rw [show dotB = bA [46] from rfl, bA_app, bA_app, List.append_assoc]
theorem take_snoc {α : Type} {l : List α} {k : Nat} (h : k < l.length) : l.take (k + 1) = l.take k ++ [l[k]] := by rw [List.take_add_one, List.getElem?_eq_getElem h]; rfl
theorem joinB_first {l : List ByteArray} (h : 0 < l.length) : joinB dotB (l.take 0) ++ l[0] = joinB dotB (l.take (0 + 1)) := by
 rw [take_snoc h, List.take_zero, List.nil_append, joinB_one, show joinB dotB [] = bA [] from rfl]
 conv => lhs; rhs; rw [← bA_of l[0]]
 rw [bA_app, List.nil_append, bA_of]
theorem joinB_next {l : List ByteArray} {k : Nat} (h : k + 1 < l.length) : joinB dotB (l.take (k + 1)) ++ dotB ++ l[k + 1] = joinB dotB (l.take (k + 1 + 1)) := by
 rw [take_snoc h, joinB_snoc _ _ (by intro e; have := congrArg List.length e; rw [List.length_take] at this; simp only [List.length_nil] at this; omega)]
theorem joinB_szk (l : List ByteArray) (h : ∀ x ∈ l, x.size ≤ 1000) (k : Nat) (hk : k ≤ l.length) : (joinB dotB (l.take k)).size ≤ 1001 * k := by
 induction k with
 | zero => exact Nat.le_refl 0
 | succ k ih =>
  have h1 := ih (by omega)
  have h2 := h _ (List.getElem_mem (show k < l.length by omega))
  rcases k with _ | k
  ·rw [← joinB_first (by omega), ByteArray.size_append]; omega
  ·rw [← joinB_next (by omega), ByteArray.size_append, ByteArray.size_append]
   have : dotB.size = 1 := rfl
   omega
end Pl
theorem nameOf_fun (c : Bool) (l : List ByteArray) (hl : l.length ≤ 100) (hz : ∀ x ∈ l, x.size ≤ 1000) : Fun Tryd.prog 73 [.c (.sl c (l.map sRow))] [.c (.v (.string (joinB dotB l)))] := by
 refine fun_x ck_hearsayref_NameOf rfl ?_
 (refine goI ?_; repeat (intro gg; refine goI ?_))
 (refine ⟨[], none, {k : Nat // k ≤ l.length}, [0], fun ⟨k, hk⟩ => [(3, .v (.string (joinB dotB (l.take k)))), (4, .v (.int .i64 (k : Int)))], [], fun ⟨k, hk⟩ => [], fun ⟨k, hk⟩ => l.length - k, trivial, fun _ => ⟨trivial, fun _ => ⟨⟨0, by omega⟩, tI, keptE_refl _ _, tI, keptH_refl _ _⟩⟩, fun ⟨k, hk⟩ => ?_⟩)
 have hsz : (joinB dotB (l.take k)).size ≤ 100100 := by
  have := joinB_szk l hz k hk
  omega
 (refine goI ?_; repeat (intro gg; refine goI ?_))
 rw [List.length_map]
 (refine bIf_of (fun h1 => ?_) (fun h1 => ?_) <;> rw [h1])
 ·have hlt : k < l.length := (by have := of_decide_eq_true h1; omega)
  have hx := hz _ (List.getElem_mem hlt)
  have hd : dotB.size = 1 := rfl
  rcases k with _ | k
  ·(refine goI ?_; repeat (intro gg; refine goI ?_))
   refine ⟨0, _, rfl, row_map hlt, ?_⟩
   (refine goI ?_; repeat (intro gg; refine goI ?_))
   refine ⟨by rw [show (joinB dotB (l.take 0)).size = 0 from rfl]; omega, ?_⟩
   rw [joinB_first hlt]
   (refine goI ?_; repeat (intro gg; refine goI ?_))
   (exact ⟨none, trivial, fun _ => ⟨⟨1, by omega⟩, by show l.length - 1 < l.length - 0; omega, tI, tI, tI, tI⟩⟩)
  ·(refine goI ?_; repeat (intro gg; refine goI ?_))
   rw [show decide ((0 : Int) < ((k + 1 : Nat) : Int)) = true from decide_eq_true (by omega)]
   (refine goI ?_; repeat (intro gg; refine goI ?_))
   refine ⟨by rw [hd]; omega, ?_⟩
   (refine goI ?_; repeat (intro gg; refine goI ?_))
   refine ⟨k + 1, _, rfl, row_map hlt, ?_⟩
   (refine goI ?_; repeat (intro gg; refine goI ?_))
   refine ⟨by rw [ByteArray.size_append, hd]; omega, ?_⟩
   rw [joinB_next hlt]
   (refine goI ?_; repeat (intro gg; refine goI ?_))
   (exact ⟨none, trivial, fun _ => ⟨⟨k + 1 + 1, by omega⟩, by show l.length - (k + 1 + 1) < l.length - (k + 1); omega, tI, tI, tI, tI⟩⟩)
 ·have hge : ¬ k < l.length := (by have := of_decide_eq_false h1; omega)
  obtain rfl : k = l.length := by omega
  (refine goI ?_; repeat (intro gg; refine goI ?_))
  rw [List.take_length]
  (exact ⟨[], aI⟩)
end Go.Proofs.YtjhdlcmecbngkaaDoor
namespace Go.Proofs.YtjhdlcmecbngkaaDoor
open Go Go.RowKit Pl
set_option linter.unusedVariables false
namespace Pl
theorem numN_one (s : ByteArray) (a : Nat) : numN s 1 a = atB s a := by
 unfold numN
 split
 ·show 256 * 0 + atB s (a + 0) = _
  rw [Nat.mul_zero, Nat.zero_add, Nat.add_zero]
 ·rename_i h
  unfold atB
  rw [show s[a]? = none from by simp; omega]
theorem atB_out {s : ByteArray} {a : Nat} (h : s.size ≤ a) : atB s a = 0 := by
 unfold atB
 rw [show s[a]? = none from by simp; omega]
theorem numN_step (s : ByteArray) (i a : Nat) : numN s 1 (numA s i a) = atB s (a + i) := by
 rw [numN_one]
 unfold numA
 split
 ·rfl
 ·rw [atB_out (by omega), atB_out (by omega)]
theorem numA_step (s : ByteArray) (i a : Nat) : numA s 1 (numA s i a) = numA s (i + 1) a := by
 unfold numA
 split <;> split <;> split <;> omega
theorem numB_step (s : ByteArray) (i a : Nat) (b : Bool) : numB s 1 (numA s i a) (numB s i a b) = numB s (i + 1) a b := by
 unfold numB numA
 by_cases h : a + i ≤ s.size
 ·rw [if_pos h, show decide (s.size < a + i) = false from decide_eq_false (by omega), Bool.or_false, Nat.add_assoc]
 ·rw [if_neg h, show decide (s.size < a + i) = true from decide_eq_true (by omega), show decide (s.size < a + (i + 1)) = true from decide_eq_true (by omega)]
  simp
def labT (s : ByteArray) (a : Nat) : Nat → List UInt8
 | 0 => []
 | i + 1 => labT s a i ++ [smallU (UInt8.ofNat (atB s (a + i)))]
theorem labT_len (s : ByteArray) (a n : Nat) : (labT s a n).length = n := by
 induction n with
 | zero => rfl
 | succ n ih => show (labT s a n ++ [_]).length = n + 1; rw [List.length_append, ih]; rfl
def smallN (c : Nat) : Nat := if 65 ≤ c ∧ c ≤ 90 then c + 32 else c
theorem smallN_lt {c : Nat} (h : c < 256) : smallN c < 256 := by unfold smallN; split <;> omega
theorem smallN_U {c : Nat} (h : c < 256) : smallU (UInt8.ofNat c) = UInt8.ofNat (smallN c) := by
 have key : ∀ c : Fin 256, smallU (UInt8.ofNat c.val) = UInt8.ofNat (smallN c.val) := by decide +kernel
 exact key ⟨c, h⟩
def nameQ (s : ByteArray) : Nat → Nat → List ByteArray → Option Nat → Nat → Option (List ByteArray × Nat) × Nat
 | 0, _, _, _, _ => (none, 0)
 | f + 1, a, l, e, fr =>
  if a + 1 ≤ s.size then
   if atB s a = 0 then (some (l, e.getD (a + 1)), 0)
   else if 192 ≤ atB s a then
    if a + 2 ≤ s.size ∧ (atB s a - 192) * 256 + atB s (a + 1) < fr then nameQ s f ((atB s a - 192) * 256 + atB s (a + 1)) l (some (e.getD (a + 2))) ((atB s a - 192) * 256 + atB s (a + 1))
    else (none, (atB s a - 192) * 256 + atB s (a + 1))
   else if a + 1 + atB s a ≤ s.size ∧ lab (labT s (a + 1) (atB s a)) = true ∧ l.length + 1 ≤ 8 then nameQ s f (numA s (atB s a) (a + 1)) (l ++ [bA (labT s (a + 1) (atB s a))]) e fr
   else (none, numA s (atB s a) (a + 1))
  else (none, max a s.size)
def nameQb (s : ByteArray) (a : Nat) (b : Bool) : Option (List ByteArray × Nat) × Nat := bif b then (none, a) else nameQ s (a + 10) a [] none a
def nameT (s : ByteArray) (a : Nat) (b : Bool) : ByteArray × Nat × Bool := match nameQb s a b with
 | (some p, _) => (joinB dotB p.1, p.2, false)
 | (none, x) => (⟨#[]⟩, x, true)
def eI : Option Nat → Int
 | none => -1
 | some x => (x : Int)
structure NqI (s : ByteArray) (Q : Option (List ByteArray × Nat) × Nat) (a : Nat) (b : Bool) (l : List ByteArray) (e : Option Nat) (fr : Nat) : Prop where
 ha : a ≤ 1000000
 hl : l.length ≤ 9
 hz : ∀ x ∈ l, x.size ≤ 1000
 he : e.getD 0 ≤ 1000000
 hf : fr ≤ 1000000
 no : b = false → l.length ≤ 8 ∧ ∃ f, fr + 10 ≤ f + l.length ∧ nameQ s f a l e fr = Q
 yes : b = true → Q = (none, a)
def nmM (b : Bool) (l : List ByteArray) (fr : Nat) : Nat := if b then 0 else 1 + fr + (9 - l.length)
theorem NqI.start {s : ByteArray} {a : Nat} (b : Bool) (ha : a ≤ 1000000) : NqI s (nameQb s a b) a b [] none a :=
 ⟨ha, by simp, by simp, by simp, ha, fun h => by subst h; exact ⟨by simp, a + 10, by simp, rfl⟩, fun h => by subst h; rfl⟩
section
variable {s : ByteArray} {Q : Option (List ByteArray × Nat) × Nat} {a fr : Nat} {l : List ByteArray} {e : Option Nat}
theorem NqI.out (h : NqI s Q a false l e fr) (c : ¬ a + 1 ≤ s.size) : Q = (none, max a s.size) := by
 obtain ⟨h8, f, hf, hq⟩ := h.no rfl
 obtain ⟨f, rfl⟩ : ∃ f', f = f' + 1 := ⟨f - 1, by omega⟩
 rw [← hq, nameQ, if_neg c]
theorem NqI.zero (h : NqI s Q a false l e fr) (c : a + 1 ≤ s.size) (c0 : atB s a = 0) : Q = (some (l, e.getD (a + 1)), 0) := by
 obtain ⟨h8, f, hf, hq⟩ := h.no rfl
 obtain ⟨f, rfl⟩ : ∃ f', f = f' + 1 := ⟨f - 1, by omega⟩
 rw [← hq, nameQ, if_pos c, if_pos c0]
theorem to_le (s : ByteArray) (a : Nat) : (atB s a - 192) * 256 + atB s (a + 1) ≤ 1000000 := by
 have := atB_lt s a
 have := atB_lt s (a + 1)
 omega
theorem getD_le {e : Option Nat} {x : Nat} (h : e.getD 0 ≤ 1000000) (hx : x ≤ 1000000) : (some (e.getD x)).getD 0 ≤ 1000000 := by
 cases e with
 | none => exact hx
 | some y => exact h
theorem NqI.ptr_ok (h : NqI s Q a false l e fr) (hs : s.size ≤ 1000000) (c : a + 1 ≤ s.size) (c0 : atB s a ≠ 0) (c1 : 192 ≤ atB s a) (c2 : a + 2 ≤ s.size) (c3 : (atB s a - 192) * 256 + atB s (a + 1) < fr) : NqI s Q ((atB s a - 192) * 256 + atB s (a + 1)) false l (some (e.getD (a + 2))) ((atB s a - 192) * 256 + atB s (a + 1)) := by
 obtain ⟨h8, f, hf, hq⟩ := h.no rfl
 obtain ⟨f, rfl⟩ : ∃ f', f = f' + 1 := ⟨f - 1, by omega⟩
 rw [nameQ, if_pos c, if_neg c0, if_pos c1, if_pos ⟨c2, c3⟩] at hq
 exact ⟨to_le s a, h.hl, h.hz, getD_le h.he (by omega), to_le s a, fun _ => ⟨h8, f, by omega, hq⟩, fun h => (by cases h)⟩
theorem NqI.ptr_bad (h : NqI s Q a false l e fr) (hs : s.size ≤ 1000000) (c : a + 1 ≤ s.size) (c0 : atB s a ≠ 0) (c1 : 192 ≤ atB s a) (c2 : ¬ (a + 2 ≤ s.size ∧ (atB s a - 192) * 256 + atB s (a + 1) < fr)) : NqI s Q ((atB s a - 192) * 256 + atB s (a + 1)) true l (some (e.getD (numA s 1 (a + 1)))) ((atB s a - 192) * 256 + atB s (a + 1)) := by
 obtain ⟨h8, f, hf, hq⟩ := h.no rfl
 obtain ⟨f, rfl⟩ : ∃ f', f = f' + 1 := ⟨f - 1, by omega⟩
 rw [nameQ, if_pos c, if_neg c0, if_pos c1, if_neg c2] at hq
 exact ⟨to_le s a, h.hl, h.hz, getD_le h.he (numA_le (by omega) hs), to_le s a, fun h => (by cases h), fun _ => hq.symm⟩
theorem lab_hz (h : ∀ x ∈ l, x.size ≤ 1000) {n : Nat} (hn : n < 256) (b : Nat) : ∀ x ∈ l ++ [bA (labT s b n)], x.size ≤ 1000 := fun x hx => by
 rcases List.mem_append.1 hx with hx | hx
 ·exact h x hx
 ·rw [List.mem_singleton] at hx
  subst hx
  rw [bA_size, labT_len]; omega
theorem NqI.lab_ok (h : NqI s Q a false l e fr) (hs : s.size ≤ 1000000) (c : a + 1 ≤ s.size) (c0 : atB s a ≠ 0) (c1 : ¬ 192 ≤ atB s a) (c2 : a + 1 + atB s a ≤ s.size ∧ lab (labT s (a + 1) (atB s a)) = true ∧ l.length + 1 ≤ 8) : NqI s Q (numA s (atB s a) (a + 1)) false (l ++ [bA (labT s (a + 1) (atB s a))]) e fr := by
 obtain ⟨h8, f, hf, hq⟩ := h.no rfl
 obtain ⟨f, rfl⟩ : ∃ f', f = f' + 1 := ⟨f - 1, by omega⟩
 rw [nameQ, if_pos c, if_neg c0, if_neg c1, if_pos c2] at hq
 exact ⟨numA_le (by omega) hs, by rw [List.length_append]; simp only [List.length_cons, List.length_nil]; omega, lab_hz h.hz (atB_lt s a) _, h.he, h.hf, fun _ => ⟨by rw [List.length_append]; simp only [List.length_cons, List.length_nil]; omega, f, by rw [List.length_append]; simp only [List.length_cons, List.length_nil]; omega, hq⟩, fun h => (by cases h)⟩
theorem NqI.lab_bad (h : NqI s Q a false l e fr) (hs : s.size ≤ 1000000) (c : a + 1 ≤ s.size) (c0 : atB s a ≠ 0) (c1 : ¬ 192 ≤ atB s a) (c2 : ¬ (a + 1 + atB s a ≤ s.size ∧ lab (labT s (a + 1) (atB s a)) = true ∧ l.length + 1 ≤ 8)) : NqI s Q (numA s (atB s a) (a + 1)) true (l ++ [bA (labT s (a + 1) (atB s a))]) e fr := by
 obtain ⟨h8, f, hf, hq⟩ := h.no rfl
 obtain ⟨f, rfl⟩ : ∃ f', f = f' + 1 := ⟨f - 1, by omega⟩
 rw [nameQ, if_pos c, if_neg c0, if_neg c1, if_neg c2] at hq
 exact ⟨numA_le (by omega) hs, by rw [List.length_append]; simp only [List.length_cons, List.length_nil]; omega, lab_hz h.hz (atB_lt s a) _, h.he, h.hf, fun h => (by cases h), fun _ => hq.symm⟩
theorem nameT_some {b : Bool} {p : List ByteArray × Nat} {x : Nat} (h : nameQb s a b = (some p, x)) : nameT s a b = (joinB dotB p.1, p.2, false) := by unfold nameT; rw [h]
theorem nameT_none {b : Bool} {x : Nat} (h : nameQb s a b = (none, x)) : nameT s a b = (⟨#[]⟩, x, true) := by unfold nameT; rw [h]
end
end Pl
set_option maxHeartbeats 4000000 in
theorem scan_name (s : ByteArray) (a0 : Nat) (b0 : Bool) (hs : s.size ≤ 1000000) (ha : a0 ≤ 1000000) : FunM Tryd.prog 53 [.mn scT (scC s a0 b0) (scC s (nameT s a0 b0).2.1 (nameT s a0 b0).2.2)] [.p (.c (.v (.string (nameT s a0 b0).1)))] := by
 obtain ⟨Q, hQ⟩ : ∃ Q, Q = nameQb s a0 b0 := ⟨_, rfl⟩
 have hI0 := NqI.start (s := s) b0 ha
 rw [← hQ] at hI0
 refine funM_x ck_hearsayref_Scan_name rfl rfl (nd_b rfl) ?_
 (refine goI ?_; repeat (intro gg; refine goI ?_))
 (refine ⟨[(3, 48, 9, 1)], none, {p : Nat × Bool × List ByteArray × Option Nat × Nat × Nat // NqI s Q p.1 p.2.1 p.2.2.1 p.2.2.2.1 p.2.2.2.2.1}, [], fun ⟨⟨a, b, l, e, fr, g⟩, h⟩ => [(0, .ptr 0 0 0 0), (3, .own 48 g), (4, .v (.int .i64 (fr : Int))), (5, .v (.int .i64 (eI e)))], [], fun ⟨⟨a, b, l, e, fr, g⟩, h⟩ => [(0, ⟨0, .b scT, 3, [[.v (.string s), .v (.int .i64 (a : Int)), .v (.bool b)]]⟩), (48, ⟨g, .t 9, 1, l.map sRow⟩)], fun ⟨⟨a, b, l, e, fr, g⟩, h⟩ => nmM b l fr, (by exact ⟨rfl, by decide, (fun _ _ _ _ h => by cases h), trivial⟩), fun gs => ⟨trivial, fun _ => ⟨⟨(a0, b0, [], none, a0, gs 48), hI0⟩, tI, tI, tI, tI⟩⟩, fun ⟨⟨a, b, l, e, fr, g⟩, h⟩ => ?_⟩)
 simp only at h
 simp only [hdE_nil, hdH_nil, keptE_nil, keptH_nil]
 have hla := h.ha
 cases b
 ·(refine goI ?_; repeat (intro gg; refine goI ?_))
  (refine .inr (.inl ⟨_, _, false, 0 :: ([] ++ []), ?_, scan_number s a 1 false hs hla (by omega) (by omega), nobor, oI, dI, ?_⟩); focus (exact aM_mn (gone := []) (gone1 := []) rfl aI (by decide) (by decide) (by decide) rfl aM))
  (refine goI ?_; repeat (intro gg; refine goI ?_))
  by_cases c : a + 1 ≤ s.size
  rotate_left
  ·obtain ⟨e1, e2, e3⟩ := num_no (s := s) (k := 1) (a := a) (b := false) c
   have hq := h.out c
   rw [hQ] at hq
   rw [nameT_none hq, e3]
   (refine goI ?_; repeat (intro gg; refine goI ?_))
   rw [e2]
   (exact ⟨0 :: ([] ++ []), aM_same (by first | exact cl_b rfl | assumption) (aM_pn (gone := []) (gone1 := []) rfl aI (by decide) (by decide) (by decide) (.nil _))⟩)
  have e1 : numN s 1 a = atB s a := numN_one s a
  obtain ⟨_, e2, e3⟩ := num_yes (s := s) (k := 1) (a := a) (b := false) c
  rw [e1, e2, e3]
  (refine goI ?_; repeat (intro gg; refine goI ?_))
  by_cases c0 : atB s a = 0
  ·have hq := h.zero c c0
   rw [hQ] at hq
   rw [nameT_some hq, show ((atB s a : Int) == 0) = true from beq_iff_eq.2 (by omega)]
   have hN := nameOf_fun false l (by have := h.hl; omega) h.hz
   rcases e with _ | x
   ·(refine goI ?_; repeat (intro gg; refine goI ?_))
    (refine .inl ⟨_, _, true, [], aI, hN, (fun _ => fI), nI, ?_⟩)
    (refine goI ?_; repeat (intro gg; refine goI ?_))
    (exact ⟨0 :: ([] ++ []), aM_same (by first | exact cl_b rfl | assumption) (aM_pn (gone := []) (gone1 := []) rfl aI (by decide) (by decide) (by decide) (.nil _))⟩)
   ·(refine goI ?_; repeat (intro gg; refine goI ?_))
    rw [show decide ((0 : Int) ≤ eI (some x)) = true from decide_eq_true (show (0 : Int) ≤ (x : Int) by omega)]
    (refine goI ?_; repeat (intro gg; refine goI ?_))
    (refine .inl ⟨_, _, true, [], aI, hN, (fun _ => fI), nI, ?_⟩)
    (refine goI ?_; repeat (intro gg; refine goI ?_))
    (exact ⟨0 :: ([] ++ []), aM_same (by first | exact cl_b rfl | assumption) (aM_pn (gone := []) (gone1 := []) rfl aI (by decide) (by decide) (by decide) (.nil _))⟩)
  rw [show ((atB s a : Int) == 0) = false from beq_eq_false_iff_ne.2 (by omega)]
  (refine goI ?_; repeat (intro gg; refine goI ?_))
  by_cases c1 : 192 ≤ atB s a
  ·rw [show decide ((192 : Int) ≤ (atB s a : Int)) = true from decide_eq_true (by omega)]
   have hb8 := atB_lt s a
   have hb9 := atB_lt s (a + 1)
   (refine goI ?_; repeat (intro gg; refine goI ?_))
   (refine .inr (.inl ⟨_, _, false, 0 :: ([] ++ []), ?_, scan_number s (a + 1) 1 false hs (by omega) (by omega) (by omega), nobor, oI, dI, ?_⟩); focus (exact aM_mn (gone := []) (gone1 := []) rfl aI (by decide) (by decide) (by decide) rfl aM))
   rw [numN_one]
   (refine goI ?_; repeat (intro gg; refine goI ?_))
   rw [show ((atB s a : Int) - 192) * 256 + (atB s (a + 1) : Int) = (((atB s a - 192) * 256 + atB s (a + 1) : Nat) : Int) from by omega]
   (refine goI ?_; repeat (intro gg; refine goI ?_))
   by_cases c2 : a + 2 ≤ s.size
   rotate_left
   ·obtain ⟨_, f2, f3⟩ := num_no (s := s) (k := 1) (a := a + 1) (b := false) (by omega)
    rw [f3]
    rcases e with _ | x
    ·(refine goI ?_; repeat (intro gg; refine goI ?_))
     (exact ⟨none, trivial, fun gr => ⟨⟨(((atB s a - 192) * 256 + atB s (a + 1)), true, l, some (numA s 1 (a + 1)), ((atB s a - 192) * 256 + atB s (a + 1)), g), h.ptr_bad hs c c0 c1 (fun q => c2 q.1)⟩, by show 0 < 1 + fr + (9 - l.length); omega, tI, tI, ⟨rfl, ⟨rfl, trivial⟩⟩, tI⟩⟩)
    ·(refine goI ?_; repeat (intro gg; refine goI ?_))
     rw [show decide (eI (some x) < 0) = false from decide_eq_false (show ¬ (x : Int) < 0 by omega)]
     (refine goI ?_; repeat (intro gg; refine goI ?_))
     (exact ⟨none, trivial, fun gr => ⟨⟨(((atB s a - 192) * 256 + atB s (a + 1)), true, l, some (x), ((atB s a - 192) * 256 + atB s (a + 1)), g), h.ptr_bad hs c c0 c1 (fun q => c2 q.1)⟩, by show 0 < 1 + fr + (9 - l.length); omega, tI, tI, ⟨rfl, ⟨rfl, trivial⟩⟩, tI⟩⟩)
   obtain ⟨_, f2, f3⟩ := num_yes (s := s) (k := 1) (a := a + 1) (b := false) (by omega)
   have hpb := fun (c3 : ¬ ((atB s a - 192) * 256 + atB s (a + 1)) < fr) => h.ptr_bad hs c c0 c1 (fun q => c3 q.2)
   rw [f2] at hpb
   rw [f3, f2]
   rcases e with _ | x
   ·(refine goI ?_; repeat (intro gg; refine goI ?_))
    by_cases c3 : ((atB s a - 192) * 256 + atB s (a + 1)) < fr
    ·rw [show decide ((fr : Int) ≤ ((((atB s a - 192) * 256 + atB s (a + 1)) : Nat) : Int)) = false from decide_eq_false (by omega)]
     (refine goI ?_; repeat (intro gg; refine goI ?_))
     (exact ⟨none, trivial, fun gr => ⟨⟨(((atB s a - 192) * 256 + atB s (a + 1)), false, l, some (a + 2), ((atB s a - 192) * 256 + atB s (a + 1)), g), h.ptr_ok hs c c0 c1 c2 c3⟩, by show 1 + ((atB s a - 192) * 256 + atB s (a + 1)) + (9 - l.length) < 1 + fr + (9 - l.length); omega, tI, tI, ⟨rfl, ⟨rfl, trivial⟩⟩, tI⟩⟩)
    ·rw [show decide ((fr : Int) ≤ ((((atB s a - 192) * 256 + atB s (a + 1)) : Nat) : Int)) = true from decide_eq_true (by omega)]
     (refine goI ?_; repeat (intro gg; refine goI ?_))
     (exact ⟨none, trivial, fun gr => ⟨⟨(((atB s a - 192) * 256 + atB s (a + 1)), true, l, some (a + 2), ((atB s a - 192) * 256 + atB s (a + 1)), g), hpb c3⟩, by show 0 < 1 + fr + (9 - l.length); omega, tI, tI, ⟨rfl, ⟨rfl, trivial⟩⟩, tI⟩⟩)
   ·(refine goI ?_; repeat (intro gg; refine goI ?_))
    rw [show decide (eI (some x) < 0) = false from decide_eq_false (show ¬ (x : Int) < 0 by omega)]
    (refine goI ?_; repeat (intro gg; refine goI ?_))
    by_cases c3 : ((atB s a - 192) * 256 + atB s (a + 1)) < fr
    ·rw [show decide ((fr : Int) ≤ ((((atB s a - 192) * 256 + atB s (a + 1)) : Nat) : Int)) = false from decide_eq_false (by omega)]
     (refine goI ?_; repeat (intro gg; refine goI ?_))
     (exact ⟨none, trivial, fun gr => ⟨⟨(((atB s a - 192) * 256 + atB s (a + 1)), false, l, some (x), ((atB s a - 192) * 256 + atB s (a + 1)), g), h.ptr_ok hs c c0 c1 c2 c3⟩, by show 1 + ((atB s a - 192) * 256 + atB s (a + 1)) + (9 - l.length) < 1 + fr + (9 - l.length); omega, tI, tI, ⟨rfl, ⟨rfl, trivial⟩⟩, tI⟩⟩)
    ·rw [show decide ((fr : Int) ≤ ((((atB s a - 192) * 256 + atB s (a + 1)) : Nat) : Int)) = true from decide_eq_true (by omega)]
     (refine goI ?_; repeat (intro gg; refine goI ?_))
     (exact ⟨none, trivial, fun gr => ⟨⟨(((atB s a - 192) * 256 + atB s (a + 1)), true, l, some (x), ((atB s a - 192) * 256 + atB s (a + 1)), g), hpb c3⟩, by show 0 < 1 + fr + (9 - l.length); omega, tI, tI, ⟨rfl, ⟨rfl, trivial⟩⟩, tI⟩⟩)
  rw [show decide ((192 : Int) ≤ (atB s a : Int)) = false from decide_eq_false (by omega)]
  obtain ⟨n, hn⟩ : ∃ n, n = atB s a := ⟨_, rfl⟩
  have hok := h.lab_ok hs c c0 c1
  have hbad := h.lab_bad hs c c0 c1
  have hn8 := atB_lt s a
  rw [← hn] at c0 c1 hok hbad hn8 ⊢
  have hl8 := (h.no rfl).1
  obtain ⟨_, q2, q3⟩ := num_yes (s := s) (k := 0) (a := a + 1) (b := false) c
  have hst : some (Ent.mk 0 (.b scT) 3 [[.v (.string s), .v (.int .i64 ((a + 1 : Nat) : Int)), .v (.bool false)]]) = some (Ent.mk 0 (.b scT) 3 [[.v (.string s), .v (.int .i64 (numA s 0 (a + 1) : Int)), .v (.bool (numB s 0 (a + 1) false))]]) := by rw [q2, q3]
  clear h e1 e2 e3 hn q2 q3
  (refine goI ?_; repeat (intro gg; refine goI ?_))
  (refine ⟨[], none, {i : Nat // i ≤ n}, [], fun ⟨i, hi⟩ => [(0, .ptr 0 0 0 0), (3, .own 48 g), (4, .v (.int .i64 (fr : Int))), (5, .v (.int .i64 (eI e))), (6, .v (.int .i64 (n : Int))), (8, .v (.string (bA (labT s (a + 1) i)))), (9, .v (.int .i64 (i : Int)))], [], fun ⟨i, hi⟩ => [(0, ⟨0, .b scT, 3, [[.v (.string s), .v (.int .i64 (numA s i (a + 1) : Int)), .v (.bool (numB s i (a + 1) false))]]⟩), (48, ⟨g, .t 9, 1, l.map sRow⟩)], fun ⟨i, hi⟩ => n - i, trivial, fun _ => ⟨trivial, fun _ => ⟨⟨0, Nat.zero_le _⟩, tI, keptE_refl _ _, ?_, keptH_refl _ _⟩⟩, fun ⟨i, hi⟩ => ?_⟩; focus (exact ⟨hst, ⟨rfl, trivial⟩⟩))
  simp only [hdE_nil, hdH_nil, keptE_nil, keptH_nil]
  by_cases d1 : i < n
  ·have hA : numA s i (a + 1) ≤ 1000000 := numA_le (by omega) hs
   have hc8 := atB_lt s (a + 1 + i)
   have hsm := smallN_lt hc8
   have hlen := labT_len s (a + 1) i
   (refine goI ?_; repeat (intro gg; refine goI ?_))
   rw [show decide ((i : Int) < (n : Int)) = true from decide_eq_true (by omega)]
   (refine goI ?_; repeat (intro gg; refine goI ?_))
   (refine .inr (.inl ⟨_, _, false, 0 :: ([] ++ []), ?_, scan_number s (numA s i (a + 1)) 1 (numB s i (a + 1) false) hs hA (by omega) (by omega), nobor, oI, dI, ?_⟩); focus (exact aM_mn (gone := []) (gone1 := []) rfl aI (by decide) (by decide) (by decide) rfl aM))
   rw [numN_step, numA_step, numB_step]
   generalize hx : atB s (a + 1 + i) = x at *
   (refine goI ?_; repeat (intro gg; refine goI ?_))
   have hlem : bA (labT s (a + 1) i) ++ strNs [(smallN x : Int)] = bA (labT s (a + 1) (i + 1)) := by
    rw [show strNs [(smallN x : Int)] = bA [UInt8.ofNat (smallN x)] from rfl, bA_app, ← smallN_U hc8, ← hx]
    rfl
   by_cases d2 : 65 ≤ x
   rotate_left
   ·have hy : smallN x = x := by unfold smallN; rw [if_neg (by omega)]
    rw [show decide ((65 : Int) ≤ (x : Int)) = false from decide_eq_false (by omega)]
    (refine goI ?_; repeat (intro gg; refine goI ?_))
    refine ⟨(smallN x : Int), by rw [u8_wrap]; omega, ?_⟩
    (refine goI ?_; repeat (intro gg; refine goI ?_))
    refine ⟨[(smallN x : Int)], rfl, ?_⟩
    (refine goI ?_; repeat (intro gg; refine goI ?_))
    refine ⟨by have e1 : (strNs [(smallN x : Int)]).size = 1 := rfl; have e2 := bA_size (labT s (a + 1) i); omega, ?_⟩
    rw [hlem]
    (refine goI ?_; repeat (intro gg; refine goI ?_))
    (exact ⟨none, trivial, fun gr => ⟨⟨i + 1, by omega⟩, by show n - (i + 1) < n - i; omega, tI, tI, ⟨rfl, ⟨rfl, trivial⟩⟩, tI⟩⟩)
   rw [show decide ((65 : Int) ≤ (x : Int)) = true from decide_eq_true (by omega)]
   (refine goI ?_; repeat (intro gg; refine goI ?_))
   by_cases d3 : x ≤ 90
   rotate_left
   ·have hy : smallN x = x := by unfold smallN; rw [if_neg (by omega)]
    rw [show decide ((x : Int) ≤ (90 : Int)) = false from decide_eq_false (by omega)]
    (refine goI ?_; repeat (intro gg; refine goI ?_))
    refine ⟨(smallN x : Int), by rw [u8_wrap]; omega, ?_⟩
    (refine goI ?_; repeat (intro gg; refine goI ?_))
    refine ⟨[(smallN x : Int)], rfl, ?_⟩
    (refine goI ?_; repeat (intro gg; refine goI ?_))
    refine ⟨by have e1 : (strNs [(smallN x : Int)]).size = 1 := rfl; have e2 := bA_size (labT s (a + 1) i); omega, ?_⟩
    rw [hlem]
    (refine goI ?_; repeat (intro gg; refine goI ?_))
    (exact ⟨none, trivial, fun gr => ⟨⟨i + 1, by omega⟩, by show n - (i + 1) < n - i; omega, tI, tI, ⟨rfl, ⟨rfl, trivial⟩⟩, tI⟩⟩)
   have hy : smallN x = x + 32 := by unfold smallN; rw [if_pos (by omega)]
   rw [show decide ((x : Int) ≤ (90 : Int)) = true from decide_eq_true (by omega)]
   (refine goI ?_; repeat (intro gg; refine goI ?_))
   refine ⟨(smallN x : Int), by rw [u8_wrap]; omega, ?_⟩
   (refine goI ?_; repeat (intro gg; refine goI ?_))
   refine ⟨[(smallN x : Int)], rfl, ?_⟩
   (refine goI ?_; repeat (intro gg; refine goI ?_))
   refine ⟨by have e1 : (strNs [(smallN x : Int)]).size = 1 := rfl; have e2 := bA_size (labT s (a + 1) i); omega, ?_⟩
   rw [hlem]
   (refine goI ?_; repeat (intro gg; refine goI ?_))
   (exact ⟨none, trivial, fun gr => ⟨⟨i + 1, by omega⟩, by show n - (i + 1) < n - i; omega, tI, tI, ⟨rfl, ⟨rfl, trivial⟩⟩, tI⟩⟩)
  ·obtain rfl : i = n := by omega
   (refine goI ?_; repeat (intro gg; refine goI ?_))
   rw [show decide ((i : Int) < (i : Int)) = false from decide_eq_false (by omega)]
   (refine goI ?_; repeat (intro gg; refine goI ?_))
   have hll : (l.map sRow ++ [sRow (bA (labT s (a + 1) i))]).length = l.length + 1 := by rw [List.length_append, List.length_map]; rfl
   have hTs : (bA (labT s (a + 1) i)).size = i := by rw [bA_size, labT_len]
   have hn8 : i < 256 := hn8
   by_cases d2 : a + 1 + i ≤ s.size
   rotate_left
   ·obtain ⟨_, _, f3⟩ := num_no (s := s) (k := i) (a := a + 1) (b := false) d2
    rw [f3]
    (refine goI ?_; repeat (intro gg; refine goI ?_))
    refine ⟨lI, lI, ?_⟩
    (refine goI ?_; repeat (intro gg; refine goI ?_))
    refine bIf_of (fun hh => ?_) (fun hh => ?_) <;> rw [hh]
    ·have d4 : ¬ l.length + 1 ≤ 8 := by have := of_decide_eq_true (show decide ((8 : Int) < ((l.map sRow ++ [sRow (bA (labT s (a + 1) i))]).length : Int)) = true from hh); rw [hll] at this; omega
     (refine goI ?_; repeat (intro gg; refine goI ?_))
     (exact ⟨none, trivial, fun gr => ⟨⟨(numA s i (a + 1), true, l ++ [bA (labT s (a + 1) i)], e, fr, gg), hbad (fun q => d2 q.1)⟩, by show 0 < 1 + fr + (9 - l.length); omega, tI, tI, ⟨rfl, ⟨congrArg (fun r => some (Ent.mk gg (.t 9) 1 r)) (show l.map sRow ++ [sRow (bA (labT s (a + 1) i))] = (l ++ [bA (labT s (a + 1) i)]).map sRow by rw [List.map_append]; rfl), trivial⟩⟩, tI⟩⟩)
    ·have d4 : l.length + 1 ≤ 8 := by have := of_decide_eq_false (show decide ((8 : Int) < ((l.map sRow ++ [sRow (bA (labT s (a + 1) i))]).length : Int)) = false from hh); rw [hll] at this; omega
     (refine goI ?_; repeat (intro gg; refine goI ?_))
     (exact ⟨none, trivial, fun gr => ⟨⟨(numA s i (a + 1), true, l ++ [bA (labT s (a + 1) i)], e, fr, gg), hbad (fun q => d2 q.1)⟩, by show 0 < 1 + fr + (9 - l.length); omega, tI, tI, ⟨rfl, ⟨congrArg (fun r => some (Ent.mk gg (.t 9) 1 r)) (show l.map sRow ++ [sRow (bA (labT s (a + 1) i))] = (l ++ [bA (labT s (a + 1) i)]).map sRow by rw [List.map_append]; rfl), trivial⟩⟩, tI⟩⟩)
   obtain ⟨_, _, f3⟩ := num_yes (s := s) (k := i) (a := a + 1) (b := false) d2
   rw [f3]
   (refine goI ?_; repeat (intro gg; refine goI ?_))
   (refine .inl ⟨_, _, false, [], aI, rlabel_fun (bA (labT s (a + 1) i)) (by rw [hTs]; omega), nobor, nI, ?_⟩)
   rw [show (bA (labT s (a + 1) i)).data.toList = labT s (a + 1) i from by simp [bA]]
   (refine goI ?_; repeat (intro gg; refine goI ?_))
   by_cases d3 : lab (labT s (a + 1) i) = true
   ·rw [d3]
    (refine goI ?_; repeat (intro gg; refine goI ?_))
    refine ⟨lI, lI, ?_⟩
    (refine goI ?_; repeat (intro gg; refine goI ?_))
    refine bIf_of (fun hh => ?_) (fun hh => ?_) <;> rw [hh]
    ·have d4 : ¬ l.length + 1 ≤ 8 := by have := of_decide_eq_true (show decide ((8 : Int) < ((l.map sRow ++ [sRow (bA (labT s (a + 1) i))]).length : Int)) = true from hh); rw [hll] at this; omega
     (refine goI ?_; repeat (intro gg; refine goI ?_))
     (exact ⟨none, trivial, fun gr => ⟨⟨(numA s i (a + 1), true, l ++ [bA (labT s (a + 1) i)], e, fr, gg), hbad (fun q => d4 q.2.2)⟩, by show 0 < 1 + fr + (9 - l.length); omega, tI, tI, ⟨rfl, ⟨congrArg (fun r => some (Ent.mk gg (.t 9) 1 r)) (show l.map sRow ++ [sRow (bA (labT s (a + 1) i))] = (l ++ [bA (labT s (a + 1) i)]).map sRow by rw [List.map_append]; rfl), trivial⟩⟩, tI⟩⟩)
    ·have d4 : l.length + 1 ≤ 8 := by have := of_decide_eq_false (show decide ((8 : Int) < ((l.map sRow ++ [sRow (bA (labT s (a + 1) i))]).length : Int)) = false from hh); rw [hll] at this; omega
     (refine goI ?_; repeat (intro gg; refine goI ?_))
     (exact ⟨none, trivial, fun gr => ⟨⟨(numA s i (a + 1), false, l ++ [bA (labT s (a + 1) i)], e, fr, gg), hok ⟨d2, d3, d4⟩⟩, by show 1 + fr + (9 - (l ++ [bA (labT s (a + 1) i)]).length) < 1 + fr + (9 - l.length); rw [List.length_append]; simp only [List.length_cons, List.length_nil]; omega, tI, tI, ⟨rfl, ⟨congrArg (fun r => some (Ent.mk gg (.t 9) 1 r)) (show l.map sRow ++ [sRow (bA (labT s (a + 1) i))] = (l ++ [bA (labT s (a + 1) i)]).map sRow by rw [List.map_append]; rfl), trivial⟩⟩, tI⟩⟩)
   ·rw [Bool.eq_false_iff.2 d3]
    (refine goI ?_; repeat (intro gg; refine goI ?_))
    refine ⟨lI, lI, ?_⟩
    (refine goI ?_; repeat (intro gg; refine goI ?_))
    refine bIf_of (fun hh => ?_) (fun hh => ?_) <;> rw [hh]
    ·have d4 : ¬ l.length + 1 ≤ 8 := by have := of_decide_eq_true (show decide ((8 : Int) < ((l.map sRow ++ [sRow (bA (labT s (a + 1) i))]).length : Int)) = true from hh); rw [hll] at this; omega
     (refine goI ?_; repeat (intro gg; refine goI ?_))
     (exact ⟨none, trivial, fun gr => ⟨⟨(numA s i (a + 1), true, l ++ [bA (labT s (a + 1) i)], e, fr, gg), hbad (fun q => d3 q.2.1)⟩, by show 0 < 1 + fr + (9 - l.length); omega, tI, tI, ⟨rfl, ⟨congrArg (fun r => some (Ent.mk gg (.t 9) 1 r)) (show l.map sRow ++ [sRow (bA (labT s (a + 1) i))] = (l ++ [bA (labT s (a + 1) i)]).map sRow by rw [List.map_append]; rfl), trivial⟩⟩, tI⟩⟩)
    ·have d4 : l.length + 1 ≤ 8 := by have := of_decide_eq_false (show decide ((8 : Int) < ((l.map sRow ++ [sRow (bA (labT s (a + 1) i))]).length : Int)) = false from hh); rw [hll] at this; omega
     (refine goI ?_; repeat (intro gg; refine goI ?_))
     (exact ⟨none, trivial, fun gr => ⟨⟨(numA s i (a + 1), true, l ++ [bA (labT s (a + 1) i)], e, fr, gg), hbad (fun q => d3 q.2.1)⟩, by show 0 < 1 + fr + (9 - l.length); omega, tI, tI, ⟨rfl, ⟨congrArg (fun r => some (Ent.mk gg (.t 9) 1 r)) (show l.map sRow ++ [sRow (bA (labT s (a + 1) i))] = (l ++ [bA (labT s (a + 1) i)]).map sRow by rw [List.map_append]; rfl), trivial⟩⟩, tI⟩⟩)
 ·have hq := h.yes rfl
  rw [hQ] at hq
  rw [nameT_none hq]
  (refine goI ?_; repeat (intro gg; refine goI ?_))
  (exact ⟨0 :: ([] ++ []), aM_same (by first | exact cl_b rfl | assumption) (aM_pn (gone := []) (gone1 := []) rfl aI (by decide) (by decide) (by decide) (.nil _))⟩)
end Go.Proofs.YtjhdlcmecbngkaaDoor
namespace Go.Proofs.YtjhdlcmecbngkaaDoor
open Go Go.RowKit Pl
set_option linter.unusedVariables false
namespace Pl
theorem numA_add (s : ByteArray) (i j a : Nat) : numA s j (numA s i a) = numA s (i + j) a := by
 unfold numA
 split <;> split <;> split <;> omega
theorem numB_add (s : ByteArray) (i j a : Nat) (b : Bool) : numB s j (numA s i a) (numB s i a b) = numB s (i + j) a b := by
 unfold numB numA
 by_cases h : a + i ≤ s.size
 ·rw [if_pos h, show decide (s.size < a + i) = false from decide_eq_false (by omega), Bool.or_false, Nat.add_assoc]
 ·rw [if_neg h, show decide (s.size < a + i) = true from decide_eq_true (by omega), show decide (s.size < a + (i + j)) = true from decide_eq_true (by omega)]
  simp
def oneS (s : ByteArray) (a : Nat) (b : Bool) : Nat × Bool := bif b then (a, true) else (numA s 2 a, (numN s 2 a : Int) != 1)
def finS (a e : Nat) (b : Bool) : Bool := bif b then true else ((a : Int) != (e : Int))
def bodyS (s : ByteArray) (nm : ByteArray) (t ls a e : Nat) : Option (Rr × Nat × Bool) :=
 if t = 1 then some (⟨nm, t, ls, numN s 4 a, ⟨#[]⟩, 0, ⟨#[]⟩⟩, numA s 4 a, finS (numA s 4 a) e (numB s 4 a false))
 else if t = 16 then
  if numB s 1 a false = true ∨ s.size < numA s 1 a + numN s 1 a then none
  else some (⟨nm, t, ls, 0, s.extract (numA s 1 a) (numA s 1 a + numN s 1 a), 0, ⟨#[]⟩⟩, numA s 1 a + numN s 1 a, finS (numA s 1 a + numN s 1 a) e false)
 else if t = 33 then
  some (⟨nm, t, ls, 0, ⟨#[]⟩, numN s 2 (numA s 4 a), (nameT s (numA s 2 (numA s 4 a)) (numB s 2 (numA s 4 a) ((numN s 4 a : Int) != 0))).1⟩,
   (nameT s (numA s 2 (numA s 4 a)) (numB s 2 (numA s 4 a) ((numN s 4 a : Int) != 0))).2.1,
   finS (nameT s (numA s 2 (numA s 4 a)) (numB s 2 (numA s 4 a) ((numN s 4 a : Int) != 0))).2.1 e (nameT s (numA s 2 (numA s 4 a)) (numB s 2 (numA s 4 a) ((numN s 4 a : Int) != 0))).2.2)
 else some (⟨nm, t, ls, 0, ⟨#[]⟩, 0, ⟨#[]⟩⟩, a, finS a e false)
def restS (s : ByteArray) (nm : ByteArray) (a1 : Nat) (b1 : Bool) : Option (Rr × Nat × Bool) :=
 let o := oneS s (numA s 2 a1) (numB s 2 a1 b1)
 if numB s 6 o.1 o.2 = true ∨ s.size < numA s 6 o.1 + numN s 2 (numA s 4 o.1) then none
 else bodyS s nm (numN s 2 a1) (numN s 4 o.1) (numA s 6 o.1) (numA s 6 o.1 + numN s 2 (numA s 4 o.1))
def recS (s : ByteArray) (a : Nat) : Option (Rr × Nat × Bool) := restS s (nameT s a false).1 (nameT s a false).2.1 (nameT s a false).2.2
def recsS (s : ByteArray) : Nat → Nat → Bool → List Rr → Option (List Rr × Nat × Bool)
 | 0, a, b, L => some (L, a, b)
 | n + 1, a, b, L => bif b then some (L, a, true) else (recS s a).bind fun r => recsS s n r.2.1 r.2.2 (L ++ [r.1])
structure Hd where
 id : Nat
 fl : Nat
 co : Nat
 one : Nat
 n : Nat
 z : Nat
def hdS (s : ByteArray) : Hd := ⟨numN s 2 0, numN s 1 (numA s 2 0), numN s 1 (numA s 3 0), numN s 2 (numA s 4 0), numN s 2 (numA s 6 0), numN s 4 (numA s 8 0)⟩
def Hd.ok (h : Hd) : Prop := (h.fl = 0 ∨ h.fl = 2 ∨ h.fl = 128 ∨ h.fl = 130) ∧ h.co ≤ 15 ∧ h.one = 1 ∧ h.n ≤ 20 ∧ h.z = 0
instance (h : Hd) : Decidable h.ok := by unfold Hd.ok; exact inferInstance
def msgS (s : ByteArray) : Ms × Int :=
 if 512 < s.size then (zeroMs, 2)
 else if 12 ≤ s.size ∧ (hdS s).ok then
  let Q := nameT s 12 false
  let o := oneS s (numA s 2 Q.2.1) (numB s 2 Q.2.1 Q.2.2)
  match recsS s (hdS s).n o.1 o.2 [] with
  | none => (zeroMs, 1)
  | some (L, a, b) =>
   if b = false ∧ a = s.size ∧ msgErr ⟨(hdS s).id, decide (128 ≤ (hdS s).fl), decide (2 ≤ (hdS s).fl % 4), (hdS s).co, Q.1, numN s 2 Q.2.1, L⟩ = 0 then (⟨(hdS s).id, decide (128 ≤ (hdS s).fl), decide (2 ≤ (hdS s).fl % 4), (hdS s).co, Q.1, numN s 2 Q.2.1, L⟩, 0)
   else (zeroMs, 1)
 else (zeroMs, 1)
theorem nameQ_bd {s : ByteArray} (hs : s.size ≤ 1000000) : ∀ (f a : Nat) (l : List ByteArray) (e : Option Nat) (fr : Nat), a ≤ 1000000 → e.getD 0 ≤ 1000000 → l.length ≤ 8 → (∀ x ∈ l, x.size ≤ 1000) →
  (nameQ s f a l e fr).2 ≤ 1000000 ∧ ∀ p, (nameQ s f a l e fr).1 = some p → p.2 ≤ 1000000 ∧ p.1.length ≤ 8 ∧ ∀ x ∈ p.1, x.size ≤ 1000
 | 0, a, l, e, fr, ha, he, hl, hz => ⟨Nat.zero_le _, fun p h => by cases h⟩
 | f + 1, a, l, e, fr, ha, he, hl, hz => by
  have ht := to_le s a
  have hb := atB_lt s a
  unfold nameQ
  split
  ·split
   ·refine ⟨Nat.zero_le _, fun p h => ?_⟩
    cases h
    refine ⟨?_, hl, hz⟩
    cases e with
    | none => show a + 1 ≤ _; omega
    | some y => exact he
   ·split
    ·split
     ·exact nameQ_bd hs f _ l _ _ ht (getD_le he (by omega)) hl hz
     ·exact ⟨ht, fun p h => by cases h⟩
    ·split
     ·rename_i h3
      exact nameQ_bd hs f _ _ e fr (numA_le (by omega) hs) he (by rw [List.length_append]; exact h3.2.2) (lab_hz hz hb _)
     ·exact ⟨numA_le (by omega) hs, fun p h => by cases h⟩
  ·exact ⟨by show max a s.size ≤ _; omega, fun p h => by cases h⟩
theorem nameT_bd {s : ByteArray} (hs : s.size ≤ 1000000) {a : Nat} (ha : a ≤ 1000000) (b : Bool) : (nameT s a b).2.1 ≤ 1000000 ∧ (nameT s a b).1.size ≤ 10000 := by
 cases b with
 | true => exact ⟨ha, show (⟨#[]⟩ : ByteArray).size ≤ 10000 from by decide⟩
 | false =>
  obtain ⟨h1, h2⟩ := nameQ_bd hs (a + 10) a [] none a ha (by simp) (by simp) (by simp)
  rcases hq : nameQ s (a + 10) a [] none a with ⟨_ | p, x⟩
  ·rw [nameT_none (b := false) hq]
   rw [hq] at h1
   exact ⟨h1, show (⟨#[]⟩ : ByteArray).size ≤ 10000 from by decide⟩
  ·rw [nameT_some (b := false) hq]
   rw [hq] at h2
   obtain ⟨g1, g2, g3⟩ := h2 p rfl
   refine ⟨g1, ?_⟩
   have := joinB_szk p.1 g3 p.1.length (Nat.le_refl _)
   rw [List.take_length] at this
   show (joinB dotB p.1).size ≤ _
   omega
theorem oneS_le {s : ByteArray} (hs : s.size ≤ 1000000) {a : Nat} (ha : a ≤ 1000000) (b : Bool) : (oneS s a b).1 ≤ 1000000 := by
 cases b with
 | true => exact ha
 | false => exact numA_le ha hs
structure Rr.Sh (r : Rr) : Prop where
 nm : r.nm.size ≤ 1000000
 tx : r.tx.size ≤ 1000000
 tg : r.tg.size ≤ 1000000
theorem bodyS_bd {s : ByteArray} (hs : s.size ≤ 1000000) {nm : ByteArray} (hn : nm.size ≤ 10000) {t ls a e : Nat} (ha : a ≤ 1000000) {r : Rr} {a' : Nat} {b' : Bool} (h : bodyS s nm t ls a e = some (r, a', b')) : r.Sh ∧ a' ≤ 1000000 := by
 have h0 : (⟨#[]⟩ : ByteArray).size = 0 := rfl
 unfold bodyS at h
 split at h
 ·cases h
  exact ⟨⟨by show nm.size ≤ _; omega, by show (⟨#[]⟩ : ByteArray).size ≤ _; omega, by show (⟨#[]⟩ : ByteArray).size ≤ _; omega⟩, numA_le ha hs⟩
 ·split at h
  ·split at h
   ·cases h
   ·rename_i h3
    cases h
    refine ⟨⟨by show nm.size ≤ _; omega, ?_, by show (⟨#[]⟩ : ByteArray).size ≤ _; omega⟩, ?_⟩
    ·show (s.extract (numA s 1 a) (numA s 1 a + numN s 1 a)).size ≤ _
     rw [ByteArray.size_extract]; omega
    ·simp only [not_or] at h3; omega
  ·split at h
   ·cases h
    obtain ⟨g1, g2⟩ := nameT_bd hs (numA_le (numA_le ha hs) hs : numA s 2 (numA s 4 a) ≤ 1000000) (numB s 2 (numA s 4 a) ((numN s 4 a : Int) != 0))
    exact ⟨⟨by show nm.size ≤ _; omega, by show (⟨#[]⟩ : ByteArray).size ≤ _; omega, Nat.le_trans g2 (by decide)⟩, g1⟩
   ·cases h
    exact ⟨⟨by show nm.size ≤ _; omega, by show (⟨#[]⟩ : ByteArray).size ≤ _; omega, by show (⟨#[]⟩ : ByteArray).size ≤ _; omega⟩, ha⟩
theorem recS_bd {s : ByteArray} (hs : s.size ≤ 1000000) {a : Nat} (ha : a ≤ 1000000) {r : Rr} {a' : Nat} {b' : Bool} (h : recS s a = some (r, a', b')) : r.Sh ∧ a' ≤ 1000000 := by
 obtain ⟨g1, g2⟩ := nameT_bd hs ha false
 unfold recS restS at h
 simp only at h
 split at h
 ·cases h
 ·exact bodyS_bd hs g2 (numA_le (oneS_le hs (numA_le g1 hs) _) hs) h
structure RsI (s : ByteArray) (n : Nat) (R : Option (List Rr × Nat × Bool)) (k a : Nat) (b : Bool) (L : List Rr) : Prop where
 hr : recsS s (n - k) a b L = R
 hk : k ≤ n
 hl : L.length = k
 ha : a ≤ 1000000
 hz : ∀ r ∈ L, r.Sh
section
variable {s : ByteArray} {n k a : Nat} {R : Option (List Rr × Nat × Bool)} {L : List Rr} {b : Bool}
theorem RsI.start (ha : a ≤ 1000000) : RsI s n (recsS s n a b []) 0 a b [] := ⟨rfl, Nat.zero_le _, rfl, ha, by simp⟩
theorem RsI.next (h : RsI s n R k a false L) (hs : s.size ≤ 1000000) (hk : k < n) {r : Rr} {a' : Nat} {b' : Bool} (e : recS s a = some (r, a', b')) : RsI s n R (k + 1) a' b' (L ++ [r]) := by
 have hb := recS_bd hs h.ha e
 refine ⟨?_, hk, by rw [List.length_append, h.hl]; rfl, hb.2, fun x hx => ?_⟩
 ·have := h.hr
  rw [show n - k = (n - (k + 1)) + 1 by omega, recsS, e] at this
  exact this
 ·rcases List.mem_append.1 hx with hx | hx
  ·exact h.hz x hx
  ·rw [List.mem_singleton.1 hx]; exact hb.1
theorem RsI.none (h : RsI s n R k a false L) (hk : k < n) (e : recS s a = none) : R = none := by
 rw [← h.hr, show n - k = (n - (k + 1)) + 1 by omega, recsS, e]
 rfl
theorem RsI.stop (h : RsI s n R k a true L) : R = some (L, a, true) := by
 rw [← h.hr]
 rcases n - k with _ | m
 ·rfl
 ·rfl
theorem RsI.end_ (h : RsI s n R k a b L) (hk : ¬ k < n) : R = some (L, a, b) := by
 have := h.hk
 rw [← h.hr, show n - k = 0 by omega]
 rfl
end
end Pl
theorem retn2 {env : Nat → V} {H : Nat → Option Ent} {ts : List RT} {cs cs' : List V} {v : V} (hG : GetR env H ts [.agg cs, v]) (hc : CellsB H [] cs cs') (hv : Cl v) : ∃ us gone, GetR env H ts us ∧ ArgsOk H gone true gone us [.c (.agg cs'), .c v] := ⟨_, [], hG, .bora hc (.same hv (.nil _))⟩
end Go.Proofs.YtjhdlcmecbngkaaDoor
namespace Go.Proofs.YtjhdlcmecbngkaaDoor
open Go Go.RowKit Pl
set_option linter.unusedVariables false
namespace Pl
section
variable {s : ByteArray} {a : Nat}
theorem byteP_yes (h : a + 1 ≤ s.size) : byteP s a = some (atB s a, a + 1) := by
 unfold byteP atB
 have : s[a]? = some s[a] := by simp
 rw [this]; rfl
theorem byteP_no (h : ¬ a + 1 ≤ s.size) : byteP s a = none := by
 unfold byteP
 rw [show s[a]? = none from by simp; omega]; rfl
theorem numV_two : numV s a 2 = atB s a * 256 + atB s (a + 1) := by
 show 256 * (256 * 0 + atB s (a + 0)) + atB s (a + 1) = _
 rw [Nat.add_zero]; omega
theorem numV_four : numV s a 4 = numV s a 2 * 65536 + numV s (a + 2) 2 := by
 rw [numV_two, numV_two]
 show 256 * (256 * numV s a 2 + atB s (a + 2)) + atB s (a + 3) = _
 rw [numV_two, show a + 2 + 1 = a + 3 from rfl]; omega
theorem twoP_yes (h : a + 2 ≤ s.size) : twoP s a = some (numV s a 2, a + 2) := by
 unfold twoP
 rw [byteP_yes (by omega), Option.bind_some]
 simp only
 rw [byteP_yes (by omega), Option.bind_some, numV_two]
theorem twoP_no (h : ¬ a + 2 ≤ s.size) : twoP s a = none := by
 unfold twoP
 by_cases h1 : a + 1 ≤ s.size
 ·rw [byteP_yes h1, Option.bind_some]
  simp only
  rw [byteP_no (by omega)]; rfl
 ·rw [byteP_no h1]; rfl
theorem fourP_yes (h : a + 4 ≤ s.size) : fourP s a = some (numV s a 4, a + 4) := by
 unfold fourP
 rw [twoP_yes (by omega), Option.bind_some]
 simp only
 rw [twoP_yes (by omega), Option.bind_some, numV_four]
theorem fourP_no (h : ¬ a + 4 ≤ s.size) : fourP s a = none := by
 unfold fourP
 by_cases h1 : a + 2 ≤ s.size
 ·rw [twoP_yes h1, Option.bind_some]
  simp only
  rw [twoP_no (by omega)]; rfl
 ·rw [twoP_no h1]; rfl
end
theorem labT_eq {s : ByteArray} {a n : Nat} (h : a + n ≤ s.size) : labT s a n = (smallB (s.extract a (a + n))).data.toList := by
 have key : ∀ n, a + n ≤ s.size → labT s a n = (s.extract a (a + n)).data.toList.map smallU := by
  intro n
  induction n with
  | zero => intro _; show [] = _; rw [Nat.add_zero, extract_list, List.drop_eq_nil_of_le (by rw [List.length_take]; omega)]; rfl
  | succ n ih =>
   intro hn
   show labT s a n ++ [smallU (UInt8.ofNat (atB s (a + n)))] = _
   have hl : s.data.toList.length = s.size := by simp
   rw [ih (by omega), extract_list, extract_list, ← Nat.add_assoc, take_snoc (show a + n < s.data.toList.length by omega), List.drop_append_of_le_length (by rw [List.length_take]; omega), List.map_append]
   congr 1
   have e1 : s[a + n]? = some s[a + n] := by simp
   rw [atB_some e1]
   simp
   rfl
 rw [key n h]
 unfold smallB
 simp
theorem nameQ_R {s : ByteArray} : ∀ (f a : Nat) (l : List ByteArray) (e : Option Nat) (fr : Nat), l.length ≤ 8 → (nameQ s f a l e fr).1 = nameR s f a l e fr
 | 0, a, l, e, fr, hl => rfl
 | f + 1, a, l, e, fr, hl => by
  unfold nameQ nameR
  rw [if_pos hl]
  by_cases c : a + 1 ≤ s.size
  ·rw [if_pos c, byteP_yes c, Option.bind_some]
   simp only
   by_cases c0 : atB s a = 0
   ·rw [if_pos c0, if_pos c0]
   ·rw [if_neg c0, if_neg c0]
    by_cases c1 : 192 ≤ atB s a
    ·rw [if_pos c1, if_pos c1]
     have hb := atB_lt s a
     by_cases c2 : a + 2 ≤ s.size
     ·rw [byteP_yes (a := a + 1) (by omega), Option.bind_some]
      simp only
      rw [show atB s a % 64 = atB s a - 192 by omega]
      by_cases c3 : (atB s a - 192) * 256 + atB s (a + 1) < fr
      ·rw [if_pos ⟨c2, c3⟩, if_pos c3]
       exact nameQ_R f _ l _ _ hl
      ·rw [if_neg (fun q => c3 q.2), if_neg c3]
     ·rw [if_neg (fun q => c2 q.1), byteP_no (by omega)]; rfl
    ·rw [if_neg c1, if_neg c1]
     unfold bytesP
     by_cases c2 : a + 1 + atB s a ≤ s.size
     ·rw [if_pos c2, Option.bind_some]
      simp only
      rw [← labT_eq c2]
      by_cases c3 : lab (labT s (a + 1) (atB s a)) = true
      ·rw [if_pos c3]
       have eB : smallB (s.extract (a + 1) (a + 1 + atB s a)) = bA (labT s (a + 1) (atB s a)) := by rw [labT_eq c2, bA_of]
       by_cases c4 : l.length + 1 ≤ 8
       ·rw [if_pos ⟨c2, c3, c4⟩, (num_yes (b := false) c2).2.1, eB]
        exact nameQ_R f _ _ e fr (by rw [List.length_append]; exact c4)
       ·rw [if_neg (fun q => c4 q.2.2)]
        cases f with
        | zero => rfl
        | succ f => unfold nameR; rw [if_neg (by rw [List.length_append]; exact c4)]
      ·rw [if_neg (fun q => c3 q.2.1), if_neg c3]
     ·rw [if_neg (fun q => c2 q.1), if_neg c2]; rfl
  ·rw [if_neg c, byteP_no c]; rfl
theorem nameT_P (s : ByteArray) (a : Nat) : (∀ v a', nameP s a = some (v, a') → nameT s a false = (v, a', false)) ∧ (nameP s a = none → (nameT s a false).2.2 = true) := by
 have h := nameQ_R (s := s) (a + 10) a [] none a (by simp)
 rcases hq : nameQ s (a + 10) a [] none a with ⟨_ | p, x⟩
 ·rw [hq] at h
  have e : nameP s a = none := by unfold nameP; rw [← h]; rfl
  refine ⟨fun v a' h => (by rw [e] at h; cases h), fun _ => by rw [nameT_none (b := false) hq]⟩
 ·rw [hq] at h
  have e : nameP s a = some (joinB dotB p.1, p.2) := by unfold nameP; rw [← h]; rfl
  refine ⟨fun v a' h => ?_, fun h => (by rw [e] at h; cases h)⟩
  rw [e] at h
  cases h
  exact nameT_some (b := false) hq
end Pl
end Go.Proofs.YtjhdlcmecbngkaaDoor
namespace Go.Proofs.YtjhdlcmecbngkaaDoor
open Go Go.RowKit Pl
set_option linter.unusedVariables false
namespace Pl
def Wr (x : Option (Rr × Nat × Bool)) : Prop := x = none ∨ ∃ r a b, x = some (r, a, b) ∧ (b = true ∨ isTy r.ty = false)
theorem finS_yes {a e : Nat} (h : a = e) : finS a e false = false := by subst h; show ((a : Int) != (a : Int)) = false; simp
theorem finS_no {a e : Nat} (h : a ≠ e) (b : Bool) : finS a e b = true := by
 cases b
 ·show ((a : Int) != (e : Int)) = true
  exact bne_iff_ne.2 (by omega)
 ·rfl
theorem isTy_no {t : Nat} (h1 : t ≠ 1) (h16 : t ≠ 16) (h33 : t ≠ 33) : isTy (t : Int) = false := by
 unfold isTy
 rw [show ((t : Int) == 1) = false from beq_eq_false_iff_ne.2 (by omega), show ((t : Int) == 16) = false from beq_eq_false_iff_ne.2 (by omega), show ((t : Int) == 33) = false from beq_eq_false_iff_ne.2 (by omega)]
 rfl
section
variable {s : ByteArray} {nm : ByteArray} {t ls a e : Nat}
def bodyR (s : ByteArray) (nm : ByteArray) (t ls a e : Nat) : Option (Rr × Nat) :=
 (bodyP s t a).bind fun b => if b.2 = e then some (⟨nm, t, ls, b.1.1, b.1.2.1, b.1.2.2.1, b.1.2.2.2⟩, b.2) else none
theorem body_eq (ha : a ≤ s.size) : (∀ r a', bodyR s nm t ls a e = some (r, a') → bodyS s nm t ls a e = some (r, a', false)) ∧ (bodyR s nm t ls a e = none → Wr (bodyS s nm t ls a e)) := by
 unfold bodyR bodyP bodyS
 by_cases t1 : t = 1
 ·rw [if_pos t1, if_pos t1]
  by_cases c : a + 4 ≤ s.size
  ·obtain ⟨e1, e2, e3⟩ := num_yes (b := false) c
   rw [fourP_yes c, e1, e2, e3, Option.bind_some]
   simp only [Option.bind_some]
   by_cases d : a + 4 = e
   ·rw [if_pos d, finS_yes d]
    exact ⟨fun r a' h => by cases h; rfl, fun h => by cases h⟩
   ·rw [if_neg d, finS_no d]
    exact ⟨fun r a' h => by (cases h), fun _ => .inr ⟨_, _, _, rfl, .inl rfl⟩⟩
  ·rw [fourP_no c, (num_no (b := false) c).2.2]
   exact ⟨fun r a' h => by (cases h), fun _ => .inr ⟨_, _, _, rfl, .inl rfl⟩⟩
 ·rw [if_neg t1, if_neg t1]
  by_cases t16 : t = 16
  ·rw [if_pos t16, if_pos t16]
   by_cases c : a + 1 ≤ s.size
   ·obtain ⟨e1, e2, e3⟩ := num_yes (b := false) c
    rw [byteP_yes c, e2, e3, numN_one, Option.bind_some]
    simp only
    unfold bytesP
    by_cases d : a + 1 + atB s a ≤ s.size
    ·rw [if_pos d, if_neg (by simp; omega), Option.bind_some]
     simp only [Option.bind_some]
     by_cases f : a + 1 + atB s a = e
     ·rw [if_pos f, finS_yes f]
      exact ⟨fun r a' h => by cases h; rfl, fun h => by cases h⟩
     ·rw [if_neg f, finS_no f]
      exact ⟨fun r a' h => by (cases h), fun _ => .inr ⟨_, _, _, rfl, .inl rfl⟩⟩
    ·rw [if_neg d, if_pos (.inr (by omega))]
     exact ⟨fun r a' h => by (cases h), fun _ => .inl rfl⟩
   ·rw [byteP_no c, if_pos (.inl (num_no (b := false) c).2.2)]
    exact ⟨fun r a' h => by (cases h), fun _ => .inl rfl⟩
  ·rw [if_neg t16, if_neg t16]
   by_cases t33 : t = 33
   ·rw [if_pos t33, if_pos t33]
    have bad : ∀ (x : Option (Rr × Nat)) (r0 : Rr) (b7 : Bool) (a7 : Nat), x = none → b7 = true →
      (∀ r a', x = some (r, a') → some (({r0 with tg := (nameT s a7 b7).1} : Rr), (nameT s a7 b7).2.1, finS (nameT s a7 b7).2.1 e (nameT s a7 b7).2.2) = some (r, a', false)) ∧ (x = none → Wr (some (({r0 with tg := (nameT s a7 b7).1} : Rr), (nameT s a7 b7).2.1, finS (nameT s a7 b7).2.1 e (nameT s a7 b7).2.2))) := by
     intro x r0 b7 a7 hx hb
     subst hb
     exact ⟨fun r a' h => by (rw [hx] at h; cases h), fun _ => .inr ⟨_, _, _, rfl, .inl rfl⟩⟩
    by_cases c4 : a + 4 ≤ s.size
    ·obtain ⟨e1, e2, e3⟩ := num_yes (s := s) (k := 4) (a := a) (b := false) c4
     rw [twoP_yes (by omega), e1, e2, Option.bind_some]
     simp only
     by_cases z1 : numV s a 2 = 0
     ·rw [if_pos z1, twoP_yes (by omega), Option.bind_some]
      simp only
      by_cases z2 : numV s (a + 2) 2 = 0
      ·rw [if_pos z2, show (((numV s a 4 : Nat) : Int) != 0) = false from by rw [numV_four, z1, z2]; rfl]
       by_cases c6 : a + 4 + 2 ≤ s.size
       ·obtain ⟨g1, g2, g3⟩ := num_yes (s := s) (k := 2) (a := a + 4) (b := false) c6
        rw [twoP_yes c6, g1, g2, g3, Option.bind_some]
        simp only
        obtain ⟨n1, n2⟩ := nameT_P s (a + 4 + 2)
        rcases hn : nameP s (a + 4 + 2) with _ | ⟨v, a8⟩
        ·rw [Option.bind_none, Option.bind_none, show (nameT s (a + 4 + 2) false).2.2 = true from n2 hn]
         exact ⟨fun r a' h => by (cases h), fun _ => .inr ⟨_, _, _, rfl, .inl rfl⟩⟩
        ·rw [n1 v a8 hn, Option.bind_some]
         simp only [Option.bind_some]
         by_cases f : a8 = e
         ·rw [if_pos f, finS_yes f]
          exact ⟨fun r a' h => by cases h; rfl, fun h => by cases h⟩
         ·rw [if_neg f, finS_no f]
          exact ⟨fun r a' h => by (cases h), fun _ => .inr ⟨_, _, _, rfl, .inl rfl⟩⟩
       ·rw [twoP_no c6]
        exact bad _ ⟨nm, t, ls, 0, ⟨#[]⟩, _, ⟨#[]⟩⟩ _ _ rfl (num_no c6).2.2
      ·rw [if_neg z2]
       have hz : (((numV s a 4 : Nat) : Int) != 0) = true := by rw [numV_four]; exact bne_iff_ne.2 (by omega)
       rw [hz]
       exact bad _ ⟨nm, t, ls, 0, ⟨#[]⟩, _, ⟨#[]⟩⟩ _ _ rfl rfl
     ·rw [if_neg z1]
      have hz : (((numV s a 4 : Nat) : Int) != 0) = true := by rw [numV_four]; exact bne_iff_ne.2 (by omega)
      rw [hz]
      exact bad _ ⟨nm, t, ls, 0, ⟨#[]⟩, _, ⟨#[]⟩⟩ _ _ rfl rfl
    ·have hx : ((twoP s a).bind fun p => if p.1 = 0 then (twoP s p.2).bind fun q => if q.1 = 0 then (twoP s q.2).bind fun r => (nameP s r.2).bind fun n => some ((0, (⟨#[]⟩ : ByteArray), r.1, n.1), n.2) else none else none : Option ((Nat × ByteArray × Nat × ByteArray) × Nat)) = none := by
      by_cases c2 : a + 2 ≤ s.size
      ·rw [twoP_yes c2, Option.bind_some]
       simp only
       split
       ·rw [twoP_no (by omega)]; rfl
       ·rfl
      ·rw [twoP_no c2]; rfl
     rw [hx]
     obtain ⟨e1, e2, _⟩ := num_no (s := s) (k := 4) (a := a) (b := false) c4
     rw [e1, e2]
     exact bad _ ⟨nm, t, ls, 0, ⟨#[]⟩, _, ⟨#[]⟩⟩ _ _ rfl (num_no (by omega)).2.2
   ·rw [if_neg t33, if_neg t33]
    exact ⟨fun r a' h => by (cases h), fun _ => .inr ⟨_, _, _, rfl, .inr (isTy_no t1 t16 t33)⟩⟩
end
theorem rec_bad {s nm : ByteArray} {a1 : Nat} {b1 : Bool} (h : (oneS s (numA s 2 a1) (numB s 2 a1 b1)).2 = true) : Wr (restS s nm a1 b1) := by
 unfold restS
 simp only
 rw [h]
 exact .inl (if_pos (.inl rfl))
theorem rec_eq (s : ByteArray) (a : Nat) : (∀ r a', recP s a = some (r, a') → recS s a = some (r, a', false)) ∧ (recP s a = none → Wr (recS s a)) := by
 have vac : ∀ {p : Prop} (r : Rr) (a' : Nat), (none : Option (Rr × Nat)) = some (r, a') → p := fun r a' h => by cases h
 obtain ⟨n1, n2⟩ := nameT_P s a
 unfold recP recS
 rcases hn : nameP s a with _ | ⟨nm, a1⟩
 ·have hb := n2 hn
  rw [Option.bind_none, hb]
  exact ⟨fun r a' h => vac r a' h, fun _ => rec_bad rfl⟩
 rw [n1 nm a1 hn, Option.bind_some]
 simp only
 by_cases c2 : a1 + 2 ≤ s.size
 rotate_left
 ·rw [twoP_no c2, Option.bind_none]
  exact ⟨fun r a' h => vac r a' h, fun _ => rec_bad (by rw [(num_no (b := false) c2).2.2]; rfl)⟩
 obtain ⟨e1, e2, e3⟩ := num_yes (b := false) c2
 rw [twoP_yes c2, Option.bind_some]
 simp only
 by_cases c3 : a1 + 2 + 2 ≤ s.size
 rotate_left
 ·rw [twoP_no c3, Option.bind_none]
  exact ⟨fun r a' h => vac r a' h, fun _ => rec_bad (by
   rw [e2, e3]
   show ((numN s 2 (a1 + 2) : Int) != 1) = true
   rw [(num_no (b := false) c3).1]; rfl)⟩
 obtain ⟨g1, g2, g3⟩ := num_yes (b := false) c3
 rw [twoP_yes c3, Option.bind_some]
 simp only
 by_cases d : numV s (a1 + 2) 2 = 1
 rotate_left
 ·rw [if_neg d]
  exact ⟨fun r a' h => vac r a' h, fun _ => rec_bad (by
   rw [e2, e3]
   show ((numN s 2 (a1 + 2) : Int) != 1) = true
   rw [g1]; exact bne_iff_ne.2 (by omega))⟩
 rw [if_pos d]
 have ho : oneS s (numA s 2 a1) (numB s 2 a1 false) = (a1 + 2 + 2, false) := by
  rw [e2, e3]
  show (numA s 2 (a1 + 2), ((numN s 2 (a1 + 2) : Int) != 1)) = _
  rw [g1, g2, d]; rfl
 have hrest : restS s nm a1 false = if numB s 6 (a1 + 2 + 2) false = true ∨ s.size < numA s 6 (a1 + 2 + 2) + numN s 2 (numA s 4 (a1 + 2 + 2)) then none
   else bodyS s nm (numN s 2 a1) (numN s 4 (a1 + 2 + 2)) (numA s 6 (a1 + 2 + 2)) (numA s 6 (a1 + 2 + 2) + numN s 2 (numA s 4 (a1 + 2 + 2))) := by
  unfold restS
  simp only
  rw [ho]
 rw [hrest, e1]
 generalize a1 + 2 + 2 = a3
 by_cases c6 : a3 + 6 ≤ s.size
 rotate_left
 ·have hx : ((fourP s a3).bind fun ls => (twoP s ls.2).bind fun k => if k.2 + k.1 ≤ s.size then (bodyP s (numV s a1 2) k.2).bind fun b => if b.2 = k.2 + k.1 then some ((⟨nm, (numV s a1 2 : Nat), ls.1, b.1.1, b.1.2.1, b.1.2.2.1, b.1.2.2.2⟩ : Rr), b.2) else none else none) = none := by
   by_cases c4 : a3 + 4 ≤ s.size
   ·rw [fourP_yes c4, Option.bind_some]
    simp only
    rw [twoP_no (by omega)]; rfl
   ·rw [fourP_no c4]; rfl
  rw [hx]
  exact ⟨fun r a' h => vac r a' h, fun _ => .inl (if_pos (.inl (num_no c6).2.2))⟩
 obtain ⟨i1, i2, i3⟩ := num_yes (b := false) c6
 obtain ⟨j1, j2, j3⟩ := num_yes (s := s) (k := 4) (a := a3) (b := false) (by omega)
 obtain ⟨k1, k2, k3⟩ := num_yes (s := s) (k := 2) (a := a3 + 4) (b := false) (by omega)
 rw [fourP_yes (by omega), Option.bind_some]
 simp only
 rw [twoP_yes (by omega), Option.bind_some, i2, i3, j1, j2, k1]
 simp only
 rw [show a3 + 4 + 2 = a3 + 6 from rfl]
 by_cases c7 : a3 + 6 + numV s (a3 + 4) 2 ≤ s.size
 rotate_left
 ·rw [if_neg c7]
  exact ⟨fun r a' h => vac r a' h, fun _ => .inl (if_pos (.inr (by omega)))⟩
 rw [if_pos c7, if_neg (fun q => q.elim (fun q => by cases q) (by omega))]
 exact body_eq c6
theorem recsS_true (s : ByteArray) (n a : Nat) (L : List Rr) : recsS s n a true L = some (L, a, true) := by
 cases n <;> rfl
theorem recsS_mem {s : ByteArray} : ∀ (n a : Nat) (b : Bool) (L L2 : List Rr) (a2 : Nat) (b2 : Bool), recsS s n a b L = some (L2, a2, b2) → ∀ r ∈ L, r ∈ L2
 | 0, a, b, L, L2, a2, b2, h, r, hr => by unfold recsS at h; cases h; exact hr
 | n + 1, a, true, L, L2, a2, b2, h, r, hr => by rw [recsS_true] at h; cases h; exact hr
 | n + 1, a, false, L, L2, a2, b2, h, r, hr => by
  rw [show recsS s (n + 1) a false L = (recS s a).bind fun r => recsS s n r.2.1 r.2.2 (L ++ [r.1]) from rfl] at h
  rcases hq : recS s a with _ | ⟨q, a1, b1⟩
  ·rw [hq] at h; cases h
  ·rw [hq, Option.bind_some] at h
   exact recsS_mem n _ _ _ _ _ _ h r (List.mem_append_left _ hr)
def WrL (x : Option (List Rr × Nat × Bool)) : Prop := x = none ∨ ∃ L a b, x = some (L, a, b) ∧ (b = true ∨ ∃ r ∈ L, isTy r.ty = false)
theorem recs_eq (s : ByteArray) : ∀ (n a : Nat) (L : List Rr), (∀ L' a', recsP s n a = some (L', a') → recsS s n a false L = some (L ++ L', a', false)) ∧ (recsP s n a = none → WrL (recsS s n a false L))
 | 0, a, L => ⟨fun L' a' h => by unfold recsP at h; cases h; rw [List.append_nil]; rfl, fun h => by unfold recsP at h; cases h⟩
 | n + 1, a, L => by
  have e0 : recsS s (n + 1) a false L = (recS s a).bind fun r => recsS s n r.2.1 r.2.2 (L ++ [r.1]) := rfl
  obtain ⟨r1, r2⟩ := rec_eq s a
  rw [e0]
  unfold recsP
  rcases hr : recP s a with _ | ⟨r, a1⟩
  ·rw [Option.bind_none]
   refine ⟨fun L' a' h => (by cases h), fun _ => ?_⟩
   rcases r2 hr with h | ⟨q, a2, b2, h, hb⟩
   ·rw [h]; exact .inl rfl
   ·rw [h, Option.bind_some]
    simp only
    rcases hb with rfl | hb
    ·rw [recsS_true]; exact .inr ⟨_, _, _, rfl, .inl rfl⟩
    ·rcases hx : recsS s n a2 b2 (L ++ [q]) with _ | ⟨L2, a3, b3⟩
     ·exact .inl rfl
     ·exact .inr ⟨_, _, _, rfl, .inr ⟨q, recsS_mem _ _ _ _ _ _ _ hx q (List.mem_append_right _ (List.mem_singleton.2 rfl)), hb⟩⟩
  ·rw [r1 r a1 hr, Option.bind_some, Option.bind_some]
   simp only
   obtain ⟨s1, s2⟩ := recs_eq s n a1 (L ++ [r])
   rcases hx : recsP s n a1 with _ | ⟨L', a'⟩
   ·rw [Option.bind_none]
    exact ⟨fun L' a' h => (by cases h), fun _ => s2 hx⟩
   ·rw [s1 L' a' hx, Option.bind_some]
    refine ⟨fun L2 a2 h => ?_, fun h => by cases h⟩
    cases h
    rw [List.append_assoc]; rfl
end Pl
end Go.Proofs.YtjhdlcmecbngkaaDoor
namespace Go.Proofs.YtjhdlcmecbngkaaDoor
open Go Go.RowKit Pl
set_option linter.unusedVariables false
namespace Pl
def tailP (s : ByteArray) (i fl co n : Nat) : Option Ms :=
 (nameP s 12).bind fun m => (twoP s m.2).bind fun t => (twoP s t.2).bind fun d => if d.1 = 1 then
  (recsP s n d.2).bind fun l => if l.2 = s.size then some ⟨i, decide (128 ≤ fl), decide (fl % 4 ≥ 2), co, m.1, t.1, l.1⟩ else none
 else none
theorem hdS_yes {s : ByteArray} (h : 12 ≤ s.size) : hdS s = ⟨numV s 0 2, atB s 2, atB s 3, numV s 4 2, numV s 6 2, numV s 8 4⟩ := by
 unfold hdS
 rw [(num_yes (s := s) (k := 2) (a := 0) (b := false) (by omega)).1, (num_yes (s := s) (k := 2) (a := 0) (b := false) (by omega)).2.1, (num_yes (s := s) (k := 3) (a := 0) (b := false) (by omega)).2.1, (num_yes (s := s) (k := 4) (a := 0) (b := false) (by omega)).2.1, (num_yes (s := s) (k := 6) (a := 0) (b := false) (by omega)).2.1, (num_yes (s := s) (k := 8) (a := 0) (b := false) (by omega)).2.1]
 simp only [Nat.zero_add]
 rw [numN_one, numN_one, (num_yes (s := s) (k := 2) (a := 4) (b := false) (by omega)).1, (num_yes (s := s) (k := 2) (a := 6) (b := false) (by omega)).1, (num_yes (s := s) (k := 4) (a := 8) (b := false) (by omega)).1]
theorem msgP_head {s : ByteArray} (h : 12 ≤ s.size) : msgP s = if (hdS s).ok then tailP s (numV s 0 2) (atB s 2) (atB s 3) (numV s 6 2) else none := by
 have hh := hdS_yes h
 have hz := numV_four (s := s) (a := 8)
 unfold msgP
 rw [twoP_yes (by omega), Option.bind_some]
 simp only [Nat.zero_add]
 rw [byteP_yes (by omega), Option.bind_some]
 simp only
 rw [byteP_yes (by omega), Option.bind_some]
 simp only
 have hfl : okFl (atB s 2) = true ↔ (atB s 2 = 0 ∨ atB s 2 = 2 ∨ atB s 2 = 128 ∨ atB s 2 = 130) := by
  unfold okFl; simp [or_assoc]
 by_cases c1 : (okFl (atB s 2) && decide (atB s (2 + 1) < 16)) = true
 rotate_left
 ·rw [if_neg c1, if_neg (fun q => c1 (by rw [hh] at q; have q1 := q.1; have q2 := q.2.1; simp only at q1 q2; rw [hfl.2 q1, show decide (atB s (2 + 1) < 16) = true from decide_eq_true (show atB s 3 < 16 by omega)]; rfl))]
 rw [if_pos c1, twoP_yes (by omega), Option.bind_some]
 simp only
 rw [Bool.and_eq_true] at c1
 have c1b := of_decide_eq_true c1.2
 by_cases c2 : numV s (2 + 1 + 1) 2 = 1
 rotate_left
 ·rw [if_neg c2, if_neg (fun q => c2 (by rw [hh] at q; exact q.2.2.1))]
 rw [if_pos c2, twoP_yes (by omega), Option.bind_some]
 simp only
 by_cases c3 : numV s (2 + 1 + 1 + 2) 2 ≤ 20
 rotate_left
 ·rw [if_neg c3, if_neg (fun q => c3 (by rw [hh] at q; exact q.2.2.2.1))]
 rw [if_pos c3, twoP_yes (by omega), Option.bind_some]
 simp only
 by_cases c4 : numV s (2 + 1 + 1 + 2 + 2) 2 = 0
 rotate_left
 ·rw [if_neg c4, if_neg (fun q => c4 (by rw [hh] at q; have q1 := q.2.2.2.2; simp only at q1; show numV s 8 2 = 0; omega))]
 rw [if_pos c4, twoP_yes (by omega), Option.bind_some]
 simp only
 by_cases c5 : numV s (2 + 1 + 1 + 2 + 2 + 2) 2 = 0
 rotate_left
 ·rw [if_neg c5, if_neg (fun q => c5 (by rw [hh] at q; have q1 := q.2.2.2.2; simp only at q1; show numV s 10 2 = 0; rw [show 8 + 2 = 10 from rfl] at hz; omega))]
 have hok : (hdS s).ok := by
  rw [hh]
  have d4 : numV s 8 2 = 0 := c4
  have d5 : numV s (8 + 2) 2 = 0 := c5
  exact ⟨hfl.1 c1.1, show atB s 3 ≤ 15 from Nat.le_of_lt_succ c1b, c2, c3, by show numV s 8 4 = 0; rw [hz, d4, d5]⟩
 rw [if_pos c5, if_pos hok]
 rfl
theorem msgP_short {s : ByteArray} (h : ¬ 12 ≤ s.size) : msgP s = none := by
 rcases hm : msgP s with _ | m
 ·rfl
 ·exfalso
  unfold msgP at hm
  rcases e1 : twoP s 0 with _ | ⟨x1, a1⟩
  ·rw [e1] at hm; cases hm
  rw [e1, Option.bind_some] at hm; simp only at hm
  rcases e2 : byteP s a1 with _ | ⟨x2, a2⟩
  ·rw [e2] at hm; cases hm
  rw [e2, Option.bind_some] at hm; simp only at hm
  rcases e3 : byteP s a2 with _ | ⟨x3, a3⟩
  ·rw [e3] at hm; cases hm
  rw [e3, Option.bind_some] at hm; simp only at hm
  split at hm
  rotate_left
  ·cases hm
  rcases e4 : twoP s a3 with _ | ⟨x4, a4⟩
  ·rw [e4] at hm; cases hm
  rw [e4, Option.bind_some] at hm; simp only at hm
  split at hm
  rotate_left
  ·cases hm
  rcases e5 : twoP s a4 with _ | ⟨x5, a5⟩
  ·rw [e5] at hm; cases hm
  rw [e5, Option.bind_some] at hm; simp only at hm
  split at hm
  rotate_left
  ·cases hm
  rcases e6 : twoP s a5 with _ | ⟨x6, a6⟩
  ·rw [e6] at hm; cases hm
  rw [e6, Option.bind_some] at hm; simp only at hm
  split at hm
  rotate_left
  ·cases hm
  rcases e7 : twoP s a6 with _ | ⟨x7, a7⟩
  ·rw [e7] at hm; cases hm
  have := twoP_bd e1
  have := byteP_bd e2
  have := byteP_bd e3
  have := twoP_bd e4
  have := twoP_bd e5
  have := twoP_bd e6
  have := twoP_bd e7
  omega
theorem bad_ty {m : Ms} (h : ∃ r ∈ m.rs, isTy r.ty = false) : msgErr m ≠ 0 := by
 intro e
 obtain ⟨r, hr, ht⟩ := h
 have hg := ((goodM_of e).1.rs r hr).ty
 have ht' : isTy r.ty = true := by rcases hg with q | q | q <;> rw [q] <;> rfl
 rw [ht] at ht'
 cases ht'
theorem msg_eq (s : ByteArray) : msgS s = rdP s := by
 by_cases c0 : 512 < s.size
 ·rw [rdP_long c0]; exact if_pos c0
 by_cases c12 : 12 ≤ s.size
 rotate_left
 ·rw [rdP_none c0 (msgP_short c12)]
  unfold msgS
  rw [if_neg c0, if_neg (fun q => c12 q.1)]
 have hP := msgP_head c12
 by_cases hok : (hdS s).ok
 rotate_left
 ·rw [if_neg hok] at hP
  rw [rdP_none c0 hP]
  unfold msgS
  rw [if_neg c0, if_neg (fun q => hok q.2)]
 rw [if_pos hok] at hP
 have hh := hdS_yes c12
 have hS : ∀ nm a1 b1, nameT s 12 false = (nm, a1, b1) → msgS s = match recsS s (numV s 6 2) (oneS s (numA s 2 a1) (numB s 2 a1 b1)).1 (oneS s (numA s 2 a1) (numB s 2 a1 b1)).2 [] with
   | none => (zeroMs, 1)
   | some (L, a, b) =>
    if b = false ∧ a = s.size ∧ msgErr ⟨numV s 0 2, decide (128 ≤ atB s 2), decide (2 ≤ atB s 2 % 4), atB s 3, nm, numN s 2 a1, L⟩ = 0 then (⟨numV s 0 2, decide (128 ≤ atB s 2), decide (2 ≤ atB s 2 % 4), atB s 3, nm, numN s 2 a1, L⟩, 0)
    else (zeroMs, 1) := by
  intro nm a1 b1 hN
  unfold msgS
  rw [if_neg c0, if_pos ⟨c12, hok⟩, hN, hh]
  all_goals rfl
 have hbad : ∀ nm a1 b1, nameT s 12 false = (nm, a1, b1) → (oneS s (numA s 2 a1) (numB s 2 a1 b1)).2 = true → msgS s = (zeroMs, 1) := by
  intro nm a1 b1 hN hb
  rw [hS nm a1 b1 hN, hb, recsS_true]
  exact if_neg fun q => by cases q.1
 obtain ⟨n1, n2⟩ := nameT_P s 12
 unfold tailP at hP
 rcases hn : nameP s 12 with _ | ⟨nm, a1⟩
 ·rw [hn, Option.bind_none] at hP
  rw [rdP_none c0 hP]
  rcases hN : nameT s 12 false with ⟨nm, a1, b1⟩
  have hb : b1 = true := by have := n2 hn; rw [hN] at this; exact this
  subst hb
  exact hbad nm a1 true hN rfl
 have hN := n1 nm a1 hn
 rw [hn, Option.bind_some] at hP
 simp only at hP
 by_cases c2 : a1 + 2 ≤ s.size
 rotate_left
 ·rw [twoP_no c2, Option.bind_none] at hP
  rw [rdP_none c0 hP]
  exact hbad nm a1 false hN (by rw [(num_no (b := false) c2).2.2]; rfl)
 obtain ⟨e1, e2, e3⟩ := num_yes (b := false) c2
 rw [twoP_yes c2, Option.bind_some] at hP
 simp only at hP
 by_cases c3 : a1 + 2 + 2 ≤ s.size
 rotate_left
 ·rw [twoP_no c3, Option.bind_none] at hP
  rw [rdP_none c0 hP]
  exact hbad nm a1 false hN (by
   rw [e2, e3]
   show ((numN s 2 (a1 + 2) : Int) != 1) = true
   rw [(num_no (b := false) c3).1]; rfl)
 obtain ⟨g1, g2, g3⟩ := num_yes (b := false) c3
 rw [twoP_yes c3, Option.bind_some] at hP
 simp only at hP
 by_cases d : numV s (a1 + 2) 2 = 1
 rotate_left
 ·rw [if_neg d] at hP
  rw [rdP_none c0 hP]
  exact hbad nm a1 false hN (by
   rw [e2, e3]
   show ((numN s 2 (a1 + 2) : Int) != 1) = true
   rw [g1]; exact bne_iff_ne.2 (by omega))
 rw [if_pos d] at hP
 have ho : oneS s (numA s 2 a1) (numB s 2 a1 false) = (a1 + 2 + 2, false) := by
  rw [e2, e3]
  show (numA s 2 (a1 + 2), ((numN s 2 (a1 + 2) : Int) != 1)) = _
  rw [g1, g2, d]; rfl
 have hS' := hS nm a1 false hN
 rw [ho, e1] at hS'
 simp only at hS'
 obtain ⟨r1, r2⟩ := recs_eq s (numV s 6 2) (a1 + 2 + 2) []
 rcases hr : recsP s (numV s 6 2) (a1 + 2 + 2) with _ | ⟨L, a9⟩
 ·rw [hr, Option.bind_none] at hP
  rw [rdP_none c0 hP, hS']
  rcases r2 hr with h | ⟨L2, a2, b2, h, hb⟩
  ·rw [h]
  ·rw [h]
   refine if_neg fun q => ?_
   rcases hb with rfl | hb
   ·cases q.1
   ·exact bad_ty (m := ⟨numV s 0 2, decide (128 ≤ atB s 2), decide (2 ≤ atB s 2 % 4), atB s 3, nm, numV s a1 2, L2⟩) hb q.2.2
 ·rw [hr, Option.bind_some] at hP
  simp only at hP
  rw [hS', r1 L a9 hr, List.nil_append]
  simp only
  by_cases f : a9 = s.size
  ·rw [if_pos f] at hP
   rw [rdP_some c0 hP]
   by_cases g : msgErr ⟨numV s 0 2, decide (128 ≤ atB s 2), decide (2 ≤ atB s 2 % 4), atB s 3, nm, numV s a1 2, L⟩ = 0
   ·rw [if_pos ⟨trivial, f, g⟩]
    exact (if_pos g).symm
   ·rw [if_neg (fun q => g q.2.2)]
    exact (if_neg g).symm
  ·rw [if_neg f] at hP
   rw [rdP_none c0 hP]
   exact if_neg fun q => f q.2.1
end Pl
end Go.Proofs.YtjhdlcmecbngkaaDoor
namespace Go.Proofs.YtjhdlcmecbngkaaDoor
open Go Go.RowKit
set_option linter.unusedVariables false
theorem fun_introCD {P : Program} {f : FuncId} {fn : Func} {code : Code} {rc : RCode} {ps rs : List Par} {rts : List RT} (hf : P.funcs[f]? = some fn) (hb : fn.body = some code) (hname : (fn.name == "runtime.NumGoroutine") = false) (hres : resCode P fn.ntmps code = some (strip rc))
  (hlen : ps.length ≤ fn.ntmps) (hts : rtsOf P fn.results.toList = some rts) (h : wpv P rc (retCQ rts rs) (entry ps)) : Fun P f ps rs := by
 refine ⟨⟨fn, hf, hname, by rw [hb]; rfl⟩, fun w R xs hlt hp => ?_⟩
 refine calls_of_wp hf hb ?_
 obtain ⟨G0, hrel⟩ := entry_rel (n := fn.ntmps) hlt hp hlen
 refine wp_mono (code_soundD (c := ⟨w, R, ParBlk ps xs, fn.ntmps, noD, G0⟩) rfl rc hres h hrel) fun e a' w' he => ?_
 have fin : ∀ st, RetC rts rs st → Rel ⟨w, R, ParBlk ps xs, fn.ntmps, noD, G0⟩ st a' w' → a'.defers = [] ∧ ∃ v, (results fn a'.tmps).run P w' = .ok v w' ∧ ∃ (ys : List Value) (R' : Nat → Prop), Ending.returned v = .returned (packV ys) ∧ Fr (ParBlk ps xs) w w' ∧ (∀ b, R b → R' b) ∧
   (∀ b, R' b → R b ∨ (b < w'.heap.size ∧ (ParBlk ps xs b ∨ w.heap.size ≤ b))) ∧ Pars w' R' rs ys ∧ (∀ b, ParBlk rs ys b → ParBlk ps xs b ∨ w.heap.size ≤ b) := fun st ⟨us, gone, hG, hA⟩ ⟨R2, G, hR⟩ => by
  obtain ⟨zs, z1, z2, z3⟩ := results_rel hR _ hts hG
  refine ⟨hR.defers, _, run_results_of z1, zs, RB R2 G st.H gone true, rfl, hR.fr, fun b hb => .inl (hR.old b hb), ?_, ?_⟩
  ·rintro b (hb | ⟨_, id, e, l, _, q1, q2, q3, q4⟩)
   ·rcases hR.src b hb with q | q
    ·exact .inl q
    ·exact .inr ⟨hR.lt b hb, q⟩
   ·exact .inr ⟨hR.hr.lt q1 q2 q3 q4, (hR.hr.mine id e l b q1 q2 q3 q4).2⟩
  ·obtain ⟨h1, h2⟩ := args_pars hR (bor0 := true) (xs := zs) hA (fun e => e) z2.symm (fun i u x h3 h4 => z3 i u x h3 h4) (fun id hid => hid)
   refine ⟨h1, fun b hb => ?_⟩
   obtain ⟨id, _, e, l, q1, q2, q3, q4⟩ := h2 b hb
   exact (hR.hr.mine id e l b q1 q2 q3 q4).2
 cases e with
 | normal => obtain ⟨st, h1, h2⟩ := he; exact fin st h1 h2
 | ret => obtain ⟨st, h1, h2⟩ := he; exact fin st h1 h2
 | exit id => obtain ⟨st, h1, h2⟩ := he; exact h1.elim
 | goto l => exact he.elim
 | panic ch => obtain ⟨v, _, h2, _⟩ := he; exact h2.elim
 | outgrown => exact he.elim
theorem fun_ofCD {P : Program} {f : FuncId} {np : Nat} {rc rcD : RCode} {ts : List RT} {ps rs : List Par} (hc : chkFunC P f np = some (rc, ts)) (hs : strip rcD = rc) (hn : ps.length = np) (h : wpv P rcD (retCQ ts rs) (entry ps)) : Fun P f ps rs := by
 unfold chkFunC at hc
 split at hc
 ·cases hc
 ·rename_i fn hf
  split at hc
  ·cases hc
  ·rename_i code hb
   split at hc
   ·cases hc
   ·rename_i hk
    simp only [Bool.or_eq_true, not_or, Bool.not_eq_true', Bool.not_eq_true, decide_eq_false_iff_not, Classical.not_not] at hk
    split at hc
    ·rename_i rc' ts' h1 h2
     simp only [Option.some.injEq, Prod.mk.injEq] at hc
     obtain ⟨rfl, rfl⟩ := hc
     refine fun_introCD hf hb ?_ (h1.trans (by rw [hs])) ?_ h2 h
     ·exact hk.1
     ·rw [hn]; simpa using hk.2
    ·cases hc
theorem fun_xcd {P : Program} {f : FuncId} {np : Nat} {rc rcD : RCode} {ts : List RT} {ps rs : List Par} (hc : chkFunC P f np = some (rc, ts)) (hs : strip rcD = rc) (hn : ps.length = np) (h : wpx P noD rcD (retXC ts rs) (entryEnv ps) (entryH ps)) : Fun P f ps rs := by
 refine fun_ofCD hc hs hn (wpx_sound rcD (fun e env H h => ?_) h)
 cases e with
 | normal => exact h
 | exit j => exact h
 | ret => exact h
end Go.Proofs.YtjhdlcmecbngkaaDoor
