/- Texts of this claim, joined. -/
import Derived.Shelf.Strings.OnBuilder
import Derived.Test.YtjhdlcmecbngkaaDoorProg
import Derived.Test.YtjhdlcmecbngkaaDoorUa
set_option linter.unusedSimpArgs false
namespace Go.Proofs.YtjhdlcmecbngkaaDoor
open Go Go.RowKit
set_option linter.unusedVariables false
def bldI (T : TypeId) (l : List UInt8) : Opq where
 inv := fun w R x F => ∃ b v, x = .pointer (some ⟨b, 0, none⟩) ∧ BldV T b v (Lib.byteCells l) w ∧ ∀ k, F k ↔ (k = b ∨ v.ownBlock = some k)
 mono := fun {w w' R R' x F} h hR hF => by
  obtain ⟨b, v, h1, ⟨⟨p, hp, hb⟩, h3, h4⟩, h5⟩ := h
  refine ⟨b, v, h1, ⟨⟨p, hp, (hF b ((h5 b).2 (.inl rfl))).trans hb⟩, ?_, h4⟩, h5⟩
  refine ⟨h3.1, ?_⟩
  rcases h3.2 with q | ⟨g, cap, cur, q, q2, q3, q4⟩
  ·exact .inl q
  ·exact .inr ⟨g, cap, cur, q, q2, (hF g ((h5 g).2 (.inr (by rw [q]; rfl)))).trans q3, q4⟩
 lt := fun {w R x F b} h hb => by
  obtain ⟨b', v, h1, ⟨⟨p, hp, hbk⟩, h3, h4⟩, h5⟩ := h
  rcases (h5 b).1 hb with rfl | q
  ·exact (Array.getElem?_eq_some_iff.1 hbk).1
  ·exact (h3.lt b q).2
def deadI : Opq where
 inv := fun w R x F => ∀ k, F k → k < w.heap.size
 mono := fun {w w' R R' x F} h hR hF k hk => by
  have h1 := h k hk
  have h2 := hF k hk
  rw [Array.getElem?_eq_getElem h1] at h2
  exact (Array.getElem?_eq_some_iff.1 h2).1
 lt := fun {w R x F b} h hb => h b hb
section
variable {P : Program} {w w' : World} {R : Nat → Prop}
theorem parsM_vs_inv : ∀ {vs : List Value} {ys : List Value} {F : Nat → Prop}, ParsM w R (vs.map fun z => .p (.c (.v z))) ys F → ys = vs ∧ ∀ b, ¬ F b
 | [], [], F, h => ⟨rfl, h⟩
 | [], _ :: _, F, h => h.elim
 | v :: vs, [], F, h => h.elim
 | v :: vs, y :: ys, F, h => by
  obtain ⟨F1, F2, ⟨h1, h1'⟩, h2, h3, h4⟩ := h
  obtain ⟨rfl, k2⟩ := parsM_vs_inv h2
  have e : y = v := rv_v h1
  subst e
  refine ⟨rfl, fun b hb => ?_⟩
  rcases (h4 b).1 hb with q | q
  ·exact no_blk (fun p hp => by simp at hp; exact ⟨_, hp⟩) ((h1' b).1 q)
  ·exact k2 b q
theorem parsM_vs {I' : Opq} {x : Value} {F' : Nat → Prop} (hx : OpqOk w R I' x F') (hd : ∀ b, F' b → ¬ R b) : ∀ (zs : List Value), ParsM w R ((zs.map fun z => .p (.c (.v z))) ++ [.po I']) (zs ++ [x]) F'
 | [] => ⟨F', fun _ => False, hx, fun b h => h, fun b hb => ⟨fun q => q, hd b hb⟩, fun b => by simp⟩
 | z :: zs => by
  refine ⟨fun _ => False, F', ⟨.v z, fun b => ⟨fun q => q.elim, fun q => no_blk (fun p hp => by simp at hp; exact ⟨_, hp⟩) q⟩⟩, parsM_vs hx hd zs, fun b hb => hb.elim, fun b => by simp⟩
theorem exits_vs (zs : List Value) : exitsP (zs.map fun z => .p (.c (.v z))) = [] := by
 induction zs with
 | nil => rfl
 | cons z zs ih => exact ih
theorem exitsX_vs : ∀ (zs xs : List Value), exitsX (zs.map fun z => .p (.c (.v z))) xs = []
 | [], [] => rfl
 | [], _ :: _ => rfl
 | z :: zs, [] => rfl
 | z :: zs, x :: xs => exitsX_vs zs xs
theorem funM_mo {f : FuncId} {I I' : Opq} {vs zs : List Value} (hc : Callable P f) (h : ∀ (w : World) (R : Nat → Prop) (x : Value) (F : Nat → Prop), OpqOk w R I x F → Calls P f (x :: vs).toArray w fun e w' => e = .returned (packV zs) ∧ ∃ F', Fr F w w' ∧ OpqOk w' R I' x F' ∧ ∀ b, F' b → F b ∨ w.heap.size ≤ b) :
  FunM P f (.mo I I' :: vs.map fun z => .p (.c (.v z))) (zs.map fun z => .p (.c (.v z))) := by
 refine ⟨hc, fun w R xs F hlt hp => ?_⟩
 match xs, hp with
 | x :: ys, hp =>
  obtain ⟨F1, F2, h1, h2, h3, h4⟩ := hp
  obtain ⟨rfl, h5⟩ := parsM_vs_inv h2
  have hF : ∀ b, F b ↔ F1 b := fun b => by rw [h4 b]; exact ⟨fun q => q.resolve_right (h5 b), .inl⟩
  refine (h w R x F1 h1).mono ?_
  rintro e w' ⟨rfl, F', q1, q2, q3⟩
  refine ⟨zs, R, F', rfl, by simp, fr_mono q1 fun k hk => (hF k).2 hk, fun b hb => hb, fun b hb => .inl hb, ?_, fun b hb => (q3 b hb).imp (hF b).2 id⟩
  have hd : ∀ b, F' b → ¬ R b := fun b hb hr => by
   rcases q3 b hb with q | q
   ·exact (h3 b q).2 hr
   ·have := hlt b hr; omega
  have := parsM_vs q2 hd zs
  show ParsM w' R ((zs.map fun z => .p (.c (.v z))) ++ exitsP (.mo I I' :: ys.map fun z => .p (.c (.v z)))) (zs ++ exitsX (.mo I I' :: ys.map fun z => .p (.c (.v z))) (x :: ys)) F'
  simp only [exitsP, exitsX, exits_vs, exitsX_vs]
  exact this
end
theorem bytes_str (s : ByteArray) : Lib.strCells s = Lib.byteCells s.data.toList := by simp [Lib.strCells, Lib.byteCells]
theorem bytes_app (a b : List UInt8) : Lib.byteCells (a ++ b) = Lib.byteCells a ++ Lib.byteCells b := by simp [Lib.byteCells]
structure BldT (T : TypeId) : Prop where
 lies : liesAt Tryd.prog Tryd.prog.depth T (2 / Tryd.prog.cellsOf T) 0 88 1 = true
 ne : T ≠ 5
theorem wByte_fun {T : TypeId} (hT : BldT T) (l : List UInt8) (c : Int) (h0 : 0 ≤ c) (h1 : c ≤ 255) (hl : l.length < 140737488355328) : FunM Tryd.prog 81 [.mo (bldI T l) (bldI T (l ++ [UInt8.ofNat c.toNat])), .p (.c (.v (.int .u8 c)))] [.p (.c (.v .nilIface))] := by
 refine funM_mo (vs := [.int .u8 c]) (zs := [.nilIface]) (callable Tryd.func81 (by kernel_rfl) (by kernel_rfl)) ?_
 rintro w R x F ⟨hx, b, v, rfl, hB, hF⟩
 refine (writeByte_any T hT.lies hT.ne b v _ c w hB (by rw [Lib.byteCells_length]; omega)).mono ?_
 rintro e w' ⟨rfl, v', q1, q2, q3⟩
 have e1 : Lib.byteCells (l ++ [UInt8.ofNat c.toNat]) = Lib.byteCells l ++ [.int .u8 c] := by
  rw [bytes_app]
  have : ((UInt8.ofNat c.toNat).toNat : Int) = c := by
   rw [UInt8.toNat_ofNat']; omega
  show Lib.byteCells l ++ [Value.int .u8 ((UInt8.ofNat c.toNat).toNat : Int)] = _
  rw [this]
 rw [← e1] at q1
 refine ⟨rfl, fun k => k = b ∨ v'.ownBlock = some k, fr_mono q2 fun k hk => (hF k).2 hk, ⟨⟨b, rfl⟩, b, v', rfl, q1, fun k => Iff.rfl⟩, fun k hk => ?_⟩
 rcases hk with rfl | hk
 ·exact .inl ((hF _).2 (.inl rfl))
 ·exact (q3 k hk).imp (fun q => (hF k).2 (.inr q)) id
theorem wStr_fun {T : TypeId} (hT : BldT T) (l : List UInt8) (s : ByteArray) (hl : l.length + s.size ≤ 140737488355328) : FunM Tryd.prog 75 [.mo (bldI T l) (bldI T (l ++ s.data.toList)), .p (.c (.v (.string s)))] [.p (.c (.v (.int .i64 s.size))), .p (.c (.v .nilIface))] := by
 refine funM_mo (vs := [.string s]) (zs := [.int .i64 s.size, .nilIface]) (callable Tryd.func75 (by kernel_rfl) (by kernel_rfl)) ?_
 rintro w R x F ⟨hx, b, v, rfl, hB, hF⟩
 refine (writeString_any T hT.lies hT.ne b v _ s w hB (by rw [Lib.byteCells_length]; omega)).mono ?_
 rintro e w' ⟨rfl, v', q1, q2, q3⟩
 rw [bytes_str, ← bytes_app] at q1
 refine ⟨rfl, fun k => k = b ∨ v'.ownBlock = some k, fr_mono q2 fun k hk => (hF k).2 hk, ⟨⟨b, rfl⟩, b, v', rfl, q1, fun k => Iff.rfl⟩, fun k hk => ?_⟩
 rcases hk with rfl | hk
 ·exact .inl ((hF _).2 (.inl rfl))
 ·exact (q3 k hk).imp (fun q => (hF k).2 (.inr q)) id
theorem bLen_fun {T : TypeId} (l : List UInt8) : FunM Tryd.prog 82 [.mo (bldI T l) (bldI T l)] [.p (.c (.v (.int .i64 l.length)))] := by
 refine funM_mo (vs := []) (zs := [.int .i64 l.length]) (callable Tryd.func82 (by kernel_rfl) (by kernel_rfl)) ?_
 rintro w R x F ⟨hx, b, v, rfl, hB, hF⟩
 refine (len_any T b v _ w hB).mono ?_
 rintro e w' ⟨rfl, rfl⟩
 rw [Lib.byteCells_length]
 exact ⟨rfl, F, Fr.refl _ _, ⟨hx, b, v, rfl, hB, hF⟩, fun k hk => .inl hk⟩
theorem bString_fun {T : TypeId} (l : List UInt8) (h0 : l ≠ []) : FunM Tryd.prog 66 [.mo (bldI T l) deadI] [.p (.c (.v (.string ⟨l.toArray⟩)))] := by
 refine funM_mo (vs := []) (zs := [.string ⟨l.toArray⟩]) (callable Tryd.func66 (by kernel_rfl) (by kernel_rfl)) ?_
 rintro w R x F ⟨hx, b, v, rfl, hB, hF⟩
 have hlt : ∀ k, F k → k < w.heap.size := fun k hk => (bldI T l).lt (R := R) ⟨b, v, rfl, hB, hF⟩ hk
 refine (string_any T b v l w hB h0).mono ?_
 rintro e w' ⟨rfl, q⟩
 exact ⟨rfl, F, fr_mono q fun k hk => (hF k).2 hk, ⟨hx, fun k hk => Nat.lt_of_lt_of_le (hlt k hk) q.size⟩, fun k hk => .inl hk⟩
end Go.Proofs.YtjhdlcmecbngkaaDoor
namespace Go.Proofs.YtjhdlcmecbngkaaDoor
open Go Go.RowKit Pl
set_option linter.unusedVariables false
namespace Pl
def twoB (n : Int) : List UInt8 := [UInt8.ofNat (n / 256).toNat, UInt8.ofNat (n % 256).toNat]
def twosB (ns : List Int) : List UInt8 := ns.flatMap twoB
theorem twosB_len (ns : List Int) : (twosB ns).length = 2 * ns.length := by
 induction ns with
 | nil => rfl
 | cons n ns ih =>
  show (twoB n ++ twosB ns).length = _
  rw [List.length_append, ih, List.length_cons]
  show 2 + _ = _
  omega
theorem twosB_next {ns : List Int} {k : Nat} (hk : k < ns.length) : twosB (ns.take (k + 1)) = twosB (ns.take k) ++ [UInt8.ofNat (ns[k] / 256).toNat] ++ [UInt8.ofNat (ns[k] % 256).toNat] := by
 unfold twosB
 rw [List.take_add_one, List.getElem?_eq_getElem hk, List.flatMap_append]
 simp [twoB]
def labB (s : ByteArray) : List UInt8 := UInt8.ofNat s.size :: s.data.toList
def labsB (l : List ByteArray) : List UInt8 := l.flatMap labB
def nameB (s : ByteArray) : List UInt8 := labsB (labelsP s) ++ [0]
theorem labsB_next {l : List ByteArray} {k : Nat} (hk : k < l.length) : labsB (l.take (k + 1)) = labsB (l.take k) ++ [UInt8.ofNat l[k].size] ++ l[k].data.toList := by
 unfold labsB
 rw [List.take_add_one, List.getElem?_eq_getElem hk, List.flatMap_append]
 simp [labB]
theorem labsB_len {l : List ByteArray} {m : Nat} (h : ∀ s ∈ l, s.size ≤ m) : (labsB l).length ≤ (m + 1) * l.length := by
 induction l with
 | nil => simp [labsB]
 | cons s l ih =>
  have h1 := ih fun x hx => h x (List.mem_cons_of_mem _ hx)
  have h2 := h s (List.mem_cons_self ..)
  show (labB s ++ labsB l).length ≤ _
  rw [List.length_append, List.length_cons, Nat.mul_add]
  show (s.data.toList.length + 1) + _ ≤ _
  have : s.data.toList.length = s.size := by simp
  omega
end Pl
def nRow (n : Int) : List V := [.v (.int .i64 n)]
instance : FlatRow nRow := ⟨fun x u hu => by simp [nRow] at hu; exact ⟨_, hu⟩⟩
abbrev wT : TypeId := 90
theorem wBT : BldT wT := ⟨by kernel_rfl, by decide⟩
theorem u8_wrap (n : Int) : IntKind.u8.wrap n = n % 256 := rfl
theorem u8_hi {n : Int} (h0 : 0 ≤ n) (h1 : n ≤ 65535) : IntKind.u8.wrap (n / 256) = n / 256 := by
 rw [u8_wrap]; omega
theorem u8_lo {n : Int} (h0 : 0 ≤ n) : IntKind.u8.wrap n = n % 256 := u8_wrap n
theorem fdiv256 (n : Int) : n.fdiv (2 ^ min (Int.toNat 8) IntKind.i64.bits) = n / 256 := by
 show n.fdiv 256 = _
 exact Int.fdiv_eq_ediv_of_nonneg _ (by decide)
theorem two_fun (l : List UInt8) (c : Bool) (ns : List Int) (h : ∀ n ∈ ns, 0 ≤ n ∧ n ≤ 65535) (hn : ns.length ≤ 100) (hl : l.length ≤ 1000000) : FunM Tryd.prog 63 [.mo (bldI wT l) (bldI wT (l ++ twosB ns)), .p (.c (.sl c (ns.map nRow)))] [] := by
 refine funM_x ck_dns_writer_two rfl rfl (nd_b rfl) ?_
 (refine goI ?_; repeat (intro gg; refine goI ?_))
 rw [List.length_map]
 (refine ⟨[], none, {k : Nat // k ≤ ns.length}, [0, 6, 7], fun ⟨k, hk⟩ => [(8, .v (.int .i64 k))], [], fun ⟨k, hk⟩ => [(0, ⟨0, .q (bldI wT (l ++ twosB (ns.take k))), 0, []⟩)], fun ⟨k, hk⟩ => ns.length - k, trivial, fun _ => ⟨trivial, fun _ => ⟨⟨0, by omega⟩, tI, keptE_refl _ _, ?_, keptH_refl _ _⟩⟩, fun ⟨k, hk⟩ => ?_⟩; focus (exact ⟨congrArg (fun r => some (Ent.mk 0 (.q (bldI wT r)) 0 [])) (show l = l ++ twosB (ns.take 0) by simp [twosB]), trivial⟩))
 (refine goI ?_; repeat (intro gg; refine goI ?_))
 (refine bIf_of (fun h1 => ?_) (fun h1 => ?_) <;> rw [h1])
 ·have hlt : k < ns.length := (by have := of_decide_eq_true h1; omega)
  obtain ⟨b0, b1⟩ := h _ (List.getElem_mem hlt)
  have hlen : (twosB (ns.take k)).length ≤ 200 := by rw [twosB_len, List.length_take]; omega
  have e : l ++ twosB (ns.take k) ++ [UInt8.ofNat (ns[k] / 256).toNat] ++ [UInt8.ofNat (ns[k] % 256).toNat] = l ++ twosB (ns.take (k + 1)) := by rw [twosB_next hlt, List.append_assoc, List.append_assoc, List.append_assoc]
  (refine goI ?_; repeat (intro gg; refine goI ?_))
  refine ⟨k, _, rfl, row_map hlt, ?_⟩
  (refine goI ?_; repeat (intro gg; refine goI ?_))
  refine ⟨by decide, _, fdiv256 _, ?_⟩
  (refine goI ?_; repeat (intro gg; refine goI ?_))
  refine ⟨_, u8_hi b0 b1, ?_⟩
  (refine goI ?_; repeat (intro gg; refine goI ?_))
  (refine .inr (.inl ⟨_, _, false, [0], aM, wByte_fun wBT (l ++ twosB (ns.take k)) (ns[k] / 256) (by omega) (by omega) (by rw [List.length_append]; omega), nobor, oI, dI, ?_⟩))
  (refine goI ?_; repeat (intro gg; refine goI ?_))
  refine ⟨_, u8_lo b0, ?_⟩
  (refine goI ?_; repeat (intro gg; refine goI ?_))
  (refine .inr (.inl ⟨_, _, false, [0], aM, wByte_fun wBT (l ++ twosB (ns.take k) ++ [UInt8.ofNat (ns[k] / 256).toNat]) (ns[k] % 256) (by omega) (by omega) (by rw [List.length_append, List.length_append]; simp only [List.length_cons, List.length_nil]; omega), nobor, oI, dI, ?_⟩))
  (refine goI ?_; repeat (intro gg; refine goI ?_))
  (exact ⟨none, trivial, fun gr => ⟨⟨k + 1, by omega⟩, by show ns.length - (k + 1) < ns.length - k; omega, tI, tI, ⟨congrArg (fun r => some (Ent.mk 0 (.q (bldI wT r)) 0 [])) e, trivial⟩, tI⟩⟩)
 ·have hge : ¬ k < ns.length := (by have := of_decide_eq_false h1; omega)
  obtain rfl : k = ns.length := by omega
  rw [show twosB ns = twosB (ns.take ns.length) by rw [List.take_length]]
  (refine goI ?_; repeat (intro gg; refine goI ?_))
  (exact ⟨[0], aM⟩)
theorem name_fun (l : List UInt8) (s : ByteArray) (hs : nameErr s = 0) (hsz : s.size ≤ 120) (hl : l.length ≤ 1000000) : FunM Tryd.prog 64 [.mo (bldI wT l) (bldI wT (l ++ nameB s)), .p (.c (.v (.string s)))] [] := by
 have hlab := labelsP_len s
 have hsm : ∀ x ∈ labelsP s, x.size ≤ 120 := fun x hx => Nat.le_trans (labelsP_size hx) hsz
 have hL := labels_fun s (by omega)
 refine funM_x ck_dns_writer_name rfl rfl (nd_b rfl) ?_
 (refine goI ?_; repeat (intro gg; refine goI ?_))
 (refine .inl ⟨_, _, false, [], aI, hL, nobor, nI, ?_⟩)
 unfold nameB
 generalize labelsP s = ls at *
 (refine goI ?_; repeat (intro gg; refine goI ?_))
 rw [List.length_map]
 (refine ⟨[], none, {k : Nat // k ≤ ls.length}, [0, 7, 8], fun ⟨k, hk⟩ => [(9, .v (.int .i64 k))], [], fun ⟨k, hk⟩ => [(0, ⟨0, .q (bldI wT (l ++ labsB (ls.take k))), 0, []⟩)], fun ⟨k, hk⟩ => ls.length - k, trivial, fun _ => ⟨trivial, fun _ => ⟨⟨0, by omega⟩, tI, keptE_refl _ _, ?_, keptH_refl _ _⟩⟩, fun ⟨k, hk⟩ => ?_⟩; focus (exact ⟨congrArg (fun r => some (Ent.mk 0 (.q (bldI wT r)) 0 [])) (show l = l ++ labsB (ls.take 0) by simp [labsB]), trivial⟩))
 have hlen : (labsB (ls.take k)).length ≤ 121 * 121 := by
  have h1 := labsB_len (l := ls.take k) (m := 120) (fun x hx => hsm x (List.mem_of_mem_take hx))
  rw [List.length_take] at h1
  have : min k ls.length ≤ 121 := by omega
  have := Nat.mul_le_mul_left 121 this
  omega
 (refine goI ?_; repeat (intro gg; refine goI ?_))
 (refine bIf_of (fun h1 => ?_) (fun h1 => ?_) <;> rw [h1])
 ·have hlt : k < ls.length := (by have := of_decide_eq_true h1; omega)
  have hz := hsm _ (List.getElem_mem hlt)
  have e : l ++ labsB (ls.take k) ++ [UInt8.ofNat ((ls[k].size : Nat) : Int).toNat] ++ ls[k].data.toList = l ++ labsB (ls.take (k + 1)) := by rw [labsB_next hlt, Int.toNat_natCast, List.append_assoc, List.append_assoc, List.append_assoc]
  (refine goI ?_; repeat (intro gg; refine goI ?_))
  refine ⟨k, _, rfl, row_map hlt, ?_⟩
  (refine goI ?_; repeat (intro gg; refine goI ?_))
  refine ⟨((ls[k].size : Nat) : Int), by rw [u8_wrap]; omega, ?_⟩
  (refine goI ?_; repeat (intro gg; refine goI ?_))
  (refine .inr (.inl ⟨_, _, false, [0], aM, wByte_fun wBT (l ++ labsB (ls.take k)) ((ls[k].size : Nat) : Int) (by omega) (by omega) (by rw [List.length_append]; omega), nobor, oI, dI, ?_⟩))
  (refine goI ?_; repeat (intro gg; refine goI ?_))
  (refine .inr (.inl ⟨_, _, false, [0], aM, wStr_fun wBT (l ++ labsB (ls.take k) ++ [UInt8.ofNat ((ls[k].size : Nat) : Int).toNat]) ls[k] (by rw [List.length_append, List.length_append]; simp only [List.length_cons, List.length_nil]; omega), nobor, oI, dI, ?_⟩))
  (refine goI ?_; repeat (intro gg; refine goI ?_))
  (exact ⟨none, trivial, fun gr => ⟨⟨k + 1, by omega⟩, by show ls.length - (k + 1) < ls.length - k; omega, tI, tI, ⟨congrArg (fun r => some (Ent.mk 0 (.q (bldI wT r)) 0 [])) e, trivial⟩, tI⟩⟩)
 ·have hge : ¬ k < ls.length := (by have := of_decide_eq_false h1; omega)
  obtain rfl : k = ls.length := by omega
  have e : l ++ labsB (ls.take ls.length) ++ [UInt8.ofNat (0 : Int).toNat] = l ++ (labsB ls ++ [0]) := by rw [List.take_length, List.append_assoc]; rfl
  rw [← e]
  (refine goI ?_; repeat (intro gg; refine goI ?_))
  (refine .inr (.inl ⟨_, _, false, [0], aM, wByte_fun wBT (l ++ labsB (ls.take ls.length)) 0 (by omega) (by omega) (by rw [List.length_append]; omega), nobor, oI, dI, ?_⟩))
  (refine goI ?_; repeat (intro gg; refine goI ?_))
  (exact ⟨[0], aM⟩)
end Go.Proofs.YtjhdlcmecbngkaaDoor
namespace Go.Proofs.YtjhdlcmecbngkaaDoor
open Go Go.RowKit Pl
set_option linter.unusedVariables false
namespace Pl
structure Rr where
 nm : ByteArray
 ty : Int
 ls : Int
 ad : Int
 tx : ByteArray
 pt : Int
 tg : ByteArray
structure Ms where
 id : Int
 an : Bool
 ct : Bool
 co : Int
 qn : ByteArray
 qt : Int
 rs : List Rr
def inB (r : Rr) : List UInt8 := if r.ty = 1 then twosB [r.ad / 65536, r.ad % 65536] else if r.ty = 16 then UInt8.ofNat r.tx.size :: r.tx.data.toList else twosB [0, 0, r.pt] ++ nameB r.tg
def recB (r : Rr) : List UInt8 := nameB r.nm ++ twosB [r.ty, 1, r.ls / 65536, r.ls % 65536] ++ twosB [((inB r).length : Int)] ++ inB r
def flagsM (m : Ms) : Int := m.co + (if m.an then 32768 else 0) + (if m.ct then 512 else 0)
def recsB (l : List Rr) : List UInt8 := l.flatMap recB
def msgB (m : Ms) : List UInt8 := twosB [m.id, flagsM m, 1, (m.rs.length : Int), 0, 0] ++ nameB m.qn ++ twosB [m.qt, 1] ++ recsB m.rs
structure Rr.Good (r : Rr) : Prop where
 nm : nameErr r.nm = 0
 nmz : r.nm.size ≤ 120
 ty : r.ty = 1 ∨ r.ty = 16 ∨ r.ty = 33
 ls : 0 ≤ r.ls ∧ r.ls ≤ 2147483647
 ad : 0 ≤ r.ad ∧ r.ad ≤ 4294967295
 pt : 0 ≤ r.pt ∧ r.pt ≤ 65535
 tx : r.tx.size ≤ 200
 tg : nameErr r.tg = 0
 tgz : r.tg.size ≤ 120
structure Ms.Good (m : Ms) : Prop where
 id : 0 ≤ m.id ∧ m.id ≤ 65535
 co : 0 ≤ m.co ∧ m.co ≤ 15
 qn : nameErr m.qn = 0
 qnz : m.qn.size ≤ 120
 qt : m.qt = 1 ∨ m.qt = 16 ∨ m.qt = 33
 len : m.rs.length ≤ 20
 rs : ∀ r ∈ m.rs, r.Good
theorem nameB_len {s : ByteArray} (h : s.size ≤ 120) : (nameB s).length ≤ 15000 := by
 have h1 := labsB_len (l := labelsP s) (m := 120) (fun x hx => Nat.le_trans (labelsP_size hx) h)
 have h2 := labelsP_len s
 have := Nat.mul_le_mul_left 121 (show (labelsP s).length ≤ 121 by omega)
 unfold nameB
 rw [List.length_append]
 simp only [List.length_cons, List.length_nil]
 omega
theorem inB_len {r : Rr} (h : r.Good) : 0 < (inB r).length ∧ (inB r).length ≤ 15100 := by
 have h1 := nameB_len h.tgz
 have h2 := h.tx
 have h3 : r.tx.data.toList.length = r.tx.size := by simp
 unfold inB
 split
 ·rw [twosB_len]; simp
 ·split
  ·rw [List.length_cons]; omega
  ·rw [List.length_append, twosB_len]; simp only [List.length_cons, List.length_nil]; omega
theorem recB_len {r : Rr} (h : r.Good) : (recB r).length ≤ 31000 := by
 have h1 := nameB_len h.nmz
 have h2 := (inB_len h).2
 unfold recB
 rw [List.length_append, List.length_append, List.length_append, twosB_len, twosB_len]
 simp only [List.length_cons, List.length_nil]
 omega
theorem recsB_next {l : List Rr} {k : Nat} (hk : k < l.length) : recsB (l.take (k + 1)) = recsB (l.take k) ++ recB l[k] := by
 unfold recsB
 rw [List.take_add_one, List.getElem?_eq_getElem hk, List.flatMap_append]
 simp
theorem recsB_len {l : List Rr} (h : ∀ r ∈ l, r.Good) : (recsB l).length ≤ 31000 * l.length := by
 induction l with
 | nil => simp [recsB]
 | cons r l ih =>
  have h1 := ih fun x hx => h x (List.mem_cons_of_mem _ hx)
  have h2 := recB_len (h r (List.mem_cons_self ..))
  show (recB r ++ recsB l).length ≤ _
  rw [List.length_append, List.length_cons]
  omega
def Rr.row (r : Rr) : List V := [.v (.string r.nm), .v (.int .i64 r.ty), .v (.int .i64 r.ls), .v (.int .i64 r.ad), .v (.string r.tx), .v (.int .i64 r.pt), .v (.string r.tg)]
instance : FlatRow Rr.row := ⟨fun x u hu => by simp [Rr.row] at hu; rcases hu with rfl | rfl | rfl | rfl | rfl | rfl | rfl <;> exact ⟨_, rfl⟩⟩
instance : OneRow Rr.row 7 := ⟨fun _ => rfl, fun x u hu => by simp [Rr.row] at hu; rcases hu with rfl | rfl | rfl | rfl | rfl | rfl | rfl <;> exact ⟨_, rfl, rfl⟩⟩
def Ms.row (m : Ms) : List V := [.v (.int .i64 m.id), .v (.bool m.an), .v (.bool m.ct), .v (.int .i64 m.co), .v (.string m.qn), .v (.int .i64 m.qt), .sl false (m.rs.map Rr.row)]
end Pl
theorem flat_w {I : Opq} {T : TypeId} {l : List UInt8} {u : V} : ∀ p ∈ ([] : List ParM) ++ exitsP [.mo I (bldI T l), .p (.c u)], flatM p := by
 intro p hp
 simp only [exitsP, List.nil_append, List.mem_cons, List.not_mem_nil, or_false] at hp
 subst hp
 exact fun _ _ _ _ _ h => h
theorem bld_fold : Folds wT [.v (.pointer none), .v (.slice none 0 0)] (bldI wT []) := by
 intro w R b xs hown hrv
 rcases hown.2 with ⟨q, _⟩ | ⟨g, cap, cur, q, _, hg, hnc, hcm, hcs, htake⟩
 ·cases q
 ·injection q with q1 q2 q3
  injection q1 with q1
  injection q1 with q1
  subst q1 q3
  have hl : cur.toList.length = 2 := by simpa using hcs
  have hx : cur.toList = xs := by rw [← htake, List.take_of_length_le (by rw [hl]; exact Nat.le_refl _)]
  match xs, hx with
  | [x0, x1], hx =>
   have e0 : x0 = .pointer none := rv_v (hrv 0 _ x0 rfl rfl)
   have e1 : x1 = .slice none 0 0 := rv_v (hrv 1 _ x1 rfl rfl)
   subst e0 e1
   have hc : cur = #[.pointer none, .slice none 0 0] := by apply Array.ext'; rw [hx]
   subst hc
   exact ⟨b, .slice none 0 0, rfl, ⟨⟨_, .inl rfl, hg⟩, World.ownsRow_nil _ _ _ _, by simp [Value.ownBlock]⟩, fun k => by simp [Value.ownBlock]⟩
  | [], hx => rw [hx] at hl; simp at hl
  | [_], hx => rw [hx] at hl; simp at hl
  | _ :: _ :: _ :: _, hx => rw [hx] at hl; simp at hl
theorem fdiv65536 (n : Int) : n.fdiv (2 ^ min (Int.toNat 16) IntKind.i64.bits) = n / 65536 := by
 show n.fdiv 65536 = _
 exact Int.fdiv_eq_ediv_of_nonneg _ (by decide)
theorem and_65535 {n : Int} (h0 : 0 ≤ n) (h1 : n ≤ 9223372036854775807) : IntKind.i64.wrap ((BitVec.ofInt IntKind.i64.bits n &&& BitVec.ofInt IntKind.i64.bits 65535).toNat) = n % 65536 := by
 obtain ⟨k, rfl⟩ := Int.eq_ofNat_of_zero_le h0
 have e1 : (BitVec.ofInt IntKind.i64.bits (k : Int) &&& BitVec.ofInt IntKind.i64.bits 65535).toNat = k % 65536 := by
  show (BitVec.ofInt 64 (k : Int) &&& BitVec.ofInt 64 65535).toNat = _
  rw [BitVec.toNat_and]
  have a1 : (BitVec.ofInt 64 (k : Int)).toNat = k := by
   rw [BitVec.ofInt_natCast, BitVec.toNat_ofNat]; exact Nat.mod_eq_of_lt (by omega)
  have a2 : (BitVec.ofInt 64 65535).toNat = 2 ^ 16 - 1 := by decide
  rw [a1, a2, Nat.and_two_pow_sub_one_eq_mod]
 rw [e1]
 have : k % 65536 < 65536 := Nat.mod_lt _ (by decide)
 rw [wrap_ok (by omega) (by omega)]
 rfl
set_option maxHeartbeats 2000000 in
theorem record1_fun (l : List UInt8) (r : Rr) (hr : r.Good) (hty : r.ty = 1) (hl : l.length ≤ 900000) : FunM Tryd.prog 65 [.mo (bldI wT l) (bldI wT (l ++ recB r)), .p (.c (.agg r.row))] [] := by
 have hin := inB_len hr
 have hnl := nameB_len hr.nmz
 obtain ⟨nm, ty, ls, ad, tx, pt, tg⟩ := r
 obtain ⟨h1, h2, _, h4, h5, h6, h7, h8, h9⟩ := hr
 simp only at h1 h2 h4 h5 h6 h7 h8 h9 hty hnl
 subst hty
 have eI : inB ⟨nm, 1, ls, ad, tx, pt, tg⟩ = twosB [ad / 65536, ad % 65536] := rfl
 rw [eI] at hin
 have e : l ++ nameB nm ++ twosB [1, 1, ls / 65536, ls % 65536] ++ twosB [((twosB [ad / 65536, ad % 65536]).length : Int)] ++ (⟨(twosB [ad / 65536, ad % 65536]).toArray⟩ : ByteArray).data.toList = l ++ recB ⟨nm, 1, ls, ad, tx, pt, tg⟩ := by
  unfold recB
  rw [eI]
  simp only [List.append_assoc]
 rw [← e]
 have hne : twosB [ad / 65536, ad % 65536] ≠ [] := fun q => by rw [q] at hin; simp at hin
 refine funM_x ck_dns_writer_record rfl rfl (nd_b rfl) ?_
 (refine goI ?_; repeat (intro gg; refine goI ?_))
 (refine .inr (.inl ⟨_, _, false, [0], aM, name_fun l nm h1 h2 (by omega), nobor, oI, dI, ?_⟩))
 (refine goI ?_; repeat (intro gg; refine goI ?_))
 refine ⟨by decide, _, fdiv65536 _, ?_⟩
 (refine goI ?_; repeat (intro gg; refine goI ?_))
 refine ⟨_, and_65535 h4.1 (Int.le_trans h4.2 (by decide)), ?_⟩
 (refine goI ?_; repeat (intro gg; refine goI ?_))
 (refine .inr (.inl ⟨_, _, true, [0], aM, two_fun (l ++ nameB nm) false [1, 1, ls / 65536, ls % 65536] (by simp only [List.mem_cons, List.not_mem_nil, or_false, forall_eq_or_imp, forall_eq]; omega) (by simp) (by rw [List.length_append]; omega), (fun _ => flat_w), oI, dI, ?_⟩))
 (refine goI ?_; repeat (intro gg; refine goI ?_))
 refine ⟨by decide, _, fdiv65536 _, ?_⟩
 (refine goI ?_; repeat (intro gg; refine goI ?_))
 refine ⟨_, and_65535 h5.1 (Int.le_trans h5.2 (by decide)), ?_⟩
 (refine goI ?_; repeat (intro gg; refine goI ?_))
 (refine .inr (.inl ⟨_, _, true, [336], aM_fo rfl (cl_row rfl) bld_fold (by decide) (by decide) aM, two_fun [] false [ad / 65536, ad % 65536] (by simp only [List.mem_cons, List.not_mem_nil, or_false, forall_eq_or_imp, forall_eq]; omega) (by simp) (by simp), (fun _ => flat_w), oI, dI, ?_⟩))
 (refine goI ?_; repeat (intro gg; refine goI ?_))
 (refine .inr (.inl ⟨_, _, false, [336], aM, bLen_fun (T := wT) (twosB [ad / 65536, ad % 65536]), nobor, oI, dI, ?_⟩))
 (refine goI ?_; repeat (intro gg; refine goI ?_))
 (refine .inr (.inl ⟨_, _, true, [0], aM, two_fun (l ++ nameB nm ++ twosB [1, 1, ls / 65536, ls % 65536]) false [((twosB [ad / 65536, ad % 65536]).length : Int)] (by simp only [List.mem_cons, List.not_mem_nil, or_false, forall_eq]; omega) (by simp) (by simp only [List.length_append, twosB_len, List.length_cons, List.length_nil]; omega), (fun _ => flat_w), oI, dI, ?_⟩))
 (refine goI ?_; repeat (intro gg; refine goI ?_))
 (refine .inr (.inl ⟨_, _, false, [336], aM, bString_fun (T := wT) (twosB [ad / 65536, ad % 65536]) hne, nobor, oI, dI, ?_⟩))
 (refine goI ?_; repeat (intro gg; refine goI ?_))
 refine ⟨⟨trivial, rfl, rfl, trivial, trivial, trivial, trivial⟩, ?_⟩
 (refine goI ?_; repeat (intro gg; refine goI ?_))
 (refine .inr (.inl ⟨_, _, false, [0], aM, wStr_fun wBT (l ++ nameB nm ++ twosB [1, 1, ls / 65536, ls % 65536] ++ twosB [((twosB [ad / 65536, ad % 65536]).length : Int)]) ⟨(twosB [ad / 65536, ad % 65536]).toArray⟩ (by simp only [List.length_append, twosB_len, List.length_cons, List.length_nil]; show _ + (twosB [ad / 65536, ad % 65536]).toArray.size ≤ _; rw [List.size_toArray]; omega), nobor, oI, dI, ?_⟩))
 (refine goI ?_; repeat (intro gg; refine goI ?_))
 (exact ⟨[0], aM⟩)
set_option maxHeartbeats 2000000 in
theorem record2_fun (l : List UInt8) (r : Rr) (hr : r.Good) (hty : r.ty = 16) (hl : l.length ≤ 900000) : FunM Tryd.prog 65 [.mo (bldI wT l) (bldI wT (l ++ recB r)), .p (.c (.agg r.row))] [] := by
 have hin := inB_len hr
 have hnl := nameB_len hr.nmz
 obtain ⟨nm, ty, ls, ad, tx, pt, tg⟩ := r
 obtain ⟨h1, h2, _, h4, h5, h6, h7, h8, h9⟩ := hr
 simp only at h1 h2 h4 h5 h6 h7 h8 h9 hty hnl
 subst hty
 have eI : inB ⟨nm, 16, ls, ad, tx, pt, tg⟩ = (UInt8.ofNat tx.size :: tx.data.toList) := rfl
 rw [eI] at hin
 have e : l ++ nameB nm ++ twosB [16, 1, ls / 65536, ls % 65536] ++ twosB [(((UInt8.ofNat tx.size :: tx.data.toList)).length : Int)] ++ (⟨((UInt8.ofNat tx.size :: tx.data.toList)).toArray⟩ : ByteArray).data.toList = l ++ recB ⟨nm, 16, ls, ad, tx, pt, tg⟩ := by
  unfold recB
  rw [eI]
  simp only [List.append_assoc]
 rw [← e]
 have hne : (UInt8.ofNat tx.size :: tx.data.toList) ≠ [] := fun q => by rw [q] at hin; simp at hin
 refine funM_x ck_dns_writer_record rfl rfl (nd_b rfl) ?_
 (refine goI ?_; repeat (intro gg; refine goI ?_))
 (refine .inr (.inl ⟨_, _, false, [0], aM, name_fun l nm h1 h2 (by omega), nobor, oI, dI, ?_⟩))
 (refine goI ?_; repeat (intro gg; refine goI ?_))
 refine ⟨by decide, _, fdiv65536 _, ?_⟩
 (refine goI ?_; repeat (intro gg; refine goI ?_))
 refine ⟨_, and_65535 h4.1 (Int.le_trans h4.2 (by decide)), ?_⟩
 (refine goI ?_; repeat (intro gg; refine goI ?_))
 (refine .inr (.inl ⟨_, _, true, [0], aM, two_fun (l ++ nameB nm) false [16, 1, ls / 65536, ls % 65536] (by simp only [List.mem_cons, List.not_mem_nil, or_false, forall_eq_or_imp, forall_eq]; omega) (by simp) (by rw [List.length_append]; omega), (fun _ => flat_w), oI, dI, ?_⟩))
 (refine goI ?_; repeat (intro gg; refine goI ?_))
 refine ⟨((tx.size : Nat) : Int), by show ((tx.size : Nat) : Int) % 256 = _; omega, ?_⟩
 (refine goI ?_; repeat (intro gg; refine goI ?_))
 (refine .inr (.inl ⟨_, _, false, [336], aM_fo rfl (cl_row rfl) bld_fold (by decide) (by decide) aM, wByte_fun wBT [] ((tx.size : Nat) : Int) (by omega) (by omega) (by simp), nobor, oI, dI, ?_⟩))
 (refine goI ?_; repeat (intro gg; refine goI ?_))
 (refine .inr (.inl ⟨_, _, false, [336], aM, wStr_fun wBT ([] ++ [UInt8.ofNat ((tx.size : Nat) : Int).toNat]) tx (by simp only [List.length_append, List.length_cons, List.length_nil]; omega), nobor, oI, dI, ?_⟩))
 (refine goI ?_; repeat (intro gg; refine goI ?_))
 (refine .inr (.inl ⟨_, _, false, [336], aM, bLen_fun (T := wT) ((UInt8.ofNat tx.size :: tx.data.toList)), nobor, oI, dI, ?_⟩))
 (refine goI ?_; repeat (intro gg; refine goI ?_))
 (refine .inr (.inl ⟨_, _, true, [0], aM, two_fun (l ++ nameB nm ++ twosB [16, 1, ls / 65536, ls % 65536]) false [(((UInt8.ofNat tx.size :: tx.data.toList)).length : Int)] (by simp only [List.mem_cons, List.not_mem_nil, or_false, forall_eq]; omega) (by simp) (by simp only [List.length_append, twosB_len, List.length_cons, List.length_nil]; omega), (fun _ => flat_w), oI, dI, ?_⟩))
 (refine goI ?_; repeat (intro gg; refine goI ?_))
 (refine .inr (.inl ⟨_, _, false, [336], aM, bString_fun (T := wT) ((UInt8.ofNat tx.size :: tx.data.toList)) hne, nobor, oI, dI, ?_⟩))
 (refine goI ?_; repeat (intro gg; refine goI ?_))
 refine ⟨⟨trivial, rfl, rfl, trivial, trivial, trivial, trivial⟩, ?_⟩
 (refine goI ?_; repeat (intro gg; refine goI ?_))
 (refine .inr (.inl ⟨_, _, false, [0], aM, wStr_fun wBT (l ++ nameB nm ++ twosB [16, 1, ls / 65536, ls % 65536] ++ twosB [(((UInt8.ofNat tx.size :: tx.data.toList)).length : Int)]) ⟨((UInt8.ofNat tx.size :: tx.data.toList)).toArray⟩ (by simp only [List.length_append, twosB_len, List.length_cons, List.length_nil]; show _ + ((UInt8.ofNat tx.size :: tx.data.toList)).toArray.size ≤ _; rw [List.size_toArray]; omega), nobor, oI, dI, ?_⟩))
 (refine goI ?_; repeat (intro gg; refine goI ?_))
 (exact ⟨[0], aM⟩)
set_option maxHeartbeats 2000000 in
theorem record3_fun (l : List UInt8) (r : Rr) (hr : r.Good) (hty : r.ty = 33) (hl : l.length ≤ 900000) : FunM Tryd.prog 65 [.mo (bldI wT l) (bldI wT (l ++ recB r)), .p (.c (.agg r.row))] [] := by
 have hin := inB_len hr
 have hnl := nameB_len hr.nmz
 obtain ⟨nm, ty, ls, ad, tx, pt, tg⟩ := r
 obtain ⟨h1, h2, _, h4, h5, h6, h7, h8, h9⟩ := hr
 simp only at h1 h2 h4 h5 h6 h7 h8 h9 hty hnl
 subst hty
 have eI : inB ⟨nm, 33, ls, ad, tx, pt, tg⟩ = (twosB [0, 0, pt] ++ nameB tg) := rfl
 rw [eI] at hin
 have e : l ++ nameB nm ++ twosB [33, 1, ls / 65536, ls % 65536] ++ twosB [(((twosB [0, 0, pt] ++ nameB tg)).length : Int)] ++ (⟨((twosB [0, 0, pt] ++ nameB tg)).toArray⟩ : ByteArray).data.toList = l ++ recB ⟨nm, 33, ls, ad, tx, pt, tg⟩ := by
  unfold recB
  rw [eI]
  simp only [List.append_assoc]
 rw [← e]
 have hne : (twosB [0, 0, pt] ++ nameB tg) ≠ [] := fun q => by rw [q] at hin; simp at hin
 refine funM_x ck_dns_writer_record rfl rfl (nd_b rfl) ?_
 (refine goI ?_; repeat (intro gg; refine goI ?_))
 (refine .inr (.inl ⟨_, _, false, [0], aM, name_fun l nm h1 h2 (by omega), nobor, oI, dI, ?_⟩))
 (refine goI ?_; repeat (intro gg; refine goI ?_))
 refine ⟨by decide, _, fdiv65536 _, ?_⟩
 (refine goI ?_; repeat (intro gg; refine goI ?_))
 refine ⟨_, and_65535 h4.1 (Int.le_trans h4.2 (by decide)), ?_⟩
 (refine goI ?_; repeat (intro gg; refine goI ?_))
 (refine .inr (.inl ⟨_, _, true, [0], aM, two_fun (l ++ nameB nm) false [33, 1, ls / 65536, ls % 65536] (by simp only [List.mem_cons, List.not_mem_nil, or_false, forall_eq_or_imp, forall_eq]; omega) (by simp) (by rw [List.length_append]; omega), (fun _ => flat_w), oI, dI, ?_⟩))
 (refine goI ?_; repeat (intro gg; refine goI ?_))
 (refine .inr (.inl ⟨_, _, true, [336], aM_fo rfl (cl_row rfl) bld_fold (by decide) (by decide) aM, two_fun [] false [0, 0, pt] (by simp only [List.mem_cons, List.not_mem_nil, or_false, forall_eq_or_imp, forall_eq]; omega) (by simp) (by simp), (fun _ => flat_w), oI, dI, ?_⟩))
 (refine goI ?_; repeat (intro gg; refine goI ?_))
 (refine .inr (.inl ⟨_, _, false, [336], aM, name_fun ([] ++ twosB [0, 0, pt]) tg h8 h9 (by simp only [List.length_append, twosB_len, List.length_cons, List.length_nil]; omega), nobor, oI, dI, ?_⟩))
 (refine goI ?_; repeat (intro gg; refine goI ?_))
 (refine .inr (.inl ⟨_, _, false, [336], aM, bLen_fun (T := wT) ((twosB [0, 0, pt] ++ nameB tg)), nobor, oI, dI, ?_⟩))
 (refine goI ?_; repeat (intro gg; refine goI ?_))
 (refine .inr (.inl ⟨_, _, true, [0], aM, two_fun (l ++ nameB nm ++ twosB [33, 1, ls / 65536, ls % 65536]) false [(((twosB [0, 0, pt] ++ nameB tg)).length : Int)] (by simp only [List.mem_cons, List.not_mem_nil, or_false, forall_eq]; omega) (by simp) (by simp only [List.length_append, twosB_len, List.length_cons, List.length_nil]; omega), (fun _ => flat_w), oI, dI, ?_⟩))
 (refine goI ?_; repeat (intro gg; refine goI ?_))
 (refine .inr (.inl ⟨_, _, false, [336], aM, bString_fun (T := wT) ((twosB [0, 0, pt] ++ nameB tg)) hne, nobor, oI, dI, ?_⟩))
 (refine goI ?_; repeat (intro gg; refine goI ?_))
 refine ⟨⟨trivial, rfl, rfl, trivial, trivial, trivial, trivial⟩, ?_⟩
 (refine goI ?_; repeat (intro gg; refine goI ?_))
 (refine .inr (.inl ⟨_, _, false, [0], aM, wStr_fun wBT (l ++ nameB nm ++ twosB [33, 1, ls / 65536, ls % 65536] ++ twosB [(((twosB [0, 0, pt] ++ nameB tg)).length : Int)]) ⟨((twosB [0, 0, pt] ++ nameB tg)).toArray⟩ (by simp only [List.length_append, twosB_len, List.length_cons, List.length_nil]; show _ + ((twosB [0, 0, pt] ++ nameB tg)).toArray.size ≤ _; rw [List.size_toArray]; omega), nobor, oI, dI, ?_⟩))
 (refine goI ?_; repeat (intro gg; refine goI ?_))
 (exact ⟨[0], aM⟩)
theorem record_fun (l : List UInt8) (r : Rr) (hr : r.Good) (hl : l.length ≤ 900000) : FunM Tryd.prog 65 [.mo (bldI wT l) (bldI wT (l ++ recB r)), .p (.c (.agg r.row))] [] := by
 rcases hr.ty with h | h | h
 ·exact record1_fun l r hr h hl
 ·exact record2_fun l r hr h hl
 ·exact record3_fun l r hr h hl
end Go.Proofs.YtjhdlcmecbngkaaDoor
namespace Go.Proofs.YtjhdlcmecbngkaaDoor.Pl
open Go
set_option linter.unusedVariables false
def scan (c : UInt8) (s : ByteArray) : Nat → List ByteArray × Nat
 | 0 => ([], 0)
 | i + 1 => if s.data.toList[i]? = some c then ((scan c s i).1 ++ [s.extract (scan c s i).2 i], i + 1) else scan c s i
theorem ix_at {l : List UInt8} {c : UInt8} : ∀ {m : Nat}, l[m]? = some c → (∀ j, j < m → l[j]? ≠ some c) → Lib.indexByte l c = (m : Int) := by
 induction l with
 | nil => intro m h; simp at h
 | cons b l ih =>
  intro m h1 h2
  unfold Lib.indexByte
  cases m with
  | zero =>
   simp at h1; subst h1
   simp
  | succ m =>
   have hne : ¬ ((b == c) = true) := fun e => by
    have : b = c := by simpa using e
    exact h2 0 (by omega) (by simp [this])
   rw [if_neg hne]
   have := ih (m := m) (by simpa using h1) (fun j hj => by simpa using h2 (j + 1) (by omega))
   have hn : ¬ ((Lib.indexByte l c == -1) = true) := by rw [this]; simp
   rw [if_neg hn, this]; simp
theorem tail_list (s : ByteArray) (f : Nat) : (s.extract f s.size).data.toList = s.data.toList.drop f := by
 rw [extract_list, List.take_of_length_le (by simp)]
theorem scan_spec (c : UInt8) (s : ByteArray) : ∀ i, i ≤ s.size → (scan c s i).2 ≤ i ∧ (∀ j, (scan c s i).2 ≤ j → j < i → s.data.toList[j]? ≠ some c) ∧
  ∃ k, k ≤ cnb s c ∧ (scan c s i).1 = (List.range k).map (piece c s) ∧ rest c s k = s.extract (scan c s i).2 s.size ∧ k ≤ i
 | 0, _ => ⟨Nat.le_refl _, fun j _ h => by omega, 0, Nat.zero_le _, rfl, by show s = s.extract 0 s.size; simp, Nat.le_refl _⟩
 | i + 1, hi => by
  obtain ⟨h1, h2, k, h3, h4, h5, h6⟩ := scan_spec c s i (by omega)
  by_cases hc : s.data.toList[i]? = some c
  ·have e : scan c s (i + 1) = ((scan c s i).1 ++ [s.extract (scan c s i).2 i], i + 1) := if_pos hc
   rw [e]
   generalize (scan c s i).2 = f at *
   have hl : (rest c s k).data.toList = s.data.toList.drop f := by rw [h5, tail_list]
   have hx : ixb (rest c s k) c = ((i - f : Nat) : Int) := by
    unfold ixb
    rw [hl]
    refine ix_at ?_ (fun j hj => ?_)
    ·rw [List.getElem?_drop, show f + (i - f) = i by omega]; exact hc
    ·rw [List.getElem?_drop]; exact h2 _ (by omega) (by omega)
   have hk : k < cnb s c := by
    rcases Nat.lt_or_ge k (cnb s c) with q | q
    ·exact q
    ·have hq := rest_count c s k h3
     have h0 : (rest c s k).data.toList.count c = 0 := by have : cnb (rest c s k) c = (rest c s k).data.toList.count c := rfl; omega
     have := ix_neg.2 h0
     unfold ixb at hx
     omega
   refine ⟨Nat.le_refl _, fun j h h' => by omega, k + 1, hk, ?_, ?_, by omega⟩
   ·show (scan c s i).1 ++ [s.extract f i] = _
    rw [h4, List.range_succ, List.map_append]
    congr 1
    show [s.extract f i] = [piece c s k]
    congr 1
    show _ = (rest c s k).extract 0 (ixb (rest c s k) c).toNat
    rw [hx, h5, ByteArray.extract_extract]
    congr 1
    simp; omega
   ·show (rest c s k).extract ((ixb (rest c s k) c).toNat + 1) (rest c s k).size = s.extract (i + 1) s.size
    rw [hx, h5, ByteArray.extract_extract]
    congr 1
    ·simp; omega
    ·rw [ByteArray.size_extract]; omega
  ·have e : scan c s (i + 1) = scan c s i := if_neg hc
   rw [e]
   refine ⟨by omega, fun j h h' => ?_, k, h3, h4, h5, by omega⟩
   rcases Nat.lt_or_ge j i with q | q
   ·exact h2 j h q
   ·have : j = i := by omega
    subst this; exact hc
theorem scan_end (c : UInt8) (s : ByteArray) : (scan c s s.size).1 ++ [s.extract (scan c s s.size).2 s.size] = pieces c s := by
 obtain ⟨h1, h2, k, h3, h4, h5, _⟩ := scan_spec c s s.size (Nat.le_refl _)
 have h0 : (rest c s k).data.toList.count c = 0 := by
  rw [h5, tail_list, List.count_eq_zero]
  intro hm
  obtain ⟨j, hj, e⟩ := List.getElem_of_mem hm
  have hj' : (s.data.toList.drop (scan c s s.size).2)[j]? = some c := by rw [List.getElem?_eq_getElem hj, e]
  rw [List.getElem?_drop] at hj'
  have hlt := (List.getElem?_eq_some_iff.1 hj').1
  exact h2 _ (by omega) (by simpa using hlt) hj'
 have hk : k = cnb s c := by
  have := rest_count c s k h3
  have : cnb (rest c s k) c = (rest c s k).data.toList.count c := rfl
  omega
 subst hk
 rw [h4, ← h5]
 rfl
theorem scan_len (c : UInt8) (s : ByteArray) {i : Nat} (h : i ≤ s.size) : (scan c s i).1.length ≤ i ∧ (scan c s i).2 ≤ i := by
 obtain ⟨h1, _, k, _, h4, _, h6⟩ := scan_spec c s i h
 refine ⟨?_, h1⟩
 rw [h4]; simp; exact h6
end Go.Proofs.YtjhdlcmecbngkaaDoor.Pl
namespace Go.Proofs.YtjhdlcmecbngkaaDoor
open Go.RowKit Pl
set_option linter.unusedVariables false
theorem byte_at {s : ByteArray} {k : Nat} (h : k < s.size) : ∃ c, s[k]? = some c ∧ s.data.toList[k]? = some c := ⟨s[k], by simp [h], by simp [h]; rfl⟩
theorem scan_yes {c : UInt8} {s : ByteArray} {i : Nat} (h : s.data.toList[i]? = some c) : scan c s (i + 1) = ((scan c s i).1 ++ [s.extract (scan c s i).2 i], i + 1) := if_pos h
theorem scan_no {c : UInt8} {s : ByteArray} {i : Nat} (h : s.data.toList[i]? ≠ some c) : scan c s (i + 1) = scan c s i := if_neg h
theorem rlabels_fun (s : ByteArray) (hs : s.size ≤ 1000000000000) : Fun Tryd.prog 40 [.c (.v (.string s))] [.c (.sl false ((labelsP s).map sRow))] := by
 refine fun_x ck_hearsayref_LabelsOf rfl ?_
 (refine goI ?_; repeat (intro gg; refine goI ?_))
 (refine bIf_of (fun h => ?_) (fun h => ?_) <;> rw [h])
 ·(refine goI ?_; repeat (intro gg; refine goI ?_))
  rw [show labelsP s = [] from if_pos h]
  (exact ⟨[], aI⟩)
 ·have hE := scan_end 46 s
  rw [show labelsP s = pieces 46 s from if_neg (by rw [h]; decide), ← hE]
  (refine goI ?_; repeat (intro gg; refine goI ?_))
  (refine ⟨[(3, 48, 9, 1)], none, {p : Nat × Nat // p.1 ≤ s.size}, [0], fun ⟨⟨k, g⟩, hk⟩ => [(3, .own 48 g), (4, .v (.int .i64 (scan 46 s k).2)), (5, .v (.int .i64 k))], [], fun ⟨⟨k, g⟩, hk⟩ => [(48, ⟨g, 9, 1, (scan 46 s k).1.map sRow⟩)], fun ⟨⟨k, g⟩, hk⟩ => s.size - k, (by exact ⟨rfl, by decide, (fun _ _ _ _ h => by cases h), trivial⟩), fun gs => ⟨trivial, fun _ => ⟨⟨(0, gs 48), by omega⟩, tI, tI, tI, tI⟩⟩, fun ⟨⟨k, g⟩, hk⟩ => ?_⟩)
  have hk' : k ≤ s.size := hk
  have hl := scan_len 46 s hk'
  (refine goI ?_; repeat (intro gg; refine goI ?_))
  (refine bIf_of (fun h1 => ?_) (fun h1 => ?_) <;> rw [h1])
  ·have hlt : k < s.size := (by have := of_decide_eq_true h1; omega)
   obtain ⟨c, hc1, hc2⟩ := byte_at hlt
   (refine goI ?_; repeat (intro gg; refine goI ?_))
   refine ⟨k, c, rfl, hc1, ?_⟩
   (refine goI ?_; repeat (intro gg; refine goI ?_))
   (refine bIf_of (fun h2 => ?_) (fun h2 => ?_) <;> rw [h2])
   ·have hc : c = 46 := by
     have h3 : (c.toNat : Int) = 46 := by simpa using h2
     exact UInt8.toNat_inj.1 (by show c.toNat = 46; omega)
    subst hc
    have e := scan_yes hc2
    obtain ⟨e1, e2⟩ : (scan 46 s (k + 1)).1 = (scan 46 s k).1 ++ [s.extract (scan 46 s k).2 k] ∧ (scan 46 s (k + 1)).2 = k + 1 := by rw [e]; exact ⟨rfl, rfl⟩
    (refine goI ?_; repeat (intro gg; refine goI ?_))
    refine ⟨(scan 46 s k).2, k, ⟨_, rfl⟩, ⟨_, rfl⟩, hl.2, by omega, ?_⟩
    (refine goI ?_; repeat (intro gg; refine goI ?_))
    refine ⟨lI, lI, ?_⟩
    (refine goI ?_; repeat (intro gg; refine goI ?_))
    (exact ⟨none, trivial, fun gr => ⟨⟨(k + 1, gg), by dsimp only; omega⟩, by show s.size - (k + 1) < s.size - k; omega, hxI e, hxI e, hxI e, hxI e⟩⟩)
   ·have hc : s.data.toList[k]? ≠ some 46 := fun q => by
     rw [hc2] at q; injection q with q; subst q
     simp at h2
    have e := scan_no hc
    (refine goI ?_; repeat (intro gg; refine goI ?_))
    (exact ⟨none, trivial, fun gr => ⟨⟨(k + 1, g), by dsimp only; omega⟩, by show s.size - (k + 1) < s.size - k; omega, hxI e, hxI e, hxI e, hxI e⟩⟩)
  ·have hge : ¬ k < s.size := (by have := of_decide_eq_false h1; omega)
   obtain rfl : k = s.size := by omega
   (refine goI ?_; repeat (intro gg; refine goI ?_))
   refine ⟨(scan 46 s s.size).2, s.size, ⟨_, rfl⟩, rfl, hl.2, Nat.le_refl _, ?_⟩
   (refine goI ?_; repeat (intro gg; refine goI ?_))
   refine ⟨lI, lI, ?_⟩
   (refine goI ?_; repeat (intro gg; refine goI ?_))
   rw [List.map_append]
   (exact ⟨[], aI⟩)
theorem checkName_fun (s : ByteArray) (hs : s.size ≤ 1000000000000) : Fun Tryd.prog 22 [.c (.v (.string s))] [.c (.v (.int .i64 (nameErr s)))] := by
 have hL := labelsP_len s
 refine fun_x ck_hearsayref_CheckName rfl ?_
 (refine goI ?_; repeat (intro gg; refine goI ?_))
 (refine .inl ⟨_, _, false, [], aI, rlabels_fun s hs, nobor, nI, ?_⟩)
 (refine goI ?_; repeat (intro gg; refine goI ?_))
 (refine ⟨[], none, {k : Nat // k ≤ (labelsP s).length ∧ ∀ j, (h : j < (labelsP s).length) → j < k → lab (labelsP s)[j].data.toList = true}, [0, 3], fun ⟨k, hk, h0⟩ => [(4, .v (.int .i64 k))], [], fun ⟨k, hk, h0⟩ => [], fun ⟨k, hk, h0⟩ => (labelsP s).length - k, trivial, fun _ => ⟨trivial, fun _ => ⟨⟨0, by omega, fun j _ h => by omega⟩, tI, keptE_refl _ _, tI, keptH_refl _ _⟩⟩, fun ⟨k, hk, h0⟩ => ?_⟩)
 (refine goI ?_; repeat (intro gg; refine goI ?_))
 rw [List.length_map]
 (refine bIf_of (fun h => ?_) (fun h => ?_) <;> rw [h])
 ·have hlt : k < (labelsP s).length := (by have := of_decide_eq_true h; omega)
  (refine goI ?_; repeat (intro gg; refine goI ?_))
  refine ⟨k, _, rfl, row_map hlt, ?_⟩
  (refine goI ?_; repeat (intro gg; refine goI ?_))
  (refine .inl ⟨_, _, false, [], aI, rlabel_fun (labelsP s)[k] (by have := labelsP_size (List.getElem_mem hlt); omega), nobor, nI, ?_⟩)
  (refine goI ?_; repeat (intro gg; refine goI ?_))
  (refine bIf_of (fun h2 => ?_) (fun h2 => ?_) <;> rw [h2])
  ·(refine goI ?_; repeat (intro gg; refine goI ?_))
   have e : nameErr s = 1 := if_pos (List.any_eq_true.2 ⟨_, List.getElem_mem hlt, h2⟩)
   rw [e]
   (exact ⟨[], aI⟩)
  ·(refine goI ?_; repeat (intro gg; refine goI ?_))
   (exact ⟨none, trivial, fun _ => ⟨⟨k + 1, by omega, up1 (p := fun j h => lab (labelsP s)[j].data.toList = true) h0 (fun _ => not_f h2)⟩, by show (labelsP s).length - (k + 1) < (labelsP s).length - k; omega, tI, tI, tI, tI⟩⟩)
 ·have hge : ¬ k < (labelsP s).length := (by have := of_decide_eq_false h; omega)
  have hn : (labelsP s).any (fun x => !lab x.data.toList) = false := by
   rw [List.any_eq_false]
   intro x hx
   obtain ⟨j, hj, rfl⟩ := List.getElem_of_mem hx
   rw [h0 j hj (by omega)]; simp
  have e : nameErr s = if 8 < (labelsP s).length then 2 else if 120 < s.size then 2 else 0 := if_neg (by rw [hn]; decide)
  (refine goI ?_; repeat (intro gg; refine goI ?_))
  rw [List.length_map]
  (refine bIf_of (fun h2 => ?_) (fun h2 => ?_) <;> rw [h2])
  ·(refine goI ?_; repeat (intro gg; refine goI ?_))
   rw [e, if_pos (by have := of_decide_eq_true h2; omega)]
   (exact ⟨[], aI⟩)
  ·rw [if_neg (by have := of_decide_eq_false h2; omega)] at e
   (refine goI ?_; repeat (intro gg; refine goI ?_))
   (refine bIf_of (fun h3 => ?_) (fun h3 => ?_) <;> rw [h3])
   ·(refine goI ?_; repeat (intro gg; refine goI ?_))
    rw [e, if_pos (by have := of_decide_eq_true h3; omega)]
    (exact ⟨[], aI⟩)
   ·(refine goI ?_; repeat (intro gg; refine goI ?_))
    rw [e, if_neg (by have := of_decide_eq_false h3; omega)]
    (exact ⟨[], aI⟩)
end Go.Proofs.YtjhdlcmecbngkaaDoor
namespace Go.Proofs.YtjhdlcmecbngkaaDoor
open Go.RowKit Pl
set_option linter.unusedVariables false
namespace Pl
structure Qr where
 sv : ByteArray
 tg : ByteArray
 nd : ByteArray
 ce : ByteArray
def Qr.row (q : Qr) : List V := [.v (.string q.sv), .v (.string q.tg), .v (.string q.nd), .v (.string q.ce)]
instance : FlatRow Qr.row := ⟨fun x u hu => by simp [Qr.row] at hu; rcases hu with rfl | rfl | rfl | rfl <;> exact ⟨_, rfl⟩⟩
def Qr.ok (q : Qr) : Prop := q.sv.size ≤ 9223372036854775807 ∧ q.tg.size ≤ 9223372036854775807 ∧ q.nd.size ≤ 9223372036854775807 ∧ q.ce.size ≤ 9223372036854775807
def em (x : ByteArray) : Bool := x.toList == (⟨#[]⟩ : ByteArray).toList
def wServ : ByteArray := ⟨#[115, 101, 114, 118, 105, 99, 101]⟩
def wNode : ByteArray := ⟨#[110, 111, 100, 101]⟩
def wMesh : ByteArray := ⟨#[109, 101, 115, 104]⟩
def isIn (l : List ByteArray) (x : ByteArray) : Bool := l.any fun w => x.toList == w.toList
def badL (x : ByteArray) : Bool := bif em x then false else !lab x.data.toList
def Qr.all (q : Qr) : List ByteArray := [q.sv, q.tg, q.nd, q.ce]
def Qr.c1 (q : Qr) : Bool := bif (em q.sv == em q.nd) then true else (bif em q.sv then !em q.tg else false)
def Qr.c2 (q : Qr) : Bool := q.all.any badL
def Qr.c3 (q : Qr) : Bool := bif isIn [wServ, wNode, wMesh] q.ce then true else bif isIn [wServ, wNode, wMesh] q.sv then true else bif isIn [wServ, wNode, wMesh] q.tg then true else isIn [wServ, wNode] q.nd
end Pl
end Go.Proofs.YtjhdlcmecbngkaaDoor
namespace Go.Proofs.YtjhdlcmecbngkaaDoor
open Go Go.RowKit Pl
set_option linter.unusedVariables false
theorem leaf_of {P Q : Prop} (h : P) (k : P → Q) : Q := k h
namespace Pl
def wIn (n a b : Int) : Bool := bif decide (a ≤ n) then decide (n ≤ b) else false
def isTy (t : Int) : Bool := bif (t == 1) then true else bif (t == 16) then true else (t == 33)
def isInZ (l : List Int) (x : Int) : Bool := l.any fun w => x == w
theorem isTy_in (t : Int) : isInZ [1, 16, 33] t = isTy t := by
 unfold isInZ isTy
 simp only [List.any_cons, List.any_nil, Bool.or_false]
 cases (t == 1) <;> cases (t == 16) <;> rfl
def Rr.un (r : Rr) : Bool := bif (bif (r.ty == 1) then true else (r.ad == 0)) then (bif (bif (r.ty == 16) then true else em r.tx) then (bif (r.ty == 33) then true else bif (r.pt == 0) then em r.tg else false) else false) else false
def recErr (r : Rr) : Int := if nameErr r.nm ≠ 0 then nameErr r.nm else bif !isTy r.ty then 7 else bif !wIn r.ls 0 2147483647 then 3 else bif !r.un then 1 else bif !wIn r.ad 0 4294967295 then 3 else bif !wIn r.pt 0 65535 then 3 else if 200 < r.tx.size then 2 else nameErr r.tg
end Pl
theorem within_fun (n a b : Int) : Fun Tryd.prog 54 [.c (.v (.int .i64 n)), .c (.v (.int .i64 a)), .c (.v (.int .i64 b))] [.c (.v (.bool (wIn n a b)))] := by
 refine fun_x ck_dns_within rfl ?_
 (refine goI ?_; repeat (intro gg; refine goI ?_))
 (refine bIf_of (fun h => ?_) (fun h => ?_) <;> rw [h])
 ·(refine goI ?_; repeat (intro gg; refine goI ?_))
  rw [show wIn n a b = decide (n ≤ b) by unfold wIn; rw [show decide (a ≤ n) = true from h]; rfl]
  (exact ⟨[], aI⟩)
 ·(refine goI ?_; repeat (intro gg; refine goI ?_))
  rw [show wIn n a b = false by unfold wIn; rw [show decide (a ≤ n) = false from h]; rfl]
  (exact ⟨[], aI⟩)
theorem between_fun (n a b : Int) : Fun Tryd.prog 45 [.c (.v (.int .i64 n)), .c (.v (.int .i64 a)), .c (.v (.int .i64 b))] [.c (.v (.bool (wIn n a b)))] := by
 refine fun_x ck_hearsayref_between rfl ?_
 (refine goI ?_; repeat (intro gg; refine goI ?_))
 (refine bIf_of (fun h => ?_) (fun h => ?_) <;> rw [h])
 ·(refine goI ?_; repeat (intro gg; refine goI ?_))
  rw [show wIn n a b = decide (n ≤ b) by unfold wIn; rw [show decide (a ≤ n) = true from h]; rfl]
  (exact ⟨[], aI⟩)
 ·(refine goI ?_; repeat (intro gg; refine goI ?_))
  rw [show wIn n a b = false by unfold wIn; rw [show decide (a ≤ n) = false from h]; rfl]
  (exact ⟨[], aI⟩)
theorem rIsType_fun (t : Int) : Fun Tryd.prog 46 [.c (.v (.int .i64 t))] [.c (.v (.bool (isTy t)))] := by
 refine fun_x ck_hearsayref_IsType rfl ?_
 (refine goI ?_; repeat (intro gg; refine goI ?_))
 (refine bIf_of (fun h => ?_) (fun h => ?_) <;> rw [h])
 ·(refine goI ?_; repeat (intro gg; refine goI ?_))
  rw [show isTy t = true by unfold isTy; rw [show (t == 1) = true from h]; rfl]
  (exact ⟨[], aI⟩)
 ·(refine goI ?_; repeat (intro gg; refine goI ?_))
  (refine bIf_of (fun h2 => ?_) (fun h2 => ?_) <;> rw [h2])
  ·(refine goI ?_; repeat (intro gg; refine goI ?_))
   rw [show isTy t = true by unfold isTy; rw [show (t == 1) = false from h, show (t == 16) = true from h2]; rfl]
   (exact ⟨[], aI⟩)
  ·(refine goI ?_; repeat (intro gg; refine goI ?_))
   rw [show isTy t = (t == 33) by unfold isTy; rw [show (t == 1) = false from h, show (t == 16) = false from h2]; rfl]
   (exact ⟨[], aI⟩)
theorem indexZ_fun (cl : Bool) (l : List Int) (v : Int) (hl : l.length ≤ 9223372036854775807) :
  Fun Tryd.prog 92 [.c (.sl cl (l.map nRow)), .c (.v (.int .i64 v))] [.c (.v (.int .i64 (at_ (fun w => v == w) l)))] := by
 refine fun_x ck_slices_Index_int_int rfl ?_
 (refine goI ?_; repeat (intro gg; refine goI ?_))
 rw [List.length_map]
 (refine ⟨[], none, {k : Nat // k ≤ l.length ∧ ∀ j, (h : j < l.length) → j < k → (v == l[j]) = false}, [0, 1, 7], fun ⟨k, hk, h0⟩ => [(8, .v (.int .i64 k))], [], fun ⟨k, hk, h0⟩ => [], fun ⟨k, hk, h0⟩ => l.length - k, trivial, fun _ => ⟨trivial, fun _ => ⟨⟨0, by omega, fun j _ h => by omega⟩, tI, keptE_refl _ _, tI, keptH_refl _ _⟩⟩, fun ⟨k, hk, h0⟩ => ?_⟩)
 (refine goI ?_; repeat (intro gg; refine goI ?_))
 (refine bIf_of (fun h => ?_) (fun h => ?_) <;> rw [h])
 ·have hlt : k < l.length := (by have := of_decide_eq_true h; omega)
  (refine goI ?_; repeat (intro gg; refine goI ?_))
  refine ⟨k, _, rfl, row_map hlt, ?_⟩
  (refine goI ?_; repeat (intro gg; refine goI ?_))
  (refine bIf_of (fun h2 => ?_) (fun h2 => ?_) <;> rw [h2])
  ·(refine goI ?_; repeat (intro gg; refine goI ?_))
   rw [at_yes (p := fun w => v == w) hlt h0 h2]
   (exact ⟨[], aI⟩)
  ·(refine goI ?_; repeat (intro gg; refine goI ?_))
   (exact ⟨none, trivial, fun _ => ⟨⟨k + 1, by omega, up1 (p := fun j h => (v == l[j]) = false) h0 (fun _ => h2)⟩, by show l.length - (k + 1) < l.length - k; omega, tI, tI, tI, tI⟩⟩)
 ·have hge : ¬ k < l.length := (by have := of_decide_eq_false h; omega)
  (refine goI ?_; repeat (intro gg; refine goI ?_))
  rw [at_no (p := fun w => v == w) (l := l) (fun i hi => h0 i hi (by omega))]
  (exact ⟨[], aI⟩)
theorem containsZ_fun (cl : Bool) (l : List Int) (v : Int) (hl : l.length ≤ 9223372036854775807) :
  Fun Tryd.prog 79 [.c (.sl cl (l.map nRow)), .c (.v (.int .i64 v))] [.c (.v (.bool (isInZ l v)))] := by
 refine fun_x ck_slices_Contains_int_int rfl ?_
 (refine goI ?_; repeat (intro gg; refine goI ?_))
 (refine .inl ⟨_, _, false, [], aI, indexZ_fun cl l v hl, nobor, nI, ?_⟩)
 (refine goI ?_; repeat (intro gg; refine goI ?_))
 rw [any_at]
 (exact ⟨[], aI⟩)
theorem isType_fun (t : Int) : Fun Tryd.prog 61 [.c (.v (.int .i64 t))] [.c (.v (.bool (isTy t)))] := by
 have hC := containsZ_fun false [1, 16, 33] t (by simp)
 rw [isTy_in] at hC
 refine fun_x ck_dns_IsType rfl ?_
 (refine goI ?_; repeat (intro gg; refine goI ?_))
 (refine .inl ⟨_, _, true, [], aI, hC, (fun _ => fI), nI, ?_⟩)
 (refine goI ?_; repeat (intro gg; refine goI ?_))
 (exact ⟨[], aI⟩)
theorem unused_fun (r : Rr) : Fun Tryd.prog 80 [.c (.agg r.row)] [.c (.v (.bool r.un))] := by
 refine fun_x ck_dns_unused rfl ?_
 (refine goI ?_; repeat (intro gg; refine goI ?_))
 (repeat' (refine bIf_of (fun h => ?_) (fun h => ?_) <;> (rw [h]; (refine goI ?_; repeat (intro gg; refine goI ?_)))))
 all_goals first
  | ((refine leaf_of (P := r.un = true) ?_ (fun e => ?_); (focus (simp only [*, cond_true, cond_false, Rr.un, em]; done)); rw [e]); (exact ⟨[], aI⟩))
  | ((refine leaf_of (P := r.un = false) ?_ (fun e => ?_); (focus (simp only [*, cond_true, cond_false, Rr.un, em]; done)); rw [e]); (exact ⟨[], aI⟩))
  | ((refine leaf_of (P := r.un = em r.tg) ?_ (fun e => ?_); (focus (simp only [*, cond_true, cond_false, Rr.un, em]; done)); rw [e]); (exact ⟨[], aI⟩))
theorem checkRecord_fun (r : Rr) (h1 : r.nm.size ≤ 1000000000000) (h2 : r.tx.size ≤ 1000000000000) (h3 : r.tg.size ≤ 1000000000000) : Fun Tryd.prog 62 [.c (.agg r.row)] [.c (.v (.int .i64 (recErr r)))] := by
 refine fun_x ck_dns_checkRecord rfl ?_
 (refine goI ?_; repeat (intro gg; refine goI ?_))
 (refine .inl ⟨_, _, false, [], aI, Check_fun r.nm h1, nobor, nI, ?_⟩)
 (refine goI ?_; repeat (intro gg; refine goI ?_))
 refine bIf_of (fun k0 => ?_) (fun k0 => ?_) <;> rw [k0]
 ·(refine goI ?_; repeat (intro gg; refine goI ?_))
  rw [show recErr r = nameErr r.nm from if_pos (by simpa using k0)]
  (exact ⟨[], aI⟩)
 ·have e0 : recErr r = _ := if_neg (by simpa using k0)
  (refine goI ?_; repeat (intro gg; refine goI ?_))
  (refine .inl ⟨_, _, false, [], aI, isType_fun r.ty, nobor, nI, ?_⟩)
  (refine goI ?_; repeat (intro gg; refine goI ?_))
  refine bIf_of (fun k1 => ?_) (fun k1 => ?_) <;> rw [k1] <;> rw [k1] at e0
  ·(refine goI ?_; repeat (intro gg; refine goI ?_))
   rw [e0]
   (exact ⟨[], aI⟩)
  ·(refine goI ?_; repeat (intro gg; refine goI ?_))
   (refine .inl ⟨_, _, false, [], aI, within_fun r.ls 0 2147483647, nobor, nI, ?_⟩)
   (refine goI ?_; repeat (intro gg; refine goI ?_))
   refine bIf_of (fun k2 => ?_) (fun k2 => ?_) <;> rw [k2] <;> rw [k2] at e0
   ·(refine goI ?_; repeat (intro gg; refine goI ?_))
    rw [e0]
    (exact ⟨[], aI⟩)
   ·(refine goI ?_; repeat (intro gg; refine goI ?_))
    (refine .inl ⟨_, _, false, [], aI, unused_fun r, nobor, nI, ?_⟩)
    (refine goI ?_; repeat (intro gg; refine goI ?_))
    refine bIf_of (fun k3 => ?_) (fun k3 => ?_) <;> rw [k3] <;> rw [k3] at e0
    ·(refine goI ?_; repeat (intro gg; refine goI ?_))
     rw [e0]
     (exact ⟨[], aI⟩)
    ·(refine goI ?_; repeat (intro gg; refine goI ?_))
     (refine .inl ⟨_, _, false, [], aI, within_fun r.ad 0 4294967295, nobor, nI, ?_⟩)
     (refine goI ?_; repeat (intro gg; refine goI ?_))
     refine bIf_of (fun k4 => ?_) (fun k4 => ?_) <;> rw [k4] <;> rw [k4] at e0
     ·(refine goI ?_; repeat (intro gg; refine goI ?_))
      rw [e0]
      (exact ⟨[], aI⟩)
     ·(refine goI ?_; repeat (intro gg; refine goI ?_))
      (refine .inl ⟨_, _, false, [], aI, within_fun r.pt 0 65535, nobor, nI, ?_⟩)
      (refine goI ?_; repeat (intro gg; refine goI ?_))
      refine bIf_of (fun k5 => ?_) (fun k5 => ?_) <;> rw [k5] <;> rw [k5] at e0
      ·(refine goI ?_; repeat (intro gg; refine goI ?_))
       rw [e0]
       (exact ⟨[], aI⟩)
      ·(refine goI ?_; repeat (intro gg; refine goI ?_))
       refine bIf_of (fun k6 => ?_) (fun k6 => ?_) <;> rw [k6]
       ·have k7 : 200 < r.tx.size := by have := of_decide_eq_true k6; omega
        (refine goI ?_; repeat (intro gg; refine goI ?_))
        rw [e0]
        simp only [cond_false, if_pos k7]
        (exact ⟨[], aI⟩)
       ·have k7 : ¬ 200 < r.tx.size := by have := of_decide_eq_false k6; omega
        (refine goI ?_; repeat (intro gg; refine goI ?_))
        (refine .inl ⟨_, _, false, [], aI, Check_fun r.tg h3, nobor, nI, ?_⟩)
        (refine goI ?_; repeat (intro gg; refine goI ?_))
        rw [e0]
        simp only [cond_false, if_neg k7]
        (exact ⟨[], aI⟩)
theorem rIsAddr_fun (n : Int) : Fun Tryd.prog 67 [.c (.v (.int .i64 n))] [.c (.v (.bool (wIn n 0 4294967295)))] := by
 refine fun_x ck_hearsayref_IsAddress rfl ?_
 (refine goI ?_; repeat (intro gg; refine goI ?_))
 (refine .inl ⟨_, _, false, [], aI, between_fun n 0 4294967295, nobor, nI, ?_⟩)
 (refine goI ?_; repeat (intro gg; refine goI ?_))
 (exact ⟨[], aI⟩)
theorem isTy_cases {t : Int} (h : (!isTy t) = false) : t = 1 ∨ t = 16 ∨ t = 33 := by
 unfold isTy at h
 cases h1 : (t == 1) with
 | true => exact .inl (by simpa using h1)
 | false =>
  cases h2 : (t == 16) with
  | true => exact .inr (.inl (by simpa using h2))
  | false => rw [h1, h2] at h; exact .inr (.inr (by simpa using h))
set_option maxHeartbeats 1000000 in
theorem rCheckRecord_fun (r : Rr) (h1 : r.nm.size ≤ 1000000000000) (h2 : r.tx.size ≤ 1000000000000) (h3 : r.tg.size ≤ 1000000000000) : Fun Tryd.prog 47 [.c (.agg r.row)] [.c (.v (.int .i64 (recErr r)))] := by
 obtain ⟨nm, ty, ls, ad, tx, pt, tg⟩ := r
 refine fun_x ck_hearsayref_CheckRecord rfl ?_
 (refine goI ?_; repeat (intro gg; refine goI ?_))
 (refine .inl ⟨_, _, false, [], aI, checkName_fun nm h1, nobor, nI, ?_⟩)
 (refine goI ?_; repeat (intro gg; refine goI ?_))
 refine bIf_of (fun k0 => ?_) (fun k0 => ?_) <;> rw [k0]
 ·(refine goI ?_; repeat (intro gg; refine goI ?_))
  rw [show recErr ⟨nm, ty, ls, ad, tx, pt, tg⟩ = nameErr nm from if_pos (by simpa using k0)]
  (exact ⟨[], aI⟩)
 ·have e0 : recErr ⟨nm, ty, ls, ad, tx, pt, tg⟩ = bif !isTy ty then 7 else bif !wIn ls 0 2147483647 then 3 else bif !(Rr.un ⟨nm, ty, ls, ad, tx, pt, tg⟩) then 1 else bif !wIn ad 0 4294967295 then 3 else bif !wIn pt 0 65535 then 3 else if 200 < tx.size then 2 else nameErr tg := if_neg (by simpa using k0)
  (refine goI ?_; repeat (intro gg; refine goI ?_))
  (refine .inl ⟨_, _, false, [], aI, rIsType_fun ty, nobor, nI, ?_⟩)
  (refine goI ?_; repeat (intro gg; refine goI ?_))
  refine bIf_of (fun k1 => ?_) (fun k1 => ?_) <;> rw [k1] <;> rw [k1] at e0
  ·(refine goI ?_; repeat (intro gg; refine goI ?_))
   rw [e0]
   (exact ⟨[], aI⟩)
  ·(refine goI ?_; repeat (intro gg; refine goI ?_))
   (refine .inl ⟨_, _, false, [], aI, between_fun ls 0 2147483647, nobor, nI, ?_⟩)
   (refine goI ?_; repeat (intro gg; refine goI ?_))
   refine bIf_of (fun k2 => ?_) (fun k2 => ?_) <;> rw [k2] <;> rw [k2] at e0
   ·(refine goI ?_; repeat (intro gg; refine goI ?_))
    rw [e0]
    (exact ⟨[], aI⟩)
   ·simp only [cond_false] at e0
    rcases isTy_cases k1 with rfl | rfl | rfl
    ·(refine goI ?_; repeat (intro gg; refine goI ?_))
     refine bIf_of (fun q0 => ?_) (fun q0 => ?_) <;> rw [q0]
     ·have eu : Rr.un ⟨nm, 1, ls, ad, tx, pt, tg⟩ = false := by
       have a0 : em tx = false := not_t q0
       simp [Rr.un, a0]
      rw [eu] at e0
      (refine goI ?_; repeat (intro gg; refine goI ?_))
      rw [e0]
      (exact ⟨[], aI⟩)
     ·(refine goI ?_; repeat (intro gg; refine goI ?_))
      refine bIf_of (fun q1 => ?_) (fun q1 => ?_) <;> rw [q1]
      ·have eu : Rr.un ⟨nm, 1, ls, ad, tx, pt, tg⟩ = false := by
        have a0 : em tx = true := not_f q0
        have a1 : (pt == 0) = false := not_t q1
        simp [Rr.un, a0, a1]
       rw [eu] at e0
       (refine goI ?_; repeat (intro gg; refine goI ?_))
       rw [e0]
       (exact ⟨[], aI⟩)
      ·(refine goI ?_; repeat (intro gg; refine goI ?_))
       refine bIf_of (fun q2 => ?_) (fun q2 => ?_) <;> rw [q2]
       ·have eu : Rr.un ⟨nm, 1, ls, ad, tx, pt, tg⟩ = false := by
         have a0 : em tx = true := not_f q0
         have a1 : (pt == 0) = true := not_f q1
         have a2 : em tg = false := not_t q2
         simp [Rr.un, a0, a1, a2]
        rw [eu] at e0
        (refine goI ?_; repeat (intro gg; refine goI ?_))
        rw [e0]
        (exact ⟨[], aI⟩)
       ·have eu : Rr.un ⟨nm, 1, ls, ad, tx, pt, tg⟩ = true := by
         have a0 : em tx = true := not_f q0
         have a1 : (pt == 0) = true := not_f q1
         have a2 : em tg = true := not_f q2
         simp [Rr.un, a0, a1, a2]
        rw [eu] at e0
        simp only [Bool.not_true, cond_false] at e0
        (refine goI ?_; repeat (intro gg; refine goI ?_))
        (refine .inl ⟨_, _, false, [], aI, rIsAddr_fun ad, nobor, nI, ?_⟩)
        (refine goI ?_; repeat (intro gg; refine goI ?_))
        refine bIf_of (fun k4 => ?_) (fun k4 => ?_) <;> rw [k4] <;> rw [k4] at e0
        ·(refine goI ?_; repeat (intro gg; refine goI ?_))
         rw [e0]
         (exact ⟨[], aI⟩)
        ·(refine goI ?_; repeat (intro gg; refine goI ?_))
         (refine .inl ⟨_, _, false, [], aI, between_fun pt 0 65535, nobor, nI, ?_⟩)
         (refine goI ?_; repeat (intro gg; refine goI ?_))
         refine bIf_of (fun k5 => ?_) (fun k5 => ?_) <;> rw [k5] <;> rw [k5] at e0
         ·(refine goI ?_; repeat (intro gg; refine goI ?_))
          rw [e0]
          (exact ⟨[], aI⟩)
         ·(refine goI ?_; repeat (intro gg; refine goI ?_))
          refine bIf_of (fun k6 => ?_) (fun k6 => ?_) <;> rw [k6]
          ·have k7 : 200 < tx.size := by have := of_decide_eq_true (show decide ((200 : Int) < (tx.size : Int)) = true from k6); omega
           (refine goI ?_; repeat (intro gg; refine goI ?_))
           rw [e0]
           simp only [cond_false, if_pos k7]
           (exact ⟨[], aI⟩)
          ·have k7 : ¬ 200 < tx.size := by have := of_decide_eq_false (show decide ((200 : Int) < (tx.size : Int)) = false from k6); omega
           (refine goI ?_; repeat (intro gg; refine goI ?_))
           (refine .inl ⟨_, _, false, [], aI, checkName_fun tg h3, nobor, nI, ?_⟩)
           (refine goI ?_; repeat (intro gg; refine goI ?_))
           rw [e0]
           simp only [cond_false, if_neg k7]
           (exact ⟨[], aI⟩)
    ·(refine goI ?_; repeat (intro gg; refine goI ?_))
     refine bIf_of (fun q0 => ?_) (fun q0 => ?_) <;> rw [q0]
     ·have eu : Rr.un ⟨nm, 16, ls, ad, tx, pt, tg⟩ = false := by
       have a0 : (ad == 0) = false := not_t q0
       simp [Rr.un, a0]
      rw [eu] at e0
      (refine goI ?_; repeat (intro gg; refine goI ?_))
      rw [e0]
      (exact ⟨[], aI⟩)
     ·(refine goI ?_; repeat (intro gg; refine goI ?_))
      refine bIf_of (fun q1 => ?_) (fun q1 => ?_) <;> rw [q1]
      ·have eu : Rr.un ⟨nm, 16, ls, ad, tx, pt, tg⟩ = false := by
        have a0 : (ad == 0) = true := not_f q0
        have a1 : (pt == 0) = false := not_t q1
        simp [Rr.un, a0, a1]
       rw [eu] at e0
       (refine goI ?_; repeat (intro gg; refine goI ?_))
       rw [e0]
       (exact ⟨[], aI⟩)
      ·(refine goI ?_; repeat (intro gg; refine goI ?_))
       refine bIf_of (fun q2 => ?_) (fun q2 => ?_) <;> rw [q2]
       ·have eu : Rr.un ⟨nm, 16, ls, ad, tx, pt, tg⟩ = false := by
         have a0 : (ad == 0) = true := not_f q0
         have a1 : (pt == 0) = true := not_f q1
         have a2 : em tg = false := not_t q2
         simp [Rr.un, a0, a1, a2]
        rw [eu] at e0
        (refine goI ?_; repeat (intro gg; refine goI ?_))
        rw [e0]
        (exact ⟨[], aI⟩)
       ·have eu : Rr.un ⟨nm, 16, ls, ad, tx, pt, tg⟩ = true := by
         have a0 : (ad == 0) = true := not_f q0
         have a1 : (pt == 0) = true := not_f q1
         have a2 : em tg = true := not_f q2
         simp [Rr.un, a0, a1, a2]
        rw [eu] at e0
        simp only [Bool.not_true, cond_false] at e0
        (refine goI ?_; repeat (intro gg; refine goI ?_))
        (refine .inl ⟨_, _, false, [], aI, rIsAddr_fun ad, nobor, nI, ?_⟩)
        (refine goI ?_; repeat (intro gg; refine goI ?_))
        refine bIf_of (fun k4 => ?_) (fun k4 => ?_) <;> rw [k4] <;> rw [k4] at e0
        ·(refine goI ?_; repeat (intro gg; refine goI ?_))
         rw [e0]
         (exact ⟨[], aI⟩)
        ·(refine goI ?_; repeat (intro gg; refine goI ?_))
         (refine .inl ⟨_, _, false, [], aI, between_fun pt 0 65535, nobor, nI, ?_⟩)
         (refine goI ?_; repeat (intro gg; refine goI ?_))
         refine bIf_of (fun k5 => ?_) (fun k5 => ?_) <;> rw [k5] <;> rw [k5] at e0
         ·(refine goI ?_; repeat (intro gg; refine goI ?_))
          rw [e0]
          (exact ⟨[], aI⟩)
         ·(refine goI ?_; repeat (intro gg; refine goI ?_))
          refine bIf_of (fun k6 => ?_) (fun k6 => ?_) <;> rw [k6]
          ·have k7 : 200 < tx.size := by have := of_decide_eq_true (show decide ((200 : Int) < (tx.size : Int)) = true from k6); omega
           (refine goI ?_; repeat (intro gg; refine goI ?_))
           rw [e0]
           simp only [cond_false, if_pos k7]
           (exact ⟨[], aI⟩)
          ·have k7 : ¬ 200 < tx.size := by have := of_decide_eq_false (show decide ((200 : Int) < (tx.size : Int)) = false from k6); omega
           (refine goI ?_; repeat (intro gg; refine goI ?_))
           (refine .inl ⟨_, _, false, [], aI, checkName_fun tg h3, nobor, nI, ?_⟩)
           (refine goI ?_; repeat (intro gg; refine goI ?_))
           rw [e0]
           simp only [cond_false, if_neg k7]
           (exact ⟨[], aI⟩)
    ·(refine goI ?_; repeat (intro gg; refine goI ?_))
     refine bIf_of (fun q0 => ?_) (fun q0 => ?_) <;> rw [q0]
     ·have eu : Rr.un ⟨nm, 33, ls, ad, tx, pt, tg⟩ = false := by
       have a0 : (ad == 0) = false := not_t q0
       simp [Rr.un, a0]
      rw [eu] at e0
      (refine goI ?_; repeat (intro gg; refine goI ?_))
      rw [e0]
      (exact ⟨[], aI⟩)
     ·(refine goI ?_; repeat (intro gg; refine goI ?_))
      refine bIf_of (fun q1 => ?_) (fun q1 => ?_) <;> rw [q1]
      ·have eu : Rr.un ⟨nm, 33, ls, ad, tx, pt, tg⟩ = false := by
        have a0 : (ad == 0) = true := not_f q0
        have a1 : em tx = false := not_t q1
        simp [Rr.un, a0, a1]
       rw [eu] at e0
       (refine goI ?_; repeat (intro gg; refine goI ?_))
       rw [e0]
       (exact ⟨[], aI⟩)
      ·have eu : Rr.un ⟨nm, 33, ls, ad, tx, pt, tg⟩ = true := by
        have a0 : (ad == 0) = true := not_f q0
        have a1 : em tx = true := not_f q1
        simp [Rr.un, a0, a1]
       rw [eu] at e0
       simp only [Bool.not_true, cond_false] at e0
       (refine goI ?_; repeat (intro gg; refine goI ?_))
       (refine .inl ⟨_, _, false, [], aI, rIsAddr_fun ad, nobor, nI, ?_⟩)
       (refine goI ?_; repeat (intro gg; refine goI ?_))
       refine bIf_of (fun k4 => ?_) (fun k4 => ?_) <;> rw [k4] <;> rw [k4] at e0
       ·(refine goI ?_; repeat (intro gg; refine goI ?_))
        rw [e0]
        (exact ⟨[], aI⟩)
       ·(refine goI ?_; repeat (intro gg; refine goI ?_))
        (refine .inl ⟨_, _, false, [], aI, between_fun pt 0 65535, nobor, nI, ?_⟩)
        (refine goI ?_; repeat (intro gg; refine goI ?_))
        refine bIf_of (fun k5 => ?_) (fun k5 => ?_) <;> rw [k5] <;> rw [k5] at e0
        ·(refine goI ?_; repeat (intro gg; refine goI ?_))
         rw [e0]
         (exact ⟨[], aI⟩)
        ·(refine goI ?_; repeat (intro gg; refine goI ?_))
         refine bIf_of (fun k6 => ?_) (fun k6 => ?_) <;> rw [k6]
         ·have k7 : 200 < tx.size := by have := of_decide_eq_true (show decide ((200 : Int) < (tx.size : Int)) = true from k6); omega
          (refine goI ?_; repeat (intro gg; refine goI ?_))
          rw [e0]
          simp only [cond_false, if_pos k7]
          (exact ⟨[], aI⟩)
         ·have k7 : ¬ 200 < tx.size := by have := of_decide_eq_false (show decide ((200 : Int) < (tx.size : Int)) = false from k6); omega
          (refine goI ?_; repeat (intro gg; refine goI ?_))
          (refine .inl ⟨_, _, false, [], aI, checkName_fun tg h3, nobor, nI, ?_⟩)
          (refine goI ?_; repeat (intro gg; refine goI ?_))
          rw [e0]
          simp only [cond_false, if_neg k7]
          (exact ⟨[], aI⟩)
namespace Pl
def firstE (l : List Int) : Int := l.foldr (fun e k => if e ≠ 0 then e else k) 0
def msgErr (m : Ms) : Int := bif !wIn m.id 0 65535 then 3 else bif !wIn m.co 0 15 then 3 else if 20 < m.rs.length then 2 else if nameErr m.qn ≠ 0 then nameErr m.qn else bif !isTy m.qt then 7 else firstE (m.rs.map recErr)
structure Ms.Sized (m : Ms) : Prop where
 qn : m.qn.size ≤ 1000000000000
 rs : ∀ r ∈ m.rs, r.nm.size ≤ 1000000000000 ∧ r.tx.size ≤ 1000000000000 ∧ r.tg.size ≤ 1000000000000
end Pl
theorem firstE_at {l : List Int} {k : Nat} (hk : k < l.length) (h0 : ∀ j, (h : j < l.length) → j < k → l[j] = 0) (h : l[k] ≠ 0) : firstE l = l[k] := by
 induction l generalizing k with
 | nil => simp at hk
 | cons e l ih =>
  cases k with
  | zero => exact if_pos h
  | succ k =>
   have e0 : e = 0 := h0 0 (by simp) (by omega)
   subst e0
   exact ih (by simpa using hk) (fun j hj hjk => h0 (j + 1) (by simpa using hj) (by omega)) h
theorem firstE_no {l : List Int} (h0 : ∀ j, (h : j < l.length) → l[j] = 0) : firstE l = 0 := by
 induction l with
 | nil => rfl
 | cons e l ih =>
  have e0 : e = 0 := h0 0 (by simp)
  subst e0
  exact ih fun j hj => h0 (j + 1) (by simpa using hj)
set_option maxHeartbeats 1000000 in
theorem check_fun (m : Ms) (hm : m.Sized) (hl : m.rs.length ≤ 9223372036854775807) : Fun Tryd.prog 43 [.c (.agg m.row)] [.c (.v (.int .i64 (msgErr m)))] := by
 obtain ⟨id, an, ct, co, qn, qt, rs⟩ := m
 obtain ⟨s1, s2⟩ := hm
 simp only at s1 s2 hl
 refine fun_x ck_dns_check rfl ?_
 (refine goI ?_; repeat (intro gg; refine goI ?_))
 (refine .inl ⟨_, _, false, [], aI, within_fun id 0 65535, nobor, nI, ?_⟩)
 (refine goI ?_; repeat (intro gg; refine goI ?_))
 have e0 : msgErr ⟨id, an, ct, co, qn, qt, rs⟩ = bif !wIn id 0 65535 then 3 else bif !wIn co 0 15 then 3 else if 20 < rs.length then 2 else if nameErr qn ≠ 0 then nameErr qn else bif !isTy qt then 7 else firstE (rs.map recErr) := rfl
 refine bIf_of (fun k0 => ?_) (fun k0 => ?_) <;> rw [k0] <;> rw [k0] at e0
 ·(refine goI ?_; repeat (intro gg; refine goI ?_))
  rw [e0]
  (exact ⟨[], aI⟩)
 ·(refine goI ?_; repeat (intro gg; refine goI ?_))
  (refine .inl ⟨_, _, false, [], aI, within_fun co 0 15, nobor, nI, ?_⟩)
  (refine goI ?_; repeat (intro gg; refine goI ?_))
  refine bIf_of (fun k1 => ?_) (fun k1 => ?_) <;> rw [k1] <;> rw [k1] at e0
  ·(refine goI ?_; repeat (intro gg; refine goI ?_))
   rw [e0]
   (exact ⟨[], aI⟩)
  ·simp only [cond_false] at e0
   (refine goI ?_; repeat (intro gg; refine goI ?_))
   rw [List.length_map]
   refine bIf_of (fun k2 => ?_) (fun k2 => ?_) <;> rw [k2]
   ·have k3 : 20 < rs.length := by have := of_decide_eq_true (show decide ((20 : Int) < (rs.length : Int)) = true from k2); omega
    (refine goI ?_; repeat (intro gg; refine goI ?_))
    rw [e0, if_pos k3]
    (exact ⟨[], aI⟩)
   ·have k3 : ¬ 20 < rs.length := by have := of_decide_eq_false (show decide ((20 : Int) < (rs.length : Int)) = false from k2); omega
    rw [if_neg k3] at e0
    (refine goI ?_; repeat (intro gg; refine goI ?_))
    (refine .inl ⟨_, _, false, [], aI, Check_fun qn s1, nobor, nI, ?_⟩)
    (refine goI ?_; repeat (intro gg; refine goI ?_))
    refine bIf_of (fun k4 => ?_) (fun k4 => ?_) <;> rw [k4]
    ·(refine goI ?_; repeat (intro gg; refine goI ?_))
     rw [e0, if_pos (by simpa using k4)]
     (exact ⟨[], aI⟩)
    ·rw [if_neg (by simpa using k4)] at e0
     (refine goI ?_; repeat (intro gg; refine goI ?_))
     (refine .inl ⟨_, _, false, [], aI, isType_fun qt, nobor, nI, ?_⟩)
     (refine goI ?_; repeat (intro gg; refine goI ?_))
     refine bIf_of (fun k5 => ?_) (fun k5 => ?_) <;> rw [k5] <;> rw [k5] at e0
     ·(refine goI ?_; repeat (intro gg; refine goI ?_))
      rw [e0]
      (exact ⟨[], aI⟩)
     ·simp only [cond_false] at e0
      (refine goI ?_; repeat (intro gg; refine goI ?_))
      rw [List.length_map]
      (refine ⟨[], none, {k : Nat // k ≤ rs.length ∧ ∀ j, (h : j < rs.length) → j < k → recErr rs[j] = 0}, [36, 37], fun ⟨k, hk, h0⟩ => [(38, .v (.int .i64 k))], [], fun ⟨k, hk, h0⟩ => [], fun ⟨k, hk, h0⟩ => rs.length - k, trivial, fun _ => ⟨trivial, fun _ => ⟨⟨0, by omega, fun j _ h => by omega⟩, tI, keptE_refl _ _, tI, keptH_refl _ _⟩⟩, fun ⟨k, hk, h0⟩ => ?_⟩)
      (refine goI ?_; repeat (intro gg; refine goI ?_))
      refine bIf_of (fun k6 => ?_) (fun k6 => ?_) <;> rw [k6]
      ·have hlt : k < rs.length := by have := of_decide_eq_true (show decide ((k : Int) < (rs.length : Int)) = true from k6); omega
       obtain ⟨g1, g2, g3⟩ := s2 _ (List.getElem_mem hlt)
       (refine goI ?_; repeat (intro gg; refine goI ?_))
       refine ⟨k, _, rfl, row_map hlt, ?_⟩
       (refine goI ?_; repeat (intro gg; refine goI ?_))
       (refine .inl ⟨_, _, false, [], aI, checkRecord_fun rs[k] g1 g2 g3, nobor, nI, ?_⟩)
       (refine goI ?_; repeat (intro gg; refine goI ?_))
       refine bIf_of (fun k7 => ?_) (fun k7 => ?_) <;> rw [k7]
       ·have hne : recErr rs[k] ≠ 0 := by simpa using k7
        have e1 : firstE (rs.map recErr) = recErr rs[k] := by
         have := firstE_at (l := rs.map recErr) (k := k) (by simpa using hlt) (fun j h hj => by rw [List.getElem_map]; exact h0 j (by simpa using h) hj) (by rw [List.getElem_map]; exact hne)
         rw [this, List.getElem_map]
        (refine goI ?_; repeat (intro gg; refine goI ?_))
        rw [e0, e1]
        (exact ⟨[], aI⟩)
       ·(refine goI ?_; repeat (intro gg; refine goI ?_))
        (exact ⟨none, trivial, fun _ => ⟨⟨k + 1, by omega, up1 (p := fun j h => recErr rs[j] = 0) h0 (fun _ => by simpa using k7)⟩, by show rs.length - (k + 1) < rs.length - k; omega, tI, tI, tI, tI⟩⟩)
      ·have hge : ¬ k < rs.length := by have := of_decide_eq_false (show decide ((k : Int) < (rs.length : Int)) = false from k6); omega
       have e1 : firstE (rs.map recErr) = 0 := firstE_no fun j hj => by rw [List.getElem_map]; exact h0 j (by simpa using hj) (by simp at hj; omega)
       (refine goI ?_; repeat (intro gg; refine goI ?_))
       rw [e0, e1]
       (exact ⟨[], aI⟩)
set_option maxHeartbeats 1000000 in
theorem rCheck_fun (m : Ms) (hm : m.Sized) (hl : m.rs.length ≤ 9223372036854775807) : Fun Tryd.prog 24 [.c (.agg m.row)] [.c (.v (.int .i64 (msgErr m)))] := by
 obtain ⟨id, an, ct, co, qn, qt, rs⟩ := m
 obtain ⟨s1, s2⟩ := hm
 simp only at s1 s2 hl
 refine fun_x ck_hearsayref_CheckMessage rfl ?_
 (refine goI ?_; repeat (intro gg; refine goI ?_))
 (refine .inl ⟨_, _, false, [], aI, between_fun id 0 65535, nobor, nI, ?_⟩)
 (refine goI ?_; repeat (intro gg; refine goI ?_))
 have e0 : msgErr ⟨id, an, ct, co, qn, qt, rs⟩ = bif !wIn id 0 65535 then 3 else bif !wIn co 0 15 then 3 else if 20 < rs.length then 2 else if nameErr qn ≠ 0 then nameErr qn else bif !isTy qt then 7 else firstE (rs.map recErr) := rfl
 refine bIf_of (fun k0 => ?_) (fun k0 => ?_) <;> rw [k0] <;> rw [k0] at e0
 ·(refine goI ?_; repeat (intro gg; refine goI ?_))
  rw [e0]
  (exact ⟨[], aI⟩)
 ·(refine goI ?_; repeat (intro gg; refine goI ?_))
  (refine .inl ⟨_, _, false, [], aI, between_fun co 0 15, nobor, nI, ?_⟩)
  (refine goI ?_; repeat (intro gg; refine goI ?_))
  refine bIf_of (fun k1 => ?_) (fun k1 => ?_) <;> rw [k1] <;> rw [k1] at e0
  ·(refine goI ?_; repeat (intro gg; refine goI ?_))
   rw [e0]
   (exact ⟨[], aI⟩)
  ·simp only [cond_false] at e0
   (refine goI ?_; repeat (intro gg; refine goI ?_))
   rw [List.length_map]
   refine bIf_of (fun k2 => ?_) (fun k2 => ?_) <;> rw [k2]
   ·have k3 : 20 < rs.length := by have := of_decide_eq_true (show decide ((20 : Int) < (rs.length : Int)) = true from k2); omega
    (refine goI ?_; repeat (intro gg; refine goI ?_))
    rw [e0, if_pos k3]
    (exact ⟨[], aI⟩)
   ·have k3 : ¬ 20 < rs.length := by have := of_decide_eq_false (show decide ((20 : Int) < (rs.length : Int)) = false from k2); omega
    rw [if_neg k3] at e0
    (refine goI ?_; repeat (intro gg; refine goI ?_))
    (refine .inl ⟨_, _, false, [], aI, checkName_fun qn s1, nobor, nI, ?_⟩)
    (refine goI ?_; repeat (intro gg; refine goI ?_))
    refine bIf_of (fun k4 => ?_) (fun k4 => ?_) <;> rw [k4]
    ·(refine goI ?_; repeat (intro gg; refine goI ?_))
     rw [e0, if_pos (by simpa using k4)]
     (exact ⟨[], aI⟩)
    ·rw [if_neg (by simpa using k4)] at e0
     (refine goI ?_; repeat (intro gg; refine goI ?_))
     (refine .inl ⟨_, _, false, [], aI, rIsType_fun qt, nobor, nI, ?_⟩)
     (refine goI ?_; repeat (intro gg; refine goI ?_))
     refine bIf_of (fun k5 => ?_) (fun k5 => ?_) <;> rw [k5] <;> rw [k5] at e0
     ·(refine goI ?_; repeat (intro gg; refine goI ?_))
      rw [e0]
      (exact ⟨[], aI⟩)
     ·simp only [cond_false] at e0
      (refine goI ?_; repeat (intro gg; refine goI ?_))
      (refine ⟨[], none, {k : Nat // k ≤ rs.length ∧ ∀ j, (h : j < rs.length) → j < k → recErr rs[j] = 0}, [1], fun ⟨k, hk, h0⟩ => [(4, .v (.int .i64 k))], [16], fun ⟨k, hk, h0⟩ => [], fun ⟨k, hk, h0⟩ => rs.length - k, trivial, fun _ => ⟨trivial, fun _ => ⟨⟨0, by omega, fun j _ h => by omega⟩, tI, keptE_refl _ _, tI, keptH_refl _ _⟩⟩, fun ⟨k, hk, h0⟩ => ?_⟩)
      (refine goI ?_; repeat (intro gg; refine goI ?_))
      rw [List.length_map]
      refine bIf_of (fun k6 => ?_) (fun k6 => ?_) <;> rw [k6]
      ·have hlt : k < rs.length := by have := of_decide_eq_true (show decide ((k : Int) < (rs.length : Int)) = true from k6); omega
       obtain ⟨g1, g2, g3⟩ := s2 _ (List.getElem_mem hlt)
       (refine goI ?_; repeat (intro gg; refine goI ?_))
       refine ⟨k, _, rfl, row_map hlt, ?_⟩
       (refine goI ?_; repeat (intro gg; refine goI ?_))
       (refine .inl ⟨_, _, false, [], aI, rCheckRecord_fun rs[k] g1 g2 g3, nobor, nI, ?_⟩)
       (refine goI ?_; repeat (intro gg; refine goI ?_))
       refine bIf_of (fun k7 => ?_) (fun k7 => ?_) <;> rw [k7]
       ·have hne : recErr rs[k] ≠ 0 := by simpa using k7
        have e1 : firstE (rs.map recErr) = recErr rs[k] := by
         have := firstE_at (l := rs.map recErr) (k := k) (by simpa using hlt) (fun j h hj => by rw [List.getElem_map]; exact h0 j (by simpa using h) hj) (by rw [List.getElem_map]; exact hne)
         rw [this, List.getElem_map]
        (refine goI ?_; repeat (intro gg; refine goI ?_))
        rw [e0, e1]
        (exact ⟨[], aI⟩)
       ·(refine goI ?_; repeat (intro gg; refine goI ?_))
        (exact ⟨none, trivial, fun _ => ⟨⟨k + 1, by omega, up1 (p := fun j h => recErr rs[j] = 0) h0 (fun _ => by simpa using k7)⟩, by show rs.length - (k + 1) < rs.length - k; omega, tI, tI, tI, tI⟩⟩)
      ·have hge : ¬ k < rs.length := by have := of_decide_eq_false (show decide ((k : Int) < (rs.length : Int)) = false from k6); omega
       have e1 : firstE (rs.map recErr) = 0 := firstE_no fun j hj => by rw [List.getElem_map]; exact h0 j (by simpa using hj) (by simp at hj; omega)
       (refine goI ?_; repeat (intro gg; refine goI ?_))
       rw [e0, e1]
       (exact ⟨[], aI⟩)
end Go.Proofs.YtjhdlcmecbngkaaDoor
namespace Go.Proofs.YtjhdlcmecbngkaaDoor
open Go.Shelf
def Tryd.lays156_ren : Go.Shelf.Ren := ⟨fun | 156 => 55 | 165 => 74 | 166 => 75 | 169 => 66 | 240 => 86 | 241 => 87 | 276 => 93 | 277 => 94 | n => n, fun | 31 => 53 | 9 => 9 | 3 => 3 | 4 => 4 | 0 => 0 | 20 => 20 | 72 => 88 | 76 => 101 | 70 => 86 | 37 => 82 | 75 => 100 | 127 => 110 | 164 => 117 | 5 => 5 | 80 => 78 | n => n, fun | n => n⟩
theorem Tryd.lays156 : Go.Proofs.Lays.n156 Tryd.prog Tryd.lays156_ren := {
 mixed := by kernel_rfl
 f156 := Tryd.func55.trans (congrArg some (by kernel_rfl))
 f165 := Tryd.func74.trans (congrArg some (by kernel_rfl))
 f166 := Tryd.func75.trans (congrArg some (by kernel_rfl))
 f169 := Tryd.func66.trans (congrArg some (by kernel_rfl))
 f240 := Tryd.func86.trans (congrArg some (by kernel_rfl))
 f241 := Tryd.func87.trans (congrArg some (by kernel_rfl))
 f276 := Tryd.func93.trans (congrArg some (by kernel_rfl))
 f277 := Tryd.func94.trans (congrArg some (by kernel_rfl))
 t0 := Tryd.underlying0
 a0 := Tryd.isAgg0
 z0 := Tryd.sizeOf0
 v0 := Tryd.zeroValue0
 t3 := Tryd.underlying3
 a3 := Tryd.isAgg3
 z3 := Tryd.sizeOf3
 v3 := Tryd.zeroValue3
 t4 := Tryd.underlying4
 a4 := Tryd.isAgg4
 z4 := Tryd.sizeOf4
 v4 := Tryd.zeroValue4
 t9 := Tryd.underlying9
 a9 := Tryd.isAgg9
 z9 := Tryd.sizeOf9
 v9 := Tryd.zeroValue9
 t20 := Tryd.underlying20
 a20 := Tryd.isAgg20
 z20 := Tryd.sizeOf20
 v20 := Tryd.zeroValue20
 t31 := Tryd.underlying53
 a31 := Tryd.isAgg53
 z31 := Tryd.sizeOf53
 v31 := Tryd.zeroValue53
 t37 := Tryd.underlying82
 a37 := Tryd.isAgg82
 z37 := Tryd.sizeOf82
 v37 := Tryd.zeroValue82
 t70 := Tryd.underlying86
 a70 := Tryd.isAgg86
 z70 := Tryd.sizeOf86
 v70 := Tryd.zeroValue86
 t72 := Tryd.underlying88
 a72 := Tryd.isAgg88
 z72 := Tryd.sizeOf88
 v72 := Tryd.zeroValue88
 t75 := Tryd.underlying100
 a75 := Tryd.isAgg100
 z75 := Tryd.sizeOf100
 v75 := Tryd.zeroValue100
 t76 := Tryd.underlying101
 a76 := Tryd.isAgg101
 z76 := Tryd.sizeOf101
 v76 := Tryd.zeroValue101
 t127 := Tryd.underlying110
 a127 := Tryd.isAgg110
 z127 := Tryd.sizeOf110
 v127 := Tryd.zeroValue110
 t164 := Tryd.underlying117
 a164 := Tryd.isAgg117
 z164 := Tryd.sizeOf117
 v164 := Tryd.zeroValue117 }
theorem Tryd.Builder_Extra_156 : Builder.Extra Tryd.prog Tryd.lays156_ren := {
 sizeBuilder := by kernel_rfl
 liesBuilder := by kernel_rfl
 t5 := Tryd.underlying5
 a5 := Tryd.isAgg5
 z5 := Tryd.sizeOf5
 v5 := Tryd.zeroValue5
 infoByte := by kernel_rfl
 cellsByte := by kernel_rfl
 sizeByte := by kernel_rfl
 neB5 := by decide }
end Go.Proofs.YtjhdlcmecbngkaaDoor
namespace Go.Proofs.YtjhdlcmecbngkaaDoor
open Go.RowKit Pl
set_option linter.unusedVariables false
def joinB (sep : ByteArray) (xs : List ByteArray) : ByteArray := ⟨(Lib.join (xs.map (·.data.toList)) sep.data.toList).toArray⟩
theorem join_fun (cl : Bool) (xs : List ByteArray) (sep : ByteArray) (hN : xs.length ≤ 140737488355328) (hlen : (joinB sep xs).size ≤ 140737488355328) :
  Fun Tryd.prog 55 [.c (.sl cl (xs.map sRow)), .c (.v (.string sep))] [.c (.v (.string (joinB sep xs)))] := by
 refine ⟨callable Tryd.func55 (by kernel_rfl) (by kernel_rfl), fun w R ys hlt hp => ?_⟩
 have fin : ∀ w', Fr (ParBlk [.c (.sl cl (xs.map sRow)), .c (.v (.string sep))] ys) w w' → ∃ (zs : List Value) (R' : Nat → Prop), Ending.returned (Value.string (joinB sep xs)) = .returned (packV zs) ∧ Fr (ParBlk [.c (.sl cl (xs.map sRow)), .c (.v (.string sep))] ys) w w' ∧ (∀ b, R b → R' b) ∧
   (∀ b, R' b → R b ∨ (b < w'.heap.size ∧ (ParBlk [.c (.sl cl (xs.map sRow)), .c (.v (.string sep))] ys b ∨ w.heap.size ≤ b))) ∧ Pars w' R' [.c (.v (.string (joinB sep xs)))] zs ∧ (∀ b, ParBlk [.c (.v (.string (joinB sep xs)))] zs b → ParBlk [.c (.sl cl (xs.map sRow)), .c (.v (.string sep))] ys b ∨ w.heap.size ≤ b) := fun w' hfr => by
  refine ⟨[.string (joinB sep xs)], R, rfl, hfr, fun _ h => h, fun b h => .inl h, ⟨rfl, ?_, ?_, ?_⟩, ?_⟩
  ·intro i p x h1 h2
   cases i with
   | zero => simp at h1 h2; subst h1 h2; exact .v _
   | succ i => simp at h1
  ·intro i j T sz rows T' sz' rows' x y b _ h1
   cases i with
   | zero => simp at h1
   | succ i => simp at h1
  ·intro b hb
   exact absurd hb (no_blk fun p hp => by simp at hp; exact ⟨_, hp⟩)
  ·intro b hb
   exact absurd hb (no_blk fun p hp => by simp at hp; exact ⟨_, hp⟩)
 have hl := hp.len
 match ys, hl, hp, fin with
 | [y0, y1], _, hp, fin =>
  have h0 : RV w R noG (.sl cl (xs.map sRow)) y0 := hp.ok 0 _ _ rfl rfl
  have h1 : RV w R noG (.v (.string sep)) y1 := hp.ok 1 _ _ rfl rfl
  have e1 := rv_v h1
  subst e1
  have hnone : ∀ (a : Option Addr) (cap : Nat), xs = [] → y0 = .slice a 0 cap → Calls Tryd.prog 55 [y0, .string sep].toArray w fun e w' => ∃ (zs : List Value) (R' : Nat → Prop), e = .returned (packV zs) ∧ Fr (ParBlk [.c (.sl cl (xs.map sRow)), .c (.v (.string sep))] [y0, .string sep]) w w' ∧ (∀ b, R b → R' b) ∧
   (∀ b, R' b → R b ∨ (b < w'.heap.size ∧ (ParBlk [.c (.sl cl (xs.map sRow)), .c (.v (.string sep))] [y0, .string sep] b ∨ w.heap.size ≤ b))) ∧ Pars w' R' [.c (.v (.string (joinB sep xs)))] zs ∧ (∀ b, ParBlk [.c (.v (.string (joinB sep xs)))] zs b → ParBlk [.c (.sl cl (xs.map sRow)), .c (.v (.string sep))] [y0, .string sep] b ∨ w.heap.size ≤ b) := fun a cap hx hy => by
   have h := Any.strings_Join_none Tryd.lays156 Tryd.Builder_Extra_156 a cap sep w
   change Calls Tryd.prog 55 _ w _ at h
   rw [← hy] at h
   refine h.mono ?_
   rintro e w' ⟨rfl, rfl⟩
   have e2 : joinB sep xs = ⟨#[]⟩ := by rw [hx]; rfl
   rw [← e2]
   exact fin w' (Fr.refl _ _)
  obtain ⟨rows, hr'⟩ : ∃ rows, rows = xs.map sRow := ⟨_, rfl⟩
  rw [← hr'] at h0
  have hr := hr'.symm
  clear hr'
  have hlen0 : rows.length = xs.length := by rw [← hr]; simp
  cases h0 with
  | nil clip a cap hc =>
   exact hnone a cap (by simpa using hr) rfl
  | sl clip rows b off cap sz f hR hcap hclip hs hcell hh =>
   by_cases hx : xs = []
   ·exact hnone _ cap hx (by rw [hlen0, hx]; rfl)
   ·have hsz : sz = 1 := by
     obtain ⟨x, xs', rfl⟩ := List.exists_cons_of_ne_nil hx
     exact (hs (sRow x) (by rw [← hr]; simp)).symm
    subst hsz
    have h := Any.strings_Join Tryd.lays156 Tryd.Builder_Extra_156 b off cap xs sep w (fun j x hj => by
     have hrow : rows[j]? = some (sRow x) := by rw [← hr, List.getElem?_map, hj]; rfl
     have h2 := hcell j 0 (sRow x) (.v (.string x)) hrow rfl
     rw [rv_v (hh j 0 (sRow x) (.v (.string x)) hrow rfl)] at h2
     rw [← h2, Nat.mul_one, Nat.add_zero]) (hlt b hR) hN (by omega) (by
      have : (joinB sep xs).size = (Lib.join (xs.map (·.data.toList)) sep.data.toList).length := by
       show (Lib.join (xs.map (·.data.toList)) sep.data.toList).toArray.size = _
       simp
      omega)
    change Calls Tryd.prog 55 _ w _ at h
    rw [← hlen0] at h
    refine h.mono ?_
    rintro e w' ⟨rfl, hb⟩
    exact fin w' (fr_of_below hb)
end Go.Proofs.YtjhdlcmecbngkaaDoor
namespace Go.Proofs.YtjhdlcmecbngkaaDoor
open Go Go.RowKit Pl
set_option linter.unusedVariables false
namespace Pl
def byteP (s : ByteArray) (a : Nat) : Option (Nat × Nat) := (s[a]?).map fun c => (c.toNat, a + 1)
def twoP (s : ByteArray) (a : Nat) : Option (Nat × Nat) := (byteP s a).bind fun p => (byteP s p.2).bind fun q => some (p.1 * 256 + q.1, q.2)
def fourP (s : ByteArray) (a : Nat) : Option (Nat × Nat) := (twoP s a).bind fun p => (twoP s p.2).bind fun q => some (p.1 * 65536 + q.1, q.2)
def bytesP (s : ByteArray) (a n : Nat) : Option (ByteArray × Nat) := if a + n ≤ s.size then some (s.extract a (a + n), a + n) else none
def smallU (c : UInt8) : UInt8 := if 65 ≤ c.toNat ∧ c.toNat ≤ 90 then c + 32 else c
def smallB (s : ByteArray) : ByteArray := ⟨(s.data.toList.map smallU).toArray⟩
def nameR (s : ByteArray) : Nat → Nat → List ByteArray → Option Nat → Nat → Option (List ByteArray × Nat)
 | 0, _, _, _, _ => none
 | f + 1, a, l, e, fr =>
  if l.length ≤ 8 then
   (byteP s a).bind fun p =>
    if p.1 = 0 then some (l, e.getD p.2)
    else if 192 ≤ p.1 then (byteP s p.2).bind fun q =>
     if p.1 % 64 * 256 + q.1 < fr then nameR s f (p.1 % 64 * 256 + q.1) l (some (e.getD q.2)) (p.1 % 64 * 256 + q.1) else none
    else (bytesP s p.2 p.1).bind fun q => if lab (smallB q.1).data.toList = true then nameR s f q.2 (l ++ [smallB q.1]) e fr else none
  else none
def nameP (s : ByteArray) (a : Nat) : Option (ByteArray × Nat) := (nameR s (a + 10) a [] none a).map fun p => (joinB ⟨#[46]⟩ p.1, p.2)
def bodyP (s : ByteArray) (t a : Nat) : Option ((Nat × ByteArray × Nat × ByteArray) × Nat) :=
 if t = 1 then (fourP s a).bind fun p => some ((p.1, ⟨#[]⟩, 0, ⟨#[]⟩), p.2)
 else if t = 16 then (byteP s a).bind fun p => (bytesP s p.2 p.1).bind fun q => some ((0, q.1, 0, ⟨#[]⟩), q.2)
 else if t = 33 then (twoP s a).bind fun p => if p.1 = 0 then (twoP s p.2).bind fun q => if q.1 = 0 then (twoP s q.2).bind fun r => (nameP s r.2).bind fun n => some ((0, ⟨#[]⟩, r.1, n.1), n.2) else none else none
 else none
def recP (s : ByteArray) (a : Nat) : Option (Rr × Nat) :=
 (nameP s a).bind fun n => (twoP s n.2).bind fun t => (twoP s t.2).bind fun c => if c.1 = 1 then
  (fourP s c.2).bind fun ls => (twoP s ls.2).bind fun k => if k.2 + k.1 ≤ s.size then
   (bodyP s t.1 k.2).bind fun b => if b.2 = k.2 + k.1 then some (⟨n.1, t.1, ls.1, b.1.1, b.1.2.1, b.1.2.2.1, b.1.2.2.2⟩, b.2) else none
  else none
 else none
def recsP (s : ByteArray) : Nat → Nat → Option (List Rr × Nat)
 | 0, a => some ([], a)
 | k + 1, a => (recP s a).bind fun r => (recsP s k r.2).bind fun l => some (r.1 :: l.1, l.2)
def okFl (n : Nat) : Bool := n == 0 || n == 2 || n == 128 || n == 130
def msgP (s : ByteArray) : Option Ms :=
 (twoP s 0).bind fun i => (byteP s i.2).bind fun a => (byteP s a.2).bind fun b => if (okFl a.1 && decide (b.1 < 16)) = true then
  (twoP s b.2).bind fun c => if c.1 = 1 then
   (twoP s c.2).bind fun k => if k.1 ≤ 20 then (twoP s k.2).bind fun z => if z.1 = 0 then (twoP s z.2).bind fun y => if y.1 = 0 then
    (nameP s y.2).bind fun n => (twoP s n.2).bind fun t => (twoP s t.2).bind fun d => if d.1 = 1 then
     (recsP s k.1 d.2).bind fun l => if l.2 = s.size then some ⟨i.1, decide (128 ≤ a.1), decide (a.1 % 4 ≥ 2), b.1, n.1, t.1, l.1⟩ else none
    else none
   else none else none else none
  else none
 else none
end Pl
end Go.Proofs.YtjhdlcmecbngkaaDoor
namespace Go.Proofs.YtjhdlcmecbngkaaDoor
open Go Go.RowKit Pl
set_option linter.unusedVariables false
abbrev rdT : TypeId := 72
def rdZ (s : ByteArray) (x : Int) : List Par := [.c (.v (.string s)), .c (.v (.int .i64 x))]
def rdC (s : ByteArray) (a : Nat) : List Par := rdZ s (a : Int)
def wrongV : Value := .iface 68 (.agg #[])
theorem must_fun (row : List V) {b : Bool} (h : b = true) : Fun Tryd.prog 70 [.c (.rptr row 0), .c (.v (.bool b))] [] := by
 subst h
 refine fun_x ck_dns_reader_must rfl ?_
 (refine goI ?_; repeat (intro gg; refine goI ?_))
 (exact ⟨[], aI⟩)
theorem must_die (row : List V) {b : Bool} (h : b = false) : FunDie Tryd.prog 70 [.p (.c (.rptr row 0)), .p (.c (.v (.bool b)))] wrongV := by
 subst h
 refine funDie_x ck_dns_reader_must rfl (nd_b rfl) ?_
 (refine goI ?_; repeat (intro gg; refine goI ?_))
 rfl
theorem byteP_some {s : ByteArray} {a v a' : Nat} (h : byteP s a = some (v, a')) : ∃ c, s[a]? = some c ∧ v = c.toNat ∧ a' = a + 1 ∧ a < s.size := by
 unfold byteP at h
 obtain ⟨c, h1, h2⟩ := Option.map_eq_some_iff.1 h
 cases h2
 refine ⟨c, h1, rfl, rfl, ?_⟩
 exact (getElem?_eq_some_iff.1 h1).1
theorem byteP_none {s : ByteArray} {a : Nat} (h : byteP s a = none) : ¬ a < s.size := by
 unfold byteP at h
 intro q
 rw [Option.map_eq_none_iff] at h
 simp [q] at h
theorem byte_fun {s : ByteArray} {a v a' : Nat} (h : byteP s a = some (v, a')) (hs : s.size ≤ 1000000) : FunM Tryd.prog 69 [.mn rdT (rdC s a) (rdC s a')] [.p (.c (.v (.int .i64 (v : Int))))] := by
 obtain ⟨c, h1, rfl, rfl, hlt⟩ := byteP_some h
 rw [show rdC s (a + 1) = rdZ s ((a : Int) + 1) from rfl]
 have hc : c.toNat < 256 := c.toNat_lt
 refine funM_x ck_dns_reader_byte rfl rfl (nd_b rfl) ?_
 (refine goI ?_; repeat (intro gg; refine goI ?_))
 (refine .inl ⟨_, _, true, [], aI, must_fun _ (decide_eq_true (by omega)), (fun _ => fI), nI, ?_⟩)
 (refine goI ?_; repeat (intro gg; refine goI ?_))
 refine ⟨a, c, by omega, h1, ?_⟩
 (refine goI ?_; repeat (intro gg; refine goI ?_))
 (exact ⟨0 :: ([] ++ []), aM_same (by first | exact cl_b rfl | assumption) (aM_pn (gone := []) (gone1 := []) rfl aI (by decide) (by decide) (by decide) (.nil _))⟩)
theorem byte_die {s : ByteArray} {a : Nat} {R : List Par} (h : byteP s a = none) (hs : s.size ≤ 1000000) : FunDie Tryd.prog 69 [.mn rdT (rdC s a) R] wrongV := by
 have hlt := byteP_none h
 refine funDie_x ck_dns_reader_byte rfl (nd_b rfl) ?_
 (refine goI ?_; repeat (intro gg; refine goI ?_))
 (exact .inr (.inr ⟨_, true, [], _, aM, must_die _ (decide_eq_false (by omega)), rfl⟩))
theorem byteP_bd {s : ByteArray} {a v a' : Nat} (h : byteP s a = some (v, a')) : v < 256 ∧ a' = a + 1 ∧ a' ≤ s.size := by
 obtain ⟨c, _, rfl, rfl, h4⟩ := byteP_some h
 exact ⟨c.toNat_lt, rfl, h4⟩
theorem orP {x y : Nat} (k : Nat) (hy : y < 2 ^ k) (hx : x * 2 ^ k + y < 9223372036854775808) : IntKind.i64.wrap ((BitVec.ofInt IntKind.i64.bits ((x * 2 ^ k : Nat) : Int) ||| BitVec.ofInt IntKind.i64.bits (y : Int)).toNat) = ((x * 2 ^ k + y : Nat) : Int) := by
 have e1 : (BitVec.ofInt IntKind.i64.bits ((x * 2 ^ k : Nat) : Int) ||| BitVec.ofInt IntKind.i64.bits (y : Int)).toNat = x * 2 ^ k + y := by
  show (BitVec.ofInt 64 ((x * 2 ^ k : Nat) : Int) ||| BitVec.ofInt 64 (y : Int)).toNat = _
  rw [BitVec.toNat_or, BitVec.ofInt_natCast, BitVec.ofInt_natCast, BitVec.toNat_ofNat, BitVec.toNat_ofNat, Nat.mod_eq_of_lt (by omega), Nat.mod_eq_of_lt (by omega), Nat.mul_comm, ← Nat.two_pow_add_eq_or_of_lt hy]
 rw [e1, wrap_ok (by omega) (by omega)]
theorem shl8 {x : Nat} (h : x < 256) : IntKind.i64.wrap ((x : Int) * 2 ^ min (Int.toNat 8) IntKind.i64.bits) = ((x * 2 ^ 8 : Nat) : Int) := by
 show IntKind.i64.wrap ((x : Int) * 256) = _
 rw [wrap_ok (by omega) (by omega)]
 omega
theorem shl16 {x : Nat} (h : x < 65536) : IntKind.i64.wrap ((x : Int) * 2 ^ min (Int.toNat 16) IntKind.i64.bits) = ((x * 2 ^ 16 : Nat) : Int) := by
 show IntKind.i64.wrap ((x : Int) * 65536) = _
 rw [wrap_ok (by omega) (by omega)]
 omega
theorem or8 {x y : Nat} (hx : x < 256) (hy : y < 256) : IntKind.i64.wrap ((BitVec.ofInt IntKind.i64.bits ((x * 2 ^ 8 : Nat) : Int) ||| BitVec.ofInt IntKind.i64.bits (y : Int)).toNat) = ((x * 256 + y : Nat) : Int) := orP 8 (by omega) (by omega)
theorem or16 {x y : Nat} (hx : x < 65536) (hy : y < 65536) : IntKind.i64.wrap ((BitVec.ofInt IntKind.i64.bits ((x * 2 ^ 16 : Nat) : Int) ||| BitVec.ofInt IntKind.i64.bits (y : Int)).toNat) = ((x * 65536 + y : Nat) : Int) := orP 16 (by omega) (by omega)
theorem rtwo_fun {s : ByteArray} {a a' : Nat} {v : Nat} (h : twoP s a = some (v, a')) (hs : s.size ≤ 1000000) : FunM Tryd.prog 68 [.mn rdT (rdC s a) (rdC s a')] [.p (.c (.v (.int .i64 (v : Int))))] := by
 unfold twoP at h
 refine funM_x ck_dns_reader_two rfl rfl (nd_b rfl) ?_
 (refine goI ?_; repeat (intro gg; refine goI ?_))
 rcases e1 : byteP s a with _ | ⟨x, a1⟩
 ·rw [e1] at h; cases h
 rw [e1, Option.bind_some] at h
 simp only at h
 have be1 := byteP_bd e1
 (refine .inr (.inl ⟨_, _, false, 0 :: ([] ++ []), ?_, byte_fun e1 hs, nobor, oI, dI, ?_⟩); focus (exact aM_mn (gone := []) (gone1 := []) rfl aI (by decide) (by decide) (by decide) rfl aM))
 (refine goI ?_; repeat (intro gg; refine goI ?_))
 refine ⟨by decide, _, shl8 be1.1, ?_⟩
 (refine goI ?_; repeat (intro gg; refine goI ?_))
 rcases e2 : byteP s a1 with _ | ⟨y, a2⟩
 ·rw [e2] at h; cases h
 rw [e2, Option.bind_some] at h
 simp only at h
 have be2 := byteP_bd e2
 (refine .inr (.inl ⟨_, _, false, 0 :: ([] ++ []), ?_, byte_fun e2 hs, nobor, oI, dI, ?_⟩); focus (exact aM_mn (gone := []) (gone1 := []) rfl aI (by decide) (by decide) (by decide) rfl aM))
 (refine goI ?_; repeat (intro gg; refine goI ?_))
 refine ⟨_, or8 be1.1 be2.1, ?_⟩
 (refine goI ?_; repeat (intro gg; refine goI ?_))
 cases h
 (exact ⟨0 :: ([] ++ []), aM_same (by first | exact cl_b rfl | assumption) (aM_pn (gone := []) (gone1 := []) rfl aI (by decide) (by decide) (by decide) (.nil _))⟩)
theorem rtwo_die {s : ByteArray} {a : Nat} {R : List Par} (h : twoP s a = none) (hs : s.size ≤ 1000000) : FunDie Tryd.prog 68 [.mn rdT (rdC s a) R] wrongV := by
 unfold twoP at h
 refine funDie_x ck_dns_reader_two rfl (nd_b rfl) ?_
 (refine goI ?_; repeat (intro gg; refine goI ?_))
 rcases e1 : byteP s a with _ | ⟨x, a1⟩
 ·(refine .inr (.inr ⟨_, false, 0 :: ([] ++ []), _, ?_, byte_die (R := rdC s 0) e1 hs, rfl⟩); focus (exact aM_mn (gone := []) (gone1 := []) rfl aI (by decide) (by decide) (by decide) rfl aM))
 rw [e1, Option.bind_some] at h
 simp only at h
 have be1 := byteP_bd e1
 (refine .inr (.inl ⟨_, _, false, 0 :: ([] ++ []), ?_, byte_fun e1 hs, nobor, oI, dI, ?_⟩); focus (exact aM_mn (gone := []) (gone1 := []) rfl aI (by decide) (by decide) (by decide) rfl aM))
 (refine goI ?_; repeat (intro gg; refine goI ?_))
 refine ⟨by decide, _, shl8 be1.1, ?_⟩
 (refine goI ?_; repeat (intro gg; refine goI ?_))
 rcases e2 : byteP s a1 with _ | ⟨y, a2⟩
 ·(refine .inr (.inr ⟨_, false, 0 :: ([] ++ []), _, ?_, byte_die (R := rdC s 0) e2 hs, rfl⟩); focus (exact aM_mn (gone := []) (gone1 := []) rfl aI (by decide) (by decide) (by decide) rfl aM))
 rw [e2, Option.bind_some] at h
 simp only at h
 have be2 := byteP_bd e2
 (refine .inr (.inl ⟨_, _, false, 0 :: ([] ++ []), ?_, byte_fun e2 hs, nobor, oI, dI, ?_⟩); focus (exact aM_mn (gone := []) (gone1 := []) rfl aI (by decide) (by decide) (by decide) rfl aM))
 (refine goI ?_; repeat (intro gg; refine goI ?_))
 refine ⟨_, or8 be1.1 be2.1, ?_⟩
 (refine goI ?_; repeat (intro gg; refine goI ?_))
 cases h
theorem twoP_bd {s : ByteArray} {a v a' : Nat} (h : twoP s a = some (v, a')) : v < 65536 ∧ a' = a + 2 ∧ a' ≤ s.size := by
 unfold twoP at h
 rcases e1 : byteP s a with _ | ⟨x, a1⟩
 ·rw [e1] at h; cases h
 rw [e1, Option.bind_some] at h
 simp only at h
 rcases e2 : byteP s a1 with _ | ⟨y, a2⟩
 ·rw [e2] at h; cases h
 rw [e2, Option.bind_some] at h
 cases h
 have b1 := byteP_bd e1
 have b2 := byteP_bd e2
 show x * 256 + y < 65536 ∧ a2 = a + 2 ∧ a2 ≤ s.size
 omega
theorem four_fun {s : ByteArray} {a a' : Nat} {v : Nat} (h : fourP s a = some (v, a')) (hs : s.size ≤ 1000000) : FunM Tryd.prog 85 [.mn rdT (rdC s a) (rdC s a')] [.p (.c (.v (.int .i64 (v : Int))))] := by
 unfold fourP at h
 refine funM_x ck_dns_reader_four rfl rfl (nd_b rfl) ?_
 (refine goI ?_; repeat (intro gg; refine goI ?_))
 rcases e1 : twoP s a with _ | ⟨x, a1⟩
 ·rw [e1] at h; cases h
 rw [e1, Option.bind_some] at h
 simp only at h
 have be1 := twoP_bd e1
 (refine .inr (.inl ⟨_, _, false, 0 :: ([] ++ []), ?_, rtwo_fun e1 hs, nobor, oI, dI, ?_⟩); focus (exact aM_mn (gone := []) (gone1 := []) rfl aI (by decide) (by decide) (by decide) rfl aM))
 (refine goI ?_; repeat (intro gg; refine goI ?_))
 refine ⟨by decide, _, shl16 be1.1, ?_⟩
 (refine goI ?_; repeat (intro gg; refine goI ?_))
 rcases e2 : twoP s a1 with _ | ⟨y, a2⟩
 ·rw [e2] at h; cases h
 rw [e2, Option.bind_some] at h
 simp only at h
 have be2 := twoP_bd e2
 (refine .inr (.inl ⟨_, _, false, 0 :: ([] ++ []), ?_, rtwo_fun e2 hs, nobor, oI, dI, ?_⟩); focus (exact aM_mn (gone := []) (gone1 := []) rfl aI (by decide) (by decide) (by decide) rfl aM))
 (refine goI ?_; repeat (intro gg; refine goI ?_))
 refine ⟨_, or16 be1.1 be2.1, ?_⟩
 (refine goI ?_; repeat (intro gg; refine goI ?_))
 cases h
 (exact ⟨0 :: ([] ++ []), aM_same (by first | exact cl_b rfl | assumption) (aM_pn (gone := []) (gone1 := []) rfl aI (by decide) (by decide) (by decide) (.nil _))⟩)
theorem four_die {s : ByteArray} {a : Nat} {R : List Par} (h : fourP s a = none) (hs : s.size ≤ 1000000) : FunDie Tryd.prog 85 [.mn rdT (rdC s a) R] wrongV := by
 unfold fourP at h
 refine funDie_x ck_dns_reader_four rfl (nd_b rfl) ?_
 (refine goI ?_; repeat (intro gg; refine goI ?_))
 rcases e1 : twoP s a with _ | ⟨x, a1⟩
 ·(refine .inr (.inr ⟨_, false, 0 :: ([] ++ []), _, ?_, rtwo_die (R := rdC s 0) e1 hs, rfl⟩); focus (exact aM_mn (gone := []) (gone1 := []) rfl aI (by decide) (by decide) (by decide) rfl aM))
 rw [e1, Option.bind_some] at h
 simp only at h
 have be1 := twoP_bd e1
 (refine .inr (.inl ⟨_, _, false, 0 :: ([] ++ []), ?_, rtwo_fun e1 hs, nobor, oI, dI, ?_⟩); focus (exact aM_mn (gone := []) (gone1 := []) rfl aI (by decide) (by decide) (by decide) rfl aM))
 (refine goI ?_; repeat (intro gg; refine goI ?_))
 refine ⟨by decide, _, shl16 be1.1, ?_⟩
 (refine goI ?_; repeat (intro gg; refine goI ?_))
 rcases e2 : twoP s a1 with _ | ⟨y, a2⟩
 ·(refine .inr (.inr ⟨_, false, 0 :: ([] ++ []), _, ?_, rtwo_die (R := rdC s 0) e2 hs, rfl⟩); focus (exact aM_mn (gone := []) (gone1 := []) rfl aI (by decide) (by decide) (by decide) rfl aM))
 rw [e2, Option.bind_some] at h
 simp only at h
 have be2 := twoP_bd e2
 (refine .inr (.inl ⟨_, _, false, 0 :: ([] ++ []), ?_, rtwo_fun e2 hs, nobor, oI, dI, ?_⟩); focus (exact aM_mn (gone := []) (gone1 := []) rfl aI (by decide) (by decide) (by decide) rfl aM))
 (refine goI ?_; repeat (intro gg; refine goI ?_))
 refine ⟨_, or16 be1.1 be2.1, ?_⟩
 (refine goI ?_; repeat (intro gg; refine goI ?_))
 cases h
theorem fourP_bd {s : ByteArray} {a v a' : Nat} (h : fourP s a = some (v, a')) : v < 4294967296 ∧ a' = a + 4 ∧ a' ≤ s.size := by
 unfold fourP at h
 rcases e1 : twoP s a with _ | ⟨x, a1⟩
 ·rw [e1] at h; cases h
 rw [e1, Option.bind_some] at h
 simp only at h
 rcases e2 : twoP s a1 with _ | ⟨y, a2⟩
 ·rw [e2] at h; cases h
 rw [e2, Option.bind_some] at h
 cases h
 have b1 := twoP_bd e1
 have b2 := twoP_bd e2
 show x * 65536 + y < 4294967296 ∧ a2 = a + 4 ∧ a2 ≤ s.size
 omega
end Go.Proofs.YtjhdlcmecbngkaaDoor
namespace Go.Proofs.YtjhdlcmecbngkaaDoor
open Go Go.RowKit Pl
set_option linter.unusedVariables false
def SmR (w : World) (B n : Nat) (l : List UInt8) : Prop :=
 ∃ C hi, w.heap[B]? = some (.cells C 5 (C.size, hi)) ∧ n ≤ C.size ∧ l.length = n ∧ ∀ (j : Nat) (x : UInt8), l[j]? = some x → C[j]? = some (Value.int .u8 (x.toNat : Int))
theorem SmR.cell {w : World} {B n : Nat} {l : List UInt8} (h : SmR w B n l) {j : Nat} {x : UInt8} (hx : l[j]? = some x) : w.cell? ⟨B, j, none⟩ = some (.int .u8 (x.toNat : Int)) := by
 obtain ⟨C, hi, h1, h2, h3, h4⟩ := h
 unfold World.cell?
 rw [h1]
 exact h4 j x hx
theorem SmR.frozen {w : World} {B n : Nat} {l : List UInt8} (h : SmR w B n l) {j : Nat} (hj : j < n) : w.frozen? ⟨B, j, none⟩ = false := by
 obtain ⟨C, hi, h1, h2, h3, h4⟩ := h
 unfold World.frozen?
 simp only [h1]
 simp; omega
theorem SmR.drew {w : World} {B n : Nat} {l : List UInt8} (h : SmR w B n l) : SmR w.drew B n l := by
 obtain ⟨C, hi, h1, h2⟩ := h
 exact ⟨C, hi, h1, h2⟩
theorem SmR.set {w : World} {B n : Nat} {l : List UInt8} (h : SmR w B n l) {j : Nat} (x : UInt8) : SmR (w.setCell ⟨B, j, none⟩ (.int .u8 (x.toNat : Int))) B n (l.set j x) := by
 obtain ⟨C, hi, h1, h2, h3, h4⟩ := h
 refine ⟨C.setIfInBounds j (.int .u8 (x.toNat : Int)), hi, ?_, by simpa using h2, by simpa using h3, fun i y hy => ?_⟩
 ·simp [World.setCell, Array.getElem?_modify, h1]
 ·rw [List.getElem?_set] at hy
  split at hy
  ·subst j
   split at hy
   ·cases hy
    have : i < C.size := by omega
    simp [this]
   ·cases hy
  ·rename_i hne
   have := h4 i y hy
   rw [Array.getElem?_setIfInBounds_ne hne]
   exact this
def smK (s : ByteArray) (k : Nat) : List UInt8 := (s.data.toList.take k).map smallU ++ s.data.toList.drop k
theorem smK_len (s : ByteArray) (k : Nat) : (smK s k).length = s.size := by
 unfold smK
 have : s.data.toList.length = s.size := by simp
 simp; omega
theorem smK_at {s : ByteArray} {k : Nat} (h : k < s.size) : (smK s k)[k]? = some s[k] := by
 unfold smK
 have e : s.data.toList.length = s.size := by simp
 rw [List.getElem?_append_right (by simp; omega)]
 simp [Nat.min_eq_left (Nat.le_of_lt h), h]
 rfl
theorem smK_next {s : ByteArray} {k : Nat} (h : k < s.size) : smK s (k + 1) = (smK s k).set k (smallU s[k]) := by
 have e : s.data.toList.length = s.size := by simp
 apply List.ext_getElem?
 intro i
 rw [List.getElem?_set]
 unfold smK
 rcases Nat.lt_trichotomy i k with g | rfl | g
 ·rw [if_neg (by omega), List.getElem?_append_left (by simp; omega), List.getElem?_append_left (by simp; omega)]
  simp [g, Nat.lt_succ_of_lt g]
 ·rw [if_pos rfl, if_pos (by have := smK_len s i; unfold smK at this; omega), List.getElem?_append_left (by simp; omega)]
  simp [h]
  rfl
 ·rw [if_neg (by omega), List.getElem?_append_right (by simp; omega), List.getElem?_append_right (by simp; omega)]
  simp [List.getElem?_drop]
  congr 1; omega
theorem smK_same {s : ByteArray} {k : Nat} (h : k < s.size) (hx : smallU s[k] = s[k]) : smK s (k + 1) = smK s k := by
 rw [smK_next h, hx]
 have h1 := smK_at h
 apply List.ext_getElem?
 intro i
 rw [List.getElem?_set]
 split
 ·subst i
  rw [h1]
  split <;> first | rfl | (exfalso; have := smK_len s k; omega)
 ·rfl
theorem smK_end (s : ByteArray) : (⟨(smK s s.size).toArray⟩ : ByteArray) = smallB s := by
 have e : s.data.toList.length = s.size := by simp
 unfold smK smallB
 rw [List.take_of_length_le (by omega), List.drop_eq_nil_of_le (by omega), List.append_nil]
theorem sm_rel {s : ByteArray} {wr : World} {B k : Nat} {c : UInt8} (h : SmR wr B s.size (smK s k)) (hlt : k < s.size) (hc : c = s[k]) (h65 : (65 : Int) ≤ (c.toNat : Int)) (h90 : (c.toNat : Int) ≤ 90) : SmR (wr.setCell ⟨B, k, none⟩ (.int .u8 ((c.toNat : Int) + 32))) B s.size (smK s (k + 1)) := by
 have e : ((c.toNat : Int) + 32) = ((smallU c).toNat : Int) := by
  unfold smallU
  rw [if_pos ⟨by omega, by omega⟩, UInt8.toNat_add]
  show _ = (((c.toNat + 32) % 256 : Nat) : Int)
  omega
 rw [e, smK_next hlt, ← hc]
 exact h.set _
theorem sm_rel2 {s : ByteArray} {wr : World} {B k : Nat} {c : UInt8} (h : SmR wr B s.size (smK s k)) (hlt : k < s.size) (hc : c = s[k]) (hn : ¬ ((65 : Int) ≤ (c.toNat : Int) ∧ (c.toNat : Int) ≤ 90)) : SmR wr B s.size (smK s (k + 1)) := by
 rw [smK_same hlt]
 ·exact h
 ·rw [← hc]
  unfold smallU
  rw [if_neg (by omega)]
theorem sm_below {w wr : World} {B : Nat} (h : Below B w wr) (k : Nat) (v : Value) : Below B w (wr.setCell ⟨B, k, none⟩ v) := Below.setCell h (Nat.le_refl _) _
theorem sm_back {s : ByteArray} {wr : World} {B : Nat} (h : SmR wr B s.size (smK s s.size)) (cap : Nat) : (convert 82 9 (.slice (some ⟨B, 0, none⟩) s.size cap)).run Tryd.prog wr = .ok (.string (smallB s)) wr := by
 have key := run_convert_bytes_arg (P := Tryd.prog) wr 82 5 Tryd.underlying82 Tryd.underlying5 B 0 ((smK s s.size).map fun b : UInt8 => (b.toNat : Int)).length cap ((smK s s.size).map fun b : UInt8 => (b.toNat : Int)) rfl (fun i hi => by
  rw [List.length_map] at hi
  have hx : (smK s s.size)[i]? = some (smK s s.size)[i] := List.getElem?_eq_getElem hi
  have := h.cell hx
  rw [Nat.zero_add, this]
  simp [List.getD, hi]) 9 Tryd.underlying9
 rw [List.length_map, smK_len] at key
 rw [key, ← strNs_eq, ← smK_end]
 have e : strNs ((smK s s.size).map fun b : UInt8 => (b.toNat : Int)) = ⟨(smK s s.size).toArray⟩ := by
  unfold strNs
  rw [List.map_map, show ((fun n : Int => UInt8.ofNat n.toNat) ∘ fun b : UInt8 => (b.toNat : Int)) = id from funext fun b => by simp, List.map_id]
 rw [e]
set_option maxRecDepth 100000 in
theorem small_any (s : ByteArray) (w : World) (hs : s.size ≤ 1000000) :
  Calls Tryd.prog 83 #[.string s] w fun e w' => e = .returned (.string (smallB s)) ∧ Below w.heap.size w w' := by
 obtain ⟨cap, C, fr, hrun, hR⟩ : ∃ (cap : Nat) (C : Array Value) (fr : Nat × Nat), (convert 9 82 (.string s)).run Tryd.prog w = .ok (.slice (some ⟨w.heap.size, 0, none⟩) s.size cap) (w.drew.alloc (.cells C 5 fr)) ∧ SmR (w.alloc (.cells C 5 fr)).drew w.heap.size s.size (smK s 0) := by
  refine ⟨_, _, _, run_bytes_of_string w 9 82 5 s Tryd.underlying9 Tryd.underlying82 Tryd.underlying5, ?_⟩
  refine ⟨_, _, heap_alloc_new w _, by unfold bytesRow; simp, smK_len s 0, fun j x hx => ?_⟩
  have hj : j < s.data.size := by
   have := (List.getElem?_eq_some_iff.1 hx).1
   rw [smK_len] at this; exact this
  rw [bytesRow_at s _ j hj]
  have : (smK s 0)[j]? = some s.data[j] := by unfold smK; simp [hj]
  rw [this] at hx; cases hx; rfl
 have HR := hid hR
 clear hR
 have HB := hid (show Below w.heap.size w (w.alloc (.cells C 5 fr)).drew from (by repeat (first | exact Below.refl _ _ | assumption | refine Below.drew ?_ | refine below_drewN ?_ _ | refine Below.alloc ?_ (by simp; try omega) _ | refine Below.setCell ?_ (by simp; try omega) _)))
 go_enter Tryd.func83, Tryd.ntmps83
 go_wp2
 go_loopw [10] (fun i wr => ∃ k : Nat, k ≤ s.size ∧ i = .int .i64 k ∧ SmR wr w.heap.size s.size (smK s k) ∧ Below w.heap.size w wr) (fun i _ => s.size - (intOf i).toNat)
 case atStart => exact ⟨0, Nat.zero_le _, rfl, HR.out, HB.out⟩
 case round =>
  obtain ⟨k, hk, rfl, hrow, hbw⟩ := hrel
  have HW := hid hrow
  have HL := hid hbw
  clear hrow hbw hrun HR HB
  by_cases hlt : k < s.size
  ·have hcell := HW.out.cell (smK_at hlt)
   have hfro := HW.out.frozen hlt
   have hby : ((s[k]).toNat : Int) ≤ 255 := by have := (s[k]).toNat_lt; omega
   obtain ⟨c, hc⟩ : ∃ c, c = s[k] := ⟨_, rfl⟩
   have HC := hid hc
   rw [← hc] at hcell hby
   clear hc
   by_cases h65 : (65 : Int) ≤ (c.toNat : Int)
   ·by_cases h90 : (c.toNat : Int) ≤ 90
    ·go_wp2
     go_round
     case rel => exact ⟨k + 1, by omega, rfl, sm_rel HW.out hlt HC.out h65 h90, sm_below HL.out _ _⟩
     case measure => simp [intOf]; omega
    ·go_wp2
     go_round
     case rel => exact ⟨k + 1, by omega, rfl, sm_rel2 HW.out hlt HC.out (fun q => h90 q.2), HL.out⟩
     case measure => simp [intOf]; omega
   ·go_wp2
    go_round
    case rel => exact ⟨k + 1, by omega, rfl, sm_rel2 HW.out hlt HC.out (fun q => h65 q.1), HL.out⟩
    case measure => simp [intOf]; omega
  ·obtain rfl : k = s.size := by omega
   have hback := sm_back HW.out cap
   go_wp2
   go_ret
   exact ⟨rfl, HL.out⟩
theorem small_fun (s : ByteArray) (hs : s.size ≤ 1000000) : Fun Tryd.prog 83 [.c (.v (.string s))] [.c (.v (.string (smallB s)))] :=
 fun_flat (xs := [.string s]) (callable Tryd.func83 (by kernel_rfl) (by kernel_rfl)) fun w => (small_any s w hs).mono fun e w' h => ⟨h.1, h.2⟩
end Go.Proofs.YtjhdlcmecbngkaaDoor
namespace Go.Proofs.YtjhdlcmecbngkaaDoor
open Go Go.RowKit Pl
set_option linter.unusedVariables false
theorem bytesP_bd {s : ByteArray} {a n : Nat} {v : ByteArray} {a' : Nat} (h : bytesP s a n = some (v, a')) : a + n ≤ s.size ∧ v = s.extract a (a + n) ∧ a' = a + n ∧ v.size = n := by
 unfold bytesP at h
 split at h
 ·cases h
  refine ⟨by assumption, rfl, rfl, ?_⟩
  rw [ByteArray.size_extract]; omega
 ·cases h
theorem bytesP_no {s : ByteArray} {a n : Nat} (h : bytesP s a n = none) : ¬ a + n ≤ s.size := by
 unfold bytesP at h
 split at h
 ·cases h
 ·assumption
theorem bytes_fun {s : ByteArray} {a n : Nat} {v : ByteArray} {a' : Nat} (h : bytesP s a n = some (v, a')) (hs : s.size ≤ 1000000) (ha : a ≤ s.size) (hn : n ≤ 1000000) : FunM Tryd.prog 84 [.mn rdT (rdC s a) (rdC s a'), .p (.c (.v (.int .i64 (n : Int))))] [.p (.c (.v (.string v)))] := by
 obtain ⟨h1, rfl, rfl, _⟩ := bytesP_bd h
 rw [show rdC s (a + n) = rdZ s ((a : Int) + (n : Int)) from rfl]
 refine funM_x ck_dns_reader_bytes rfl rfl (nd_b rfl) ?_
 (refine goI ?_; repeat (intro gg; refine goI ?_))
 (refine .inl ⟨_, _, true, [], aI, must_fun _ (decide_eq_true (by omega)), (fun _ => fI), nI, ?_⟩)
 (refine goI ?_; repeat (intro gg; refine goI ?_))
 refine ⟨a, a + n, ⟨_, congrArg (fun z => V.v (Value.int .i64 z)) (show (a : Int) + (n : Int) - (n : Int) = (a : Int) by omega)⟩, ⟨_, rfl⟩, by omega, by omega, ?_⟩
 (refine goI ?_; repeat (intro gg; refine goI ?_))
 (exact ⟨0 :: ([] ++ []), aM_same (by first | exact cl_b rfl | assumption) (aM_pn (gone := []) (gone1 := []) rfl aI (by decide) (by decide) (by decide) (.nil _))⟩)
theorem bytes_die {s : ByteArray} {a n : Nat} {R : List Par} (h : bytesP s a n = none) (hs : s.size ≤ 1000000) (ha : a ≤ s.size) (hn : n ≤ 1000000) : FunDie Tryd.prog 84 [.mn rdT (rdC s a) R, .p (.c (.v (.int .i64 (n : Int))))] wrongV := by
 have h1 := bytesP_no h
 refine funDie_x ck_dns_reader_bytes rfl (nd_b rfl) ?_
 (refine goI ?_; repeat (intro gg; refine goI ?_))
 (exact .inr (.inr ⟨_, true, [], _, aM, must_die _ (decide_eq_false (by omega)), rfl⟩))
end Go.Proofs.YtjhdlcmecbngkaaDoor
namespace Go.Proofs.YtjhdlcmecbngkaaDoor
open Go Go.RowKit Pl
set_option linter.unusedVariables false
def endI (e : Option Nat) : Int := e.elim (-1) fun n => (n : Int)
theorem and63 {n : Nat} (h : n < 256) : IntKind.i64.wrap ((BitVec.ofInt IntKind.i64.bits (n : Int) &&& BitVec.ofInt IntKind.i64.bits 63).toNat) = ((n % 64 : Nat) : Int) := by
 have e1 : (BitVec.ofInt IntKind.i64.bits (n : Int) &&& BitVec.ofInt IntKind.i64.bits 63).toNat = n % 64 := by
  show (BitVec.ofInt 64 (n : Int) &&& BitVec.ofInt 64 63).toNat = _
  rw [BitVec.toNat_and]
  have a1 : (BitVec.ofInt 64 (n : Int)).toNat = n := by
   rw [BitVec.ofInt_natCast, BitVec.toNat_ofNat]; exact Nat.mod_eq_of_lt (by omega)
  have a2 : (BitVec.ofInt 64 63).toNat = 2 ^ 6 - 1 := by decide
  rw [a1, a2, Nat.and_two_pow_sub_one_eq_mod]
 rw [e1, wrap_ok (by omega) (by omega)]
structure NmI (s : ByteArray) (R : Option (List ByteArray × Nat)) (a : Nat) (l : List ByteArray) (e : Option Nat) (fr f : Nat) : Prop where
 hr : nameR s f a l e fr = R
 ha : a ≤ s.size
 hfr : fr ≤ s.size
 hl : l.length ≤ 9
 hf : fr + 9 < f + l.length
 hz : ∀ x ∈ l, x.size ≤ 30
 he : ∀ n, e = some n → n ≤ s.size
theorem joinB_size {l : List ByteArray} (h : ∀ x ∈ l, x.size ≤ 30) (hl : l.length ≤ 9) : (joinB ⟨#[46]⟩ l).size ≤ 1000 := by
 have key : ∀ l : List ByteArray, (∀ x ∈ l, x.size ≤ 30) → (Lib.join (l.map (·.data.toList)) [46]).length ≤ 31 * l.length := by
  intro l
  induction l with
  | nil => intro _; simp [Lib.join]
  | cons x l ih =>
   intro h
   have h1 := h x (by simp)
   have h2 := ih fun y hy => h y (by simp [hy])
   have h3 : x.data.toList.length = x.size := by simp
   cases l with
   | nil => simp [Lib.join]; omega
   | cons y l =>
    have e : Lib.join ((x :: y :: l).map (·.data.toList)) [46] = x.data.toList ++ [46] ++ Lib.join ((y :: l).map (·.data.toList)) [46] := by simp [Lib.join]
    rw [e]
    simp only [List.length_append, List.length_cons, List.length_nil] at h2 ⊢
    omega
 have := key l h
 unfold joinB
 show (Lib.join (l.map (·.data.toList)) [46]).toArray.size ≤ 1000
 rw [List.size_toArray]
 omega
theorem smallB_size (x : ByteArray) : (smallB x).size = x.size := by
 unfold smallB
 show (x.data.toList.map smallU).toArray.size = _
 simp
theorem lab_size' {x : ByteArray} (h : lab x.data.toList = true) : x.size ≤ 30 := by
 unfold lab at h
 simp at h
 have : x.data.toList.length = x.size := by rw [Array.length_toList]; rfl
 omega
theorem e_set {e : Option Nat} {k S : Nat} (h : ∀ n, e = some n → n ≤ S) (hk : k ≤ S) : ∀ n, some (e.getD k) = some n → n ≤ S := by
 intro n hn
 cases hn
 cases e with
 | none => exact hk
 | some m => exact h m rfl
theorem sz_app {l : List ByteArray} {x : ByteArray} {S : Nat} (h : ∀ y ∈ l, y.size ≤ S) (hx : x.size ≤ S) : ∀ y ∈ l ++ [x], y.size ≤ S := by
 intro y hy
 rcases List.mem_append.1 hy with hy | hy
 ·exact h y hy
 ·simp at hy; subst hy; exact hx
set_option maxHeartbeats 2000000 in
theorem rname_fun {s : ByteArray} {a a' : Nat} {v : ByteArray} (h : nameP s a = some (v, a')) (hs : s.size ≤ 1000000) (ha : a ≤ s.size) : FunM Tryd.prog 71 [.mn rdT (rdC s a) (rdC s a')] [.p (.c (.v (.string v)))] := by
 obtain ⟨⟨ls, a2⟩, hr, hv⟩ := Option.map_eq_some_iff.1 h
 simp only [Prod.mk.injEq] at hv
 obtain ⟨rfl, rfl⟩ := hv
 refine funM_x ck_dns_reader_name rfl rfl (nd_b rfl) ?_
 (refine goI ?_; repeat (intro gg; refine goI ?_))
 (refine ⟨[(3, 48, 9, 1)], none, {p : Nat × List ByteArray × Option Nat × Nat × Nat × Nat // NmI s (some (ls, a2)) p.1 p.2.1 p.2.2.1 p.2.2.2.1 p.2.2.2.2.1}, [0], fun ⟨⟨k, l, e, fr, f, g⟩, hp⟩ => [(3, .own 48 g), (4, .v (.int .i64 (endI e))), (5, .v (.int .i64 (fr : Int)))], [], fun ⟨⟨k, l, e, fr, f, g⟩, hp⟩ => [(48, ⟨g, 9, 1, l.map sRow⟩), (0, ⟨0, .b rdT, 2, [[.v (.string s), .v (.int .i64 (k : Int))]]⟩)], fun ⟨⟨k, l, e, fr, f, g⟩, hp⟩ => f, (by exact ⟨rfl, by decide, (fun _ _ _ _ h => by cases h), trivial⟩), fun gs => ⟨trivial, fun _ => ⟨⟨(a, [], none, a, a + 10, gs 48), ⟨hr, ha, ha, by simp, by simp, by simp, by simp⟩⟩, tI, tI, tI, tI⟩⟩, fun ⟨⟨k, l, e, fr, f, g⟩, hp⟩ => ?_⟩)
 obtain ⟨hp1, hp2, hp3, hp4, hp5, hp6, hp7⟩ := hp
 simp only at hp1 hp2 hp3 hp4 hp5 hp6 hp7
 rcases f with _ | f
 ·exfalso; omega
 rw [nameR] at hp1
 (refine goI ?_; repeat (intro gg; refine goI ?_))
 rw [List.length_map]
 by_cases c1 : l.length ≤ 8
 ·rw [if_pos c1] at hp1
  (refine .inl ⟨_, _, true, [], aI, must_fun _ (decide_eq_true (by omega)), (fun _ => fI), nI, ?_⟩)
  (refine goI ?_; repeat (intro gg; refine goI ?_))
  rcases e1 : byteP s k with _ | ⟨n, k1⟩
  ·rw [e1] at hp1; cases hp1
  rw [e1, Option.bind_some] at hp1
  simp only at hp1
  have b1 := byteP_bd e1
  (refine .inr (.inl ⟨_, _, false, 0 :: ([] ++ []), ?_, byte_fun e1 hs, nobor, oI, dI, ?_⟩); focus (exact aM_mn (gone := []) (gone1 := []) rfl aI (by decide) (by decide) (by decide) rfl aM))
  (refine goI ?_; repeat (intro gg; refine goI ?_))
  by_cases c2 : n = 0
  ·rw [if_pos c2] at hp1
   (refine bIf_true ?_ ?_; focus (simp [c2]))
   have hj := joinB_size hp6 hp4
   obtain ⟨e4, e5⟩ : l = ls ∧ e.getD k1 = a2 := by simpa using hp1
   subst e4 e5
   (refine goI ?_; repeat (intro gg; refine goI ?_))
   rcases e with _ | m
   ·rw [show decide ((0 : Int) ≤ endI none) = false from rfl]
    (refine goI ?_; repeat (intro gg; refine goI ?_))
    (refine .inl ⟨_, _, true, [], aI, join_fun false l ⟨#[46]⟩ (by omega) (by omega), (fun _ => fI), nI, ?_⟩)
    (refine goI ?_; repeat (intro gg; refine goI ?_))
    (exact ⟨0 :: ([] ++ []), aM_same (by first | exact cl_b rfl | assumption) (aM_pn (gone := []) (gone1 := []) rfl aI (by decide) (by decide) (by decide) (.nil _))⟩)
   ·rw [show decide ((0 : Int) ≤ endI (some m)) = true from decide_eq_true (Int.natCast_nonneg m)]
    (refine goI ?_; repeat (intro gg; refine goI ?_))
    (refine .inl ⟨_, _, true, [], aI, join_fun false l ⟨#[46]⟩ (by omega) (by omega), (fun _ => fI), nI, ?_⟩)
    (refine goI ?_; repeat (intro gg; refine goI ?_))
    (exact ⟨0 :: ([] ++ []), aM_same (by first | exact cl_b rfl | assumption) (aM_pn (gone := []) (gone1 := []) rfl aI (by decide) (by decide) (by decide) (.nil _))⟩)
  ·rw [if_neg c2] at hp1
   (refine bIf_false ?_ ?_; focus (simpa using c2))
   (refine goI ?_; repeat (intro gg; refine goI ?_))
   by_cases c3 : 192 ≤ n
   ·rw [if_pos c3] at hp1
    (refine bIf_true ?_ ?_; focus (exact decide_eq_true (by omega)))
    (refine goI ?_; repeat (intro gg; refine goI ?_))
    refine ⟨_, and63 b1.1, ?_⟩
    (refine goI ?_; repeat (intro gg; refine goI ?_))
    refine ⟨by decide, _, shl8 (by omega), ?_⟩
    (refine goI ?_; repeat (intro gg; refine goI ?_))
    rcases e2 : byteP s k1 with _ | ⟨q, k2⟩
    ·rw [e2] at hp1; cases hp1
    rw [e2, Option.bind_some] at hp1
    simp only at hp1
    have b2 := byteP_bd e2
    (refine .inr (.inl ⟨_, _, false, 0 :: ([] ++ []), ?_, byte_fun e2 hs, nobor, oI, dI, ?_⟩); focus (exact aM_mn (gone := []) (gone1 := []) rfl aI (by decide) (by decide) (by decide) rfl aM))
    (refine goI ?_; repeat (intro gg; refine goI ?_))
    obtain ⟨to, hto⟩ : ∃ to, to = n % 64 * 256 + q := ⟨_, rfl⟩
    rw [← hto] at hp1
    refine ⟨(to : Int), by rw [hto]; exact or8 (x := n % 64) (by omega) b2.1, ?_⟩
    (refine goI ?_; repeat (intro gg; refine goI ?_))
    rcases e with _ | m
    ·rw [show decide (endI none < (0 : Int)) = true from rfl]
     (refine goI ?_; repeat (intro gg; refine goI ?_))
     by_cases c4 : to < fr
     ·rw [if_pos c4] at hp1
      (refine .inl ⟨_, _, true, [], aI, must_fun _ (decide_eq_true (by omega)), (fun _ => fI), nI, ?_⟩)
      (refine goI ?_; repeat (intro gg; refine goI ?_))
      (exact ⟨none, trivial, fun _ => ⟨⟨(to, l, _, to, f, g), ⟨hp1, show to ≤ s.size by omega, show to ≤ s.size by omega, hp4, show to + 9 < f + l.length by omega, hp6, e_set hp7 (by omega)⟩⟩, by show f < f + 1; omega, tI, tI, tI, tI⟩⟩)
     ·rw [if_neg c4] at hp1; cases hp1
    ·rw [show decide (endI (some m) < (0 : Int)) = false from decide_eq_false (by have := Int.natCast_nonneg m; simp only [endI, Option.elim]; omega)]
     (refine goI ?_; repeat (intro gg; refine goI ?_))
     by_cases c4 : to < fr
     ·rw [if_pos c4] at hp1
      (refine .inl ⟨_, _, true, [], aI, must_fun _ (decide_eq_true (by omega)), (fun _ => fI), nI, ?_⟩)
      (refine goI ?_; repeat (intro gg; refine goI ?_))
      (exact ⟨none, trivial, fun _ => ⟨⟨(to, l, _, to, f, g), ⟨hp1, show to ≤ s.size by omega, show to ≤ s.size by omega, hp4, show to + 9 < f + l.length by omega, hp6, e_set hp7 (by omega)⟩⟩, by show f < f + 1; omega, tI, tI, tI, tI⟩⟩)
     ·rw [if_neg c4] at hp1; cases hp1
   ·rw [if_neg c3] at hp1
    (refine bIf_false ?_ ?_; focus (exact decide_eq_false (by omega)))
    (refine goI ?_; repeat (intro gg; refine goI ?_))
    rcases e3 : bytesP s k1 n with _ | ⟨x, k2⟩
    ·rw [e3] at hp1; cases hp1
    rw [e3, Option.bind_some] at hp1
    simp only at hp1
    have b3 := bytesP_bd e3
    (refine .inr (.inl ⟨_, _, false, 0 :: ([] ++ []), ?_, bytes_fun e3 hs (by omega) (by omega), nobor, oI, dI, ?_⟩); focus (exact aM_mn (gone := []) (gone1 := []) rfl aI (by decide) (by decide) (by decide) rfl aM))
    (refine goI ?_; repeat (intro gg; refine goI ?_))
    have hx : (smallB x).size = x.size := smallB_size x
    (refine .inl ⟨_, _, false, [], aI, small_fun x (by omega), nobor, nI, ?_⟩)
    (refine goI ?_; repeat (intro gg; refine goI ?_))
    (refine .inl ⟨_, _, false, [], aI, label_fun (smallB x) (by omega), nobor, nI, ?_⟩)
    (refine goI ?_; repeat (intro gg; refine goI ?_))
    by_cases c5 : lab (smallB x).data.toList = true
    ·rw [if_pos c5] at hp1
     have hz := lab_size' c5
     (refine .inl ⟨_, _, true, [], aI, must_fun _ c5, (fun _ => fI), nI, ?_⟩)
     (refine goI ?_; repeat (intro gg; refine goI ?_))
     refine ⟨lI, lI, ?_⟩
     (refine goI ?_; repeat (intro gg; refine goI ?_))
     (exact ⟨none, trivial, fun gr => ⟨⟨(k2, l ++ [smallB x], e, fr, f, gg), ⟨hp1, by omega, hp3, by simp; omega, by simp; omega, sz_app hp6 hz, hp7⟩⟩, by show f < f + 1; omega, hxI (List.map_append (f := sRow) (l₁ := l) (l₂ := [smallB x])), hxI (List.map_append (f := sRow) (l₁ := l) (l₂ := [smallB x])), hxI (List.map_append (f := sRow) (l₁ := l) (l₂ := [smallB x])), hxI (List.map_append (f := sRow) (l₁ := l) (l₂ := [smallB x]))⟩⟩)
    ·rw [if_neg c5] at hp1; cases hp1
 ·rw [if_neg c1] at hp1; cases hp1
set_option maxHeartbeats 2000000 in
theorem rname_die {s : ByteArray} {a : Nat} {R : List Par} (h : nameP s a = none) (hs : s.size ≤ 1000000) (ha : a ≤ s.size) : FunDie Tryd.prog 71 [.mn rdT (rdC s a) R] wrongV := by
 have hr := Option.map_eq_none_iff.1 h
 refine funDie_x ck_dns_reader_name rfl (nd_b rfl) ?_
 (refine goI ?_; repeat (intro gg; refine goI ?_))
 (refine ⟨[(3, 48, 9, 1)], none, {p : Nat × List ByteArray × Option Nat × Nat × Nat × Nat // NmI s none p.1 p.2.1 p.2.2.1 p.2.2.2.1 p.2.2.2.2.1}, [0], fun ⟨⟨k, l, e, fr, f, g⟩, hp⟩ => [(3, .own 48 g), (4, .v (.int .i64 (endI e))), (5, .v (.int .i64 (fr : Int)))], [], fun ⟨⟨k, l, e, fr, f, g⟩, hp⟩ => [(48, ⟨g, 9, 1, l.map sRow⟩), (0, ⟨0, .b rdT, 2, [[.v (.string s), .v (.int .i64 (k : Int))]]⟩)], fun ⟨⟨k, l, e, fr, f, g⟩, hp⟩ => f, (by exact ⟨rfl, by decide, (fun _ _ _ _ h => by cases h), trivial⟩), fun gs => ⟨trivial, fun _ => ⟨⟨(a, [], none, a, a + 10, gs 48), ⟨hr, ha, ha, by simp, by simp, by simp, by simp⟩⟩, tI, tI, tI, tI⟩⟩, fun ⟨⟨k, l, e, fr, f, g⟩, hp⟩ => ?_⟩)
 obtain ⟨hp1, hp2, hp3, hp4, hp5, hp6, hp7⟩ := hp
 simp only at hp1 hp2 hp3 hp4 hp5 hp6 hp7
 rcases f with _ | f
 ·exfalso; omega
 rw [nameR] at hp1
 (refine goI ?_; repeat (intro gg; refine goI ?_))
 rw [List.length_map]
 by_cases c1 : l.length ≤ 8
 ·rw [if_pos c1] at hp1
  (refine .inl ⟨_, _, true, [], aI, must_fun _ (decide_eq_true (by omega)), (fun _ => fI), nI, ?_⟩)
  (refine goI ?_; repeat (intro gg; refine goI ?_))
  rcases e1 : byteP s k with _ | ⟨n, k1⟩
  ·(refine .inr (.inr ⟨_, false, 0 :: ([] ++ []), _, ?_, byte_die (R := rdC s 0) e1 hs, rfl⟩); focus (exact aM_mn (gone := []) (gone1 := []) rfl aI (by decide) (by decide) (by decide) rfl aM))
  rw [e1, Option.bind_some] at hp1
  simp only at hp1
  have b1 := byteP_bd e1
  (refine .inr (.inl ⟨_, _, false, 0 :: ([] ++ []), ?_, byte_fun e1 hs, nobor, oI, dI, ?_⟩); focus (exact aM_mn (gone := []) (gone1 := []) rfl aI (by decide) (by decide) (by decide) rfl aM))
  (refine goI ?_; repeat (intro gg; refine goI ?_))
  by_cases c2 : n = 0
  ·rw [if_pos c2] at hp1; cases hp1
  ·rw [if_neg c2] at hp1
   (refine bIf_false ?_ ?_; focus (simpa using c2))
   (refine goI ?_; repeat (intro gg; refine goI ?_))
   by_cases c3 : 192 ≤ n
   ·rw [if_pos c3] at hp1
    (refine bIf_true ?_ ?_; focus (exact decide_eq_true (by omega)))
    (refine goI ?_; repeat (intro gg; refine goI ?_))
    refine ⟨_, and63 b1.1, ?_⟩
    (refine goI ?_; repeat (intro gg; refine goI ?_))
    refine ⟨by decide, _, shl8 (by omega), ?_⟩
    (refine goI ?_; repeat (intro gg; refine goI ?_))
    rcases e2 : byteP s k1 with _ | ⟨q, k2⟩
    ·(refine .inr (.inr ⟨_, false, 0 :: ([] ++ []), _, ?_, byte_die (R := rdC s 0) e2 hs, rfl⟩); focus (exact aM_mn (gone := []) (gone1 := []) rfl aI (by decide) (by decide) (by decide) rfl aM))
    rw [e2, Option.bind_some] at hp1
    simp only at hp1
    have b2 := byteP_bd e2
    (refine .inr (.inl ⟨_, _, false, 0 :: ([] ++ []), ?_, byte_fun e2 hs, nobor, oI, dI, ?_⟩); focus (exact aM_mn (gone := []) (gone1 := []) rfl aI (by decide) (by decide) (by decide) rfl aM))
    (refine goI ?_; repeat (intro gg; refine goI ?_))
    obtain ⟨to, hto⟩ : ∃ to, to = n % 64 * 256 + q := ⟨_, rfl⟩
    rw [← hto] at hp1
    refine ⟨(to : Int), by rw [hto]; exact or8 (x := n % 64) (by omega) b2.1, ?_⟩
    (refine goI ?_; repeat (intro gg; refine goI ?_))
    rcases e with _ | m
    ·rw [show decide (endI none < (0 : Int)) = true from rfl]
     (refine goI ?_; repeat (intro gg; refine goI ?_))
     by_cases c4 : to < fr
     ·rw [if_pos c4] at hp1
      (refine .inl ⟨_, _, true, [], aI, must_fun _ (decide_eq_true (by omega)), (fun _ => fI), nI, ?_⟩)
      (refine goI ?_; repeat (intro gg; refine goI ?_))
      (exact ⟨none, trivial, fun _ => ⟨⟨(to, l, _, to, f, g), ⟨hp1, show to ≤ s.size by omega, show to ≤ s.size by omega, hp4, show to + 9 < f + l.length by omega, hp6, e_set hp7 (by omega)⟩⟩, by show f < f + 1; omega, tI, tI, tI, tI⟩⟩)
     ·(exact .inr (.inr ⟨_, true, [], _, aM, must_die _ (decide_eq_false (by omega)), rfl⟩))
    ·rw [show decide (endI (some m) < (0 : Int)) = false from decide_eq_false (by have := Int.natCast_nonneg m; simp only [endI, Option.elim]; omega)]
     (refine goI ?_; repeat (intro gg; refine goI ?_))
     by_cases c4 : to < fr
     ·rw [if_pos c4] at hp1
      (refine .inl ⟨_, _, true, [], aI, must_fun _ (decide_eq_true (by omega)), (fun _ => fI), nI, ?_⟩)
      (refine goI ?_; repeat (intro gg; refine goI ?_))
      (exact ⟨none, trivial, fun _ => ⟨⟨(to, l, _, to, f, g), ⟨hp1, show to ≤ s.size by omega, show to ≤ s.size by omega, hp4, show to + 9 < f + l.length by omega, hp6, e_set hp7 (by omega)⟩⟩, by show f < f + 1; omega, tI, tI, tI, tI⟩⟩)
     ·(exact .inr (.inr ⟨_, true, [], _, aM, must_die _ (decide_eq_false (by omega)), rfl⟩))
   ·rw [if_neg c3] at hp1
    (refine bIf_false ?_ ?_; focus (exact decide_eq_false (by omega)))
    (refine goI ?_; repeat (intro gg; refine goI ?_))
    rcases e3 : bytesP s k1 n with _ | ⟨x, k2⟩
    ·(refine .inr (.inr ⟨_, false, 0 :: ([] ++ []), _, ?_, bytes_die (R := rdC s 0) e3 hs (by omega) (by omega), rfl⟩); focus (exact aM_mn (gone := []) (gone1 := []) rfl aI (by decide) (by decide) (by decide) rfl aM))
    rw [e3, Option.bind_some] at hp1
    simp only at hp1
    have b3 := bytesP_bd e3
    (refine .inr (.inl ⟨_, _, false, 0 :: ([] ++ []), ?_, bytes_fun e3 hs (by omega) (by omega), nobor, oI, dI, ?_⟩); focus (exact aM_mn (gone := []) (gone1 := []) rfl aI (by decide) (by decide) (by decide) rfl aM))
    (refine goI ?_; repeat (intro gg; refine goI ?_))
    have hx : (smallB x).size = x.size := smallB_size x
    (refine .inl ⟨_, _, false, [], aI, small_fun x (by omega), nobor, nI, ?_⟩)
    (refine goI ?_; repeat (intro gg; refine goI ?_))
    (refine .inl ⟨_, _, false, [], aI, label_fun (smallB x) (by omega), nobor, nI, ?_⟩)
    (refine goI ?_; repeat (intro gg; refine goI ?_))
    by_cases c5 : lab (smallB x).data.toList = true
    ·rw [if_pos c5] at hp1
     have hz := lab_size' c5
     (refine .inl ⟨_, _, true, [], aI, must_fun _ c5, (fun _ => fI), nI, ?_⟩)
     (refine goI ?_; repeat (intro gg; refine goI ?_))
     refine ⟨lI, lI, ?_⟩
     (refine goI ?_; repeat (intro gg; refine goI ?_))
     (exact ⟨none, trivial, fun gr => ⟨⟨(k2, l ++ [smallB x], e, fr, f, gg), ⟨hp1, by omega, hp3, by simp; omega, by simp; omega, sz_app hp6 hz, hp7⟩⟩, by show f < f + 1; omega, hxI (List.map_append (f := sRow) (l₁ := l) (l₂ := [smallB x])), hxI (List.map_append (f := sRow) (l₁ := l) (l₂ := [smallB x])), hxI (List.map_append (f := sRow) (l₁ := l) (l₂ := [smallB x])), hxI (List.map_append (f := sRow) (l₁ := l) (l₂ := [smallB x]))⟩⟩)
    ·(exact .inr (.inr ⟨_, true, [], _, aM, must_die _ (Bool.eq_false_iff.2 c5), rfl⟩))
 ·(exact .inr (.inr ⟨_, true, [], _, aM, must_die _ (decide_eq_false (by omega)), rfl⟩))
end Go.Proofs.YtjhdlcmecbngkaaDoor
