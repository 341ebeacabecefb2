/- PlaceSorts: whatever place, places of nodes and names come in, Sort answers what the reference answers, errors too; no condition. -/
import Derived.Shelf.SlSortCmp.NoneTotal
import Derived.Shelf.SlGeneric
import Derived.Test.YtjhdlcmecbngkaaProg
import Derived.Test.YtjhdlcmecbngkaaZa
/- Layings of the shelf at this seat (printed by a program). -/
namespace Go.Proofs.Ytjhdlcmecbngkaa
open Go.Shelf
def Try.sortI_ren : Go.Shelf.Ren := ⟨fun | 6 => 49 | 15 => 57 | 14 => 65 | 28 => 74 | 29 => 75 | 20 => 79 | 21 => 80 | 22 => 81 | 23 => 82 | 24 => 83 | 25 => 84 | 26 => 85 | 27 => 86 | 46 => 93 | 47 => 88 | 48 => 89 | 49 => 94 | 50 => 95 | 57 => 97 | n => n, fun | 22 => 53 | 24 => 3 | 25 => 52 | 3 => 3 | 39 => 84 | 0 => 0 | 53 => 96 | 55 => 98 | 4 => 4 | 46 => 90 | 45 => 89 | 50 => 61 | 5 => 5 | 9 => 9 | 66 => 105 | 70 => 109 | 76 => 114 | 77 => 115 | n => n, fun | n => n⟩
theorem Try.sortI : Go.Proofs.SlLaysF.n6 Try.prog Try.sortI_ren := {
  mixed := by kernel_rfl
  f6 := ⟨Try.f49.name, by decide, Try.func49.trans (congrArg some (by kernel_rfl))⟩
  f14 := ⟨Try.f65.name, by decide, Try.func65.trans (congrArg some (by kernel_rfl))⟩
  f15 := Try.func57.trans (congrArg some (by kernel_rfl))
  f20 := ⟨Try.f79.name, by decide, Try.func79.trans (congrArg some (by kernel_rfl))⟩
  f21 := ⟨Try.f80.name, by decide, Try.func80.trans (congrArg some (by kernel_rfl))⟩
  f22 := ⟨Try.f81.name, by decide, Try.func81.trans (congrArg some (by kernel_rfl))⟩
  f23 := ⟨Try.f82.name, by decide, Try.func82.trans (congrArg some (by kernel_rfl))⟩
  f24 := ⟨Try.f83.name, by decide, Try.func83.trans (congrArg some (by kernel_rfl))⟩
  f25 := ⟨Try.f84.name, by decide, Try.func84.trans (congrArg some (by kernel_rfl))⟩
  f26 := ⟨Try.f85.name, by decide, Try.func85.trans (congrArg some (by kernel_rfl))⟩
  f27 := ⟨Try.f86.name, by decide, Try.func86.trans (congrArg some (by kernel_rfl))⟩
  f28 := Try.func74.trans (congrArg some (by kernel_rfl))
  f29 := Try.func75.trans (congrArg some (by kernel_rfl))
  f46 := ⟨Try.f93.name, by decide, Try.func93.trans (congrArg some (by kernel_rfl))⟩
  f47 := Try.func88.trans (congrArg some (by kernel_rfl))
  f48 := Try.func89.trans (congrArg some (by kernel_rfl))
  f49 := ⟨Try.f94.name, by decide, Try.func94.trans (congrArg some (by kernel_rfl))⟩
  f50 := ⟨Try.f95.name, by decide, Try.func95.trans (congrArg some (by kernel_rfl))⟩
  f57 := ⟨Try.f97.name, by decide, Try.func97.trans (congrArg some (by kernel_rfl))⟩
  t0 := Try.underlying0
  a0 := Try.isAgg0
  z0 := Try.sizeOf0
  v0 := Try.zeroValue0
  t3 := Try.underlying3
  a3 := Try.isAgg3
  z3 := Try.sizeOf3
  v3 := Try.zeroValue3
  t4 := Try.underlying4
  a4 := Try.isAgg4
  z4 := Try.sizeOf4
  v4 := Try.zeroValue4
  t5 := Try.underlying5
  a5 := Try.isAgg5
  z5 := Try.sizeOf5
  v5 := Try.zeroValue5
  t9 := Try.underlying9
  a9 := Try.isAgg9
  z9 := Try.sizeOf9
  v9 := Try.zeroValue9
  t22 := Try.underlying53
  a22 := Try.isAgg53
  z22 := Try.sizeOf53
  v22 := Try.zeroValue53
  a24 := Try.isAgg3
  z24 := Try.sizeOf3
  t25 := Try.underlying52
  a25 := Try.isAgg52
  z25 := Try.sizeOf52
  v25 := Try.zeroValue52
  t39 := Try.underlying84
  a39 := Try.isAgg84
  z39 := Try.sizeOf84
  v39 := Try.zeroValue84
  t45 := Try.underlying89
  a45 := Try.isAgg89
  z45 := Try.sizeOf89
  v45 := Try.zeroValue89
  t46 := Try.underlying90
  a46 := Try.isAgg90
  z46 := Try.sizeOf90
  v46 := Try.zeroValue90
  t50 := Try.underlying61
  a50 := Try.isAgg61
  z50 := Try.sizeOf61
  v50 := Try.zeroValue61
  t53 := Try.underlying96
  a53 := Try.isAgg96
  z53 := Try.sizeOf96
  v53 := Try.zeroValue96
  t55 := Try.underlying98
  a55 := Try.isAgg98
  z55 := Try.sizeOf98
  v55 := Try.zeroValue98
  t66 := Try.underlying105
  a66 := Try.isAgg105
  z66 := Try.sizeOf105
  v66 := Try.zeroValue105
  t70 := Try.underlying109
  a70 := Try.isAgg109
  z70 := Try.sizeOf109
  v70 := Try.zeroValue109
  t76 := Try.underlying114
  a76 := Try.isAgg114
  z76 := Try.sizeOf114
  v76 := Try.zeroValue114
  t77 := Try.underlying115
  a77 := Try.isAgg115
  z77 := Try.sizeOf115
  v77 := Try.zeroValue115 }
def Try.sortS_ren : Go.Shelf.Ren := ⟨fun | 6 => 29 | 15 => 57 | 14 => 56 | 28 => 74 | 29 => 75 | 20 => 66 | 21 => 67 | 22 => 68 | 23 => 69 | 24 => 70 | 25 => 71 | 26 => 72 | 27 => 73 | 46 => 87 | 47 => 88 | 48 => 89 | 49 => 90 | 50 => 91 | 57 => 96 | n => n, fun | 22 => 25 | 24 => 9 | 25 => 66 | 3 => 3 | 39 => 84 | 0 => 0 | 53 => 96 | 55 => 98 | 4 => 4 | 46 => 90 | 45 => 89 | 50 => 61 | 5 => 5 | 9 => 9 | 66 => 105 | 70 => 109 | 76 => 114 | 77 => 115 | n => n, fun | n => n⟩
theorem Try.sortS : Go.Proofs.SlLaysF.n6 Try.prog Try.sortS_ren := {
  mixed := by kernel_rfl
  f6 := ⟨Try.f29.name, by decide, Try.func29.trans (congrArg some (by kernel_rfl))⟩
  f14 := ⟨Try.f56.name, by decide, Try.func56.trans (congrArg some (by kernel_rfl))⟩
  f15 := Try.func57.trans (congrArg some (by kernel_rfl))
  f20 := ⟨Try.f66.name, by decide, Try.func66.trans (congrArg some (by kernel_rfl))⟩
  f21 := ⟨Try.f67.name, by decide, Try.func67.trans (congrArg some (by kernel_rfl))⟩
  f22 := ⟨Try.f68.name, by decide, Try.func68.trans (congrArg some (by kernel_rfl))⟩
  f23 := ⟨Try.f69.name, by decide, Try.func69.trans (congrArg some (by kernel_rfl))⟩
  f24 := ⟨Try.f70.name, by decide, Try.func70.trans (congrArg some (by kernel_rfl))⟩
  f25 := ⟨Try.f71.name, by decide, Try.func71.trans (congrArg some (by kernel_rfl))⟩
  f26 := ⟨Try.f72.name, by decide, Try.func72.trans (congrArg some (by kernel_rfl))⟩
  f27 := ⟨Try.f73.name, by decide, Try.func73.trans (congrArg some (by kernel_rfl))⟩
  f28 := Try.func74.trans (congrArg some (by kernel_rfl))
  f29 := Try.func75.trans (congrArg some (by kernel_rfl))
  f46 := ⟨Try.f87.name, by decide, Try.func87.trans (congrArg some (by kernel_rfl))⟩
  f47 := Try.func88.trans (congrArg some (by kernel_rfl))
  f48 := Try.func89.trans (congrArg some (by kernel_rfl))
  f49 := ⟨Try.f90.name, by decide, Try.func90.trans (congrArg some (by kernel_rfl))⟩
  f50 := ⟨Try.f91.name, by decide, Try.func91.trans (congrArg some (by kernel_rfl))⟩
  f57 := ⟨Try.f96.name, by decide, Try.func96.trans (congrArg some (by kernel_rfl))⟩
  t0 := Try.underlying0
  a0 := Try.isAgg0
  z0 := Try.sizeOf0
  v0 := Try.zeroValue0
  t3 := Try.underlying3
  a3 := Try.isAgg3
  z3 := Try.sizeOf3
  v3 := Try.zeroValue3
  t4 := Try.underlying4
  a4 := Try.isAgg4
  z4 := Try.sizeOf4
  v4 := Try.zeroValue4
  t5 := Try.underlying5
  a5 := Try.isAgg5
  z5 := Try.sizeOf5
  v5 := Try.zeroValue5
  t9 := Try.underlying9
  a9 := Try.isAgg9
  z9 := Try.sizeOf9
  v9 := Try.zeroValue9
  t22 := Try.underlying25
  a22 := Try.isAgg25
  z22 := Try.sizeOf25
  v22 := Try.zeroValue25
  a24 := Try.isAgg9
  z24 := Try.sizeOf9
  t25 := Try.underlying66
  a25 := Try.isAgg66
  z25 := Try.sizeOf66
  v25 := Try.zeroValue66
  t39 := Try.underlying84
  a39 := Try.isAgg84
  z39 := Try.sizeOf84
  v39 := Try.zeroValue84
  t45 := Try.underlying89
  a45 := Try.isAgg89
  z45 := Try.sizeOf89
  v45 := Try.zeroValue89
  t46 := Try.underlying90
  a46 := Try.isAgg90
  z46 := Try.sizeOf90
  v46 := Try.zeroValue90
  t50 := Try.underlying61
  a50 := Try.isAgg61
  z50 := Try.sizeOf61
  v50 := Try.zeroValue61
  t53 := Try.underlying96
  a53 := Try.isAgg96
  z53 := Try.sizeOf96
  v53 := Try.zeroValue96
  t55 := Try.underlying98
  a55 := Try.isAgg98
  z55 := Try.sizeOf98
  v55 := Try.zeroValue98
  t66 := Try.underlying105
  a66 := Try.isAgg105
  z66 := Try.sizeOf105
  v66 := Try.zeroValue105
  t70 := Try.underlying109
  a70 := Try.isAgg109
  z70 := Try.sizeOf109
  v70 := Try.zeroValue109
  t76 := Try.underlying114
  a76 := Try.isAgg114
  z76 := Try.sizeOf114
  v76 := Try.zeroValue114
  t77 := Try.underlying115
  a77 := Try.isAgg115
  z77 := Try.sizeOf115
  v77 := Try.zeroValue115 }
end Go.Proofs.Ytjhdlcmecbngkaa
/- Plain: two lists that are the same, element by element. No program in sight. -/
namespace Go.Proofs.Ytjhdlcmecbngkaa.Pl
set_option linter.unusedVariables false
def sameL {α : Type} (e : α → α → Bool) (a b : List α) : Bool := decide (a.length = b.length) && (List.zip a b).all fun x => e x.1 x.2
theorem sameL_no {α : Type} {e : α → α → Bool} {a b : List α} (h : a.length ≠ b.length) : sameL e a b = false := by simp [sameL, h]
theorem sameL_at {α : Type} {e : α → α → Bool} {a b : List α} {k : Nat} (h1 : k < a.length) (h2 : k < b.length) (h : e a[k] b[k] = false) : sameL e a b = false := by
  unfold sameL
  rw [Bool.and_eq_false_iff]
  right
  rw [List.all_eq_false]
  have hz : k < (List.zip a b).length := by simp; omega
  exact ⟨(List.zip a b)[k], List.getElem_mem hz, by simp [h]⟩
theorem sameL_yes {α : Type} {e : α → α → Bool} {a b : List α} (hl : a.length = b.length) (h : ∀ k, (h1 : k < a.length) → (h2 : k < b.length) → e a[k] b[k] = true) : sameL e a b = true := by
  unfold sameL
  rw [Bool.and_eq_true_iff]
  refine ⟨by simpa using hl, List.all_eq_true.2 fun x hx => ?_⟩
  obtain ⟨k, hk, rfl⟩ := List.getElem_of_mem hx
  simp at hk ⊢
  exact h k (by omega) (by omega)
theorem sameL_refl {α : Type} {e : α → α → Bool} (he : ∀ x, e x x = true) (a : List α) : sameL e a a = true := sameL_yes rfl fun k _ _ => he _
theorem sameL_iff {α : Type} {e : α → α → Bool} (he : ∀ x y, e x y = true ↔ x = y) {a b : List α} : sameL e a b = true ↔ a = b := by
  constructor
  · intro h
    unfold sameL at h
    rw [Bool.and_eq_true_iff] at h
    have hl : a.length = b.length := by simpa using h.1
    apply List.ext_getElem hl
    intro i h1 h2
    have hz : i < (List.zip a b).length := by simp; omega
    have := List.all_eq_true.1 h.2 _ (List.getElem_mem hz)
    simp at this
    exact (he _ _).1 this
  · rintro rfl
    exact sameL_refl (fun x => (he x x).2 rfl) a
end Go.Proofs.Ytjhdlcmecbngkaa.Pl
/- Contracts: names sorted by how far they are. -/
namespace Go.Proofs.Ytjhdlcmecbngkaa
open Go.RowKit Go.Sort Go.Shelf Pl
set_option linter.unusedVariables false
def tSame (a b : ByteArray) : Bool := a.toList == b.toList
theorem tSame_refl (a : ByteArray) : tSame a a = true := by simp [tSame]
theorem texts_fun (c d : Bool) (a b : List ByteArray) (ha : a.length ≤ 9223372036854775807) : Fun Try.prog 12 [.c (.sl c (a.map tRow)), .c (.sl d (b.map tRow))] [.c (.v (.bool (sameL tSame a b)))] := by
  refine fun_x ck_hearsayref_SameTexts rfl ?_
  (refine goI ?_; repeat (intro gg; refine goI ?_))
  rw [List.length_map, List.length_map]
  (refine bIf_of (fun h => ?_) (fun h => ?_) <;> rw [h])
  · (refine goI ?_; repeat (intro gg; refine goI ?_))
    rw [sameL_no (fun e => by rw [e] at h; simp at h)]
    (exact ⟨[], aI⟩)
  · have hab : a.length = b.length := by have h' : ((a.length : Int) != (b.length : Int)) = false := h
                                         simp at h'; omega
    (refine goI ?_; repeat (intro gg; refine goI ?_))
    (refine ⟨[], none, {k : Nat // k ≤ a.length ∧ ∀ j, (h : j < a.length) → j < k → tSame a[j] (b[j]'(by omega)) = true}, [0, 1], fun ⟨k, hk, h0⟩ => [(5, .v (.int .i64 k))], [], fun ⟨k, hk, h0⟩ => [], fun ⟨k, hk, h0⟩ => a.length - k, trivial, fun _ => ⟨trivial, fun _ => ⟨⟨0, by omega, fun j _ h => by omega⟩, tI, keptE_refl _ _, tI, keptH_refl _ _⟩⟩, fun ⟨k, hk, h0⟩ => ?_⟩)
    (refine goI ?_; repeat (intro gg; refine goI ?_))
    rw [List.length_map]
    (refine bIf_of (fun h2 => ?_) (fun h2 => ?_) <;> rw [h2])
    · have hlt : k < a.length := (by have := of_decide_eq_true h2; omega)
      have hlt' : k < b.length := by omega
      (refine goI ?_; repeat (intro gg; refine goI ?_))
      refine ⟨k, _, rfl, row_map hlt, ?_⟩
      (refine goI ?_; repeat (intro gg; refine goI ?_))
      refine ⟨k, _, rfl, row_map hlt', ?_⟩
      (refine goI ?_; repeat (intro gg; refine goI ?_))
      (refine bIf_of (fun h3 => ?_) (fun h3 => ?_) <;> rw [h3])
      · (refine goI ?_; repeat (intro gg; refine goI ?_))
        rw [sameL_at hlt hlt' (not_t (b := tSame a[k] b[k]) h3)]
        (exact ⟨[], aI⟩)
      · (refine goI ?_; repeat (intro gg; refine goI ?_))
        (exact ⟨none, trivial, fun _ => ⟨⟨k + 1, by omega, up1 (p := fun j h => tSame a[j] (b[j]'(by omega)) = true) h0 (fun _ => not_f (b := tSame a[k] b[k]) h3)⟩, by show a.length - (k + 1) < a.length - k; omega, tI, tI, tI, tI⟩⟩)
    · have hge : ¬ k < a.length := (by have := of_decide_eq_false h2; omega)
      (refine goI ?_; repeat (intro gg; refine goI ?_))
      rw [sameL_yes hab (fun j h1 _ => h0 j h1 (by omega))]
      (exact ⟨[], aI⟩)
theorem cloneT_fun (cl : Bool) (l : List ByteArray) (hl : l.length ≤ 1000) : Fun Try.prog 28 [.c (.sl cl (l.map tRow))] [.o 9 1 (l.map tRow)] := by
  refine fun_x ck_slices_Clone_string_string rfl ?_
  (refine goI ?_; repeat (intro gg; refine goI ?_))
  rename_i b
  have hb := gg
  cases b with
  | true =>
    have e : l.map tRow = [] := hb rfl
    (refine goI ?_; repeat (intro gg; refine goI ?_))
    rw [e]
    (exact ⟨[], aI⟩)
  | false =>
    (refine goI ?_; repeat (intro gg; refine goI ?_))
    refine ⟨ones_rows, ?_⟩
    (refine goI ?_; repeat (intro gg; refine goI ?_))
    refine ⟨lI, lI, ?_⟩
    (refine goI ?_; repeat (intro gg; refine goI ?_))
    (exact ⟨[80], aI⟩)
theorem cf_nn {K : ByteArray → Option Int} {a b : ByteArray} (h1 : K a = none) (h2 : K b = none) : cfN K a b = firstNZ [icmp 0 0, scmp a b] := by simp [cfN, rkN, frN, h1, h2, nz_cons, icmp]
theorem cf_ss {K : ByteArray → Option Int} {a b : ByteArray} {x y : Int} (h1 : K a = some x) (h2 : K b = some y) : cfN K a b = firstNZ [icmp x y, scmp a b] := by simp [cfN, rkN, frN, h1, h2, nz_cons, icmp]
theorem cf_sn {K : ByteArray → Option Int} {a b : ByteArray} {x : Int} (h1 : K a = some x) (h2 : K b = none) : cfN K a b = -1 := by simp [cfN, rkN, frN, h1, h2, nz_cons, icmp]
theorem cf_ns {K : ByteArray → Option Int} {a b : ByteArray} {y : Int} (h1 : K a = none) (h2 : K b = some y) : cfN K a b = 1 := by simp [cfN, rkN, frN, h1, h2, nz_cons, icmp]
theorem sortC_fun (f : Pc) (l : List Wh) (E : List (ByteArray × V)) (hE : Tells f l E) (a b : ByteArray) : Fun Try.prog 30 [.c (.v (.string a)), .c (.v (.string b)), .c (.rptr [.rmap (ents E)] 0)] [.c (.v (.int .i64 (cfN (farK f l) a b)))] := by
  refine fun_x ck_place_Sort_1 rfl ?_
  cases h1 : farK f l a with
  | none =>
    have q1 := hE.at_none h1
    cases h2 : farK f l b with
    | none =>
      have q2 := hE.at_none h2
      (refine goI ?_; repeat (intro gg; refine goI ?_))
      refine ⟨none, (findE_str _ _ _).trans (by rw [q1]), ?_⟩
      (refine goI ?_; repeat (intro gg; refine goI ?_))
      refine ⟨none, (findE_str _ _ _).trans (by rw [q2]), ?_⟩
      (refine goI ?_; repeat (intro gg; refine goI ?_))
      (refine .inl ⟨_, _, false, [], aI, cmpi_fun 0 0, nobor, nI, ?_⟩)
      (refine goI ?_; repeat (intro gg; refine goI ?_))
      (refine .inl ⟨_, _, false, [], aI, cmps_fun a b, nobor, nI, ?_⟩)
      (refine goI ?_; repeat (intro gg; refine goI ?_))
      (refine .inl ⟨_, _, true, [], aI, or_fun false [icmp 0 0, scmp a b] (by simp), (fun _ => fI), nI, ?_⟩)
      (refine goI ?_; repeat (intro gg; refine goI ?_))
      rw [cf_nn h1 h2]
      (exact ⟨[], aI⟩)
    | some y =>
      obtain ⟨j, q2⟩ := hE.at_some h2
      (refine goI ?_; repeat (intro gg; refine goI ?_))
      refine ⟨none, (findE_str _ _ _).trans (by rw [q1]), ?_⟩
      (refine goI ?_; repeat (intro gg; refine goI ?_))
      refine ⟨some (j, iV y), (findE_str _ _ _).trans (by rw [q2]), ?_⟩
      (refine goI ?_; repeat (intro gg; refine goI ?_))
      rw [cf_ns h1 h2]
      (exact ⟨[], aI⟩)
  | some x =>
    obtain ⟨i, q1⟩ := hE.at_some h1
    cases h2 : farK f l b with
    | none =>
      have q2 := hE.at_none h2
      (refine goI ?_; repeat (intro gg; refine goI ?_))
      refine ⟨some (i, iV x), (findE_str _ _ _).trans (by rw [q1]), ?_⟩
      (refine goI ?_; repeat (intro gg; refine goI ?_))
      refine ⟨none, (findE_str _ _ _).trans (by rw [q2]), ?_⟩
      (refine goI ?_; repeat (intro gg; refine goI ?_))
      rw [cf_sn h1 h2]
      (exact ⟨[], aI⟩)
    | some y =>
      obtain ⟨j, q2⟩ := hE.at_some h2
      (refine goI ?_; repeat (intro gg; refine goI ?_))
      refine ⟨some (i, iV x), (findE_str _ _ _).trans (by rw [q1]), ?_⟩
      (refine goI ?_; repeat (intro gg; refine goI ?_))
      refine ⟨some (j, iV y), (findE_str _ _ _).trans (by rw [q2]), ?_⟩
      (refine goI ?_; repeat (intro gg; refine goI ?_))
      (refine .inl ⟨_, _, false, [], aI, cmpi_fun x y, nobor, nI, ?_⟩)
      (refine goI ?_; repeat (intro gg; refine goI ?_))
      (refine .inl ⟨_, _, false, [], aI, cmps_fun a b, nobor, nI, ?_⟩)
      (refine goI ?_; repeat (intro gg; refine goI ?_))
      (refine .inl ⟨_, _, true, [], aI, or_fun false [icmp x y, scmp a b] (by simp), (fun _ => fI), nI, ?_⟩)
      (refine goI ?_; repeat (intro gg; refine goI ?_))
      rw [cf_ss h1 h2]
      (exact ⟨[], aI⟩)
theorem sortS_fun (f : Pc) (l : List Wh) (E : List (ByteArray × V)) (hE : Tells f l E) (names : List ByteArray) (hn : names.length ≤ 1000) : FunM Try.prog 29 [.ms 9 1 (names.map tRow) ((srtL (cfN (farK f l)) names).map tRow), .p (.c (.clo 30 [.rptr [.rmap (ents E)] 0]))] [] :=
  sort_funM (enc := fun s : ByteArray => Value.string s) Try.sortS (callable Try.func29 (by kernel_rfl) (by kernel_rfl)) 9 (fun _ => rfl) (cfN (farK f l)) (swo_of (cfN_good _)) (tot_of (cfN_good _) fun _ _ => cfN_zero) 30 [.rptr [.rmap (ents E)] 0]
    (callable Try.func30 (by kernel_rfl) (by kernel_rfl)) names (by omega) (fun _ a b => sortC_fun f l E hE a b)
end Go.Proofs.Ytjhdlcmecbngkaa
/- Contracts: Sort, of places. -/
namespace Go.Proofs.Ytjhdlcmecbngkaa
open Go.RowKit Go.Sort Go.Shelf Pl
set_option linter.unusedVariables false
noncomputable def sortG (f : Pc) (l : List Wh) (names : List ByteArray) : List ByteArray := if sortErr f l names = 0 then srtL (cfN (farK f l)) names else []
theorem sortErr_many {f : Pc} {l : List Wh} {names : List ByteArray} (h : 100 < l.length ∨ 100 < names.length) : sortErr f l names = 2 := by simp [sortErr, h]
theorem sortErr_from {f : Pc} {l : List Wh} {names : List ByteArray} (h : ¬ (100 < l.length ∨ 100 < names.length)) (h2 : f.err ≠ 0) : sortErr f l names = f.err := by simp [sortErr, h, h2]
theorem sortErr_each {f : Pc} {l : List Wh} {names : List ByteArray} (h : ¬ (100 < l.length ∨ 100 < names.length)) (h2 : f.err = 0) : sortErr f l names = firstErr Wh.perr l := by simp [sortErr, h, h2]
theorem sortG_no {f : Pc} {l : List Wh} {names : List ByteArray} (h : sortErr f l names ≠ 0) : sortG f l names = [] := by simp [sortG, h]
theorem sortG_ok {f : Pc} {l : List Wh} {names : List ByteArray} (h : sortErr f l names = 0) : sortG f l names = srtL (cfN (farK f l)) names := by simp [sortG, h]
theorem pSort_fun (f : Pc) (l : List Wh) (names : List ByteArray) (hl : l.length ≤ 9223372036854775807) (hn : names.length ≤ 9223372036854775807) : Fun Try.prog 8 [.c (.agg f.row), .c (.sl false (l.map Wh.row)), .c (.sl false (names.map tRow))]
    [.o 9 1 ((sortG f l names).map tRow), .c (.v (.int .i64 (sortErr f l names)))] := by
  refine fun_x ck_place_Sort rfl ?_
  (refine goI ?_; repeat (intro gg; refine goI ?_))
  rw [List.length_map]
  (refine bIf_of (fun h1 => ?_) (fun h1 => ?_) <;> rw [h1])
  · have h1' : 100 < l.length := (by have := of_decide_eq_true h1; omega)
    have e := sortErr_many (f := f) (l := l) (names := names) (.inl h1')
    rw [e, sortG_no (by rw [e]; decide)]
    (refine goI ?_; repeat (intro gg; refine goI ?_))
    (exact ⟨[], aI⟩)
  · have h1' : ¬ 100 < l.length := (by have := of_decide_eq_false h1; omega)
    (refine goI ?_; repeat (intro gg; refine goI ?_))
    rw [List.length_map]
    (refine bIf_of (fun h2 => ?_) (fun h2 => ?_) <;> rw [h2])
    · have h2' : 100 < names.length := (by have := of_decide_eq_true h2; omega)
      have e := sortErr_many (f := f) (l := l) (names := names) (.inr h2')
      rw [e, sortG_no (by rw [e]; decide)]
      (refine goI ?_; repeat (intro gg; refine goI ?_))
      (exact ⟨[], aI⟩)
    · have h2' : ¬ 100 < names.length := (by have := of_decide_eq_false h2; omega)
      have h12 : ¬ (100 < l.length ∨ 100 < names.length) := by omega
      (refine goI ?_; repeat (intro gg; refine goI ?_))
      (refine .inl ⟨_, _, false, [], aI, pCheck_fun f, nobor, nI, ?_⟩)
      (refine goI ?_; repeat (intro gg; refine goI ?_))
      (refine bIf_of (fun h3 => ?_) (fun h3 => ?_) <;> rw [h3])
      · have h3' : f.err ≠ 0 := by simpa using h3
        have e := sortErr_from (f := f) (l := l) (names := names) h12 h3'
        rw [e, sortG_no (by rw [e]; exact h3')]
        (refine goI ?_; repeat (intro gg; refine goI ?_))
        (exact ⟨[], aI⟩)
      · have h3' : f.err = 0 := by simpa using h3
        have e := sortErr_each (f := f) (l := l) (names := names) h12 h3'
        (refine goI ?_; repeat (intro gg; refine goI ?_))
        rename_i gm
        rename Nat => gb
        have hf : f.okb = true := Pc.err_iff.1 h3'
        refine ⟨[], rfl, ?_⟩
        (refine goI ?_; repeat (intro gg; refine goI ?_))
        (refine ⟨[], none, {q : Nat × List (ByteArray × V) // q.1 ≤ l.length ∧ (∀ j, (h : j < l.length) → j < q.1 → Wh.perr l[j] = 0) ∧ Tells f (l.take q.1) q.2}, [1, 2, 3, 9, 30, 31], fun ⟨⟨k, E⟩, hk, h0, hE⟩ => [(32, .v (.int .i64 k))], [48, 144], fun ⟨⟨k, E⟩, hk, h0, hE⟩ => [(464, ⟨gm, .q (mapI (ents E)), 0, []⟩)], fun ⟨⟨k, E⟩, hk, h0, hE⟩ => l.length - k, trivial, fun _ => ⟨trivial, fun _ => ⟨⟨(0, []), Nat.zero_le _, fun j _ h => absurd h (Nat.not_lt_zero _), Tells.nil f⟩, tI, keptE_refl _ _, tI, keptH_refl _ _⟩⟩, fun ⟨⟨k, E⟩, hk, h0, hE⟩ => ?_⟩)
        (refine goI ?_; repeat (intro gg; refine goI ?_))
        (refine bIf_of (fun h4 => ?_) (fun h4 => ?_) <;> rw [h4])
        · have hlt : k < l.length := by have := of_decide_eq_true h4; simpa using this
          (refine goI ?_; repeat (intro gg; refine goI ?_))
          refine ⟨k, _, rfl, row_map hlt, ?_⟩
          (refine goI ?_; repeat (intro gg; refine goI ?_))
          (refine .inl ⟨_, _, false, [], aI, pCheck_fun (l[k]).pl, nobor, nI, ?_⟩)
          (refine goI ?_; repeat (intro gg; refine goI ?_))
          (refine bIf_of (fun h5 => ?_) (fun h5 => ?_) <;> rw [h5])
          · have h5' : Wh.perr l[k] ≠ 0 := by simpa [Wh.perr] using h5
            have e2 := e.trans (firstErr_at hlt h0 h5')
            rw [e2, sortG_no (by rw [e2]; exact h5')]
            (refine goI ?_; repeat (intro gg; refine goI ?_))
            (exact ⟨[], aI⟩)
          · have h5' : Wh.perr l[k] = 0 := by simpa [Wh.perr] using h5
            have hp : (l[k]).pl.okb = true := Pc.err_iff.1 h5'
            have et : l.take (k + 1) = l.take k ++ [l[k]] := by rw [List.take_add_one, List.getElem?_eq_getElem hlt]; rfl
            (refine goI ?_; repeat (intro gg; refine goI ?_))
            cases hlk : Pl.look (l[k]).nd E 0 with
            | some r =>
              obtain ⟨ri, rv⟩ := r
              obtain ⟨x, rfl⟩ := hE.val hlk
              refine ⟨_, rfl, some (ri, iV x), (findE_str _ _ _).trans (by rw [hlk]), ?_⟩
              (refine goI ?_; repeat (intro gg; refine goI ?_))
              have hE' : Tells f (l.take (k + 1)) E := by rw [et]; exact hE.old (by rw [hlk]; simp)
              (exact ⟨none, trivial, fun _ => ⟨⟨(k + 1, E), by dsimp only; omega, up1 (p := fun j h => Wh.perr l[j] = 0) h0 (fun _ => h5'), hE'⟩, by show l.length - (k + 1) < l.length - k; omega, tI, tI, tI, tI⟩⟩)
            | none =>
              refine ⟨_, rfl, none, (findE_str _ _ _).trans (by rw [hlk]), ?_⟩
              (refine goI ?_; repeat (intro gg; refine goI ?_))
              (refine ⟨_, _, false, aI, rawfar_fun f (l[k]).pl hf hp, nobor, nI, ?_⟩)
              (refine goI ?_; repeat (intro gg; refine goI ?_))
              refine ⟨_, none, rfl, cl_b rfl, (findE_str _ _ _).trans (by rw [hlk]), ?_⟩
              (refine goI ?_; repeat (intro gg; refine goI ?_))
              have e := putE_str E (l[k]).nd (iV (f.far (l[k]).pl))
              rw [hlk] at e
              have hE' : Tells f (l.take (k + 1)) (put E (l[k]).nd (iV (f.far (l[k]).pl))) := by rw [et]; exact hE.new hlk
              (exact ⟨none, trivial, fun gr => ⟨⟨(k + 1, put E (l[k]).nd (iV (f.far (l[k]).pl))), by dsimp only; omega, up1 (p := fun j h => Wh.perr l[j] = 0) h0 (fun _ => h5'), hE'⟩, by show l.length - (k + 1) < l.length - k; omega, tI, tI, ⟨congrArg (fun x => some (Ent.mk gm (.q (mapI x)) 0 [])) e, trivial⟩, tI⟩⟩)
        · have hge : ¬ k < l.length := by have := of_decide_eq_false h4; simpa using this
          have hz : sortErr f l names = 0 := e.trans (firstErr_zero (fun i hi => h0 i hi (by dsimp only; omega)))
          rw [List.take_of_length_le (by dsimp only; omega)] at hE
          have hE : Tells f l E := hE
          rw [hz, sortG_ok hz]
          (refine goI ?_; repeat (intro gg; refine goI ?_))
          (refine .inl ⟨_, _, false, [], aI, cloneT_fun false names (by omega), nobor, nI, ?_⟩)
          (refine goI ?_; repeat (intro gg; refine goI ?_))
          refine .inr (.inl ⟨_, _, true, [960], aM_ms rfl cl_rows (by decide) (by decide) (by rw [List.length_map, List.length_map]; exact List.length_mergeSort _) (aM_borc (cap_pm rfl rfl (by decide) (by decide) cap_n) (.nil _)), sortS_fun f l E hE names (by omega), (fun _ => mfI), oI, (by exact (by decide : ([960] : List Nat).Nodup)), ?_⟩)
          (refine goI ?_; repeat (intro gg; refine goI ?_))
          (exact ⟨[960], aI⟩)
end Go.Proofs.Ytjhdlcmecbngkaa
/- Contracts: the reference's order of names by how far they are. -/
namespace Go.Proofs.Ytjhdlcmecbngkaa
open Go.RowKit Go.Sort Go.Shelf Pl
set_option linter.unusedVariables false
theorem farK_no {f : Pc} {a : ByteArray} : ∀ {l : List Wh}, (∀ j, (h : j < l.length) → (l[j].nd.toList == a.toList) = false) → farK f l a = none
  | [], _ => rfl
  | w :: l, h => by
    have h0 := h 0 (by simp)
    simp only [List.getElem_cons_zero] at h0
    have hne : a ≠ w.nd := fun e => by rw [e] at h0; simp at h0
    show (if a = w.nd then some (f.far w.pl) else farK f l a) = none
    rw [if_neg hne]
    exact farK_no fun j hj => by have := h (j + 1) (by simpa using hj); simpa using this
theorem farK_at {f : Pc} {a : ByteArray} : ∀ {l : List Wh} {k : Nat} (hk : k < l.length), (∀ j, (h : j < l.length) → j < k → (l[j].nd.toList == a.toList) = false) → (l[k].nd.toList == a.toList) = true → farK f l a = some (f.far l[k].pl)
  | [], k, hk, _, _ => by simp at hk
  | w :: l, 0, hk, h0, h1 => by
    have e : w.nd = a := toList_inj (by simpa using h1)
    show (if a = w.nd then some (f.far w.pl) else farK f l a) = _
    rw [if_pos e.symm]; rfl
  | w :: l, k + 1, hk, h0, h1 => by
    have h := h0 0 (by simp) (by omega)
    simp only [List.getElem_cons_zero] at h
    have hne : a ≠ w.nd := fun e => by rw [e] at h; simp at h
    show (if a = w.nd then some (f.far w.pl) else farK f l a) = _
    rw [if_neg hne]
    have := farK_at (f := f) (l := l) (k := k) (by simpa using hk) (fun j hj hjk => by have := h0 (j + 1) (by simpa using hj) (by omega); simpa using this) (by simpa using h1)
    simpa using this
theorem farName_fun (f : Pc) (l : List Wh) (a : ByteArray) (hl : l.length ≤ 9223372036854775807) (hf : f.okb = true) (hw : ∀ w ∈ l, w.pl.okb = true) : Fun Try.prog 35 [.c (.agg f.row), .c (.sl false (l.map Wh.row)), .c (.v (.string a))] [.c (.v (.int .i64 (farN (farK f l) a)))] := by
  refine fun_x ck_hearsayref_farName rfl ?_
  (refine goI ?_; repeat (intro gg; refine goI ?_))
  (refine ⟨[], none, {k : Nat // k ≤ l.length ∧ ∀ j, (h : j < l.length) → j < k → (l[j].nd.toList == a.toList) = false}, [1, 2, 3], fun ⟨k, hk, h0⟩ => [(7, .v (.int .i64 k))], [48], fun ⟨k, hk, h0⟩ => [], fun ⟨k, hk, h0⟩ => l.length - k, trivial, fun _ => ⟨trivial, fun _ => ⟨⟨0, by omega, fun j _ h => by omega⟩, tI, keptE_refl _ _, tI, keptH_refl _ _⟩⟩, fun ⟨k, hk, h0⟩ => ?_⟩)
  (refine goI ?_; repeat (intro gg; refine goI ?_))
  rw [List.length_map]
  (refine bIf_of (fun h => ?_) (fun h => ?_) <;> rw [h])
  · have hlt : k < l.length := (by have := of_decide_eq_true h; omega)
    (refine goI ?_; repeat (intro gg; refine goI ?_))
    refine ⟨k, _, rfl, row_map hlt, ?_⟩
    (refine goI ?_; repeat (intro gg; refine goI ?_))
    (refine bIf_of (fun h2 => ?_) (fun h2 => ?_) <;> rw [h2])
    · have e : farN (farK f l) a = f.far l[k].pl := by unfold farN; rw [farK_at hlt h0 h2]; rfl
      rw [e]
      (refine goI ?_; repeat (intro gg; refine goI ?_))
      refine ⟨k, _, rfl, row_map hlt, ?_⟩
      (refine goI ?_; repeat (intro gg; refine goI ?_))
      (refine .inl ⟨_, _, false, [], aI, farof_fun f (l[k]).pl hf (hw _ (List.getElem_mem hlt)), nobor, nI, ?_⟩)
      (refine goI ?_; repeat (intro gg; refine goI ?_))
      (exact ⟨[], aI⟩)
    · (refine goI ?_; repeat (intro gg; refine goI ?_))
      (exact ⟨none, trivial, fun _ => ⟨⟨k + 1, by omega, up1 (p := fun j h => (l[j].nd.toList == a.toList) = false) h0 (fun _ => h2)⟩, by show l.length - (k + 1) < l.length - k; omega, tI, tI, tI, tI⟩⟩)
  · have hge : ¬ k < l.length := (by have := of_decide_eq_false h; omega)
    have e : farN (farK f l) a = -1 := by unfold farN; rw [farK_no fun j hj => h0 j hj (by omega)]; rfl
    rw [e]
    (refine goI ?_; repeat (intro gg; refine goI ?_))
    (exact ⟨[], aI⟩)
theorem ins_rows {c : ByteArray → ByteArray → Int} {L : List ByteArray} {x : ByteArray} {n : Nat} (e : insA c L x = L.take n ++ (x :: L.drop n)) (hn : n ≤ L.length) :
    (L.map tRow).take n ++ ([tRow x] ++ ((L.map tRow).drop n).take ((L.map tRow).length - n)) = (insA c L x).map tRow := by
  rw [e, List.map_append, List.map_cons, List.map_take, List.map_drop, List.take_of_length_le (l := (L.map tRow).drop n) (by simp)]
  rfl
theorem SortOf_fun (f : Pc) (l : List Wh) (names : List ByteArray) (hl : l.length ≤ 100) (hn : names.length ≤ 100) (hf : f.okb = true) (hw : ∀ w ∈ l, w.pl.okb = true) : Fun Try.prog 10 [.c (.agg f.row), .c (.sl false (l.map Wh.row)), .c (.sl false (names.map tRow))]
    [.c (.sl false ((sortN f l names).map tRow))] := by
  have hpos : ∀ a x, farK f l a = some x → 0 ≤ x := fun a x h => farK_pos hf hw h
  refine fun_x ck_hearsayref_SortOf rfl ?_
  (refine goI ?_; repeat (intro gg; refine goI ?_))
  (refine ⟨[(7, 112, 9, 1)], none, {p : Nat × Nat × List ByteArray // p.1 ≤ names.length ∧ p.2.2 = sortN f l (names.take p.1)}, [1, 2, 3], fun ⟨⟨k, g, L⟩, hk, hL⟩ => [(7, .own 112 g), (8, .v (.int .i64 k))], [48], fun ⟨⟨k, g, L⟩, hk, hL⟩ => [(112, ⟨g, 9, 1, L.map tRow⟩)], fun ⟨⟨k, g, L⟩, hk, hL⟩ => names.length - k, (by exact ⟨rfl, by decide, (fun _ _ _ _ h => by cases h), trivial⟩), fun gs => ⟨trivial, fun _ => ⟨⟨(0, gs 112, []), by omega, by simp [sortN]⟩, tI, tI, tI, tI⟩⟩, fun ⟨⟨k, g, L⟩, hk, hL⟩ => ?_⟩)
  have hk : k ≤ names.length := hk
  have hL : L = sortN f l (names.take k) := hL
  (refine goI ?_; repeat (intro gg; refine goI ?_))
  rw [List.length_map]
  (refine bIf_of (fun h => ?_) (fun h => ?_) <;> rw [h])
  · have hlt : k < names.length := (by have := of_decide_eq_true h; omega)
    have hs := sortN_snoc (f := f) (l := l) hlt
    have hLl : L.length ≤ 100 := by rw [hL, sortN_len, List.length_take]; omega
    rw [← hL] at hs
    obtain ⟨s, hsd⟩ : ∃ s, names[k] = s := ⟨_, rfl⟩
    have hrow : (names.map tRow)[k]? = some (tRow s) := by rw [row_map hlt, hsd]
    rw [hsd] at hs
    (refine goI ?_; repeat (intro gg; refine goI ?_))
    refine ⟨k, _, rfl, hrow, ?_⟩
    (refine goI ?_; repeat (intro gg; refine goI ?_))
    (refine .inl ⟨_, _, false, [], aI, farName_fun f l s (by omega) hf hw, nobor, nI, ?_⟩)
    (refine goI ?_; repeat (intro gg; refine goI ?_))
    (refine ⟨[], none, {j : Nat // j ≤ L.length ∧ ∀ i, (h : i < L.length) → i < j → leB (cfN (farK f l)) L[i] s = true}, [1, 2, 3, 7, 8, 9], fun ⟨j, hj, h0⟩ => [(10, .v (.int .i64 j))], [48, 112], fun ⟨j, hj, h0⟩ => [], fun ⟨j, hj, h0⟩ => L.length - j, trivial, fun _ => ⟨trivial, fun _ => ⟨⟨0, by omega, fun j _ h => by omega⟩, tI, keptE_refl _ _, tI, keptH_refl _ _⟩⟩, fun ⟨j, hj, h0⟩ => ?_⟩)
    (refine goI ?_; repeat (intro gg; refine goI ?_))
    rw [List.length_map]
    (refine bIf_of (fun h2 => ?_) (fun h2 => ?_) <;> rw [h2])
    · have hjl : j < L.length := (by have := of_decide_eq_true h2; omega)
      have hA := ahead_iff hpos L[j] s
      have hrj : (L.map tRow)[j]? = some (tRow L[j]) := row_map hjl
      (refine goI ?_; repeat (intro gg; refine goI ?_))
      refine ⟨j, _, rfl, hrj, ?_⟩
      (refine goI ?_; repeat (intro gg; refine goI ?_))
      (refine .inl ⟨_, _, false, [], aI, farName_fun f l L[j] (by omega) hf hw, nobor, nI, ?_⟩)
      generalize farN (farK f l) s = x at *
      generalize farN (farK f l) L[j] = y at *
      (refine goI ?_; repeat (intro gg; refine goI ?_))
      (refine bIf_of (fun a1 => ?_) (fun a1 => ?_) <;> rw [a1])
      · have a1' : x < 0 := of_decide_eq_true a1
        (refine goI ?_; repeat (intro gg; refine goI ?_))
        (refine bIf_of (fun a2 => ?_) (fun a2 => ?_) <;> rw [a2])
        · have a2' : 0 ≤ y := of_decide_eq_true a2
          (refine goI ?_; repeat (intro gg; refine goI ?_))
          have ht : leB (cfN (farK f l)) L[j] s = true := hA.2 (.inl ⟨a1', a2'⟩)
          (exact ⟨none, trivial, fun _ => ⟨⟨j + 1, by omega, up1 (p := fun i h => leB (cfN (farK f l)) L[i] s = true) h0 (fun _ => ht)⟩, by show L.length - (j + 1) < L.length - j; omega, tI, tI, tI, tI⟩⟩)
        · have a2' : ¬ 0 ≤ y := of_decide_eq_false a2
          have a3 : decide (y < 0) = true := decide_eq_true (by omega)
          (refine goI ?_; repeat (intro gg; refine goI ?_))
          rw [a1, a3]
          (refine goI ?_; repeat (intro gg; refine goI ?_))
          (refine bIf_of (fun b1 => ?_) (fun b1 => ?_) <;> rw [b1])
          · (refine goI ?_; repeat (intro gg; refine goI ?_))
            have ht : leB (cfN (farK f l)) L[j] s = true := hA.2 (.inr ⟨by omega, .inl (of_decide_eq_true b1)⟩)
            (exact ⟨none, trivial, fun _ => ⟨⟨j + 1, by omega, up1 (p := fun i h => leB (cfN (farK f l)) L[i] s = true) h0 (fun _ => ht)⟩, by show L.length - (j + 1) < L.length - j; omega, tI, tI, tI, tI⟩⟩)
          · (refine goI ?_; repeat (intro gg; refine goI ?_))
            (refine bIf_of (fun b2 => ?_) (fun b2 => ?_) <;> rw [b2])
            · have b2' : y = x := by simpa using b2
              (refine goI ?_; repeat (intro gg; refine goI ?_))
              refine ⟨j, _, rfl, hrj, ?_⟩
              (refine goI ?_; repeat (intro gg; refine goI ?_))
              refine ⟨k, _, rfl, hrow, ?_⟩
              (refine goI ?_; repeat (intro gg; refine goI ?_))
              rw [sle_eq]
              (refine bIf_of (fun b3 => ?_) (fun b3 => ?_) <;> rw [b3])
              · have b3' : slt s L[j] = true := by simpa using b3
                have hfl : leB (cfN (farK f l)) L[j] s = false := by
                  rw [← Bool.not_eq_true, hA]
                  rintro (q | ⟨_, q | ⟨_, q⟩⟩)
                  · omega
                  · have := of_decide_eq_false b1; omega
                  · rw [q] at b3'; cases b3'
                have eI := insA_at (c := cfN (farK f l)) (l := L) (x := s) hj h0 (.inr ⟨hjl, hfl⟩)
                have eR := ins_rows eI hj
                (refine goI ?_; repeat (intro gg; refine goI ?_))
                refine ⟨0, j, rfl, rfl, ⟨.i64, rfl⟩, Nat.zero_le _, by rw [List.length_map]; exact hj, rfl, rfl, ⟨.i64, rfl⟩, ?_⟩
                (refine goI ?_; repeat (intro gg; refine goI ?_))
                refine ⟨k, _, rfl, hrow, ?_⟩
                (refine goI ?_; repeat (intro gg; refine goI ?_))
                refine ⟨j, (L.map tRow).length, rfl, ⟨.i64, rfl⟩, rfl, by rw [List.length_map]; exact hj, Nat.le_refl _, rfl, ?_⟩
                (refine goI ?_; repeat (intro gg; refine goI ?_))
                refine ⟨by rw [List.length_map]; exact hj, Nat.le_refl _, ?_⟩
                (refine goI ?_; repeat (intro gg; refine goI ?_))
                have hdl : (((L.map tRow).drop j).take (L.length - j)).length ≤ 100 := by simp; omega
                refine ⟨lI, lI, ?_⟩
                (refine goI ?_; repeat (intro gg; refine goI ?_))
                refine ⟨⟨trivial, trivial, trivial, rfl, trivial, trivial, trivial, trivial, trivial, trivial, trivial, trivial, trivial⟩, ?_⟩
                (refine goI ?_; repeat (intro gg; refine goI ?_))
                refine ⟨List.cons_ne_nil _ _, rfl, by rw [List.length_map]; exact hj, ?_⟩
                refine ⟨lI, lI, ?_⟩
                (refine goI ?_; repeat (intro gg; refine goI ?_))
                exact ⟨some (7, 1408, 112), by (first | exact trivial | exact ⟨_, rfl, rfl, trivial⟩), fun gr => ⟨⟨(k + 1, gr, insA (cfN (farK f l)) L s), by dsimp only; omega, hs.symm⟩, by show names.length - (k + 1) < names.length - k; omega, tI, tI, ⟨congrArg (fun r => some (Ent.mk gr (.t 9) 1 r)) eR, trivial⟩, tI⟩⟩
              · have b3' : slt s L[j] = false := by simpa using b3
                (refine goI ?_; repeat (intro gg; refine goI ?_))
                have ht : leB (cfN (farK f l)) L[j] s = true := hA.2 (.inr ⟨by omega, .inr ⟨b2', b3'⟩⟩)
                (exact ⟨none, trivial, fun _ => ⟨⟨j + 1, by omega, up1 (p := fun i h => leB (cfN (farK f l)) L[i] s = true) h0 (fun _ => ht)⟩, by show L.length - (j + 1) < L.length - j; omega, tI, tI, tI, tI⟩⟩)
            · have b2' : y ≠ x := by simpa using b2
              have hfl : leB (cfN (farK f l)) L[j] s = false := by
                rw [← Bool.not_eq_true, hA]
                rintro (q | ⟨_, q | ⟨q, _⟩⟩)
                · omega
                · have := of_decide_eq_false b1; omega
                · exact b2' q
              have eI := insA_at (c := cfN (farK f l)) (l := L) (x := s) hj h0 (.inr ⟨hjl, hfl⟩)
              have eR := ins_rows eI hj
              (refine goI ?_; repeat (intro gg; refine goI ?_))
              refine ⟨0, j, rfl, rfl, ⟨.i64, rfl⟩, Nat.zero_le _, by rw [List.length_map]; exact hj, rfl, rfl, ⟨.i64, rfl⟩, ?_⟩
              (refine goI ?_; repeat (intro gg; refine goI ?_))
              refine ⟨k, _, rfl, hrow, ?_⟩
              (refine goI ?_; repeat (intro gg; refine goI ?_))
              refine ⟨j, (L.map tRow).length, rfl, ⟨.i64, rfl⟩, rfl, by rw [List.length_map]; exact hj, Nat.le_refl _, rfl, ?_⟩
              (refine goI ?_; repeat (intro gg; refine goI ?_))
              refine ⟨by rw [List.length_map]; exact hj, Nat.le_refl _, ?_⟩
              (refine goI ?_; repeat (intro gg; refine goI ?_))
              have hdl : (((L.map tRow).drop j).take (L.length - j)).length ≤ 100 := by simp; omega
              refine ⟨lI, lI, ?_⟩
              (refine goI ?_; repeat (intro gg; refine goI ?_))
              refine ⟨⟨trivial, trivial, trivial, rfl, trivial, trivial, trivial, trivial, trivial, trivial, trivial, trivial, trivial⟩, ?_⟩
              (refine goI ?_; repeat (intro gg; refine goI ?_))
              refine ⟨List.cons_ne_nil _ _, rfl, by rw [List.length_map]; exact hj, ?_⟩
              refine ⟨lI, lI, ?_⟩
              (refine goI ?_; repeat (intro gg; refine goI ?_))
              exact ⟨some (7, 1408, 112), by (first | exact trivial | exact ⟨_, rfl, rfl, trivial⟩), fun gr => ⟨⟨(k + 1, gr, insA (cfN (farK f l)) L s), by dsimp only; omega, hs.symm⟩, by show names.length - (k + 1) < names.length - k; omega, tI, tI, ⟨congrArg (fun r => some (Ent.mk gr (.t 9) 1 r)) eR, trivial⟩, tI⟩⟩
      · have a1' : ¬ x < 0 := of_decide_eq_false a1
        (refine goI ?_; repeat (intro gg; refine goI ?_))
        rw [a1]
        cases a3 : decide (y < 0) with
        | true =>
          have a3' : y < 0 := of_decide_eq_true a3
          (refine goI ?_; repeat (intro gg; refine goI ?_))
          have hfl : leB (cfN (farK f l)) L[j] s = false := by
            rw [← Bool.not_eq_true, hA]
            rintro (q | ⟨q, _⟩) <;> omega
          have eI := insA_at (c := cfN (farK f l)) (l := L) (x := s) hj h0 (.inr ⟨hjl, hfl⟩)
          have eR := ins_rows eI hj
          (refine goI ?_; repeat (intro gg; refine goI ?_))
          refine ⟨0, j, rfl, rfl, ⟨.i64, rfl⟩, Nat.zero_le _, by rw [List.length_map]; exact hj, rfl, rfl, ⟨.i64, rfl⟩, ?_⟩
          (refine goI ?_; repeat (intro gg; refine goI ?_))
          refine ⟨k, _, rfl, hrow, ?_⟩
          (refine goI ?_; repeat (intro gg; refine goI ?_))
          refine ⟨j, (L.map tRow).length, rfl, ⟨.i64, rfl⟩, rfl, by rw [List.length_map]; exact hj, Nat.le_refl _, rfl, ?_⟩
          (refine goI ?_; repeat (intro gg; refine goI ?_))
          refine ⟨by rw [List.length_map]; exact hj, Nat.le_refl _, ?_⟩
          (refine goI ?_; repeat (intro gg; refine goI ?_))
          have hdl : (((L.map tRow).drop j).take (L.length - j)).length ≤ 100 := by simp; omega
          refine ⟨lI, lI, ?_⟩
          (refine goI ?_; repeat (intro gg; refine goI ?_))
          refine ⟨⟨trivial, trivial, trivial, rfl, trivial, trivial, trivial, trivial, trivial, trivial, trivial, trivial, trivial⟩, ?_⟩
          (refine goI ?_; repeat (intro gg; refine goI ?_))
          refine ⟨List.cons_ne_nil _ _, rfl, by rw [List.length_map]; exact hj, ?_⟩
          refine ⟨lI, lI, ?_⟩
          (refine goI ?_; repeat (intro gg; refine goI ?_))
          exact ⟨some (7, 1408, 112), by (first | exact trivial | exact ⟨_, rfl, rfl, trivial⟩), fun gr => ⟨⟨(k + 1, gr, insA (cfN (farK f l)) L s), by dsimp only; omega, hs.symm⟩, by show names.length - (k + 1) < names.length - k; omega, tI, tI, ⟨congrArg (fun r => some (Ent.mk gr (.t 9) 1 r)) eR, trivial⟩, tI⟩⟩
        | false =>
          have a3' : ¬ y < 0 := of_decide_eq_false a3
          (refine goI ?_; repeat (intro gg; refine goI ?_))
          (refine bIf_of (fun b1 => ?_) (fun b1 => ?_) <;> rw [b1])
          · (refine goI ?_; repeat (intro gg; refine goI ?_))
            have ht : leB (cfN (farK f l)) L[j] s = true := hA.2 (.inr ⟨by omega, .inl (of_decide_eq_true b1)⟩)
            (exact ⟨none, trivial, fun _ => ⟨⟨j + 1, by omega, up1 (p := fun i h => leB (cfN (farK f l)) L[i] s = true) h0 (fun _ => ht)⟩, by show L.length - (j + 1) < L.length - j; omega, tI, tI, tI, tI⟩⟩)
          · (refine goI ?_; repeat (intro gg; refine goI ?_))
            (refine bIf_of (fun b2 => ?_) (fun b2 => ?_) <;> rw [b2])
            · have b2' : y = x := by simpa using b2
              (refine goI ?_; repeat (intro gg; refine goI ?_))
              refine ⟨j, _, rfl, hrj, ?_⟩
              (refine goI ?_; repeat (intro gg; refine goI ?_))
              refine ⟨k, _, rfl, hrow, ?_⟩
              (refine goI ?_; repeat (intro gg; refine goI ?_))
              rw [sle_eq]
              (refine bIf_of (fun b3 => ?_) (fun b3 => ?_) <;> rw [b3])
              · have b3' : slt s L[j] = true := by simpa using b3
                have hfl : leB (cfN (farK f l)) L[j] s = false := by
                  rw [← Bool.not_eq_true, hA]
                  rintro (q | ⟨_, q | ⟨_, q⟩⟩)
                  · omega
                  · have := of_decide_eq_false b1; omega
                  · rw [q] at b3'; cases b3'
                have eI := insA_at (c := cfN (farK f l)) (l := L) (x := s) hj h0 (.inr ⟨hjl, hfl⟩)
                have eR := ins_rows eI hj
                (refine goI ?_; repeat (intro gg; refine goI ?_))
                refine ⟨0, j, rfl, rfl, ⟨.i64, rfl⟩, Nat.zero_le _, by rw [List.length_map]; exact hj, rfl, rfl, ⟨.i64, rfl⟩, ?_⟩
                (refine goI ?_; repeat (intro gg; refine goI ?_))
                refine ⟨k, _, rfl, hrow, ?_⟩
                (refine goI ?_; repeat (intro gg; refine goI ?_))
                refine ⟨j, (L.map tRow).length, rfl, ⟨.i64, rfl⟩, rfl, by rw [List.length_map]; exact hj, Nat.le_refl _, rfl, ?_⟩
                (refine goI ?_; repeat (intro gg; refine goI ?_))
                refine ⟨by rw [List.length_map]; exact hj, Nat.le_refl _, ?_⟩
                (refine goI ?_; repeat (intro gg; refine goI ?_))
                have hdl : (((L.map tRow).drop j).take (L.length - j)).length ≤ 100 := by simp; omega
                refine ⟨lI, lI, ?_⟩
                (refine goI ?_; repeat (intro gg; refine goI ?_))
                refine ⟨⟨trivial, trivial, trivial, rfl, trivial, trivial, trivial, trivial, trivial, trivial, trivial, trivial, trivial⟩, ?_⟩
                (refine goI ?_; repeat (intro gg; refine goI ?_))
                refine ⟨List.cons_ne_nil _ _, rfl, by rw [List.length_map]; exact hj, ?_⟩
                refine ⟨lI, lI, ?_⟩
                (refine goI ?_; repeat (intro gg; refine goI ?_))
                exact ⟨some (7, 1408, 112), by (first | exact trivial | exact ⟨_, rfl, rfl, trivial⟩), fun gr => ⟨⟨(k + 1, gr, insA (cfN (farK f l)) L s), by dsimp only; omega, hs.symm⟩, by show names.length - (k + 1) < names.length - k; omega, tI, tI, ⟨congrArg (fun r => some (Ent.mk gr (.t 9) 1 r)) eR, trivial⟩, tI⟩⟩
              · have b3' : slt s L[j] = false := by simpa using b3
                (refine goI ?_; repeat (intro gg; refine goI ?_))
                have ht : leB (cfN (farK f l)) L[j] s = true := hA.2 (.inr ⟨by omega, .inr ⟨b2', b3'⟩⟩)
                (exact ⟨none, trivial, fun _ => ⟨⟨j + 1, by omega, up1 (p := fun i h => leB (cfN (farK f l)) L[i] s = true) h0 (fun _ => ht)⟩, by show L.length - (j + 1) < L.length - j; omega, tI, tI, tI, tI⟩⟩)
            · have b2' : y ≠ x := by simpa using b2
              have hfl : leB (cfN (farK f l)) L[j] s = false := by
                rw [← Bool.not_eq_true, hA]
                rintro (q | ⟨_, q | ⟨q, _⟩⟩)
                · omega
                · have := of_decide_eq_false b1; omega
                · exact b2' q
              have eI := insA_at (c := cfN (farK f l)) (l := L) (x := s) hj h0 (.inr ⟨hjl, hfl⟩)
              have eR := ins_rows eI hj
              (refine goI ?_; repeat (intro gg; refine goI ?_))
              refine ⟨0, j, rfl, rfl, ⟨.i64, rfl⟩, Nat.zero_le _, by rw [List.length_map]; exact hj, rfl, rfl, ⟨.i64, rfl⟩, ?_⟩
              (refine goI ?_; repeat (intro gg; refine goI ?_))
              refine ⟨k, _, rfl, hrow, ?_⟩
              (refine goI ?_; repeat (intro gg; refine goI ?_))
              refine ⟨j, (L.map tRow).length, rfl, ⟨.i64, rfl⟩, rfl, by rw [List.length_map]; exact hj, Nat.le_refl _, rfl, ?_⟩
              (refine goI ?_; repeat (intro gg; refine goI ?_))
              refine ⟨by rw [List.length_map]; exact hj, Nat.le_refl _, ?_⟩
              (refine goI ?_; repeat (intro gg; refine goI ?_))
              have hdl : (((L.map tRow).drop j).take (L.length - j)).length ≤ 100 := by simp; omega
              refine ⟨lI, lI, ?_⟩
              (refine goI ?_; repeat (intro gg; refine goI ?_))
              refine ⟨⟨trivial, trivial, trivial, rfl, trivial, trivial, trivial, trivial, trivial, trivial, trivial, trivial, trivial⟩, ?_⟩
              (refine goI ?_; repeat (intro gg; refine goI ?_))
              refine ⟨List.cons_ne_nil _ _, rfl, by rw [List.length_map]; exact hj, ?_⟩
              refine ⟨lI, lI, ?_⟩
              (refine goI ?_; repeat (intro gg; refine goI ?_))
              exact ⟨some (7, 1408, 112), by (first | exact trivial | exact ⟨_, rfl, rfl, trivial⟩), fun gr => ⟨⟨(k + 1, gr, insA (cfN (farK f l)) L s), by dsimp only; omega, hs.symm⟩, by show names.length - (k + 1) < names.length - k; omega, tI, tI, ⟨congrArg (fun r => some (Ent.mk gr (.t 9) 1 r)) eR, trivial⟩, tI⟩⟩
    · have hge : ¬ j < L.length := (by have := of_decide_eq_false h2; omega)
      have eI := insA_at (c := cfN (farK f l)) (l := L) (x := s) hj h0 (.inl (by omega))
      have eR := ins_rows eI hj
      (refine goI ?_; repeat (intro gg; refine goI ?_))
      refine ⟨0, j, rfl, rfl, ⟨.i64, rfl⟩, Nat.zero_le _, by rw [List.length_map]; exact hj, rfl, rfl, ⟨.i64, rfl⟩, ?_⟩
      (refine goI ?_; repeat (intro gg; refine goI ?_))
      refine ⟨k, _, rfl, hrow, ?_⟩
      (refine goI ?_; repeat (intro gg; refine goI ?_))
      refine ⟨j, (L.map tRow).length, rfl, ⟨.i64, rfl⟩, rfl, by rw [List.length_map]; exact hj, Nat.le_refl _, rfl, ?_⟩
      (refine goI ?_; repeat (intro gg; refine goI ?_))
      refine ⟨by rw [List.length_map]; exact hj, Nat.le_refl _, ?_⟩
      (refine goI ?_; repeat (intro gg; refine goI ?_))
      have hdl : (((L.map tRow).drop j).take (L.length - j)).length ≤ 100 := by simp; omega
      refine ⟨lI, lI, ?_⟩
      (refine goI ?_; repeat (intro gg; refine goI ?_))
      refine ⟨⟨trivial, trivial, trivial, rfl, trivial, trivial, trivial, trivial, trivial, trivial, trivial, trivial, trivial⟩, ?_⟩
      (refine goI ?_; repeat (intro gg; refine goI ?_))
      refine ⟨List.cons_ne_nil _ _, rfl, by rw [List.length_map]; exact hj, ?_⟩
      refine ⟨lI, lI, ?_⟩
      (refine goI ?_; repeat (intro gg; refine goI ?_))
      exact ⟨some (7, 1408, 112), by (first | exact trivial | exact ⟨_, rfl, rfl, trivial⟩), fun gr => ⟨⟨(k + 1, gr, insA (cfN (farK f l)) L s), by dsimp only; omega, hs.symm⟩, by show names.length - (k + 1) < names.length - k; omega, tI, tI, ⟨congrArg (fun r => some (Ent.mk gr (.t 9) 1 r)) eR, trivial⟩, tI⟩⟩
  · have hge : ¬ k < names.length := (by have := of_decide_eq_false h; omega)
    obtain rfl : k = names.length := by omega
    have hL2 : sortN f l names = L := by rw [hL, List.take_length]
    rw [hL2]
    (refine goI ?_; repeat (intro gg; refine goI ?_))
    (exact ⟨[], aI⟩)
end Go.Proofs.Ytjhdlcmecbngkaa
/- PlaceSorts: whatever place, places of nodes and names come in, Sort answers what the reference answers, errors too; no condition. -/
namespace Go.Proofs.Ytjhdlcmecbngkaa.placeSorts
open Go.Joins Go.ChangeShapes Go.WideShapes Go.ChangeAt Go.RowKit Pl
set_option linter.unusedVariables false
theorem pl_dec (row : List V) (h : Fits [.i, .i, .i, .i, .i] row) : ∃ m : Pc, row = m.row ∧ m.ok := by
  obtain ⟨u1, _, rfl, f1, h⟩ := fits_cons h
  obtain ⟨u2, _, rfl, f2, h⟩ := fits_cons h
  obtain ⟨u3, _, rfl, f3, h⟩ := fits_cons h
  obtain ⟨u4, _, rfl, f4, h⟩ := fits_cons h
  obtain ⟨u5, _, rfl, f5, h⟩ := fits_cons h
  obtain rfl := fits_nil h
  obtain ⟨a, rfl, _⟩ := fit_i f1
  obtain ⟨b, rfl, _⟩ := fit_i f2
  obtain ⟨c, rfl, _⟩ := fit_i f3
  obtain ⟨d, rfl, _⟩ := fit_i f4
  obtain ⟨e, rfl, _⟩ := fit_i f5
  exact ⟨⟨a, b, c, d, e⟩, rfl, trivial⟩
theorem err_zero {f : Pc} {l : List Wh} {names : List ByteArray} (h : sortErr f l names = 0) : l.length ≤ 100 ∧ names.length ≤ 100 ∧ f.okb = true ∧ ∀ w ∈ l, w.pl.okb = true := by
  by_cases h1 : 100 < l.length ∨ 100 < names.length
  · rw [sortErr_many h1] at h; cases h
  · by_cases h2 : f.err = 0
    · rw [sortErr_each h1 h2] at h
      refine ⟨by omega, by omega, Pc.err_iff.1 h2, fun w hw => ?_⟩
      obtain ⟨i, hi, rfl⟩ := List.getElem_of_mem hw
      exact Pc.err_iff.1 (firstErr_get h i hi)
    · rw [sortErr_from h1 h2] at h; exact absurd h h2
theorem law (f : Pc) (l : List Wh) (names : List ByteArray) (_ : f.ok) (hl : l.length ≤ 9223372036854775807) (_ : ∀ x ∈ l, x.ok) (hn : names.length ≤ 9223372036854775807) (_ : ∀ x ∈ names, x.size ≤ 9223372036854775807) :
    Fun Try.prog 3 [.c (.agg f.row), .c (.sl false (l.map Wh.row)), .c (.sl false (names.map tRow))] [.c (.v (.bool true))] := by
  have h2 : (((sortG f l names).map tRow).length : Nat) ≤ 9223372036854775807 := by
    rw [List.length_map]; unfold sortG; split
    · rw [show (srtL (cfN (farK f l)) names).length = names.length from List.length_mergeSort _]; exact hn
    · simp
  have h3 : (sortG f l names).length ≤ 9223372036854775807 := by simpa using h2
  have Z := err_zero (f := f) (l := l) (names := names)
  obtain ⟨W, hW⟩ : ∃ W, sortErr f l names = W := ⟨_, rfl⟩
  have hS := pSort_fun f l names hl hn
  rw [hW] at hS Z
  refine fun_x ck_hearsaylaw_PlaceSorts rfl ?_
  (refine goI ?_; repeat (intro gg; refine goI ?_))
  (refine .inl ⟨_, _, false, [], aI, hS, nobor, nI, ?_⟩)
  (refine goI ?_; repeat (intro gg; refine goI ?_))
  rw [List.length_map]
  (refine bIf_of (fun h1 => ?_) (fun h1 => ?_) <;> rw [h1])
  · have hW2 : W = 2 := by rw [← hW]; exact sortErr_many (.inl (by have := of_decide_eq_true h1; omega))
    (refine goI ?_; repeat (intro gg; refine goI ?_))
    (refine ⟨[], none, {q : Nat × Int // q.1 ≤ l.length ∧ ((q.2 = 0 ∧ W = firstErr Wh.perr l ∧ ∀ j, (h : j < l.length) → j < q.1 → Wh.perr l[j] = 0) ∨ (q.2 ≠ 0 ∧ q.2 = W))}, [1, 2, 3, 7, 8], fun ⟨⟨k, w⟩, hk, hw⟩ => [(9, .v (.int .i64 w)), (10, .v (.int .i64 k))], [48, 256], fun ⟨⟨k, w⟩, hk, hw⟩ => [], fun ⟨⟨k, w⟩, hk, hw⟩ => l.length - k, trivial, fun _ => ⟨trivial, fun _ => ⟨⟨(0, 2), by omega, .inr ⟨by decide, hW2.symm⟩⟩, tI, keptE_refl _ _, tI, keptH_refl _ _⟩⟩, fun ⟨⟨k, w⟩, hk, hw⟩ => ?_⟩)
    have hk : k ≤ l.length := hk
    (refine goI ?_; repeat (intro gg; refine goI ?_))
    rw [List.length_map]
    (refine bIf_of (fun c1 => ?_) (fun c1 => ?_) <;> rw [c1])
    · have hlt : k < l.length := (by have := of_decide_eq_true c1; omega)
      (refine goI ?_; repeat (intro gg; refine goI ?_))
      (refine bIf_of (fun c2 => ?_) (fun c2 => ?_) <;> rw [c2])
      · have c2' : w = 0 := by simpa using c2
        obtain ⟨_, hWf, h0⟩ := hw.resolve_right (fun q => q.1 c2')
        (refine goI ?_; repeat (intro gg; refine goI ?_))
        refine ⟨k, _, rfl, row_map hlt, ?_⟩
        (refine goI ?_; repeat (intro gg; refine goI ?_))
        (refine .inl ⟨_, _, false, [], aI, rcheckp_fun (l[k]).pl, nobor, nI, ?_⟩)
        (refine goI ?_; repeat (intro gg; refine goI ?_))
        by_cases hp : Wh.perr l[k] = 0
        · (exact ⟨none, trivial, fun _ => ⟨⟨(k + 1, Wh.perr l[k]), by dsimp only; omega, .inl ⟨hp, hWf, up1 (p := fun j h => Wh.perr l[j] = 0) h0 (fun _ => hp)⟩⟩, by show l.length - (k + 1) < l.length - k; omega, tI, tI, tI, tI⟩⟩)
        · (exact ⟨none, trivial, fun _ => ⟨⟨(k + 1, Wh.perr l[k]), by dsimp only; omega, .inr ⟨hp, by rw [hWf]; exact (firstErr_at hlt h0 hp).symm⟩⟩, by show l.length - (k + 1) < l.length - k; omega, tI, tI, tI, tI⟩⟩)
      · have c2' : w ≠ 0 := by simpa using c2
        have hwW : w = W := (hw.resolve_left (fun q => c2' q.1)).2
        subst hwW
        have c3 : (w == 0) = false := c2
        have e : sortG f l names = [] := sortG_no (by rw [hW]; exact c2')
        (refine goI ?_; repeat (intro gg; refine goI ?_))
        rw [c3]
        (refine goI ?_; repeat (intro gg; refine goI ?_))
        (refine .inl ⟨_, _, false, [], aI, pbegun_fun, nobor, nI, ?_⟩)
        (refine goI ?_; repeat (intro gg; refine goI ?_))
        rw [beq_self_eq_true]
        (refine goI ?_; repeat (intro gg; refine goI ?_))
        rw [e]
        (refine .inl ⟨_, _, true, [], aI, texts_fun false false [] [] (by simp), (fun _ => fI), nI, ?_⟩)
        (refine goI ?_; repeat (intro gg; refine goI ?_))
        (exact ⟨[], aI⟩)
    · have hge : ¬ k < l.length := (by have := of_decide_eq_false c1; omega)
      have hwW : w = W := by
        rcases hw with ⟨q1, q2, q3⟩ | ⟨_, q⟩
        · have q1 : w = 0 := q1
          rw [q2, q1]; exact (firstErr_zero fun i hi => q3 i hi (by dsimp only; omega)).symm
        · exact q
      subst hwW
      (refine goI ?_; repeat (intro gg; refine goI ?_))
      (refine bIf_of (fun c3 => ?_) (fun c3 => ?_) <;> rw [c3])
      · have c3' : w = 0 := by simpa using c3
        obtain ⟨z1, z2, z3, z4⟩ := Z c3'
        have e : sortG f l names = sortN f l names := by rw [sortG_ok (by rw [hW]; exact c3')]; exact (cfN_sort _ _).symm
        (refine goI ?_; repeat (intro gg; refine goI ?_))
        (refine .inl ⟨_, _, false, [], aI, SortOf_fun f l names z1 z2 z3 z4, nobor, nI, ?_⟩)
        (refine goI ?_; repeat (intro gg; refine goI ?_))
        (refine .inl ⟨_, _, false, [], aI, pbegun_fun, nobor, nI, ?_⟩)
        (refine goI ?_; repeat (intro gg; refine goI ?_))
        rw [beq_self_eq_true]
        (refine goI ?_; repeat (intro gg; refine goI ?_))
        (refine .inl ⟨_, _, true, [], aI, texts_fun false false (sortG f l names) (sortN f l names) h3, (fun _ => fI), nI, ?_⟩)
        rw [e, sameL_refl tSame_refl]
        (refine goI ?_; repeat (intro gg; refine goI ?_))
        (exact ⟨[], aI⟩)
      · have c3' : w ≠ 0 := by simpa using c3
        have e : sortG f l names = [] := sortG_no (by rw [hW]; exact c3')
        (refine goI ?_; repeat (intro gg; refine goI ?_))
        (refine .inl ⟨_, _, false, [], aI, pbegun_fun, nobor, nI, ?_⟩)
        (refine goI ?_; repeat (intro gg; refine goI ?_))
        rw [beq_self_eq_true]
        (refine goI ?_; repeat (intro gg; refine goI ?_))
        rw [e]
        (refine .inl ⟨_, _, true, [], aI, texts_fun false false [] [] (by simp), (fun _ => fI), nI, ?_⟩)
        (refine goI ?_; repeat (intro gg; refine goI ?_))
        (exact ⟨[], aI⟩)
  · have h1' : ¬ 100 < l.length := (by have := of_decide_eq_false h1; omega)
    (refine goI ?_; repeat (intro gg; refine goI ?_))
    rw [List.length_map]
    (refine bIf_of (fun h4 => ?_) (fun h4 => ?_) <;> rw [h4])
    · have hW2 : W = 2 := by rw [← hW]; exact sortErr_many (.inr (by have := of_decide_eq_true h4; omega))
      (refine goI ?_; repeat (intro gg; refine goI ?_))
      (refine ⟨[], none, {q : Nat × Int // q.1 ≤ l.length ∧ ((q.2 = 0 ∧ W = firstErr Wh.perr l ∧ ∀ j, (h : j < l.length) → j < q.1 → Wh.perr l[j] = 0) ∨ (q.2 ≠ 0 ∧ q.2 = W))}, [1, 2, 3, 7, 8], fun ⟨⟨k, w⟩, hk, hw⟩ => [(9, .v (.int .i64 w)), (10, .v (.int .i64 k))], [48, 256], fun ⟨⟨k, w⟩, hk, hw⟩ => [], fun ⟨⟨k, w⟩, hk, hw⟩ => l.length - k, trivial, fun _ => ⟨trivial, fun _ => ⟨⟨(0, 2), by omega, .inr ⟨by decide, hW2.symm⟩⟩, tI, keptE_refl _ _, tI, keptH_refl _ _⟩⟩, fun ⟨⟨k, w⟩, hk, hw⟩ => ?_⟩)
      have hk : k ≤ l.length := hk
      (refine goI ?_; repeat (intro gg; refine goI ?_))
      rw [List.length_map]
      (refine bIf_of (fun c1 => ?_) (fun c1 => ?_) <;> rw [c1])
      · have hlt : k < l.length := (by have := of_decide_eq_true c1; omega)
        (refine goI ?_; repeat (intro gg; refine goI ?_))
        (refine bIf_of (fun c2 => ?_) (fun c2 => ?_) <;> rw [c2])
        · have c2' : w = 0 := by simpa using c2
          obtain ⟨_, hWf, h0⟩ := hw.resolve_right (fun q => q.1 c2')
          (refine goI ?_; repeat (intro gg; refine goI ?_))
          refine ⟨k, _, rfl, row_map hlt, ?_⟩
          (refine goI ?_; repeat (intro gg; refine goI ?_))
          (refine .inl ⟨_, _, false, [], aI, rcheckp_fun (l[k]).pl, nobor, nI, ?_⟩)
          (refine goI ?_; repeat (intro gg; refine goI ?_))
          by_cases hp : Wh.perr l[k] = 0
          · (exact ⟨none, trivial, fun _ => ⟨⟨(k + 1, Wh.perr l[k]), by dsimp only; omega, .inl ⟨hp, hWf, up1 (p := fun j h => Wh.perr l[j] = 0) h0 (fun _ => hp)⟩⟩, by show l.length - (k + 1) < l.length - k; omega, tI, tI, tI, tI⟩⟩)
          · (exact ⟨none, trivial, fun _ => ⟨⟨(k + 1, Wh.perr l[k]), by dsimp only; omega, .inr ⟨hp, by rw [hWf]; exact (firstErr_at hlt h0 hp).symm⟩⟩, by show l.length - (k + 1) < l.length - k; omega, tI, tI, tI, tI⟩⟩)
        · have c2' : w ≠ 0 := by simpa using c2
          have hwW : w = W := (hw.resolve_left (fun q => c2' q.1)).2
          subst hwW
          have c3 : (w == 0) = false := c2
          have e : sortG f l names = [] := sortG_no (by rw [hW]; exact c2')
          (refine goI ?_; repeat (intro gg; refine goI ?_))
          rw [c3]
          (refine goI ?_; repeat (intro gg; refine goI ?_))
          (refine .inl ⟨_, _, false, [], aI, pbegun_fun, nobor, nI, ?_⟩)
          (refine goI ?_; repeat (intro gg; refine goI ?_))
          rw [beq_self_eq_true]
          (refine goI ?_; repeat (intro gg; refine goI ?_))
          rw [e]
          (refine .inl ⟨_, _, true, [], aI, texts_fun false false [] [] (by simp), (fun _ => fI), nI, ?_⟩)
          (refine goI ?_; repeat (intro gg; refine goI ?_))
          (exact ⟨[], aI⟩)
      · have hge : ¬ k < l.length := (by have := of_decide_eq_false c1; omega)
        have hwW : w = W := by
          rcases hw with ⟨q1, q2, q3⟩ | ⟨_, q⟩
          · have q1 : w = 0 := q1
            rw [q2, q1]; exact (firstErr_zero fun i hi => q3 i hi (by dsimp only; omega)).symm
          · exact q
        subst hwW
        (refine goI ?_; repeat (intro gg; refine goI ?_))
        (refine bIf_of (fun c3 => ?_) (fun c3 => ?_) <;> rw [c3])
        · have c3' : w = 0 := by simpa using c3
          obtain ⟨z1, z2, z3, z4⟩ := Z c3'
          have e : sortG f l names = sortN f l names := by rw [sortG_ok (by rw [hW]; exact c3')]; exact (cfN_sort _ _).symm
          (refine goI ?_; repeat (intro gg; refine goI ?_))
          (refine .inl ⟨_, _, false, [], aI, SortOf_fun f l names z1 z2 z3 z4, nobor, nI, ?_⟩)
          (refine goI ?_; repeat (intro gg; refine goI ?_))
          (refine .inl ⟨_, _, false, [], aI, pbegun_fun, nobor, nI, ?_⟩)
          (refine goI ?_; repeat (intro gg; refine goI ?_))
          rw [beq_self_eq_true]
          (refine goI ?_; repeat (intro gg; refine goI ?_))
          (refine .inl ⟨_, _, true, [], aI, texts_fun false false (sortG f l names) (sortN f l names) h3, (fun _ => fI), nI, ?_⟩)
          rw [e, sameL_refl tSame_refl]
          (refine goI ?_; repeat (intro gg; refine goI ?_))
          (exact ⟨[], aI⟩)
        · have c3' : w ≠ 0 := by simpa using c3
          have e : sortG f l names = [] := sortG_no (by rw [hW]; exact c3')
          (refine goI ?_; repeat (intro gg; refine goI ?_))
          (refine .inl ⟨_, _, false, [], aI, pbegun_fun, nobor, nI, ?_⟩)
          (refine goI ?_; repeat (intro gg; refine goI ?_))
          rw [beq_self_eq_true]
          (refine goI ?_; repeat (intro gg; refine goI ?_))
          rw [e]
          (refine .inl ⟨_, _, true, [], aI, texts_fun false false [] [] (by simp), (fun _ => fI), nI, ?_⟩)
          (refine goI ?_; repeat (intro gg; refine goI ?_))
          (exact ⟨[], aI⟩)
    · have h4' : ¬ 100 < names.length := (by have := of_decide_eq_false h4; omega)
      have h12 : ¬ (100 < l.length ∨ 100 < names.length) := by omega
      have hI : (f.err = 0 ∧ W = firstErr Wh.perr l ∧ ∀ j, (h : j < l.length) → j < 0 → Wh.perr l[j] = 0) ∨ (f.err ≠ 0 ∧ f.err = W) := by
        by_cases q : f.err = 0
        · exact .inl ⟨q, by rw [← hW]; exact sortErr_each h12 q, fun j _ h => absurd h (Nat.not_lt_zero _)⟩
        · exact .inr ⟨q, by rw [← hW]; exact (sortErr_from h12 q).symm⟩
      (refine goI ?_; repeat (intro gg; refine goI ?_))
      (refine .inl ⟨_, _, false, [], aI, rcheckp_fun f, nobor, nI, ?_⟩)
      (refine goI ?_; repeat (intro gg; refine goI ?_))
      (refine ⟨[], none, {q : Nat × Int // q.1 ≤ l.length ∧ ((q.2 = 0 ∧ W = firstErr Wh.perr l ∧ ∀ j, (h : j < l.length) → j < q.1 → Wh.perr l[j] = 0) ∨ (q.2 ≠ 0 ∧ q.2 = W))}, [1, 2, 3, 7, 8], fun ⟨⟨k, w⟩, hk, hw⟩ => [(9, .v (.int .i64 w)), (10, .v (.int .i64 k))], [48, 256], fun ⟨⟨k, w⟩, hk, hw⟩ => [], fun ⟨⟨k, w⟩, hk, hw⟩ => l.length - k, trivial, fun _ => ⟨trivial, fun _ => ⟨⟨(0, f.err), by omega, hI⟩, tI, keptE_refl _ _, tI, keptH_refl _ _⟩⟩, fun ⟨⟨k, w⟩, hk, hw⟩ => ?_⟩)
      have hk : k ≤ l.length := hk
      (refine goI ?_; repeat (intro gg; refine goI ?_))
      rw [List.length_map]
      (refine bIf_of (fun c1 => ?_) (fun c1 => ?_) <;> rw [c1])
      · have hlt : k < l.length := (by have := of_decide_eq_true c1; omega)
        (refine goI ?_; repeat (intro gg; refine goI ?_))
        (refine bIf_of (fun c2 => ?_) (fun c2 => ?_) <;> rw [c2])
        · have c2' : w = 0 := by simpa using c2
          obtain ⟨_, hWf, h0⟩ := hw.resolve_right (fun q => q.1 c2')
          (refine goI ?_; repeat (intro gg; refine goI ?_))
          refine ⟨k, _, rfl, row_map hlt, ?_⟩
          (refine goI ?_; repeat (intro gg; refine goI ?_))
          (refine .inl ⟨_, _, false, [], aI, rcheckp_fun (l[k]).pl, nobor, nI, ?_⟩)
          (refine goI ?_; repeat (intro gg; refine goI ?_))
          by_cases hp : Wh.perr l[k] = 0
          · (exact ⟨none, trivial, fun _ => ⟨⟨(k + 1, Wh.perr l[k]), by dsimp only; omega, .inl ⟨hp, hWf, up1 (p := fun j h => Wh.perr l[j] = 0) h0 (fun _ => hp)⟩⟩, by show l.length - (k + 1) < l.length - k; omega, tI, tI, tI, tI⟩⟩)
          · (exact ⟨none, trivial, fun _ => ⟨⟨(k + 1, Wh.perr l[k]), by dsimp only; omega, .inr ⟨hp, by rw [hWf]; exact (firstErr_at hlt h0 hp).symm⟩⟩, by show l.length - (k + 1) < l.length - k; omega, tI, tI, tI, tI⟩⟩)
        · have c2' : w ≠ 0 := by simpa using c2
          have hwW : w = W := (hw.resolve_left (fun q => c2' q.1)).2
          subst hwW
          have c3 : (w == 0) = false := c2
          have e : sortG f l names = [] := sortG_no (by rw [hW]; exact c2')
          (refine goI ?_; repeat (intro gg; refine goI ?_))
          rw [c3]
          (refine goI ?_; repeat (intro gg; refine goI ?_))
          (refine .inl ⟨_, _, false, [], aI, pbegun_fun, nobor, nI, ?_⟩)
          (refine goI ?_; repeat (intro gg; refine goI ?_))
          rw [beq_self_eq_true]
          (refine goI ?_; repeat (intro gg; refine goI ?_))
          rw [e]
          (refine .inl ⟨_, _, true, [], aI, texts_fun false false [] [] (by simp), (fun _ => fI), nI, ?_⟩)
          (refine goI ?_; repeat (intro gg; refine goI ?_))
          (exact ⟨[], aI⟩)
      · have hge : ¬ k < l.length := (by have := of_decide_eq_false c1; omega)
        have hwW : w = W := by
          rcases hw with ⟨q1, q2, q3⟩ | ⟨_, q⟩
          · have q1 : w = 0 := q1
            rw [q2, q1]; exact (firstErr_zero fun i hi => q3 i hi (by dsimp only; omega)).symm
          · exact q
        subst hwW
        (refine goI ?_; repeat (intro gg; refine goI ?_))
        (refine bIf_of (fun c3 => ?_) (fun c3 => ?_) <;> rw [c3])
        · have c3' : w = 0 := by simpa using c3
          obtain ⟨z1, z2, z3, z4⟩ := Z c3'
          have e : sortG f l names = sortN f l names := by rw [sortG_ok (by rw [hW]; exact c3')]; exact (cfN_sort _ _).symm
          (refine goI ?_; repeat (intro gg; refine goI ?_))
          (refine .inl ⟨_, _, false, [], aI, SortOf_fun f l names z1 z2 z3 z4, nobor, nI, ?_⟩)
          (refine goI ?_; repeat (intro gg; refine goI ?_))
          (refine .inl ⟨_, _, false, [], aI, pbegun_fun, nobor, nI, ?_⟩)
          (refine goI ?_; repeat (intro gg; refine goI ?_))
          rw [beq_self_eq_true]
          (refine goI ?_; repeat (intro gg; refine goI ?_))
          (refine .inl ⟨_, _, true, [], aI, texts_fun false false (sortG f l names) (sortN f l names) h3, (fun _ => fI), nI, ?_⟩)
          rw [e, sameL_refl tSame_refl]
          (refine goI ?_; repeat (intro gg; refine goI ?_))
          (exact ⟨[], aI⟩)
        · have c3' : w ≠ 0 := by simpa using c3
          have e : sortG f l names = [] := sortG_no (by rw [hW]; exact c3')
          (refine goI ?_; repeat (intro gg; refine goI ?_))
          (refine .inl ⟨_, _, false, [], aI, pbegun_fun, nobor, nI, ?_⟩)
          (refine goI ?_; repeat (intro gg; refine goI ?_))
          rw [beq_self_eq_true]
          (refine goI ?_; repeat (intro gg; refine goI ?_))
          rw [e]
          (refine .inl ⟨_, _, true, [], aI, texts_fun false false [] [] (by simp), (fun _ => fI), nI, ?_⟩)
          (refine goI ?_; repeat (intro gg; refine goI ?_))
          (exact ⟨[], aI⟩)
--FRAME
theorem own : ownKnob Try.prog.godebug = none := by kernel_rfl

set_option maxRecDepth 100000 in
theorem lifted (os : Os) (started : os.Started) (H : Type) (enc : TypeId × Value → H) :
    ReturnsInHanded {} Try.checked os 3 .any (Rows.placeSortsSpec.pre6 enc Try.prog Try.f3 Rows.placeSortsRow.domain false) (Rows.placeSortsSpec.post enc Try.prog Try.f3 false true false false) := by
  refine returnsInHanded_of_change (C := Try.checked) own started (by kernel_rfl) Try.func3
    (ChangeSpec.witness6 (enc := enc) (C := Try.checked) false ⟨#[], #[.agg #[.int .i64 0, .int .i64 0, .int .i64 0, .int .i64 0, .int .i64 0], .slice none 0 0, .slice none 0 0], []⟩ 8 (by kernel_rfl) (by kernel_rfl) (by kernel_rfl) (by kernel_rfl)) ?_
  intro W base args ds gs before hval0 hW hcnd hsz
  have hval : ∀ (j : Nat) t v, Try.f3.params[j]? = some t → args[j]? = some v → Value.okWide Try.prog W .any base t v := hval0
  have hW' := hW
  obtain ⟨p, q, hA0, hV, rfl, hfz, hnd⟩ := hW
  have hA : DataW.TrodAll enc Try.prog W 0 (fun _ => true) true Try.f3.params.toList args.toList ds p := hA0
  rw [Try.params3] at hA hval
  obtain ⟨v0, vs0, d0, ds0, p0, q0, hargs, rfl, rfl, h0, r0⟩ := trodAll_cons hA
  obtain ⟨v1, vs1, d1, ds1, p1, q1, rfl, rfl, rfl, h1, r1⟩ := trodAll_cons r0
  obtain ⟨v2, vs2, d2, ds2, p2, q2, rfl, rfl, rfl, h2, r2⟩ := trodAll_cons r1
  obtain ⟨rfl, rfl, rfl⟩ := trodAll_nil r2
  obtain rfl : args = #[v0, v1, v2] := by cases args; simp_all
  obtain ⟨rfl, rfl⟩ := trodVars_none hV
  obtain ⟨u0, f0, rv0⟩ := open_struct (dp := 5) Try.underlying23 (by kernel_rfl) (hval 0 23 v0 rfl rfl) h0
  obtain ⟨m0, rfl, mw0⟩ := pl_dec _ f0
  obtain ⟨u1, f1, rv1⟩ := open_list (dp := 5) Try.underlying24 (by kernel_rfl) (hval 1 24 v1 rfl rfl) h1
  obtain ⟨l1, rfl, ln1, lw1⟩ := fit_list wh_dec f1
  obtain ⟨u2, f2, rv2⟩ := open_list (dp := 5) Try.underlying25 (by kernel_rfl) (hval 2 25 v2 rfl rfl) h2
  obtain ⟨l2, rfl, ln2, lw2⟩ := fit_list tx_dec f2
  clear hA0 hval0
  refine (tieL (us := [_, _, _]) (xs := [_, _, _]) (w := W) (law m0 l1 l2 mw0 ln1 lw1 ln2 lw2) ⟨rv0, rv1, rv2, trivial⟩).mono fun e W' ⟨he, hg⟩ => ?_
  subst he
  exact ⟨_, rfl, law_post hW' (by kernel_rfl) (by rw [Try.params3]; exact of_decide_eq_true (by kernel_rfl)) rfl rfl (by kernel_rfl) Try.underlying4 hg⟩

theorem over : Rows.placeSortsRow.holds Try.pinned (OpenSpec.ofChange Rows.placeSortsSpec) :=
  OpenClaim.holds_of_wide 3 Try.f3 rfl rfl rfl rfl rfl rfl rfl ⟨rfl, rfl, rfl, rfl, rfl⟩ rfl rfl rfl rfl rfl (by kernel_rfl) Try.func3 (by kernel_rfl)
    (of_decide_eq_true (by kernel_rfl)) (by unfold Func.isWrapper; first | (rw [if_pos (by decide +kernel)]; kernel_rfl) | (rw [if_neg (by decide +kernel)]; exact ⟨rfl, rfl⟩))
    (fun os started H enc _ => lifted os started H enc)

/-- the statement -/
theorem proved : Rows.PlaceSortsSaid := over
#print axioms proved
end Go.Proofs.Ytjhdlcmecbngkaa.placeSorts
