/- Texts of this claim, joined. -/
import Derived.Test.YtdaffjjconlmoaaRows
import Derived.Lib.Walk
import Derived.Lib.SliceRun
import Derived.Lib.JoinLaws
import Derived.Lib.AppendZeros
import Derived.WalkSpells
import Derived.Shelf.SlSortCmp.NoneTotal
import Derived.Test.YtdaffjjconlmoaaAbsQ
import Derived.Test.YtdaffjjconlmoaaZa
/- slices.Insert of one value into a row of the call's own, at hearsay/api.Service: whatever the capacity. -/
namespace Go.Proofs.Ytdaffjjconlmoaa
open Go.RowKit
set_option linter.unusedVariables false

theorem infoSv : (Try.prog.info? 24).map (fun i => (i.zero, i.size, i.bytes)) = some (some (.agg #[.string ⟨#[]⟩, .string ⟨#[]⟩, .string ⟨#[]⟩, .string ⟨#[]⟩, .int .i64 0, .int .i64 0, .bool false, .int .i64 0, .bool false]), 9, 104) := by kernel_rfl

theorem cellsSv : (Try.prog.info? 24).map (·.size) = some 9 := by kernel_rfl
theorem sizeSv : ∀ w, (Go.sizeOf 24).run Try.prog w = .ok 9 w := by
  intro w
  obtain ⟨i0, hi0, hz0, hzs, hzb⟩ := info_parts infoSv
  simp [sizeOf, typeInfo, hi0, hzs]

theorem insSv_over (vb g : Nat) (vc lb cb off : Nat) (vs cur : Array Value) (w : World) (hv : Blk w vb 24 vs) (hg : Blk w g 24 cur) (hne : vb ≠ g) (hcur : cur.size ≠ 0) :
    (callFunc 76 #[.slice (some ⟨vb, 0, none⟩) 1 vc, .slice (some ⟨g, off, none⟩) lb cb]).run Try.prog w = .ok (.value (.bool false)) w := by
  rw [run_callFunc_extern Try.func76 (by kernel_rfl) (by kernel_rfl) (by kernel_rfl) (e := Extern.SlicesOverlaps.overlaps #[22, 22] #[4]) (by kernel_rfl),
    Lib.run_overlaps_apart w 22 4 24 Try.underlying22 9 sizeSv ⟨vb, 0, none⟩ ⟨g, off, none⟩ 1 vc lb cb hne 24 24 vs.size cur.size
      (by unfold Blk at hv; simp [World.shape?, hv]) (by unfold Blk at hg; simp [World.shape?, hg]) hcur (hv.frozen _) (hv.frozen _)]
  rfl

/-- what Insert leaves -/
def InsSv (L : Nat → Prop) (base n i : Nat) (xs vs : List Value) (w : World) (e : Ending) (w' : World) : Prop :=
  ∃ A' c', e = .returned (.slice A' (n + 1) c') ∧ w'.ownsRow base 24 9 (.slice A' (n + 1) c') (n + 1) (xs.take (i * 9) ++ vs ++ xs.drop (i * 9)) ∧ Fr L w w' ∧ ∀ k, (Value.slice A' (n + 1) c').ownBlock = some k → L k ∨ w.heap.size ≤ k

set_option maxHeartbeats 1000000 in
set_option maxRecDepth 100000 in
theorem insSv_end (base : Nat) (A : Option Addr) (n c : Nat) (xs : List Value) (vb vc : Nat) (vcur : Array Value) (vs : List Value) (w : World) (hown : w.ownsRow base 24 9 (.slice A n c) n xs) (hbase : base ≤ w.heap.size)
    (hn : n ≤ 1000) (hv : Blk w vb 24 vcur) (hvc : vcur.toList.take 9 = vs) (hvl : vs.length = 9) (h1 : ∀ v ∈ vs, v.oneCell' = true) :
    Calls Try.prog 59 #[.slice A n c, .int .i64 n, .slice (some ⟨vb, 0, none⟩) 1 vc] w (InsSv (LB A) base n n xs vs w) := by
  obtain ⟨i0, hi0, hz0, hzs, hzb⟩ := info_parts infoSv
  have hnc : n ≤ c ∧ c ≤ 9223372036854775807 := by
    rcases hown.2 with ⟨hv, hz⟩ | ⟨g, cap, cur, hv, _, _, h, h', _⟩
    · injection hv; omega
    · injection hv with _ _ e; subst e; exact ⟨h, h'⟩
  obtain ⟨hnc, hc63⟩ := hnc
  have hxs : xs.length = n * 9 := hown.1
  have HXS := hid hxs
  have HVL := hid hvl
  have HV := hid hv
  have HO := hid hown
  have HZ0 := hid hz0
  have HZS := hid hzs
  have HZB := hid hzb
  have HI0 := hid hi0
  clear hxs hvl hv hown hz0 hzs hzb hi0
  have hnn : ((n : Int) == (n : Int)) = true := by simp
  go_enter Try.func59, Try.ntmps59
  go_wp2_with (at_builtin; refine wpList_appD _ rfl _ _ 22 rfl base 24 i0 _ 9 104 Try.underlying22 HI0.out HZ0.out HZS.out HZB.out rfl (by decide) _ _ _ rfl HO.out ⟨vb, 0, none⟩ 1 vc vs rfl (by simpa using HVL.out) (blk_at HV.out hvc) h1 (by simp only [maxLen]; omega) (by omega) hbase ?_; intro v1 w1 hown1 hg1 hd1 hat1)
  all_goals go_ret
  all_goals
    obtain ⟨A', c', rfl⟩ := own_form hown1
    refine ⟨A', c', rfl, ?_, (Fr.refl _ _).grown hg1 (inl_own HO.out (fun k hk => lb_of (n := n) (c := c) hk)) hd1, fun k hk => ?_⟩
    rotate_left
    · rcases hat1 with h | h
      · exact .inl (lb_of (n := n) (c := c) (h.symm.trans hk))
      · have := h.symm.trans hk
        injection this with this
        exact .inr (by omega)
    rw [List.take_of_length_le (by have := HXS.out; omega), List.drop_of_length_le (by have := HXS.out; omega), List.append_nil]
    exact hown1

set_option maxHeartbeats 2000000 in
set_option maxRecDepth 100000 in
/-- there is room, and it is not at the end: in place -/
theorem insSv_room (base g : Nat) (n c i : Nat) (cur : Array Value) (xs : List Value) (vb vc : Nat) (vcur : Array Value) (vs : List Value) (w : World) (hg : Blk w g 24 cur) (hbg : base ≤ g) (hcs : cur.size = c * 9) (hcx : cur.toList.take (n * 9) = xs)
    (hi : i < n) (hr : n + 1 ≤ c) (hc63 : c ≤ 9223372036854775807) (hn : n ≤ 1000) (hv : Blk w vb 24 vcur) (hvc : vcur.toList.take 9 = vs) (hne : vb ≠ g) (hvl : vs.length = 9) (h1 : ∀ v ∈ vs, v.oneCell' = true) (h1x : ∀ v ∈ xs, v.oneCell' = true) :
    Calls Try.prog 59 #[.slice (some ⟨g, 0, none⟩) n c, .int .i64 i, .slice (some ⟨vb, 0, none⟩) 1 vc] w (InsSv (LB (some ⟨g, 0, none⟩)) base n i xs vs w) := by
  have hcl : cur.toList.length = c * 9 := by rw [Array.length_toList]; exact hcs
  have hxl : xs.length = n * 9 := by rw [← hcx, List.length_take, hcl]; omega
  have hov : ∀ lb cb, (callFunc 76 #[.slice (some ⟨vb, 0, none⟩) 1 vc, .slice (some ⟨g, (i + 1) * 9, none⟩) lb cb]).run Try.prog w = .ok (.value (.bool false)) w := fun lb cb => insSv_over vb g vc lb cb ((i + 1) * 9) vcur cur w hv hg hne (by omega)
  have HB2 : Hid ((splice (splice cur.toList ((i + 1) * 9) (xs.drop (i * 9))) (i * 9) vs).take ((n + 1) * 9) = xs.take (i * 9) ++ vs ++ xs.drop (i * 9)) := by
    refine hid ?_
    have h := splice_room cur.toList xs vs (i * 9) (n * 9) hcx (by rw [hcl]; omega) (by omega) (by rw [hcl, hvl]; omega)
    rw [hvl] at h
    rw [Nat.add_mul, Nat.add_mul, Nat.one_mul]
    exact h
  have HC1 : Hid ((xs.drop (i * 9)).length = Nat.min (n + 1 - i) (n - i) * 9) := by
    refine hid ?_
    rw [List.length_drop, hxl, show Nat.min (n + 1 - i) (n - i) = n - i from Nat.min_eq_right (by omega), Nat.sub_mul]
  have HC2 := hid (fun j v (hj : (xs.drop (i * 9))[j]? = some v) => blk_drop hg.drew hcx (i * 9) j v hj)
  have HC3 : Hid ((i + 1) * 9 + (xs.drop (i * 9)).length ≤ cur.size) := hid (by rw [List.length_drop]; omega)
  have HC3' : Hid ((i + 1) * 9 + (xs.drop (i * 9)).length ≤ cur.toList.length) := hid (by rw [List.length_drop, hcl]; omega)
  have HC4 := hid (fun v (hv : v ∈ xs.drop (i * 9)) => h1x v (List.mem_of_mem_drop hv))
  have HC5 : Hid (vs.length = Nat.min 1 (n + 1 - i) * 9) := by
    refine hid ?_
    rw [hvl, show Nat.min 1 (n + 1 - i) = 1 from Nat.min_eq_left (by omega)]
  have HC6 : Hid (i * 9 + vs.length ≤ (splice cur.toList ((i + 1) * 9) (xs.drop (i * 9))).toArray.size) := by
    refine hid ?_
    rw [List.size_toArray, length_splice _ _ _ (by rw [hcl, ← hcs]; exact HC3.out), hcl, hvl]
    omega
  have HXL := hid hxl
  have HVL := hid hvl
  have HG := hid hg
  have HV := hid hv
  have HCS := hid hcs
  have HNE := hid hne
  have HCX := hid hcx
  clear hxl hvl hg hv hcs hne hcx
  have hw1 : IntKind.i64.wrap ((i : Int) + 1) = (i : Int) + 1 := by rw [IntWalk.i64_in _ (by omega)]
  have hb1 : (0 : Int) ≤ (i : Int) + 1 := by omega
  have htn : ((i : Int) + 1).toNat = i + 1 := by omega
  have hb3 : (i : Int) ≤ (n : Int) + 1 := by omega
  have hb4 : (i : Int) + 1 ≤ (n : Int) + 1 := by omega
  have hb5 : (i : Int) ≤ (n : Int) := by omega
  have hb6 : ¬ c = i := by omega
  have hb7 : ¬ c = i + 1 := by omega
  have hb8 : ((i : Int) == (n : Int)) = false := by simp; omega
  go_enter Try.func59, Try.ntmps59
  go_wp2_with (simp only [hov])
  go_region_law (refine step_copyN rfl (.tmp 73) (.tmp 76) 22 22 rfl 24 9 Try.underlying22 cellsSv g ((i + 1) * 9) (n - i) (c - (i + 1)) ⟨g, i * 9, none⟩ (n + 1 - i) (c - i) (by simp [Act.eval, Act.put]) (by simp [Act.eval, Act.put]) cur 24 HG.out.drew (xs.drop (i * 9)) HC1.out HC2.out HC3.out HC4.out ?_; intro w1 hk1 hg1 hd1)
  have HK1 := hid hk1
  have HG1 := hid hg1
  have HV1 := hid (HV.out.drew.grown hg1 (fun e => HNE.out (by injection e)))
  clear hk1 hg1
  go_wp2_with (refine wpList_copyN rfl (.tmp 80) (.tmp 81) 22 22 rfl 24 9 Try.underlying22 cellsSv g (i * 9) (n + 1 - i) (c - i) ⟨vb, 0, none⟩ 1 vc (by simp [Act.eval]) (by simp [Act.eval]) _ 24 HK1.out vs HC5.out (blk_at HV1.out hvc) HC6.out h1 ?_; intro w2 hk2 hg2 hd2)
  go_ret
  refine ⟨_, _, rfl, ⟨?_, .inr ⟨g, c, _, rfl, hbg, hk2, by omega, by simpa [maxLen] using hc63, ?_, ?_⟩⟩, ?_, fun k hk => .inl ⟨_, rfl, by injection hk with hk⟩⟩
  · simp only [List.length_append, List.length_take, List.length_drop]
    have := HXL.out; have := HVL.out
    omega
  · have h1 := length_splice cur.toList ((i + 1) * 9) (xs.drop (i * 9)) HC3'.out
    have h2 := length_splice (splice cur.toList ((i + 1) * 9) (xs.drop (i * 9))) (i * 9) vs (by simpa using HC6.out)
    rw [List.size_toArray, List.toList_toArray, h2, h1]
    simpa using HCS.out
  · rw [List.toList_toArray, List.toList_toArray]
    exact HB2.out
  · have hlt := HG.out.lt
    exact ((Fr.refl _ w).drew.grown HG1.out (fun k hk => .inl (⟨_, rfl, by injection hk with hk⟩)) hd1).grown hg2 (fun k hk => .inl (⟨_, rfl, by injection hk with hk⟩)) hd2

set_option maxHeartbeats 2000000 in
set_option maxRecDepth 100000 in
/-- there is no room, and it is not at the end: a new row -/
theorem insSv_grow (base g : Nat) (n c i : Nat) (cur : Array Value) (xs : List Value) (vb vc : Nat) (vcur : Array Value) (vs : List Value) (w : World) (hg : Blk w g 24 cur) (hbase : base ≤ w.heap.size) (hcs : cur.size = c * 9) (hcx : cur.toList.take (n * 9) = xs)
    (hi : i < n) (hnc : n ≤ c) (hr : c < n + 1) (hn : n ≤ 1000) (hv : Blk w vb 24 vcur) (hvc : vcur.toList.take 9 = vs) (hvl : vs.length = 9) (h1 : ∀ v ∈ vs, v.oneCell' = true) (h1x : ∀ v ∈ xs, v.oneCell' = true) :
    Calls Try.prog 59 #[.slice (some ⟨g, 0, none⟩) n c, .int .i64 i, .slice (some ⟨vb, 0, none⟩) 1 vc] w (InsSv (LB (some ⟨g, 0, none⟩)) base n i xs vs w) := by
  obtain ⟨i0, hi0, hz0, hzs, hzb⟩ := info_parts infoSv
  have hcl : cur.toList.length = c * 9 := by rw [Array.length_toList]; exact hcs
  have hxl : xs.length = n * 9 := by rw [← hcx, List.length_take, hcl]; omega
  have hold : (Builtin.firstCells i0.size i (.slice (some ⟨g, 0, none⟩) i c)).run Try.prog w.drew = .ok (xs.take (i * 9)).toArray w.drew := by
    rw [hzs]
    exact run_firstCells_some w.drew 9 i ⟨g, 0, none⟩ i c (xs.take (i * 9)) (by rw [List.length_take]; omega) (fun j v hj => by
      have hj' : (xs.drop 0)[j]? = some v := by
        rw [List.drop_zero]
        rw [List.getElem?_take] at hj
        split at hj
        · exact hj
        · cases hj
      exact blk_drop hg.drew hcx 0 j v hj')
  have hkk : (n : Int) + 1 - (i : Int) = ((n + 1 - i : Nat) : Int) := by omega
  have hik : i + (n + 1 - i) = n + 1 := by omega
  obtain ⟨G, hG⟩ : ∃ G, G = grownCap w (n + 1) c 24 := ⟨_, rfl⟩
  have hGn : n + 1 ≤ G := by rw [hG]; exact grownCap_ge w _ _ _
  have hG63 : G ≤ 9223372036854775807 := by
    have := grownCap_le_maxLen w (n + 1) c 24 (by unfold maxLen; omega)
    rw [← hG] at this
    unfold maxLen at this
    omega
  obtain ⟨ROW, hROW⟩ : ∃ ROW : Array Value, ROW = (xs.take (i * 9)).toArray ++ Builtin.zeroCells (Value.agg #[.string ⟨#[]⟩, .string ⟨#[]⟩, .string ⟨#[]⟩, .string ⟨#[]⟩, .int .i64 0, .int .i64 0, .bool false, .int .i64 0, .bool false]).cells (n + 1 - i) ++ Builtin.zeroCells (Value.agg #[.string ⟨#[]⟩, .string ⟨#[]⟩, .string ⟨#[]⟩, .string ⟨#[]⟩, .int .i64 0, .int .i64 0, .bool false, .int .i64 0, .bool false]).cells (G - (n + 1)) := ⟨_, rfl⟩
  have hrz : ∀ ty, (Builtin.append_ #[22, 3] ty #[.slice (some ⟨g, 0, none⟩) i c, .int .i64 ((n : Int) + 1 - (i : Int))]).run Try.prog w =
      .ok (.slice (some ⟨w.heap.size, 0, none⟩) (n + 1) G) (w.drew.alloc (.cells ROW 24)) := fun ty => by
    have h := Lib.run_append_grow_zeros w 22 3 ty 24 i0 _ .i64 .i64 Try.underlying22 Try.underlying3 hi0 hz0 (some ⟨g, 0, none⟩) i c (xs.take (i * 9)) hold (n + 1 - i) (by omega) (by omega) (by omega) (by omega) (by rw [hzb]; omega) (by rw [hzb, hik]; exact growslice_fits hr (by omega))
    rw [hik] at h
    rw [hkk, hROW, hG]
    exact h
  have hRs : ROW.size = G * 9 := by
    rw [hROW]
    simp [Builtin.zeroCells, Value.cells]
    omega
  have hRl : ROW.toList.length = G * 9 := by rw [Array.length_toList]; exact hRs
  have hRt : ROW.toList.take (i * 9) = xs.take (i * 9) := by
    rw [hROW, Array.toList_append, Array.toList_append, List.append_assoc, List.take_append_of_le_length (by simp; omega), List.toList_toArray, List.take_take, Nat.min_self]
  have HB2 : Hid ((splice (splice ROW.toList (i * 9) vs) ((i + 1) * 9) (xs.drop (i * 9))).take ((n + 1) * 9) = xs.take (i * 9) ++ vs ++ xs.drop (i * 9)) := by
    refine hid ?_
    have h := splice_new ROW.toList xs vs (i * 9) (n * 9) hRt hxl (by omega) (by rw [hRl, hvl]; omega)
    rw [hvl] at h
    rw [Nat.add_mul, Nat.add_mul, Nat.one_mul]
    exact h
  have hgl := hg.lt
  have hvlt := hv.lt
  have HN := hid (Blk.new_ w.drew 24 ROW (g := w.heap.size) rfl)
  have HV := hid ((hv.drew).alloc (.cells ROW 24))
  have HG0 := hid ((hg.drew).alloc (.cells ROW 24))
  have HC1 : Hid (vs.length = Nat.min 1 (n + 1 - i) * 9) := by
    refine hid ?_
    rw [hvl, show Nat.min 1 (n + 1 - i) = 1 from Nat.min_eq_left (by omega)]
  have HC2 : Hid (i * 9 + vs.length ≤ ROW.size) := hid (by rw [hRs, hvl]; omega)
  have HC2' : Hid (i * 9 + vs.length ≤ ROW.toList.length) := hid (by rw [hRl, hvl]; omega)
  have HC3 : Hid ((xs.drop (i * 9)).length = Nat.min (n - i) (n - i) * 9) := by
    refine hid ?_
    rw [List.length_drop, hxl, show Nat.min (n - i) (n - i) = n - i from Nat.min_self _, Nat.sub_mul]
  have HC4 : Hid ((i + 1) * 9 + (xs.drop (i * 9)).length ≤ (splice ROW.toList (i * 9) vs).toArray.size) := by
    refine hid ?_
    rw [List.size_toArray, length_splice _ _ _ HC2'.out, hRl, List.length_drop]
    omega
  have HC5 := hid (fun v (hv : v ∈ xs.drop (i * 9)) => h1x v (List.mem_of_mem_drop hv))
  have HRL := hid hRl
  have HXL := hid hxl
  have HVL := hid hvl
  have HCX := hid hcx
  have HRS := hid hRs
  have HNE : Hid (w.heap.size ≠ g) := hid (by omega)
  have HNV : Hid (w.heap.size ≠ vb) := hid (by omega)
  clear hRl hxl hvl hcx hRs hold hi0 hz0 hzs hzb hkk hik hROW hG hg hv hcs hcl hRt
  have hw1 : IntKind.i64.wrap ((i : Int) + 1) = (i : Int) + 1 := by rw [IntWalk.i64_in _ (by omega)]
  have hb1 : (0 : Int) ≤ (i : Int) + 1 := by omega
  have htn : ((i : Int) + 1).toNat = i + 1 := by omega
  have hb3 : (i : Int) ≤ (n : Int) + 1 := by omega
  have hb4 : (i : Int) + 1 ≤ (n : Int) + 1 := by omega
  have hb5 : (i : Int) ≤ (n : Int) := by omega
  have hb6 : ¬ c = i := by omega
  have hb7 : ¬ G = i + 1 := by omega
  have hb9 : ¬ G = i := by omega
  have hb8 : ((i : Int) == (n : Int)) = false := by simp; omega
  go_enter Try.func59, Try.ntmps59
  go_wp2_with (first
    | (at_builtin; refine Lib.wpList_append_run _ rfl _ _ _ _ rfl _ _ rfl rfl _ _ (hrz _) ?_; clear hrz)
    | (refine wpList_copyN rfl (.tmp 43) (.tmp 44) 22 22 rfl 24 9 Try.underlying22 cellsSv w.heap.size (i * 9) (n + 1 - i) (G - i) ⟨vb, 0, none⟩ 1 vc (by simp [Act.eval]) (by simp [Act.eval]) ROW 24 HN.out.drew vs HC1.out (blk_at HV.out.drew hvc) HC2.out h1 ?_; intro w1 hk1 hg1 hd1))
  have HK1 := hid hk1
  have HG1 := hid hg1
  have HG0' := hid ((show Blk (w.alloc (.cells ROW 24)).drew g 24 cur from HG0.out).grown hg1 (fun e => HNE.out (by injection e with e; exact e.symm)))
  have HC2a := hid (fun j v (hj : (xs.drop (i * 9))[j]? = some v) => blk_drop HG0'.out.drew HCX.out (i * 9) j v hj)
  clear hk1 hg1
  go_region_law (refine step_copyN rfl (.tmp 50) (.tmp 53) 22 22 rfl 24 9 Try.underlying22 cellsSv w.heap.size ((i + 1) * 9) (n - i) (G - (i + 1)) ⟨g, i * 9, none⟩ (n - i) (c - i) (by simp [Act.eval, Act.put]) (by simp [Act.eval, Act.put]) _ 24 HK1.out.drew (xs.drop (i * 9)) HC3.out HC2a.out HC4.out HC5.out ?_; intro w2 hk2 hg2 hd2)
  have HK2 := hid hk2
  have HG2 := hid hg2
  clear hk2 hg2
  go_wp2
  go_ret
  refine ⟨_, _, rfl, ⟨?_, .inr ⟨w.heap.size, G, _, rfl, hbase, HK2.out, hGn, by simpa [maxLen] using hG63, ?_, ?_⟩⟩, ?_, fun k hk => .inr (Nat.le_of_eq (show w.heap.size = k by injection hk))⟩
  · simp only [List.length_append, List.length_take, List.length_drop]
    have := HXL.out; have := HVL.out
    omega
  · have h1 := length_splice ROW.toList (i * 9) vs HC2'.out
    have h2 := length_splice (splice ROW.toList (i * 9) vs) ((i + 1) * 9) (xs.drop (i * 9)) (by simpa using HC4.out)
    rw [List.size_toArray, List.toList_toArray, h2, h1]
    simpa using HRS.out
  · rw [List.toList_toArray, List.toList_toArray]
    exact HB2.out
  · exact ((((Fr.refl _ w).alloc _).drew.grown HG1.out (fun k hk => .inr (by injection hk with hk; omega)) hd1).drew).grown HG2.out (fun k hk => .inr (by injection hk with hk; omega)) hd2

/-- whatever the capacity -/
theorem insSv_any (base : Nat) (A : Option Addr) (n c i : Nat) (xs : List Value) (vb vc : Nat) (vcur : Array Value) (vs : List Value) (w : World) (hown : w.ownsRow base 24 9 (.slice A n c) n xs) (hbase : base ≤ w.heap.size)
    (hi : i ≤ n) (hn : n ≤ 1000) (hv : Blk w vb 24 vcur) (hvc : vcur.toList.take 9 = vs) (hne : (Value.slice A n c).ownBlock ≠ some vb) (hvl : vs.length = 9) (h1 : ∀ v ∈ vs, v.oneCell' = true) (h1x : ∀ v ∈ xs, v.oneCell' = true) :
    Calls Try.prog 59 #[.slice A n c, .int .i64 i, .slice (some ⟨vb, 0, none⟩) 1 vc] w (InsSv (LB A) base n i xs vs w) := by
  by_cases hin : i = n
  · subst hin
    exact insSv_end base A i c xs vb vc vcur vs w hown hbase hn hv hvc hvl h1
  · obtain ⟨hl, h2⟩ := hown
    rcases h2 with ⟨_, h0⟩ | ⟨g, cap, cur, hA, hbg, hh, hnc, hm, hsz, htk⟩
    · omega
    · injection hA with hA _ hcap
      subst hA; subst hcap
      have hne' : vb ≠ g := fun e => hne (by subst e; rfl)
      by_cases hr : n + 1 ≤ c
      · exact insSv_room base g n c i cur xs vb vc vcur vs w hh hbg hsz htk (by omega) hr (by simpa [maxLen] using hm) hn hv hvc hne' hvl h1 h1x
      · exact insSv_grow base g n c i cur xs vb vc vcur vs w hh hbase hsz htk (by omega) hnc (by omega) hn hv hvc hvl h1 h1x
end Go.Proofs.Ytdaffjjconlmoaa
/- slices.Clone at hearsay/api.Service. -/
namespace Go.Proofs.Ytdaffjjconlmoaa
open Go.RowKit
set_option linter.unusedVariables false

/-- what Clone leaves -/
def ClnSv (base n : Nat) (xs : List Value) (w : World) (e : Ending) (w' : World) : Prop :=
  ∃ A' c', e = .returned (.slice A' n c') ∧ w'.ownsRow base 24 9 (.slice A' n c') n xs ∧ Below base w w' ∧ w.drawn ≤ w'.drawn

set_option maxRecDepth 100000 in
theorem clnSv_any (A : Option Addr) (n c : Nat) (xs : List Value) (w : World) (hA : A = none → n = 0) (hn : n ≤ 1000) (hxl : xs.length = n * 9) (hx : ∀ ad, A = some ad → ∀ j u, xs[j]? = some u → w.cell? (ad.add j) = some u) (h1 : ∀ v ∈ xs, v.oneCell' = true) :
    Calls Try.prog 57 #[.slice A n c] w (ClnSv w.heap.size n xs w) := by
  obtain ⟨i0, hi0, hz0, hzs, hzb⟩ := info_parts infoSv
  cases A with
  | none =>
    obtain rfl := hA rfl
    obtain rfl : xs = [] := List.eq_nil_of_length_eq_zero (by simpa using hxl)
    clear hx hxl hi0 hz0 hzs hzb h1
    have hnl := fun (w : World) => Lib.run_eql_slice_nil (P := Try.prog) w 22 24 none 0 c 0 0 Try.underlying22
    go_enter Try.func57, Try.ntmps57
    go_wp2
    go_ret
    exact ⟨none, 0, rfl, World.ownsRow_nil _ _ _ _, Below.refl _ _, Nat.le_refl _⟩
  | some ad =>
    have HX := hid (hx ad rfl)
    have HXL := hid hxl
    have HZ0 := hid hz0
    have HZS := hid hzs
    have HZB := hid hzb
    have HI0 := hid hi0
    clear hx hxl hA hi0 hz0 hzs hzb
    have hnl := fun (w : World) => Lib.run_eql_slice_nil (P := Try.prog) w 22 24 (some ad) n c 0 0 Try.underlying22
    go_enter Try.func57, Try.ntmps57
    have hown0 : (w.alloc (.cells #[] 24)).ownsRow w.heap.size 24 9 (.slice (some ⟨w.heap.size, 0, none⟩) 0 0) 0 [] :=
      ⟨by simp, .inr ⟨w.heap.size, 0, #[], rfl, Nat.le_refl _, heap_alloc_new w _, by omega, by simp [maxLen], by simp, by simp⟩⟩
    have HO := hid hown0
    have HX1 := hid (fun j u (hj : xs[j]? = some u) => (World.cell?_alloc_lt w (.cells #[] 24) (ad.add j) (cell_lt (HX.out j u hj))).trans (HX.out j u hj))
    clear hown0
    go_wp2_with (at_builtin; refine wpList_appD _ rfl _ _ 22 rfl w.heap.size 24 i0 _ 9 104 Try.underlying22 HI0.out HZ0.out HZS.out HZB.out rfl (by decide) _ _ _ rfl HO.out ad n c xs rfl HXL.out HX1.out h1 (by simp only [maxLen]; omega) (by omega) (by simp) ?_; intro v1 w1 hown1 hg1 hd1 hat1)
    go_ret
    rw [Nat.zero_add, List.nil_append] at hown1
    obtain ⟨A', c', rfl⟩ := own_form hown1
    exact ⟨A', c', rfl, hown1, ((Below.refl _ _).alloc (Nat.le_refl _) _).grown hg1 (by simp) (own_base HO.out), hd1⟩
end Go.Proofs.Ytdaffjjconlmoaa
/- Words for contracts over rows of one's own. -/
namespace Go.Proofs.Ytdaffjjconlmoaa
open Go.RowKit
set_option linter.unusedVariables false
section
variable {α : Type} {enc : α → List Value} {sz : Nat} {w w' : World} {R : Nat → Prop}
theorem Fr.imp {L L' : Nat → Prop} (h : Fr L w w') (hl : ∀ k, L k → L' k) : Fr L' w w' := ⟨h.os, h.tape, h.output, h.size, fun k hk hn => h.block k hk fun hl' => hn (hl k hl'), h.drawn⟩
theorem pars_one {u : V} {xs : List Value} (hp : Pars w R [.c u] xs) : ∃ v, xs = [v] ∧ RV w R noG u v := by
  have hl := hp.len
  match xs, hl with
  | [v], _ => exact ⟨v, rfl, hp.ok 0 _ _ rfl rfl⟩
theorem sl_cells (he : ∀ x, (enc x).length = sz) {cl : Bool} {l : List α} {v : Value} (h : RV w R noG (.sl cl (l.map fun x => (enc x).map .v)) v) :
    ∃ A c, v = .slice A l.length c ∧ (A = none → l.length = 0) ∧ ∀ ad, A = some ad → ∀ j u, (l.flatMap enc)[j]? = some u → w.cell? (ad.add j) = some u := by
  generalize hrows : (l.map fun x => (enc x).map V.v) = rows at h
  cases h with
  | nil _ a cap hc =>
    obtain rfl : l = [] := by simpa using hrows
    exact ⟨a, cap, rfl, fun _ => rfl, fun ad _ j u hu => by simp at hu⟩
  | sl _ _ b off cap sz' f hR hcap hclip hs hcell hh =>
    have hlen : rows.length = l.length := by rw [← hrows]; simp
    rw [hlen]
    refine ⟨some ⟨b, off, none⟩, cap, rfl, (by intro h; cases h), fun ad had j u hu => ?_⟩
    injection had with had; subst had
    rw [add_full _ _ rfl]
    have hj : j < l.length * sz := by
      have := (List.getElem?_eq_some_iff.1 hu).1
      rwa [flat_len he] at this
    have hsz : 0 < sz := by rcases Nat.eq_zero_or_pos sz with h | h; (subst h; omega); exact h
    have hd : j / sz < l.length := Nat.div_lt_of_lt_mul (by rw [Nat.mul_comm]; exact hj)
    have hm : j % sz < sz := Nat.mod_lt _ hsz
    have e2 : j = j / sz * sz + j % sz := by rw [Nat.mul_comm]; exact (Nat.div_add_mod j sz).symm
    have hrow : rows[j / sz]? = some ((enc l[j / sz]).map V.v) := by rw [← hrows]; simp [hd]
    have hsz' : sz' = sz := by rw [← hs _ (List.mem_of_getElem? hrow)]; simp [he]
    subst hsz'
    rw [e2, flat_get he (j / sz') (j % sz') hd hm] at hu
    have hu' : ((enc l[j / sz']).map V.v)[j % sz']? = some (.v u) := by rw [List.getElem?_map, hu]; rfl
    have h1 := hcell _ _ _ _ hrow hu'
    have h2 := rv_v (hh _ _ _ _ hrow hu')
    rw [h2] at h1
    show w.cell? ⟨b, off + j, none⟩ = some u
    rw [e2, ← Nat.add_assoc]; exact h1
theorem rowsR_flat (he : ∀ x, (enc x).length = sz) (h1 : ∀ x, ∀ v ∈ enc x, v.oneCell' = true) (l : List α) : RowsR w R noG (l.flatMap enc) sz (l.map fun x => (enc x).map V.v) := by
  refine ⟨fun row hr => ?_, fun i j row u g1 g2 => ?_⟩
  · obtain ⟨x, _, rfl⟩ := List.mem_map.1 hr
    simp [he]
  · have hi : i < l.length := by have := (List.getElem?_eq_some_iff.1 g1).1; simpa using this
    have e : row = (enc l[i]).map V.v := by simp [hi] at g1; exact g1.symm
    subst e
    rw [List.getElem?_map] at g2
    cases hq : (enc l[i])[j]? with
    | none => rw [hq] at g2; cases g2
    | some y =>
      rw [hq] at g2
      simp at g2; subst g2
      have hj : j < sz := by rw [← he l[i]]; exact (List.getElem?_eq_some_iff.1 hq).1
      exact ⟨y, by rw [flat_get he i j hi hj]; exact hq, h1 _ y (List.mem_of_getElem? hq), .v y⟩
theorem rowsR_inv (he : ∀ x, (enc x).length = sz) {l : List α} {xs : List Value} (hl : xs.length = l.length * sz) (h : RowsR w R noG xs sz (l.map fun x => (enc x).map V.v)) : xs = l.flatMap enc := by
  apply List.ext_getElem?
  intro j
  by_cases hj : j < l.length * sz
  · have hsz : 0 < sz := by rcases Nat.eq_zero_or_pos sz with h | h; (subst h; omega); exact h
    have hd : j / sz < l.length := Nat.div_lt_of_lt_mul (by rw [Nat.mul_comm]; exact hj)
    have hm : j % sz < sz := Nat.mod_lt _ hsz
    have e2 : j = j / sz * sz + j % sz := by rw [Nat.mul_comm]; exact (Nat.div_add_mod j sz).symm
    have hrow : (l.map fun x => (enc x).map V.v)[j / sz]? = some ((enc l[j / sz]).map V.v) := by simp [hd]
    have hy : (enc l[j / sz])[j % sz]? = some ((enc l[j / sz])[j % sz]'(by rw [he]; exact hm)) := List.getElem?_eq_getElem (by rw [he]; exact hm)
    obtain ⟨x, h1, _, h2⟩ := h.2 (j / sz) (j % sz) _ _ hrow (by rw [List.getElem?_map, hy]; rfl)
    rw [rv_v h2] at h1
    rw [e2, h1, flat_get he _ _ hd hm, hy]
  · rw [List.getElem?_eq_none (by omega), List.getElem?_eq_none (by rw [flat_len he]; omega)]
theorem flat_ins (he : ∀ x, (enc x).length = sz) (l : List α) (x : α) (i : Nat) : (l.flatMap enc).take (i * sz) ++ enc x ++ (l.flatMap enc).drop (i * sz) = (l.take i ++ [x] ++ l.drop i).flatMap enc := by
  have h : ∀ (i : Nat) (l : List α), (l.flatMap enc).take (i * sz) = (l.take i).flatMap enc ∧ (l.flatMap enc).drop (i * sz) = (l.drop i).flatMap enc := by
    intro i
    induction i with
    | zero => intro l; simp
    | succ i ih =>
      intro l
      cases l with
      | nil => simp
      | cons y l =>
        have hy := he y
        have := ih l
        rw [List.flatMap_cons, Nat.add_mul, Nat.one_mul]
        constructor
        · rw [List.take_append, hy, List.take_of_length_le (by rw [hy]; omega), show i * sz + sz - sz = i * sz by omega, this.1, List.take_succ_cons, List.flatMap_cons]
        · rw [List.drop_append, hy, List.drop_of_length_le (by rw [hy]; omega), show i * sz + sz - sz = i * sz by omega, this.2, List.drop_succ_cons, List.nil_append]
  rw [(h i l).1, (h i l).2]
  simp
theorem own_result {T : TypeId} {base : Nat} (he : ∀ x, (enc x).length = sz) (h1 : ∀ x, ∀ v ∈ enc x, v.oneCell' = true) (hsz : 0 < sz) {l : List α} {A : Option Addr} {c : Nat} {L : Nat → Prop} (hlt : ∀ b, R b → b < w.heap.size)
    (hown : w'.ownsRow base T sz (.slice A l.length c) l.length (l.flatMap enc)) (hfr : Fr L w w') (hk : ∀ k, (Value.slice A l.length c).ownBlock = some k → L k ∨ w.heap.size ≤ k) (hn : ∀ k, (Value.slice A l.length c).ownBlock = some k → ¬ R k) :
    ∃ (ys : List Value) (R' : Nat → Prop), Ending.returned (.slice A l.length c) = .returned (packV ys) ∧ Fr L w w' ∧ (∀ b, R b → R' b) ∧
      (∀ b, R' b → R b ∨ (b < w'.heap.size ∧ (L b ∨ w.heap.size ≤ b))) ∧ Pars w' R' [.o T sz (l.map fun x => (enc x).map V.v)] ys ∧ (∀ b, ParBlk [.o T sz (l.map fun x => (enc x).map V.v)] ys b → L b ∨ w.heap.size ≤ b) := by
  have hpb : ∀ b, ParBlk [.o T sz (l.map fun x => (enc x).map V.v)] [.slice A l.length c] b → (Value.slice A l.length c).ownBlock = some b := by
    rintro b ⟨i, T', sz', rows', x, g1, g2, g3⟩
    cases i with
    | zero => simp at g2; subst g2; exact g3
    | succ i => simp at g1
  refine ⟨[.slice A l.length c], R, rfl, hfr, fun _ h => h, fun b h => .inl h, ⟨rfl, ?_, ?_, ?_⟩, fun b hb => hk b (hpb b hb)⟩
  · intro i p x g1 g2
    cases i with
    | zero =>
      simp at g1 g2; subst g1 g2
      exact ⟨hsz, _, by rw [List.length_map]; exact own_mono hown (Nat.zero_le _), rowsR_flat he h1 l⟩
    | succ i => simp at g1
  · intro i j T1 sz1 rows1 T2 sz2 rows2 x y b hij g1 g2
    cases i with
    | zero => cases j with
      | zero => exact absurd rfl hij
      | succ j => simp at g2
    | succ i => simp at g1
  · intro b hb; exact hn b (hpb b hb)
theorem pars_ins {T : TypeId} (he : ∀ x, (enc x).length = sz) {l : List α} {x : α} {z : Value} {xs : List Value} (hp : Pars w R [.o T sz (l.map fun x => (enc x).map V.v), .c (.v z), .o T sz [(enc x).map V.v]] xs) :
    ∃ v0 v2, xs = [v0, z, v2] ∧ w.ownsRow 0 T sz v0 l.length (l.flatMap enc) ∧ w.ownsRow 0 T sz v2 1 (enc x) ∧ (∀ b, v0.ownBlock = some b → v2.ownBlock ≠ some b) ∧ ∀ b, ParBlk [.o T sz (l.map fun x => (enc x).map V.v), .c (.v z), .o T sz [(enc x).map V.v]] xs b → ¬ R b := by
  have hl := hp.len
  match xs, hl with
  | [v0, v1, v2], _ =>
    obtain ⟨_, x0, h0, h0'⟩ := hp.ok 0 _ _ rfl rfl
    have h1 : RV w R noG (.v z) v1 := hp.ok 1 _ _ rfl rfl
    obtain ⟨_, x2, h2, h2'⟩ := hp.ok 2 _ _ rfl rfl
    obtain rfl := rv_v h1
    rw [List.length_map] at h0
    obtain rfl := rowsR_inv he h0.1 h0'
    have h2'' : RowsR w R noG x2 sz ([x].map fun x => (enc x).map V.v) := h2'
    have e2 := rowsR_inv he (l := [x]) h2.1 h2''
    simp only [List.flatMap_cons, List.flatMap_nil, List.append_nil] at e2
    rw [e2] at h2
    exact ⟨v0, v2, rfl, h0, h2, fun b g1 g2 => hp.apart 0 2 _ _ _ _ _ _ _ _ b (by omega) rfl rfl rfl rfl g1 g2, hp.free⟩
end
end Go.Proofs.Ytdaffjjconlmoaa
/- slices.Clone and slices.Insert at hearsay/api.Service, as contracts. -/
namespace Go.Proofs.Ytdaffjjconlmoaa
open Go.RowKit
set_option linter.unusedVariables false
theorem cloneSv_fun {α : Type} (enc : α → List Value) (he : ∀ x, (enc x).length = 9) (h1 : ∀ x, ∀ v ∈ enc x, v.oneCell' = true) (cl : Bool) (l : List α) (hl : l.length ≤ 1000) :
    Fun Try.prog 57 [.c (.sl cl (l.map fun x => (enc x).map .v))] [.o 24 9 (l.map fun x => (enc x).map .v)] := by
  refine ⟨callable Try.func57 (by kernel_rfl) (by kernel_rfl), fun w R xs hlt hp => ?_⟩
  obtain ⟨v, rfl, hv⟩ := pars_one hp
  obtain ⟨A, c, rfl, hA, hx⟩ := sl_cells he hv
  have hone : ∀ v ∈ l.flatMap enc, v.oneCell' = true := fun v hv => by
    obtain ⟨g, _, hg⟩ := List.mem_flatMap.1 hv
    exact h1 g v hg
  refine (clnSv_any A l.length c (l.flatMap enc) w hA hl (flat_len he l) hx hone).mono ?_
  rintro e w' ⟨A', c', rfl, hown, hb, hd⟩
  exact own_result he h1 (by decide) hlt hown (fr_of_below hb hd) (fun k hk => .inr (own_base hown k hk)) (fun k hk => by have := own_base hown k hk; intro h; have := hlt k h; omega)
set_option maxHeartbeats 1000000 in
theorem insertSv_fun {α : Type} (enc : α → List Value) (he : ∀ x, (enc x).length = 9) (h1 : ∀ x, ∀ v ∈ enc x, v.oneCell' = true) (l : List α) (x : α) (i : Nat) (hi : i ≤ l.length) (hl : l.length ≤ 1000) :
    Fun Try.prog 59 [.o 24 9 (l.map fun x => (enc x).map .v), .c (.v (.int .i64 i)), .o 24 9 [(enc x).map .v]] [.o 24 9 ((l.take i ++ [x] ++ l.drop i).map fun x => (enc x).map .v)] := by
  refine ⟨callable Try.func59 (by kernel_rfl) (by kernel_rfl), fun w R xs hlt hp => ?_⟩
  obtain ⟨v0, v2, rfl, o0, o2, hap, hf0⟩ := pars_ins (enc := enc) he hp
  obtain ⟨A, c, rfl⟩ := own_form o0
  rcases o2.2 with ⟨_, h0⟩ | ⟨g, cap, cur, rfl, _, hh, hcap, _, hsz, htk⟩
  · omega
  have hone : ∀ v ∈ l.flatMap enc, v.oneCell' = true := fun v hv => by
    obtain ⟨g, _, hg⟩ := List.mem_flatMap.1 hv
    exact h1 g v hg
  refine (insSv_any 0 A l.length c i (l.flatMap enc) g cap cur (enc x) w o0 (Nat.zero_le _) hi hl hh (by rw [Nat.one_mul] at htk; exact htk) (fun e => hap g e rfl) (he x) (h1 x) hone).mono ?_
  rintro e w' ⟨A', c', rfl, hown, hb, hk⟩
  rw [flat_ins he l x i, show l.length + 1 = (l.take i ++ [x] ++ l.drop i).length by simp; omega] at hown
  rw [show l.length + 1 = (l.take i ++ [x] ++ l.drop i).length by simp; omega] at hk ⊢
  have hL : ∀ k, LB A k → ParBlk [.o 24 9 (l.map fun x => (enc x).map .v), .c (.v (.int .i64 i)), .o 24 9 [(enc x).map .v]] [.slice A l.length c, .int .i64 i, .slice (some ⟨g, 0, none⟩) 1 cap] k := fun k ⟨a, ha, hq⟩ => ⟨0, _, _, _, _, rfl, rfl, by subst ha; simp only [Value.ownBlock]; rw [hq]⟩
  exact own_result he h1 (by decide) hlt hown (hb.imp hL) (fun k hk' => (hk k hk').imp (hL k) (fun h => h)) (fun k hk' => by
    rcases hk k hk' with h | h
    · exact hf0 k (hL k h)
    · intro h'; have := hlt k h'; omega)
end Go.Proofs.Ytdaffjjconlmoaa
/- Contracts of the functions of services. -/
namespace Go.Proofs.Ytdaffjjconlmoaa
open Go.RowKit Pl
set_option linter.unusedVariables false
theorem swithin_fun (n a b : Int) : Fun Try.prog 56 [.c (.v (.int .i64 n)), .c (.v (.int .i64 a)), .c (.v (.int .i64 b))] [.c (.v (.bool (wi n a b)))] := by
  refine fun_x ck_catalog_within rfl ?_
  (refine goI ?_; repeat (intro gg; refine goI ?_))
  (refine bIf_of (fun h => ?_) (fun h => ?_) <;> rw [h])
  · (refine goI ?_; repeat (intro gg; refine goI ?_))
    rw [wi_t h]
    (exact ⟨[], aI⟩)
  · (refine goI ?_; repeat (intro gg; refine goI ?_))
    rw [wi_f h]
    (exact ⟨[], aI⟩)
theorem maybe_fun (s : ByteArray) (hs : s.size ≤ 9223372036854775807) : Fun Try.prog 30 [.c (.v (.string s))] [.c (.v (.bool (mayb s)))] := by
  refine fun_x ck_catalog_maybe rfl ?_
  (refine goI ?_; repeat (intro gg; refine goI ?_))
  (refine bIf_of (fun h => ?_) (fun h => ?_) <;> rw [h])
  · (refine goI ?_; repeat (intro gg; refine goI ?_))
    rw [show mayb s = true by unfold mayb; rw [show emp s = true from h]; rfl]
    (exact ⟨[], aI⟩)
  · (refine goI ?_; repeat (intro gg; refine goI ?_))
    (refine .inl ⟨_, _, false, [], aI, label_fun _ hs, nobor, nI, ?_⟩)
    (refine goI ?_; repeat (intro gg; refine goI ?_))
    rw [show mayb s = lab s.data.toList by unfold mayb; rw [show emp s = false from h]; rfl]
    (exact ⟨[], aI⟩)
theorem sone_fun (m : Sv) (hm : m.ok) : Fun Try.prog 27 [.c (.agg m.row)] [.c (.v (.int .i64 m.err))] := by
  obtain ⟨o1, o2, o3, o4⟩ := hm
  refine fun_x ck_catalog_one rfl ?_
  (refine goI ?_; repeat (intro gg; refine goI ?_))
  (refine .inl ⟨_, _, false, [], aI, label_fun _ o1, nobor, nI, ?_⟩)
  (refine goI ?_; repeat (intro gg; refine goI ?_))
  (refine bIf_of (fun h1 => ?_) (fun h1 => ?_) <;> rw [h1])
  · (refine goI ?_; repeat (intro gg; refine goI ?_))
    (rw [show m.err = 1 from by (first | (simp_all ; done) | (unfold Sv.err; simp_all))]; (exact ⟨[], aI⟩))
  · (refine goI ?_; repeat (intro gg; refine goI ?_))
    (refine .inl ⟨_, _, false, [], aI, label_fun _ o2, nobor, nI, ?_⟩)
    (refine goI ?_; repeat (intro gg; refine goI ?_))
    (refine bIf_of (fun h2 => ?_) (fun h2 => ?_) <;> rw [h2])
    · (refine goI ?_; repeat (intro gg; refine goI ?_))
      (rw [show m.err = 1 from by (first | (simp_all ; done) | (unfold Sv.err; simp_all))]; (exact ⟨[], aI⟩))
    · (refine goI ?_; repeat (intro gg; refine goI ?_))
      (refine .inl ⟨_, _, false, [], aI, label_fun _ o3, nobor, nI, ?_⟩)
      (refine goI ?_; repeat (intro gg; refine goI ?_))
      (refine bIf_of (fun h3 => ?_) (fun h3 => ?_) <;> rw [h3])
      · (refine goI ?_; repeat (intro gg; refine goI ?_))
        (rw [show m.err = 1 from by (first | (simp_all ; done) | (unfold Sv.err; simp_all))]; (exact ⟨[], aI⟩))
      · (refine goI ?_; repeat (intro gg; refine goI ?_))
        (refine .inl ⟨_, _, false, [], aI, maybe_fun _ o4, nobor, nI, ?_⟩)
        (refine goI ?_; repeat (intro gg; refine goI ?_))
        (refine bIf_of (fun h4 => ?_) (fun h4 => ?_) <;> rw [h4])
        · (refine goI ?_; repeat (intro gg; refine goI ?_))
          (rw [show m.err = 1 from by (first | (simp_all ; done) | (unfold Sv.err; simp_all))]; (exact ⟨[], aI⟩))
        · (refine goI ?_; repeat (intro gg; refine goI ?_))
          (refine .inl ⟨_, _, false, [], aI, swithin_fun _ _ _, nobor, nI, ?_⟩)
          (refine goI ?_; repeat (intro gg; refine goI ?_))
          (refine bIf_of (fun h5 => ?_) (fun h5 => ?_) <;> rw [h5])
          · (refine goI ?_; repeat (intro gg; refine goI ?_))
            (rw [show m.err = 3 from by (first | (simp_all ; done) | (unfold Sv.err; simp_all))]; (exact ⟨[], aI⟩))
          · (refine goI ?_; repeat (intro gg; refine goI ?_))
            (refine .inl ⟨_, _, false, [], aI, swithin_fun _ _ _, nobor, nI, ?_⟩)
            (refine goI ?_; repeat (intro gg; refine goI ?_))
            (refine bIf_of (fun h6 => ?_) (fun h6 => ?_) <;> rw [h6])
            · (refine goI ?_; repeat (intro gg; refine goI ?_))
              (rw [show m.err = 3 from by (first | (simp_all ; done) | (unfold Sv.err; simp_all))]; (exact ⟨[], aI⟩))
            · (refine goI ?_; repeat (intro gg; refine goI ?_))
              (refine .inl ⟨_, _, false, [], aI, swithin_fun _ _ _, nobor, nI, ?_⟩)
              (refine goI ?_; repeat (intro gg; refine goI ?_))
              (refine bIf_of (fun h7 => ?_) (fun h7 => ?_) <;> rw [h7])
              · (refine goI ?_; repeat (intro gg; refine goI ?_))
                (rw [show m.err = 3 from by (first | (simp_all ; done) | (unfold Sv.err; simp_all))]; (exact ⟨[], aI⟩))
              · (refine goI ?_; repeat (intro gg; refine goI ?_))
                (rw [show m.err = 0 from by (first | (simp_all ; done) | (unfold Sv.err; simp_all))]; (exact ⟨[], aI⟩))
theorem rsone_fun (m : Sv) (hm : m.ok) : Fun Try.prog 44 [.c (.agg m.row)] [.c (.v (.int .i64 m.err))] := by
  obtain ⟨o1, o2, o3, o4⟩ := hm
  refine fun_x ck_hearsayref_OneService rfl ?_
  (refine goI ?_; repeat (intro gg; refine goI ?_))
  (refine .inl ⟨_, _, false, [], aI, rlabel_fun _ o1, nobor, nI, ?_⟩)
  (refine goI ?_; repeat (intro gg; refine goI ?_))
  (refine bIf_of (fun h1 => ?_) (fun h1 => ?_) <;> rw [h1])
  · (refine goI ?_; repeat (intro gg; refine goI ?_))
    (rw [show m.err = 1 from by (first | (simp_all ; done) | (unfold Sv.err; simp_all))]; (exact ⟨[], aI⟩))
  · (refine goI ?_; repeat (intro gg; refine goI ?_))
    (refine .inl ⟨_, _, false, [], aI, rlabel_fun _ o2, nobor, nI, ?_⟩)
    (refine goI ?_; repeat (intro gg; refine goI ?_))
    (refine bIf_of (fun h2 => ?_) (fun h2 => ?_) <;> rw [h2])
    · (refine goI ?_; repeat (intro gg; refine goI ?_))
      (rw [show m.err = 1 from by (first | (simp_all ; done) | (unfold Sv.err; simp_all))]; (exact ⟨[], aI⟩))
    · (refine goI ?_; repeat (intro gg; refine goI ?_))
      (refine .inl ⟨_, _, false, [], aI, rlabel_fun _ o3, nobor, nI, ?_⟩)
      (refine goI ?_; repeat (intro gg; refine goI ?_))
      (refine bIf_of (fun h3 => ?_) (fun h3 => ?_) <;> rw [h3])
      · (refine goI ?_; repeat (intro gg; refine goI ?_))
        (rw [show m.err = 1 from by (first | (simp_all ; done) | (unfold Sv.err; simp_all))]; (exact ⟨[], aI⟩))
      · (refine goI ?_; repeat (intro gg; refine goI ?_))
        (refine bIf_of (fun h4 => ?_) (fun h4 => ?_) <;> rw [h4])
        · have hmb : mayb m.tg = lab m.tg.data.toList := by unfold mayb; rw [show emp m.tg = false from not_t h4]; rfl
          (refine goI ?_; repeat (intro gg; refine goI ?_))
          (refine .inl ⟨_, _, false, [], aI, rlabel_fun _ o4, nobor, nI, ?_⟩)
          (refine goI ?_; repeat (intro gg; refine goI ?_))
          (refine bIf_of (fun h5 => ?_) (fun h5 => ?_) <;> rw [h5])
          · (refine goI ?_; repeat (intro gg; refine goI ?_))
            (rw [show m.err = 1 from by (first | (simp_all ; done) | (unfold Sv.err; simp_all))]; (exact ⟨[], aI⟩))
          · (refine goI ?_; repeat (intro gg; refine goI ?_))
            (refine .inl ⟨_, _, false, [], aI, address_fun _, nobor, nI, ?_⟩)
            (refine goI ?_; repeat (intro gg; refine goI ?_))
            (refine bIf_of (fun h6 => ?_) (fun h6 => ?_) <;> rw [h6])
            · (refine goI ?_; repeat (intro gg; refine goI ?_))
              (rw [show m.err = 3 from by (first | (simp_all ; done) | (unfold Sv.err; simp_all))]; (exact ⟨[], aI⟩))
            · (refine goI ?_; repeat (intro gg; refine goI ?_))
              (refine .inl ⟨_, _, false, [], aI, between_fun _ _ _, nobor, nI, ?_⟩)
              (refine goI ?_; repeat (intro gg; refine goI ?_))
              (refine bIf_of (fun h7 => ?_) (fun h7 => ?_) <;> rw [h7])
              · (refine goI ?_; repeat (intro gg; refine goI ?_))
                (rw [show m.err = 3 from by (first | (simp_all ; done) | (unfold Sv.err; simp_all))]; (exact ⟨[], aI⟩))
              · (refine goI ?_; repeat (intro gg; refine goI ?_))
                (refine .inl ⟨_, _, false, [], aI, between_fun _ _ _, nobor, nI, ?_⟩)
                (refine goI ?_; repeat (intro gg; refine goI ?_))
                (refine bIf_of (fun h8 => ?_) (fun h8 => ?_) <;> rw [h8])
                · (refine goI ?_; repeat (intro gg; refine goI ?_))
                  (rw [show m.err = 3 from by (first | (simp_all ; done) | (unfold Sv.err; simp_all))]; (exact ⟨[], aI⟩))
                · (refine goI ?_; repeat (intro gg; refine goI ?_))
                  (rw [show m.err = 0 from by (first | (simp_all ; done) | (unfold Sv.err; simp_all))]; (exact ⟨[], aI⟩))
        · have hmb : mayb m.tg = true := by unfold mayb; rw [show emp m.tg = true from not_f h4]; rfl
          (refine goI ?_; repeat (intro gg; refine goI ?_))
          (refine .inl ⟨_, _, false, [], aI, address_fun _, nobor, nI, ?_⟩)
          (refine goI ?_; repeat (intro gg; refine goI ?_))
          (refine bIf_of (fun h6 => ?_) (fun h6 => ?_) <;> rw [h6])
          · (refine goI ?_; repeat (intro gg; refine goI ?_))
            (rw [show m.err = 3 from by (first | (simp_all ; done) | (unfold Sv.err; simp_all))]; (exact ⟨[], aI⟩))
          · (refine goI ?_; repeat (intro gg; refine goI ?_))
            (refine .inl ⟨_, _, false, [], aI, between_fun _ _ _, nobor, nI, ?_⟩)
            (refine goI ?_; repeat (intro gg; refine goI ?_))
            (refine bIf_of (fun h7 => ?_) (fun h7 => ?_) <;> rw [h7])
            · (refine goI ?_; repeat (intro gg; refine goI ?_))
              (rw [show m.err = 3 from by (first | (simp_all ; done) | (unfold Sv.err; simp_all))]; (exact ⟨[], aI⟩))
            · (refine goI ?_; repeat (intro gg; refine goI ?_))
              (refine .inl ⟨_, _, false, [], aI, between_fun _ _ _, nobor, nI, ?_⟩)
              (refine goI ?_; repeat (intro gg; refine goI ?_))
              (refine bIf_of (fun h8 => ?_) (fun h8 => ?_) <;> rw [h8])
              · (refine goI ?_; repeat (intro gg; refine goI ?_))
                (rw [show m.err = 3 from by (first | (simp_all ; done) | (unfold Sv.err; simp_all))]; (exact ⟨[], aI⟩))
              · (refine goI ?_; repeat (intro gg; refine goI ?_))
                (rw [show m.err = 0 from by (first | (simp_all ; done) | (unfold Sv.err; simp_all))]; (exact ⟨[], aI⟩))
theorem order_fun (g x : Sv) : Fun Try.prog 55 [.c (.agg g.row), .c (.agg x.row)] [.c (.v (.int .i64 (Sv.cf x.nd x.id g)))] := by
  refine fun_x ck_catalog_order rfl ?_
  (refine goI ?_; repeat (intro gg; refine goI ?_))
  (refine ⟨_, _, false, aI, cmps_fun _ _, nobor, nI, ?_⟩)
  (refine goI ?_; repeat (intro gg; refine goI ?_))
  (refine .inl ⟨_, _, false, [], aI, cmps_fun _ _, nobor, nI, ?_⟩)
  (refine goI ?_; repeat (intro gg; refine goI ?_))
  (refine .inl ⟨_, _, true, [], aI, or_fun false [scmp g.nd x.nd, scmp g.id x.id] (by simp), (fun _ => fI), nI, ?_⟩)
  (refine goI ?_; repeat (intro gg; refine goI ?_))
  (exact ⟨[], aI⟩)
theorem ahead_fun (g x : Sv) : Fun Try.prog 45 [.c (.agg g.row), .c (.agg x.row)] [.c (.v (.bool (Sv.lt g x)))] := by
  refine fun_x ck_hearsayref_ahead rfl ?_
  (refine goI ?_; repeat (intro gg; refine goI ?_))
  (refine bIf_of (fun h1 => ?_) (fun h1 => ?_) <;> rw [h1])
  · (refine goI ?_; repeat (intro gg; refine goI ?_))
    rw [Sv.ahead1 h1]
    (exact ⟨[], aI⟩)
  · (refine goI ?_; repeat (intro gg; refine goI ?_))
    (refine bIf_of (fun h2 => ?_) (fun h2 => ?_) <;> rw [h2])
    · (refine goI ?_; repeat (intro gg; refine goI ?_))
      rw [Sv.ahead2 h1 h2]
      (exact ⟨[], aI⟩)
    · (refine goI ?_; repeat (intro gg; refine goI ?_))
      rw [Sv.ahead3 h1 h2]
      (exact ⟨[], aI⟩)
def slsRow (l : List Sv) : List V := [.sl false (l.map Sv.row)]
theorem scheck_fun (c : Bool) (ls : List (List Sv)) (hls : ls.length ≤ 9223372036854775807) (hl : ∀ l ∈ ls, l.length ≤ 9223372036854775807) (hw : ∀ l ∈ ls, ∀ m ∈ l, m.ok) : Fun Try.prog 26 [.c (.sl c (ls.map slsRow))] [.c (.v (.int .i64 (firstErr ckSv ls)))] := by
  refine fun_x ck_catalog_check rfl ?_
  (refine goI ?_; repeat (intro gg; refine goI ?_))
  rw [List.length_map]
  (refine ⟨[], none, {k : Nat // k ≤ ls.length ∧ ∀ j, (h : j < ls.length) → j < k → ckSv (ls[j]) = 0}, [9, 10], fun ⟨k, hk, h0⟩ => [(11, .v (.int .i64 k))], [], fun ⟨k, hk, h0⟩ => [], fun ⟨k, hk, h0⟩ => ls.length - k, trivial, fun _ => ⟨trivial, fun _ => ⟨⟨0, by omega, fun j _ h => by omega⟩, tI, keptE_refl _ _, tI, keptH_refl _ _⟩⟩, fun ⟨k, hk, h0⟩ => ?_⟩)
  (refine goI ?_; repeat (intro gg; refine goI ?_))
  (refine bIf_of (fun h => ?_) (fun h => ?_) <;> rw [h])
  · have hlt : k < ls.length := by simpa using h
    (refine goI ?_; repeat (intro gg; refine goI ?_))
    refine ⟨k, _, rfl, row_map hlt, ?_⟩
    (refine goI ?_; repeat (intro gg; refine goI ?_))
    have HL := hl _ (List.getElem_mem hlt)
    have HW := hw _ (List.getElem_mem hlt)
    have HE := firstErr_at (e := ckSv) hlt h0
    have HN : ckSv ls[k] = 0 → ∀ j, (h : j < ls.length) → j < k + 1 → ckSv (ls[j]) = 0 := fun e => up1 (p := fun j h => ckSv (ls[j]) = 0) h0 (fun _ => e)
    generalize ls[k] = l at *
    rw [List.length_map]
    (refine bIf_of (fun h1 => ?_) (fun h1 => ?_) <;> rw [h1])
    · (refine goI ?_; repeat (intro gg; refine goI ?_))
      have e : ckSv l = 2 := ckL_long (by have := of_decide_eq_true h1; omega)
      rw [HE (by rw [e]; decide), e]
      (exact ⟨[], aI⟩)
    · have h1' : ¬ 40 < l.length := (by have := of_decide_eq_false h1; omega)
      (refine goI ?_; repeat (intro gg; refine goI ?_))
      rw [List.length_map]
      (refine ⟨[], none, {q : Nat // q ≤ l.length ∧ ∀ j, (h : j < l.length) → j < q → (l[j]).err = 0}, [4, 9, 10, 11, 18, 19], fun ⟨q, hq, g0⟩ => [(20, .v (.int .i64 q))], [], fun ⟨q, hq, g0⟩ => [], fun ⟨q, hq, g0⟩ => l.length - q, trivial, fun _ => ⟨trivial, fun _ => ⟨⟨0, by omega, fun j _ h => by omega⟩, tI, keptE_refl _ _, tI, keptH_refl _ _⟩⟩, fun ⟨q, hq, g0⟩ => ?_⟩)
      (refine goI ?_; repeat (intro gg; refine goI ?_))
      (refine bIf_of (fun h2 => ?_) (fun h2 => ?_) <;> rw [h2])
      · have hlt2 : q < l.length := (by have := of_decide_eq_true h2; omega)
        (refine goI ?_; repeat (intro gg; refine goI ?_))
        refine ⟨q, _, rfl, row_map hlt2, ?_⟩
        (refine goI ?_; repeat (intro gg; refine goI ?_))
        (refine .inl ⟨_, _, false, [], aI, sone_fun _ (HW _ (List.getElem_mem hlt2)), nobor, nI, ?_⟩)
        (refine goI ?_; repeat (intro gg; refine goI ?_))
        (refine bIf_of (fun h3 => ?_) (fun h3 => ?_) <;> rw [h3])
        · have h3' : (l[q]).err ≠ 0 := by simpa using h3
          have e0 := firstErr_at hlt2 g0 h3'
          (refine goI ?_; repeat (intro gg; refine goI ?_))
          have e : ckSv l = (l[q]).err := (ckL_each h1' (by rw [e0]; exact h3')).trans e0
          rw [HE (by rw [e]; exact h3'), e]
          (exact ⟨[], aI⟩)
        · (refine goI ?_; repeat (intro gg; refine goI ?_))
          (exact ⟨none, trivial, fun _ => ⟨⟨q + 1, by omega, up1 (p := fun j h => (l[j]).err = 0) g0 (fun _ => by simpa using h3)⟩, by show l.length - (q + 1) < l.length - q; omega, tI, tI, tI, tI⟩⟩)
      · have hge2 : ¬ q < l.length := (by have := of_decide_eq_false h2; omega)
        have h2' : firstErr Sv.err l = 0 := firstErr_zero fun i hi => g0 i hi (by omega)
        (refine goI ?_; repeat (intro gg; refine goI ?_))
        (refine ⟨[], none, {k : Nat // (k < l.length ∨ k = 0) ∧ ∀ i, (h : i + 1 < l.length) → i < k → Sv.lt l[i] l[i + 1] = true}, [4, 9, 10, 11], fun ⟨q, hq, g0⟩ => [(8, .v (.int .i64 ((q : Int) + 1)))], [], fun ⟨q, hq, g0⟩ => [], fun ⟨q, hq, g0⟩ => l.length - q, trivial, fun _ => ⟨trivial, fun _ => ⟨⟨0, by omega, fun j _ h => by omega⟩, tI, keptE_refl _ _, tI, keptH_refl _ _⟩⟩, fun ⟨q, hq, g0⟩ => ?_⟩)
        (refine goI ?_; repeat (intro gg; refine goI ?_))
        rw [List.length_map]
        (refine bIf_of (fun h3 => ?_) (fun h3 => ?_) <;> rw [h3])
        · have hlt3 : q + 1 < l.length := (by have := of_decide_eq_true h3; omega)
          (refine goI ?_; repeat (intro gg; refine goI ?_))
          refine ⟨q, _, by omega, row_map (by omega), ?_⟩
          (refine goI ?_; repeat (intro gg; refine goI ?_))
          refine ⟨q + 1, _, by omega, row_map hlt3, ?_⟩
          (refine goI ?_; repeat (intro gg; refine goI ?_))
          (refine .inl ⟨_, _, false, [], aI, order_fun _ _, nobor, nI, ?_⟩)
          (refine goI ?_; repeat (intro gg; refine goI ?_))
          (refine bIf_of (fun h4 => ?_) (fun h4 => ?_) <;> rw [h4])
          · (refine goI ?_; repeat (intro gg; refine goI ?_))
            have e : ckSv l = 4 := ckL_no h1' h2' (sorted_not hlt3 (decide_eq_false (by have := of_decide_eq_true h4; show ¬ Sv.cf l[q + 1].nd l[q + 1].id l[q] < 0; omega)))
            rw [HE (by rw [e]; decide), e]
            (exact ⟨[], aI⟩)
          · (refine goI ?_; repeat (intro gg; refine goI ?_))
            (exact ⟨none, trivial, fun _ => ⟨⟨q + 1, by omega, up2 (p := fun i h => Sv.lt l[i] l[i + 1] = true) g0 (fun _ => decide_eq_true (by have := of_decide_eq_false h4; show Sv.cf l[q + 1].nd l[q + 1].id l[q] < 0; omega))⟩, by show l.length - (q + 1) < l.length - q; omega, tI, tI, tI, tI⟩⟩)
        · have hge3 : ¬ q + 1 < l.length := (by have := of_decide_eq_false h3; omega)
          (refine goI ?_; repeat (intro gg; refine goI ?_))
          have e : ckSv l = 0 := ckL_yes h1' h2' (sorted_of fun i hi => g0 i hi (by omega))
          (exact ⟨none, trivial, fun _ => ⟨⟨k + 1, by omega, HN e⟩, by show ls.length - (k + 1) < ls.length - k; omega, tI, tI, tI, tI⟩⟩)
  · have hge : ¬ k < ls.length := by simpa using h
    (refine goI ?_; repeat (intro gg; refine goI ?_))
    rw [firstErr_zero (l := ls) (fun i hi => h0 i hi (by omega))]
    (exact ⟨[], aI⟩)
theorem rscheck_fun (c : Bool) (l : List Sv) (hl : l.length ≤ 9223372036854775807) (hw : ∀ m ∈ l, m.ok) : Fun Try.prog 15 [.c (.sl c (l.map Sv.row))] [.c (.v (.int .i64 (ckSv l)))] := by
  refine fun_x ck_hearsayref_CheckCatalog rfl ?_
  (refine goI ?_; repeat (intro gg; refine goI ?_))
  rw [List.length_map]
  (refine bIf_of (fun h1 => ?_) (fun h1 => ?_) <;> rw [h1])
  · (refine goI ?_; repeat (intro gg; refine goI ?_))
    have e : ckSv l = 2 := ckL_long (by have := of_decide_eq_true h1; omega)
    rw [e]
    (exact ⟨[], aI⟩)
  · have h1' : ¬ 40 < l.length := (by have := of_decide_eq_false h1; omega)
    (refine goI ?_; repeat (intro gg; refine goI ?_))
    (refine ⟨[], none, {k : Nat // k ≤ l.length ∧ ∀ j, (h : j < l.length) → j < k → (l[j]).err = 0}, [0], fun ⟨k, hk, h0⟩ => [(3, .v (.int .i64 k))], [], fun ⟨k, hk, h0⟩ => [], fun ⟨k, hk, h0⟩ => l.length - k, trivial, fun _ => ⟨trivial, fun _ => ⟨⟨0, by omega, fun j _ h => by omega⟩, tI, keptE_refl _ _, tI, keptH_refl _ _⟩⟩, fun ⟨k, hk, h0⟩ => ?_⟩)
    (refine goI ?_; repeat (intro gg; refine goI ?_))
    rw [List.length_map]
    (refine bIf_of (fun h => ?_) (fun h => ?_) <;> rw [h])
    · have hlt : k < l.length := (by have := of_decide_eq_true h; omega)
      (refine goI ?_; repeat (intro gg; refine goI ?_))
      refine ⟨k, _, rfl, row_map hlt, ?_⟩
      (refine goI ?_; repeat (intro gg; refine goI ?_))
      (refine .inl ⟨_, _, false, [], aI, rsone_fun _ (hw _ (List.getElem_mem hlt)), nobor, nI, ?_⟩)
      (refine goI ?_; repeat (intro gg; refine goI ?_))
      (refine bIf_of (fun h2 => ?_) (fun h2 => ?_) <;> rw [h2])
      · (refine goI ?_; repeat (intro gg; refine goI ?_))
        have h2' : (l[k]).err ≠ 0 := by simpa using h2
        have e0 := firstErr_at hlt h0 h2'
        have e : ckSv l = (l[k]).err := (ckL_each h1' (by rw [e0]; exact h2')).trans e0
        rw [e]
        (exact ⟨[], aI⟩)
      · (refine goI ?_; repeat (intro gg; refine goI ?_))
        (exact ⟨none, trivial, fun _ => ⟨⟨k + 1, by omega, up1 (p := fun j h => (l[j]).err = 0) h0 (fun _ => by simpa using h2)⟩, by show l.length - (k + 1) < l.length - k; omega, tI, tI, tI, tI⟩⟩)
    · have hge : ¬ k < l.length := (by have := of_decide_eq_false h; omega)
      have h2' : firstErr Sv.err l = 0 := firstErr_zero fun i hi => h0 i hi (by omega)
      (refine goI ?_; repeat (intro gg; refine goI ?_))
      (refine ⟨[], none, {k : Nat // (k < l.length ∨ k = 0) ∧ ∀ i, (h : i + 1 < l.length) → i < k → Sv.lt l[i] l[i + 1] = true}, [0], fun ⟨q, hq, g0⟩ => [(5, .v (.int .i64 ((q : Int) + 1)))], [], fun ⟨q, hq, g0⟩ => [], fun ⟨q, hq, g0⟩ => l.length - q, trivial, fun _ => ⟨trivial, fun _ => ⟨⟨0, by omega, fun j _ h => by omega⟩, tI, keptE_refl _ _, tI, keptH_refl _ _⟩⟩, fun ⟨q, hq, g0⟩ => ?_⟩)
      (refine goI ?_; repeat (intro gg; refine goI ?_))
      rw [List.length_map]
      (refine bIf_of (fun h3 => ?_) (fun h3 => ?_) <;> rw [h3])
      · have hlt3 : q + 1 < l.length := (by have := of_decide_eq_true h3; omega)
        (refine goI ?_; repeat (intro gg; refine goI ?_))
        refine ⟨q, _, by omega, row_map (by omega), ?_⟩
        (refine goI ?_; repeat (intro gg; refine goI ?_))
        refine ⟨q + 1, _, by omega, row_map hlt3, ?_⟩
        (refine goI ?_; repeat (intro gg; refine goI ?_))
        (refine .inl ⟨_, _, false, [], aI, ahead_fun _ _, nobor, nI, ?_⟩)
        (refine goI ?_; repeat (intro gg; refine goI ?_))
        (refine bIf_of (fun h4 => ?_) (fun h4 => ?_) <;> rw [h4])
        · (refine goI ?_; repeat (intro gg; refine goI ?_))
          have e : ckSv l = 4 := ckL_no h1' h2' (sorted_not hlt3 (not_t h4))
          rw [e]
          (exact ⟨[], aI⟩)
        · (refine goI ?_; repeat (intro gg; refine goI ?_))
          (exact ⟨none, trivial, fun _ => ⟨⟨q + 1, by omega, up2 (p := fun i h => Sv.lt l[i] l[i + 1] = true) g0 (fun _ => not_f h4)⟩, by show l.length - (q + 1) < l.length - q; omega, tI, tI, tI, tI⟩⟩)
      · have hge3 : ¬ q + 1 < l.length := (by have := of_decide_eq_false h3; omega)
        (refine goI ?_; repeat (intro gg; refine goI ?_))
        have e : ckSv l = 0 := ckL_yes h1' h2' (sorted_of fun i hi => g0 i hi (by omega))
        rw [e]
        (exact ⟨[], aI⟩)
theorem sbs_fun (c : Bool) (l : List Sv) (t : Sv) (hl : l.length ≤ 1000) (hm : Mono (Sv.cf t.nd t.id) l) : Fun Try.prog 75 [.c (.sl c (l.map Sv.row)), .c (.agg t.row), .c (.v (.func (.func 55) #[] #[]))] [.c (.v (.int .i64 (low (Sv.cf t.nd t.id) l))), .c (.v (.bool (hit (Sv.cf t.nd t.id) l)))] := by
  refine fun_x ck_slices_BinarySearchFunc_api_Service_api_Service_api_Service rfl ?_
  (refine goI ?_; repeat (intro gg; refine goI ?_))
  rw [List.length_map]
  (refine ⟨[], none, {p : Nat × Nat // p.1 ≤ p.2 ∧ p.2 ≤ l.length ∧ (∀ k, (h : k < l.length) → k < p.1 → Sv.cf t.nd t.id l[k] < 0) ∧ (∀ k, (h : k < l.length) → p.2 ≤ k → 0 ≤ Sv.cf t.nd t.id l[k])}, [0, 2, 4, 8], fun ⟨⟨i, j⟩, h1, h2, h3, h4⟩ => [(9, .v (.int .i64 i)), (10, .v (.int .i64 j))], [64], fun ⟨⟨i, j⟩, h1, h2, h3, h4⟩ => [], fun ⟨⟨i, j⟩, h1, h2, h3, h4⟩ => j - i, trivial, fun _ => ⟨trivial, fun _ => ⟨⟨(0, l.length), by omega, by omega, fun k _ h => absurd h (by omega), fun k h h' => absurd h (by omega)⟩, tI, keptE_refl _ _, tI, keptH_refl _ _⟩⟩, fun ⟨⟨i, j⟩, h1, h2, h3, h4⟩ => ?_⟩)
  dsimp only at h1 h2 h3 h4
  (refine goI ?_; repeat (intro gg; refine goI ?_))
  (refine bIf_of (fun h => ?_) (fun h => ?_) <;> rw [h])
  · have hlt : i < j := (by have := of_decide_eq_true h; omega)
    have hk : (i + j) / 2 < l.length := by omega
    (refine goI ?_; repeat (intro gg; refine goI ?_))
    refine ⟨(i + j) / 2, _, by omega, row_map hk, ?_⟩
    (refine goI ?_; repeat (intro gg; refine goI ?_))
    (refine .inl ⟨_, _, false, [], aI, order_fun _ _, nobor, nI, ?_⟩)
    (refine goI ?_; repeat (intro gg; refine goI ?_))
    (refine bIf_of (fun h5 => ?_) (fun h5 => ?_) <;> rw [h5])
    · have h5' : Sv.cf t.nd t.id l[(i + j) / 2] < 0 := by simpa using h5
      (refine goI ?_; repeat (intro gg; refine goI ?_))
      (exact ⟨none, trivial, fun _ => ⟨⟨((i + j) / 2 + 1, j), by dsimp only; omega, h2, fun k hk' hka => hm k ((i + j) / 2) hk' hk (by dsimp only at hka; omega) h5', h4⟩, by show j - ((i + j) / 2 + 1) < j - i; omega, tI, tI, tI, tI⟩⟩)
    · have h5' : ¬ Sv.cf t.nd t.id l[(i + j) / 2] < 0 := by simpa using h5
      (refine goI ?_; repeat (intro gg; refine goI ?_))
      (exact ⟨none, trivial, fun _ => ⟨⟨(i, (i + j) / 2), by dsimp only; omega, by dsimp only; omega, h3, fun k hk' hka => Int.not_lt.1 (fun h' => h5' (hm ((i + j) / 2) k hk hk' hka h'))⟩, by show (i + j) / 2 - i < j - i; omega, tI, tI, tI, tI⟩⟩)
  · have hij : i = j := (by have := of_decide_eq_false h; omega)
    subst hij
    have HE := low_uniq (cf := Sv.cf t.nd t.id) h2 h3 h4
    (refine goI ?_; repeat (intro gg; refine goI ?_))
    (refine bIf_of (fun h5 => ?_) (fun h5 => ?_) <;> rw [h5])
    · have hin : i < l.length := (by have := of_decide_eq_true h5; omega)
      have HH : hit (Sv.cf t.nd t.id) l = decide (Sv.cf t.nd t.id l[i] = 0) := by
        have hin' : low (Sv.cf t.nd t.id) l < l.length := by rw [← HE]; exact hin
        rw [hit_in hin']
        simp only [← HE]
      (refine goI ?_; repeat (intro gg; refine goI ?_))
      refine ⟨i, _, rfl, row_map hin, ?_⟩
      (refine goI ?_; repeat (intro gg; refine goI ?_))
      (refine ⟨_, _, false, aI, order_fun _ _, nobor, nI, ?_⟩)
      (refine goI ?_; repeat (intro gg; refine goI ?_))
      rw [← HE, HH]
      (exact ⟨[], aI⟩)
    · have HH : hit (Sv.cf t.nd t.id) l = false := hit_out (by rw [← HE]; exact (by have := of_decide_eq_false h5; omega))
      (refine goI ?_; repeat (intro gg; refine goI ?_))
      rw [← HE, HH]
      (exact ⟨[], aI⟩)
theorem sfind_fun (c : Bool) (l : List Sv) (nd id : ByteArray) (hl : l.length ≤ 1000) (hm : Mono (Sv.cf nd id) l) : Fun Try.prog 58 [.c (.sl c (l.map Sv.row)), .c (.v (.string nd)), .c (.v (.string id))] [.c (.v (.int .i64 (low (Sv.cf nd id) l))), .c (.v (.bool (hit (Sv.cf nd id) l)))] := by
  refine fun_x ck_catalog_find rfl ?_
  (refine goI ?_; repeat (intro gg; refine goI ?_))
  (refine .inl ⟨_, _, false, [], aI, sbs_fun c l ⟨nd, id, ⟨#[]⟩, ⟨#[]⟩, 0, 0, false, 0, false⟩ hl hm, nobor, nI, ?_⟩)
  (refine goI ?_; repeat (intro gg; refine goI ?_))
  (exact ⟨[], aI⟩)
theorem sat_fun (c : Bool) (l : List Sv) (nd id : ByteArray) (hl : l.length ≤ 9223372036854775807) : Fun Try.prog 72 [.c (.sl c (l.map Sv.row)), .c (.v (.string nd)), .c (.v (.string id))] [.c (.v (.int .i64 (at_ (Sv.is nd id) l)))] := by
  refine fun_x ck_hearsayref_ServiceAt rfl ?_
  (refine goI ?_; repeat (intro gg; refine goI ?_))
  (refine ⟨[], none, {k : Nat // k ≤ l.length ∧ ∀ j, (h : j < l.length) → j < k → Sv.is nd id l[j] = false}, [0, 1, 2], fun ⟨k, hk, h0⟩ => [(7, .v (.int .i64 k))], [], fun ⟨k, hk, h0⟩ => [], fun ⟨k, hk, h0⟩ => l.length - k, trivial, fun _ => ⟨trivial, fun _ => ⟨⟨0, by omega, fun j _ h => by omega⟩, tI, keptE_refl _ _, tI, keptH_refl _ _⟩⟩, fun ⟨k, hk, h0⟩ => ?_⟩)
  (refine goI ?_; repeat (intro gg; refine goI ?_))
  rw [List.length_map]
  (refine bIf_of (fun h => ?_) (fun h => ?_) <;> rw [h])
  · have hlt : k < l.length := (by have := of_decide_eq_true h; omega)
    (refine goI ?_; repeat (intro gg; refine goI ?_))
    refine ⟨k, _, rfl, row_map hlt, ?_⟩
    (refine goI ?_; repeat (intro gg; refine goI ?_))
    (refine bIf_of (fun h2 => ?_) (fun h2 => ?_) <;> rw [h2])
    · (refine goI ?_; repeat (intro gg; refine goI ?_))
      refine ⟨k, _, rfl, row_map hlt, ?_⟩
      (refine goI ?_; repeat (intro gg; refine goI ?_))
      (refine bIf_of (fun h3 => ?_) (fun h3 => ?_) <;> rw [h3])
      · (refine goI ?_; repeat (intro gg; refine goI ?_))
        rw [at_yes hlt h0 (by unfold Sv.is; rw [h2, h3]; rfl)]
        (exact ⟨[], aI⟩)
      · (refine goI ?_; repeat (intro gg; refine goI ?_))
        (exact ⟨none, trivial, fun _ => ⟨⟨k + 1, by omega, up1 (p := fun j h => Sv.is nd id l[j] = false) h0 (fun _ => by unfold Sv.is; rw [h2, h3]; rfl)⟩, by show l.length - (k + 1) < l.length - k; omega, tI, tI, tI, tI⟩⟩)
    · (refine goI ?_; repeat (intro gg; refine goI ?_))
      (exact ⟨none, trivial, fun _ => ⟨⟨k + 1, by omega, up1 (p := fun j h => Sv.is nd id l[j] = false) h0 (fun _ => by unfold Sv.is; rw [h2]; rfl)⟩, by show l.length - (k + 1) < l.length - k; omega, tI, tI, tI, tI⟩⟩)
  · have hge : ¬ k < l.length := (by have := of_decide_eq_false h; omega)
    (refine goI ?_; repeat (intro gg; refine goI ?_))
    rw [at_no (p := Sv.is nd id) (l := l) (fun i hi => h0 i hi (by omega))]
    (exact ⟨[], aI⟩)
end Go.Proofs.Ytdaffjjconlmoaa
/- Plain: setting, registering, dropping, joining, finding services. No program in sight. -/
namespace Go.Proofs.Ytdaffjjconlmoaa.Pl
set_option linter.unusedVariables false
def Sv.at_ (s : Sv) (v : Int) : Sv := ⟨s.nd, s.id, s.nm, s.tg, s.ad, s.pt, s.ps, v, s.gn⟩
def Sv.fresh (s : Sv) : Sv := ⟨s.nd, s.id, s.nm, s.tg, s.ad, s.pt, s.ps, 1, false⟩
def Sv.away (s : Sv) : Sv := ⟨s.nd, s.id, s.nm, s.tg, s.ad, s.pt, s.ps, s.vs, true⟩
/-- what is set into a catalog that is right -/
def setR (l : List Sv) (s : Sv) : Int × List Sv := match l[low (Sv.kf s) l]? with
  | some x => if hit (Sv.kf s) l = true then (if 1000000 < x.vs + 1 then (3, []) else (0, l.set (low (Sv.kf s) l) (s.at_ (x.vs + 1)))) else (if l.length = 40 then (2, []) else (0, l.take (low (Sv.kf s) l) ++ [s.at_ 1] ++ l.drop (low (Sv.kf s) l)))
  | none => (if l.length = 40 then (2, []) else (0, l.take (low (Sv.kf s) l) ++ [s.at_ 1] ++ l.drop (low (Sv.kf s) l)))
theorem setR_hit {l : List Sv} {s : Sv} (h : hit (Sv.kf s) l = true) : setR l s = (if 1000000 < (l[low (Sv.kf s) l]'(hit_lt h)).vs + 1 then (3, []) else (0, l.set (low (Sv.kf s) l) (s.at_ ((l[low (Sv.kf s) l]'(hit_lt h)).vs + 1)))) := by
  unfold setR; rw [List.getElem?_eq_getElem (hit_lt h)]; simp [h]
theorem setR_miss {l : List Sv} {s : Sv} (h : hit (Sv.kf s) l = false) : setR l s = (if l.length = 40 then (2, []) else (0, l.take (low (Sv.kf s) l) ++ [s.at_ 1] ++ l.drop (low (Sv.kf s) l))) := by
  unfold setR; split <;> simp [h]
def regR (l : List Sv) (s : Sv) : Int × List Sv := if s.fresh.err ≠ 0 then (s.fresh.err, []) else setR l s.fresh
def regM (l : List Sv) (s : Sv) : Int × List Sv := if ckSv l ≠ 0 then (ckSv l, []) else regR l s
def dropR (l : List Sv) (nd id : ByteArray) : Int × List Sv :=
  if lab nd.data.toList = false then (1, []) else if lab id.data.toList = false then (1, []) else match l[low (Sv.cf nd id) l]? with
    | some x => if hit (Sv.cf nd id) l = true then (if x.gn = true then (5, []) else setR l x.away) else (5, [])
    | none => (5, [])
def dropM (l : List Sv) (nd id : ByteArray) : Int × List Sv := if ckSv l ≠ 0 then (ckSv l, []) else dropR l nd id
theorem dropR_miss {l : List Sv} {nd id : ByteArray} (h1 : lab nd.data.toList = true) (h2 : lab id.data.toList = true) (h : hit (Sv.cf nd id) l = false) : dropR l nd id = (5, []) := by
  unfold dropR
  rw [if_neg (by rw [h1]; decide), if_neg (by rw [h2]; decide)]
  split <;> simp [h]
theorem dropR_hit {l : List Sv} {nd id : ByteArray} (h1 : lab nd.data.toList = true) (h2 : lab id.data.toList = true) (h : hit (Sv.cf nd id) l = true) : dropR l nd id = (if (l[low (Sv.cf nd id) l]'(hit_lt h)).gn = true then (5, []) else setR l (l[low (Sv.cf nd id) l]'(hit_lt h)).away) := by
  unfold dropR; rw [List.getElem?_eq_getElem (hit_lt h)]; simp [h, h1, h2]
def joinS (a b : List Sv) : Int × List Sv :=
  if ckSv a ≠ 0 then (ckSv a, []) else if ckSv b ≠ 0 then (ckSv b, []) else if 40 < (joinL Sv.kf Sv.nw a b).length then (2, []) else (0, joinL Sv.kf Sv.nw a b)
theorem first_twoS {α : Type} {e : α → Int} {a b : α} (h : firstErr e [a, b] = 0) : e a = 0 ∧ e b = 0 := by
  by_cases h1 : e a = 0
  · by_cases h2 : e b = 0
    · exact ⟨h1, h2⟩
    · simp [firstErr, h1, h2] at h
  · simp [firstErr, h1] at h
theorem joinS_bad {a b : List Sv} (h : firstErr ckSv [a, b] ≠ 0) : joinS a b = (firstErr ckSv [a, b], []) := by
  by_cases h1 : ckSv a = 0
  · by_cases h2 : ckSv b = 0
    · simp [firstErr, h1, h2] at h
    · simp [joinS, firstErr, h1, h2]
  · simp [joinS, firstErr, h1]
theorem joinS_many {a b : List Sv} (h : ckSv a = 0) (h1 : ckSv b = 0) (h2 : 40 < (joinL Sv.kf Sv.nw a b).length) : joinS a b = (2, []) := by simp [joinS, h, h1, h2]
theorem joinS_ok {a b : List Sv} (h : ckSv a = 0) (h1 : ckSv b = 0) (h2 : ¬ 40 < (joinL Sv.kf Sv.nw a b).length) : joinS a b = (0, joinL Sv.kf Sv.nw a b) := by simp [joinS, h, h1, h2]
/-- is one looked for? -/
def Sv.sought (name tag : ByteArray) (x : Sv) : Bool := (x.nm.toList == name.toList) && ((emp tag || (x.tg.toList == tag.toList)) && (x.ps && !x.gn))
def findR (l : List Sv) (name tag : ByteArray) : List Sv := l.filter (Sv.sought name tag)
theorem findR_next {l : List Sv} {name tag : ByteArray} {k : Nat} (hk : k < l.length) : findR (l.take (k + 1)) name tag = if Sv.sought name tag l[k] = true then findR (l.take k) name tag ++ [l[k]] else findR (l.take k) name tag := by
  unfold findR
  rw [take_snoc_ hk, List.filter_append]
  split <;> rename_i h <;> simp [h]
theorem findR_len (l : List Sv) (name tag : ByteArray) : (findR l name tag).length ≤ l.length := List.length_filter_le _ _
def findM (l : List Sv) (name tag : ByteArray) : Int × List Sv := if ckSv l ≠ 0 then (ckSv l, []) else if lab name.data.toList = false then (1, []) else if mayb tag = false then (1, []) else (0, findR l name tag)
theorem Sv.err_inv {m : Sv} (h : m.err = 0) : 1 ≤ m.vs ∧ m.vs ≤ 1000000 := by
  unfold Sv.err at h
  repeat' split at h
  all_goals first
    | omega
    | (rename_i h7; exact wi_iff.1 h7)
end Go.Proofs.Ytdaffjjconlmoaa.Pl
/- Contracts of the functions of services: setting, joining, finding. -/
namespace Go.Proofs.Ytdaffjjconlmoaa
open Go.RowKit Pl
set_option linter.unusedVariables false
theorem sclone_fun (c : Bool) (l : List Sv) (hl : l.length ≤ 1000) : Fun Try.prog 57 [.c (.sl c (l.map Sv.row))] [.o 24 9 (l.map Sv.row)] :=
  cloneSv_fun Sv.enc Sv.enc_len Sv.enc_one c l hl
theorem sinsert_fun (l : List Sv) (x : Sv) (i : Nat) (hi : i ≤ l.length) (hl : l.length ≤ 1000) : Fun Try.prog 59 [.o 24 9 (l.map Sv.row), .c (.v (.int .i64 i)), .o 24 9 [x.row]] [.o 24 9 ((l.take i ++ [x] ++ l.drop i).map Sv.row)] :=
  insertSv_fun Sv.enc Sv.enc_len Sv.enc_one l x i hi hl
theorem sset_fun (l : List Sv) (s : Sv) (h : ckSv l = 0) : Fun Try.prog 28 [.c (.sl false (l.map Sv.row)), .c (.agg s.row)] [.c (.sl false ((setR l s).2.map Sv.row)), .c (.v (.int .i64 (setR l s).1))] := by
  have hi := ckSv_inv h
  have hm := Sv.smono hi.2.2 s.nd s.id
  have hlow := low_le (cf := Sv.kf s) l
  refine fun_x ck_catalog_set rfl ?_
  (refine goI ?_; repeat (intro gg; refine goI ?_))
  (refine .inl ⟨_, _, false, [], aI, sclone_fun false l (by omega), nobor, nI, ?_⟩)
  (refine goI ?_; repeat (intro gg; refine goI ?_))
  (refine .inl ⟨_, _, true, [], aI, sfind_fun false l s.nd s.id (by omega) hm.mono, (fun _ => fI), nI, ?_⟩)
  (refine goI ?_; repeat (intro gg; refine goI ?_))
  (refine bIf_of (fun h1 => ?_) (fun h1 => ?_) <;> rw [h1])
  · have h1' : hit (Sv.kf s) l = true := h1
    have hlt := hit_lt h1
    have hR := setR_hit h1'
    have hb := Sv.err_inv (hi.2.1 _ hlt)
    (refine goI ?_; repeat (intro gg; refine goI ?_))
    refine ⟨low (Sv.cf s.nd s.id) l, _, rfl, row_map hlt, ?_⟩
    (refine goI ?_; repeat (intro gg; refine goI ?_))
    (refine bIf_of (fun h2 => ?_) (fun h2 => ?_) <;> rw [h2])
    · (refine goI ?_; repeat (intro gg; refine goI ?_))
      rw [hR, if_pos (show 1000000 < (l[low (Sv.kf s) l]'(hit_lt h1')).vs + 1 from of_decide_eq_true h2)]
      (exact ⟨[], aI⟩)
    · (refine goI ?_; repeat (intro gg; refine goI ?_))
      refine ⟨low (Sv.cf s.nd s.id) l, _, rfl, row_map hlt, ?_⟩
      (refine goI ?_; repeat (intro gg; refine goI ?_))
      rw [hR, if_neg (show ¬ 1000000 < (l[low (Sv.kf s) l]'(hit_lt h1')).vs + 1 from of_decide_eq_false h2), List.map_set]
      (exact ⟨[], aI⟩)
  · have h1' : hit (Sv.kf s) l = false := h1
    have hR := setR_miss h1'
    (refine goI ?_; repeat (intro gg; refine goI ?_))
    rw [List.length_map]
    (refine bIf_of (fun h2 => ?_) (fun h2 => ?_) <;> rw [h2])
    · (refine goI ?_; repeat (intro gg; refine goI ?_))
      rw [hR, if_pos (by have h' : ((l.length : Int) == 40) = true := h2
                         simp at h'; omega)]
      (exact ⟨[], aI⟩)
    · have h2' : ¬ l.length = 40 := by have h' : ((l.length : Int) == 40) = false := h2
                                       simp at h'; omega
      (refine goI ?_; repeat (intro gg; refine goI ?_))
      (refine .inl ⟨_, _, true, [144, 736], aI, sinsert_fun l (s.at_ 1) (low (Sv.kf s) l) hlow (by omega), (fun _ => fI), nI, ?_⟩)
      (refine goI ?_; repeat (intro gg; refine goI ?_))
      rw [hR, if_neg h2']
      (exact ⟨[], aI⟩)
theorem sreg_fun (l : List Sv) (s : Sv) (hl : l.length ≤ 9223372036854775807) (hw : ∀ x ∈ l, x.ok) (hm : s.ok) : Fun Try.prog 7 [.c (.sl false (l.map Sv.row)), .c (.agg s.row)] [.c (.sl false ((regM l s).2.map Sv.row)), .c (.v (.int .i64 (regM l s).1))] := by
  refine fun_x ck_catalog_Register rfl ?_
  (refine goI ?_; repeat (intro gg; refine goI ?_))
  (refine .inl ⟨_, _, true, [], aI, scheck_fun false [l] (by simp) (by simpa using hl) (by simpa using hw), (fun _ => fI), nI, ?_⟩)
  rw [firstErr_one]
  (refine goI ?_; repeat (intro gg; refine goI ?_))
  (refine bIf_of (fun h1 => ?_) (fun h1 => ?_) <;> rw [h1])
  · have h1' : ckSv l = 0 := by simpa using h1
    (refine goI ?_; repeat (intro gg; refine goI ?_))
    (refine .inl ⟨_, _, false, [], aI, sone_fun s.fresh hm, nobor, nI, ?_⟩)
    (refine goI ?_; repeat (intro gg; refine goI ?_))
    (refine bIf_of (fun h2 => ?_) (fun h2 => ?_) <;> rw [h2])
    · have h2' : s.fresh.err ≠ 0 := by simpa using h2
      (refine goI ?_; repeat (intro gg; refine goI ?_))
      rw [show regM l s = (s.fresh.err, []) by simp [regM, regR, h1', h2']]
      (exact ⟨[], aI⟩)
    · have h2' : s.fresh.err = 0 := by simpa using h2
      (refine goI ?_; repeat (intro gg; refine goI ?_))
      (refine .inl ⟨_, _, false, [], aI, sset_fun l s.fresh h1', nobor, nI, ?_⟩)
      (refine goI ?_; repeat (intro gg; refine goI ?_))
      rw [show regM l s = setR l s.fresh by simp [regM, regR, h1', h2']]
      (exact ⟨[], aI⟩)
  · have h1' : ckSv l ≠ 0 := by simpa using h1
    (refine goI ?_; repeat (intro gg; refine goI ?_))
    (refine bIf_of (fun h2 => ?_) (fun h2 => ?_) <;> rw [h2])
    · (refine goI ?_; repeat (intro gg; refine goI ?_))
      rw [show regM l s = (ckSv l, []) by simp [regM, h1']]
      (exact ⟨[], aI⟩)
    · exact absurd (by simpa using h2) h1'
theorem rsput_fun (l : List Sv) (s : Sv) (hl : l.length ≤ 100) (hs : sorted Sv.lt l = true) : Fun Try.prog 73 [.c (.sl false (l.map Sv.row)), .c (.agg s.row)] [.c (.sl false ((putAt (Sv.kf s) s l).map Sv.row))] := by
  rw [← Sv.putL_put hs s]
  refine fun_x ck_hearsayref_PutService rfl ?_
  (refine goI ?_; repeat (intro gg; refine goI ?_))
  (refine ⟨[(5, 80, 24, 9)], none, {p : Nat × Nat // p.1 ≤ l.length}, [0, 3], fun ⟨⟨k, g⟩, hk⟩ => [(5, .own 80 g), (6, .v (.bool (putTo (Sv.ge s) (Sv.ne s) s (l.take k)).2)), (7, .v (.int .i64 k))], [48], fun ⟨⟨k, g⟩, hk⟩ => [(80, ⟨g, 24, 9, (putTo (Sv.ge s) (Sv.ne s) s (l.take k)).1.map Sv.row⟩)], fun ⟨⟨k, g⟩, hk⟩ => l.length - k, (by exact ⟨rfl, by decide, (fun _ _ _ _ h => by cases h), trivial⟩), fun gs => ⟨trivial, fun _ => ⟨⟨(0, gs 80), by omega⟩, tI, tI, tI, tI⟩⟩, fun ⟨⟨k, g⟩, hk⟩ => ?_⟩)
  have hk' : k ≤ l.length := hk
  have hlen := putTo_len (ge := Sv.ge s) (ne := Sv.ne s) (g := s) k (l.take k) (by rw [List.length_take]; omega)
  (refine goI ?_; repeat (intro gg; refine goI ?_))
  rw [List.length_map]
  (refine bIf_of (fun h3 => ?_) (fun h3 => ?_) <;> rw [h3])
  · have hlt3 : k < l.length := (by have := of_decide_eq_true h3; omega)
    have hN := putTo_next (ge := Sv.ge s) (ne := Sv.ne s) (g := s) hlt3
    (refine goI ?_; repeat (intro gg; refine goI ?_))
    (refine bIf_of (fun h4 => ?_) (fun h4 => ?_) <;> rw [h4])
    · have h4' : (putTo (Sv.ge s) (Sv.ne s) s (l.take k)).2 = false := by simpa using h4
      (refine goI ?_; repeat (intro gg; refine goI ?_))
      refine ⟨k, _, rfl, row_map hlt3, ?_⟩
      (refine goI ?_; repeat (intro gg; refine goI ?_))
      (refine .inl ⟨_, _, false, [], aI, ahead_fun l[k] s, nobor, nI, ?_⟩)
      (refine goI ?_; repeat (intro gg; refine goI ?_))
      (refine bIf_of (fun h5 => ?_) (fun h5 => ?_) <;> rw [h5])
      · (refine goI ?_; repeat (intro gg; refine goI ?_))
        refine ⟨lI, lI, ?_⟩
        (refine goI ?_; repeat (intro gg; refine goI ?_))
        refine ⟨k, _, rfl, row_map hlt3, ?_⟩
        (refine goI ?_; repeat (intro gg; refine goI ?_))
        (refine bIf_of (fun h6 => ?_) (fun h6 => ?_) <;> rw [h6])
        · have hne : Sv.ne s l[k] = true := by unfold Sv.ne Sv.is; rw [not_t h6]; rfl
          have hn : putTo (Sv.ge s) (Sv.ne s) s (l.take (k + 1)) = ((putTo (Sv.ge s) (Sv.ne s) s (l.take k)).1 ++ [s] ++ [l[k]], true) := by rw [hN]; simp [putStep, h4', show Sv.ge s l[k] = true from h5, hne]
          (refine goI ?_; repeat (intro gg; refine goI ?_))
          refine ⟨k, _, rfl, row_map hlt3, ?_⟩
          (refine goI ?_; repeat (intro gg; refine goI ?_))
          refine ⟨lI, lI, ?_⟩
          (refine goI ?_; repeat (intro gg; refine goI ?_))
          (exact ⟨none, trivial, fun gr => ⟨⟨(k + 1, gg), by dsimp only; omega⟩, by show l.length - (k + 1) < l.length - k; omega, hxI hn, hxI hn, hxI hn, hxI hn⟩⟩)
        · (refine goI ?_; repeat (intro gg; refine goI ?_))
          refine ⟨k, _, rfl, row_map hlt3, ?_⟩
          (refine goI ?_; repeat (intro gg; refine goI ?_))
          (refine bIf_of (fun h7 => ?_) (fun h7 => ?_) <;> rw [h7])
          · have hne : Sv.ne s l[k] = true := by unfold Sv.ne Sv.is; rw [not_t h7, Bool.and_false]; rfl
            have hn : putTo (Sv.ge s) (Sv.ne s) s (l.take (k + 1)) = ((putTo (Sv.ge s) (Sv.ne s) s (l.take k)).1 ++ [s] ++ [l[k]], true) := by rw [hN]; simp [putStep, h4', show Sv.ge s l[k] = true from h5, hne]
            (refine goI ?_; repeat (intro gg; refine goI ?_))
            refine ⟨k, _, rfl, row_map hlt3, ?_⟩
            (refine goI ?_; repeat (intro gg; refine goI ?_))
            refine ⟨lI, lI, ?_⟩
            (refine goI ?_; repeat (intro gg; refine goI ?_))
            (exact ⟨none, trivial, fun gr => ⟨⟨(k + 1, gg), by dsimp only; omega⟩, by show l.length - (k + 1) < l.length - k; omega, hxI hn, hxI hn, hxI hn, hxI hn⟩⟩)
          · have hne : Sv.ne s l[k] = false := by unfold Sv.ne Sv.is; rw [not_f h6, not_f h7]; rfl
            have hn : putTo (Sv.ge s) (Sv.ne s) s (l.take (k + 1)) = ((putTo (Sv.ge s) (Sv.ne s) s (l.take k)).1 ++ [s], true) := by rw [hN]; simp [putStep, h4', show Sv.ge s l[k] = true from h5, hne]
            (refine goI ?_; repeat (intro gg; refine goI ?_))
            (exact ⟨none, trivial, fun gr => ⟨⟨(k + 1, gg), by dsimp only; omega⟩, by show l.length - (k + 1) < l.length - k; omega, hxI hn, hxI hn, hxI hn, hxI hn⟩⟩)
      · (refine goI ?_; repeat (intro gg; refine goI ?_))
        refine ⟨k, _, rfl, row_map hlt3, ?_⟩
        (refine goI ?_; repeat (intro gg; refine goI ?_))
        (refine bIf_of (fun h6 => ?_) (fun h6 => ?_) <;> rw [h6])
        · have hne : Sv.ne s l[k] = true := by unfold Sv.ne Sv.is; rw [not_t h6]; rfl
          have hn : putTo (Sv.ge s) (Sv.ne s) s (l.take (k + 1)) = ((putTo (Sv.ge s) (Sv.ne s) s (l.take k)).1 ++ [l[k]], (putTo (Sv.ge s) (Sv.ne s) s (l.take k)).2) := by rw [hN]; simp [putStep, h4', show Sv.ge s l[k] = false from h5, hne]
          (refine goI ?_; repeat (intro gg; refine goI ?_))
          refine ⟨k, _, rfl, row_map hlt3, ?_⟩
          (refine goI ?_; repeat (intro gg; refine goI ?_))
          refine ⟨lI, lI, ?_⟩
          (refine goI ?_; repeat (intro gg; refine goI ?_))
          (exact ⟨none, trivial, fun gr => ⟨⟨(k + 1, gg), by dsimp only; omega⟩, by show l.length - (k + 1) < l.length - k; omega, hxI hn, hxI hn, hxI hn, hxI hn⟩⟩)
        · (refine goI ?_; repeat (intro gg; refine goI ?_))
          refine ⟨k, _, rfl, row_map hlt3, ?_⟩
          (refine goI ?_; repeat (intro gg; refine goI ?_))
          (refine bIf_of (fun h7 => ?_) (fun h7 => ?_) <;> rw [h7])
          · have hne : Sv.ne s l[k] = true := by unfold Sv.ne Sv.is; rw [not_t h7, Bool.and_false]; rfl
            have hn : putTo (Sv.ge s) (Sv.ne s) s (l.take (k + 1)) = ((putTo (Sv.ge s) (Sv.ne s) s (l.take k)).1 ++ [l[k]], (putTo (Sv.ge s) (Sv.ne s) s (l.take k)).2) := by rw [hN]; simp [putStep, h4', show Sv.ge s l[k] = false from h5, hne]
            (refine goI ?_; repeat (intro gg; refine goI ?_))
            refine ⟨k, _, rfl, row_map hlt3, ?_⟩
            (refine goI ?_; repeat (intro gg; refine goI ?_))
            refine ⟨lI, lI, ?_⟩
            (refine goI ?_; repeat (intro gg; refine goI ?_))
            (exact ⟨none, trivial, fun gr => ⟨⟨(k + 1, gg), by dsimp only; omega⟩, by show l.length - (k + 1) < l.length - k; omega, hxI hn, hxI hn, hxI hn, hxI hn⟩⟩)
          · have hne : Sv.ne s l[k] = false := by unfold Sv.ne Sv.is; rw [not_f h6, not_f h7]; rfl
            have hn : putTo (Sv.ge s) (Sv.ne s) s (l.take (k + 1)) = (putTo (Sv.ge s) (Sv.ne s) s (l.take k)) := by rw [hN]; simp [putStep, h4', show Sv.ge s l[k] = false from h5, hne]
            (refine goI ?_; repeat (intro gg; refine goI ?_))
            (exact ⟨none, trivial, fun gr => ⟨⟨(k + 1, g), by dsimp only; omega⟩, by show l.length - (k + 1) < l.length - k; omega, hxI hn, hxI hn, hxI hn, hxI hn⟩⟩)
    · have h4' : (putTo (Sv.ge s) (Sv.ne s) s (l.take k)).2 = true := by simpa using h4
      (refine goI ?_; repeat (intro gg; refine goI ?_))
      refine ⟨k, _, rfl, row_map hlt3, ?_⟩
      (refine goI ?_; repeat (intro gg; refine goI ?_))
      (refine bIf_of (fun h6 => ?_) (fun h6 => ?_) <;> rw [h6])
      · have hne : Sv.ne s l[k] = true := by unfold Sv.ne Sv.is; rw [not_t h6]; rfl
        have hn : putTo (Sv.ge s) (Sv.ne s) s (l.take (k + 1)) = ((putTo (Sv.ge s) (Sv.ne s) s (l.take k)).1 ++ [l[k]], (putTo (Sv.ge s) (Sv.ne s) s (l.take k)).2) := by rw [hN]; simp [putStep, h4', hne]
        (refine goI ?_; repeat (intro gg; refine goI ?_))
        refine ⟨k, _, rfl, row_map hlt3, ?_⟩
        (refine goI ?_; repeat (intro gg; refine goI ?_))
        refine ⟨lI, lI, ?_⟩
        (refine goI ?_; repeat (intro gg; refine goI ?_))
        (exact ⟨none, trivial, fun gr => ⟨⟨(k + 1, gg), by dsimp only; omega⟩, by show l.length - (k + 1) < l.length - k; omega, hxI hn, hxI hn, hxI hn, hxI hn⟩⟩)
      · (refine goI ?_; repeat (intro gg; refine goI ?_))
        refine ⟨k, _, rfl, row_map hlt3, ?_⟩
        (refine goI ?_; repeat (intro gg; refine goI ?_))
        (refine bIf_of (fun h7 => ?_) (fun h7 => ?_) <;> rw [h7])
        · have hne : Sv.ne s l[k] = true := by unfold Sv.ne Sv.is; rw [not_t h7, Bool.and_false]; rfl
          have hn : putTo (Sv.ge s) (Sv.ne s) s (l.take (k + 1)) = ((putTo (Sv.ge s) (Sv.ne s) s (l.take k)).1 ++ [l[k]], (putTo (Sv.ge s) (Sv.ne s) s (l.take k)).2) := by rw [hN]; simp [putStep, h4', hne]
          (refine goI ?_; repeat (intro gg; refine goI ?_))
          refine ⟨k, _, rfl, row_map hlt3, ?_⟩
          (refine goI ?_; repeat (intro gg; refine goI ?_))
          refine ⟨lI, lI, ?_⟩
          (refine goI ?_; repeat (intro gg; refine goI ?_))
          (exact ⟨none, trivial, fun gr => ⟨⟨(k + 1, gg), by dsimp only; omega⟩, by show l.length - (k + 1) < l.length - k; omega, hxI hn, hxI hn, hxI hn, hxI hn⟩⟩)
        · have hne : Sv.ne s l[k] = false := by unfold Sv.ne Sv.is; rw [not_f h6, not_f h7]; rfl
          have hn : putTo (Sv.ge s) (Sv.ne s) s (l.take (k + 1)) = (putTo (Sv.ge s) (Sv.ne s) s (l.take k)) := by rw [hN]; simp [putStep, h4', hne]
          (refine goI ?_; repeat (intro gg; refine goI ?_))
          (exact ⟨none, trivial, fun gr => ⟨⟨(k + 1, g), by dsimp only; omega⟩, by show l.length - (k + 1) < l.length - k; omega, hxI hn, hxI hn, hxI hn, hxI hn⟩⟩)
  · have hge : l.length ≤ k := (by have := of_decide_eq_false h3; omega)
    obtain rfl : k = l.length := by omega
    (refine goI ?_; repeat (intro gg; refine goI ?_))
    have hT : putTo (Sv.ge s) (Sv.ne s) s (l.take l.length) = putTo (Sv.ge s) (Sv.ne s) s l := by rw [List.take_length]
    (refine bIf_of (fun h4 => ?_) (fun h4 => ?_) <;> rw [h4])
    · have h4' : (putTo (Sv.ge s) (Sv.ne s) s l).2 = false := by rw [← hT]; simpa using h4
      (refine goI ?_; repeat (intro gg; refine goI ?_))
      refine ⟨lI, lI, ?_⟩
      (refine goI ?_; repeat (intro gg; refine goI ?_))
      rw [show putL (Sv.ge s) (Sv.ne s) s l = (putTo (Sv.ge s) (Sv.ne s) s (l.take l.length)).1 ++ [s] by rw [hT]; simp [putL, h4'], List.map_append]
      (exact ⟨[], aI⟩)
    · have h4' : (putTo (Sv.ge s) (Sv.ne s) s l).2 = true := by rw [← hT]; simpa using h4
      (refine goI ?_; repeat (intro gg; refine goI ?_))
      rw [show putL (Sv.ge s) (Sv.ne s) s l = (putTo (Sv.ge s) (Sv.ne s) s (l.take l.length)).1 by rw [hT]; simp [putL, h4']]
      (exact ⟨[], aI⟩)
theorem rsset_fun (l : List Sv) (s : Sv) (h : ckSv l = 0) : Fun Try.prog 46 [.c (.sl false (l.map Sv.row)), .c (.agg s.row)] [.c (.sl false ((setR l s).2.map Sv.row)), .c (.v (.int .i64 (setR l s).1))] := by
  have hi := ckSv_inv h
  have hat := Sv.at_eq hi.2.2 s.nd s.id
  have hA := sat_fun false l s.nd s.id (by omega)
  have hlow := low_le (cf := Sv.kf s) l
  refine fun_x ck_hearsayref_SetService rfl ?_
  rcases Bool.eq_false_or_eq_true (hit (Sv.cf s.nd s.id) l) with h1 | h1
  · have h1' : hit (Sv.kf s) l = true := h1
    have hlt := hit_lt h1
    have hR := setR_hit h1'
    have hb := Sv.err_inv (hi.2.1 _ hlt)
    rw [hat, if_pos h1] at hA
    (refine goI ?_; repeat (intro gg; refine goI ?_))
    (refine .inl ⟨_, _, false, [], aI, hA, nobor, nI, ?_⟩)
    (refine goI ?_; repeat (intro gg; refine goI ?_))
    refine ⟨low (Sv.cf s.nd s.id) l, _, rfl, row_map hlt, ?_⟩
    (refine goI ?_; repeat (intro gg; refine goI ?_))
    (refine bIf_of (fun h2 => ?_) (fun h2 => ?_) <;> rw [h2])
    · (refine goI ?_; repeat (intro gg; refine goI ?_))
      rw [hR, if_pos (show 1000000 < (l[low (Sv.kf s) l]'(hit_lt h1')).vs + 1 from of_decide_eq_true h2)]
      (exact ⟨[], aI⟩)
    · have hp : putAt (Sv.kf (s.at_ (l[low (Sv.cf s.nd s.id) l].vs + 1))) (s.at_ (l[low (Sv.cf s.nd s.id) l].vs + 1)) l = l.set (low (Sv.kf s) l) (s.at_ (l[low (Sv.cf s.nd s.id) l].vs + 1)) := by
        show putAt (Sv.kf s) _ l = _
        unfold putAt; rw [if_pos h1']
      (refine goI ?_; repeat (intro gg; refine goI ?_))
      (refine .inl ⟨_, _, false, [], aI, rsput_fun l (s.at_ (l[low (Sv.cf s.nd s.id) l].vs + 1)) (by omega) hi.2.2, nobor, nI, ?_⟩)
      rw [hp]
      (refine goI ?_; repeat (intro gg; refine goI ?_))
      rw [List.length_map, List.length_set]
      (refine bIf_of (fun h3 => ?_) (fun h3 => ?_) <;> rw [h3])
      · exact absurd (of_decide_eq_true h3) (by omega)
      · (refine goI ?_; repeat (intro gg; refine goI ?_))
        rw [hR, if_neg (show ¬ 1000000 < (l[low (Sv.kf s) l]'(hit_lt h1')).vs + 1 from of_decide_eq_false h2)]
        (exact ⟨[], aI⟩)
  · have h1' : hit (Sv.kf s) l = false := h1
    have hR := setR_miss h1'
    rw [hat, if_neg (by rw [h1]; decide)] at hA
    (refine goI ?_; repeat (intro gg; refine goI ?_))
    (refine .inl ⟨_, _, false, [], aI, hA, nobor, nI, ?_⟩)
    (refine goI ?_; repeat (intro gg; refine goI ?_))
    have hp : putAt (Sv.kf (s.at_ 1)) (s.at_ 1) l = l.take (low (Sv.kf s) l) ++ [s.at_ 1] ++ l.drop (low (Sv.kf s) l) := by
      show putAt (Sv.kf s) _ l = _
      unfold putAt; rw [if_neg (by rw [h1']; decide)]
    (refine .inl ⟨_, _, false, [], aI, rsput_fun l (s.at_ 1) (by omega) hi.2.2, nobor, nI, ?_⟩)
    rw [hp]
    (refine goI ?_; repeat (intro gg; refine goI ?_))
    rw [List.length_map]
    have hlen : (l.take (low (Sv.kf s) l) ++ [s.at_ 1] ++ l.drop (low (Sv.kf s) l)).length = l.length + 1 := by simp; omega
    rw [hlen]
    (refine bIf_of (fun h3 => ?_) (fun h3 => ?_) <;> rw [h3])
    · (refine goI ?_; repeat (intro gg; refine goI ?_))
      rw [hR, if_pos (by have := of_decide_eq_true h3; omega)]
      (exact ⟨[], aI⟩)
    · (refine goI ?_; repeat (intro gg; refine goI ?_))
      rw [hR, if_neg (by have := of_decide_eq_false h3; omega)]
      (exact ⟨[], aI⟩)
theorem rsreg_fun (l : List Sv) (s : Sv) (h : ckSv l = 0) (hm : s.ok) : Fun Try.prog 16 [.c (.sl false (l.map Sv.row)), .c (.agg s.row)] [.c (.sl false ((regR l s).2.map Sv.row)), .c (.v (.int .i64 (regR l s).1))] := by
  refine fun_x ck_hearsayref_RegisterOf rfl ?_
  (refine goI ?_; repeat (intro gg; refine goI ?_))
  (refine .inl ⟨_, _, false, [], aI, rsone_fun s.fresh hm, nobor, nI, ?_⟩)
  (refine goI ?_; repeat (intro gg; refine goI ?_))
  (refine bIf_of (fun h2 => ?_) (fun h2 => ?_) <;> rw [h2])
  · have h2' : s.fresh.err ≠ 0 := by simpa using h2
    (refine goI ?_; repeat (intro gg; refine goI ?_))
    rw [show regR l s = (s.fresh.err, []) by simp [regR, h2']]
    (exact ⟨[], aI⟩)
  · have h2' : s.fresh.err = 0 := by simpa using h2
    (refine goI ?_; repeat (intro gg; refine goI ?_))
    (refine .inl ⟨_, _, false, [], aI, rsset_fun l s.fresh h, nobor, nI, ?_⟩)
    (refine goI ?_; repeat (intro gg; refine goI ?_))
    rw [show regR l s = setR l s.fresh by simp [regR, h2']]
    (exact ⟨[], aI⟩)
theorem ssame_fun (c d : Bool) (a b : List Sv) (ha : a.length ≤ 9223372036854775807) : Fun Try.prog 12 [.c (.sl c (a.map Sv.row)), .c (.sl d (b.map Sv.row))] [.c (.v (.bool (sameL Sv.same a b)))] := by
  refine fun_x ck_hearsayref_SameServices rfl ?_
  (refine goI ?_; repeat (intro gg; refine goI ?_))
  rw [List.length_map, List.length_map]
  (refine bIf_of (fun h => ?_) (fun h => ?_) <;> rw [h])
  · (refine goI ?_; repeat (intro gg; refine goI ?_))
    rw [sameL_no (fun e => by rw [e] at h; simp at h)]
    (exact ⟨[], aI⟩)
  · have hab : a.length = b.length := by have h' : ((a.length : Int) != (b.length : Int)) = false := h
                                         simp at h'; omega
    (refine goI ?_; repeat (intro gg; refine goI ?_))
    (refine ⟨[], none, {k : Nat // k ≤ a.length ∧ ∀ j, (h : j < a.length) → j < k → Sv.same a[j] (b[j]'(by omega)) = true}, [0, 1], fun ⟨k, hk, h0⟩ => [(5, .v (.int .i64 k))], [], fun ⟨k, hk, h0⟩ => [], fun ⟨k, hk, h0⟩ => a.length - k, trivial, fun _ => ⟨trivial, fun _ => ⟨⟨0, by omega, fun j _ h => by omega⟩, tI, keptE_refl _ _, tI, keptH_refl _ _⟩⟩, fun ⟨k, hk, h0⟩ => ?_⟩)
    (refine goI ?_; repeat (intro gg; refine goI ?_))
    rw [List.length_map]
    (refine bIf_of (fun h2 => ?_) (fun h2 => ?_) <;> rw [h2])
    · have hlt : k < a.length := (by have := of_decide_eq_true h2; omega)
      have hlt' : k < b.length := by omega
      (refine goI ?_; repeat (intro gg; refine goI ?_))
      refine ⟨k, _, rfl, row_map hlt, ?_⟩
      (refine goI ?_; repeat (intro gg; refine goI ?_))
      refine ⟨k, _, rfl, row_map hlt', ?_⟩
      (refine goI ?_; repeat (intro gg; refine goI ?_))
      (refine bIf_of (fun h3 => ?_) (fun h3 => ?_) <;> rw [h3])
      · (refine goI ?_; repeat (intro gg; refine goI ?_))
        rw [sameL_at hlt hlt' (not_t (b := Sv.same a[k] b[k]) h3)]
        (exact ⟨[], aI⟩)
      · (refine goI ?_; repeat (intro gg; refine goI ?_))
        (exact ⟨none, trivial, fun _ => ⟨⟨k + 1, by omega, up1 (p := fun j h => Sv.same a[j] (b[j]'(by omega)) = true) h0 (fun _ => not_f (b := Sv.same a[k] b[k]) h3)⟩, by show a.length - (k + 1) < a.length - k; omega, tI, tI, tI, tI⟩⟩)
    · have hge : ¬ k < a.length := (by have := of_decide_eq_false h2; omega)
      (refine goI ?_; repeat (intro gg; refine goI ?_))
      rw [sameL_yes hab (fun i hi _ => h0 i hi (by omega))]
      (exact ⟨[], aI⟩)
end Go.Proofs.Ytdaffjjconlmoaa
/- Contracts of the functions of services: the reference's joining; finding; what laws begin with. -/
namespace Go.Proofs.Ytdaffjjconlmoaa
open Go.RowKit Pl
set_option linter.unusedVariables false
theorem teq_comm (a b : ByteArray) : (a.toList == b.toList) = (b.toList == a.toList) := BEq.comm
theorem sFind_fun (l : List Sv) (name tag : ByteArray) (hl : l.length ≤ 9223372036854775807) (hw : ∀ x ∈ l, x.ok) (hname : name.size ≤ 9223372036854775807) (htag : tag.size ≤ 9223372036854775807) : Fun Try.prog 8 [.c (.sl false (l.map Sv.row)), .c (.v (.string name)), .c (.v (.string tag))] [.c (.sl false ((findM l name tag).2.map Sv.row)), .c (.v (.int .i64 (findM l name tag).1))] := by
  refine fun_x ck_catalog_Find rfl ?_
  (refine goI ?_; repeat (intro gg; refine goI ?_))
  (refine .inl ⟨_, _, true, [], aI, scheck_fun false [l] (by simp) (by simpa using hl) (by simpa using hw), (fun _ => fI), nI, ?_⟩)
  rw [firstErr_one]
  (refine goI ?_; repeat (intro gg; refine goI ?_))
  (refine bIf_of (fun h1 => ?_) (fun h1 => ?_) <;> rw [h1])
  · have h1' : ckSv l ≠ 0 := by simpa using h1
    (refine goI ?_; repeat (intro gg; refine goI ?_))
    rw [show findM l name tag = (ckSv l, []) by simp [findM, h1']]
    (exact ⟨[], aI⟩)
  · have hc : ckSv l = 0 := by simpa using h1
    have hi := ckSv_inv hc
    clear h1
    (refine goI ?_; repeat (intro gg; refine goI ?_))
    (refine .inl ⟨_, _, false, [], aI, label_fun name hname, nobor, nI, ?_⟩)
    (refine goI ?_; repeat (intro gg; refine goI ?_))
    (refine bIf_of (fun h2 => ?_) (fun h2 => ?_) <;> rw [h2])
    · (refine goI ?_; repeat (intro gg; refine goI ?_))
      rw [show findM l name tag = (1, []) by simp [findM, hc, not_t h2]]
      (exact ⟨[], aI⟩)
    · (refine goI ?_; repeat (intro gg; refine goI ?_))
      (refine .inl ⟨_, _, false, [], aI, maybe_fun tag htag, nobor, nI, ?_⟩)
      (refine goI ?_; repeat (intro gg; refine goI ?_))
      (refine bIf_of (fun h3 => ?_) (fun h3 => ?_) <;> rw [h3])
      · (refine goI ?_; repeat (intro gg; refine goI ?_))
        rw [show findM l name tag = (1, []) by simp [findM, hc, not_f h2, not_t h3]]
        (exact ⟨[], aI⟩)
      · have hF : findM l name tag = (0, findR l name tag) := by simp [findM, hc, not_f h2, not_f h3]
        clear h2 h3
        (refine goI ?_; repeat (intro gg; refine goI ?_))
        rw [List.length_map]
        (refine ⟨[(9, 144, 24, 9)], none, {p : Nat × Nat // p.1 ≤ l.length}, [1, 2, 26, 27], fun ⟨⟨k, g⟩, hk⟩ => [(9, .own 144 g), (28, .v (.int .i64 k))], [], fun ⟨⟨k, g⟩, hk⟩ => [(144, ⟨g, 24, 9, (findR (l.take k) name tag).map Sv.row⟩)], fun ⟨⟨k, g⟩, hk⟩ => l.length - k, (by exact ⟨rfl, by decide, (fun _ _ _ _ h => by cases h), trivial⟩), fun gs => ⟨trivial, fun _ => ⟨⟨(0, gs 144), by omega⟩, tI, tI, tI, tI⟩⟩, fun ⟨⟨k, g⟩, hk⟩ => ?_⟩)
        have hk' : k ≤ l.length := hk
        have hlen := findR_len (l.take k) name tag
        rw [List.length_take] at hlen
        (refine goI ?_; repeat (intro gg; refine goI ?_))
        (refine bIf_of (fun h0 => ?_) (fun h0 => ?_) <;> rw [h0])
        · have hlt : k < l.length := (by have := of_decide_eq_true h0; omega)
          have hn := findR_next (name := name) (tag := tag) hlt
          (refine goI ?_; repeat (intro gg; refine goI ?_))
          refine ⟨k, _, rfl, row_map hlt, ?_⟩
          (refine goI ?_; repeat (intro gg; refine goI ?_))
          (refine bIf_of (fun h1 => ?_) (fun h1 => ?_) <;> rw [h1])
          · (refine goI ?_; repeat (intro gg; refine goI ?_))
            (refine bIf_of (fun h2 => ?_) (fun h2 => ?_) <;> rw [h2])
            · have h2' : emp tag = true := h2
              (refine goI ?_; repeat (intro gg; refine goI ?_))
              (refine bIf_of (fun h4 => ?_) (fun h4 => ?_) <;> rw [h4])
              · (refine goI ?_; repeat (intro gg; refine goI ?_))
                (refine bIf_of (fun h5 => ?_) (fun h5 => ?_) <;> rw [h5])
                · skip
                  have hs : Sv.sought name tag l[k] = true := by unfold Sv.sought; rw [h1, h2', h4, h5]; rfl
                  rw [if_pos hs] at hn
                  (refine goI ?_; repeat (intro gg; refine goI ?_))
                  refine ⟨lI, lI, ?_⟩
                  (refine goI ?_; repeat (intro gg; refine goI ?_))
                  have hn' : (findR (l.take (k + 1)) name tag).map Sv.row = (findR (l.take k) name tag).map Sv.row ++ [[.v (.string l[k].nd), .v (.string l[k].id), .v (.string l[k].nm), .v (.string l[k].tg), .v (.int .i64 l[k].ad), .v (.int .i64 l[k].pt), .v (.bool true), .v (.int .i64 l[k].vs), .v (.bool l[k].gn)]] := by
                    rw [hn, List.map_append]
                    show _ ++ [Sv.row l[k]] = _
                    unfold Sv.row; rw [h4]
                  (exact ⟨none, trivial, fun gr => ⟨⟨(k + 1, gg), by dsimp only; omega⟩, by show l.length - (k + 1) < l.length - k; omega, hxI hn', hxI hn', hxI hn', hxI hn'⟩⟩)
                · skip
                  have hs : Sv.sought name tag l[k] = false := by unfold Sv.sought; rw [h1, h2', h4, h5]; rfl
                  rw [if_neg (by rw [hs]; decide)] at hn
                  (refine goI ?_; repeat (intro gg; refine goI ?_))
                  (exact ⟨none, trivial, fun gr => ⟨⟨(k + 1, g), by dsimp only; omega⟩, by show l.length - (k + 1) < l.length - k; omega, hxI hn, hxI hn, hxI hn, hxI hn⟩⟩)
              · skip
                have hs : Sv.sought name tag l[k] = false := by unfold Sv.sought; rw [h1, h2', h4]; rfl
                rw [if_neg (by rw [hs]; decide)] at hn
                (refine goI ?_; repeat (intro gg; refine goI ?_))
                (exact ⟨none, trivial, fun gr => ⟨⟨(k + 1, g), by dsimp only; omega⟩, by show l.length - (k + 1) < l.length - k; omega, hxI hn, hxI hn, hxI hn, hxI hn⟩⟩)
            · have h2' : emp tag = false := h2
              (refine goI ?_; repeat (intro gg; refine goI ?_))
              (refine bIf_of (fun h3 => ?_) (fun h3 => ?_) <;> rw [h3])
              · have h3' := h3
                (refine goI ?_; repeat (intro gg; refine goI ?_))
                (refine bIf_of (fun h4 => ?_) (fun h4 => ?_) <;> rw [h4])
                · (refine goI ?_; repeat (intro gg; refine goI ?_))
                  (refine bIf_of (fun h5 => ?_) (fun h5 => ?_) <;> rw [h5])
                  · skip
                    have hs : Sv.sought name tag l[k] = true := by unfold Sv.sought; rw [h1, h2', h3', h4, h5]; rfl
                    rw [if_pos hs] at hn
                    (refine goI ?_; repeat (intro gg; refine goI ?_))
                    refine ⟨lI, lI, ?_⟩
                    (refine goI ?_; repeat (intro gg; refine goI ?_))
                    have hn' : (findR (l.take (k + 1)) name tag).map Sv.row = (findR (l.take k) name tag).map Sv.row ++ [[.v (.string l[k].nd), .v (.string l[k].id), .v (.string l[k].nm), .v (.string l[k].tg), .v (.int .i64 l[k].ad), .v (.int .i64 l[k].pt), .v (.bool true), .v (.int .i64 l[k].vs), .v (.bool l[k].gn)]] := by
                      rw [hn, List.map_append]
                      show _ ++ [Sv.row l[k]] = _
                      unfold Sv.row; rw [h4]
                    (exact ⟨none, trivial, fun gr => ⟨⟨(k + 1, gg), by dsimp only; omega⟩, by show l.length - (k + 1) < l.length - k; omega, hxI hn', hxI hn', hxI hn', hxI hn'⟩⟩)
                  · skip
                    have hs : Sv.sought name tag l[k] = false := by unfold Sv.sought; rw [h1, h2', h3', h4, h5]; rfl
                    rw [if_neg (by rw [hs]; decide)] at hn
                    (refine goI ?_; repeat (intro gg; refine goI ?_))
                    (exact ⟨none, trivial, fun gr => ⟨⟨(k + 1, g), by dsimp only; omega⟩, by show l.length - (k + 1) < l.length - k; omega, hxI hn, hxI hn, hxI hn, hxI hn⟩⟩)
                · skip
                  have hs : Sv.sought name tag l[k] = false := by unfold Sv.sought; rw [h1, h2', h3', h4]; rfl
                  rw [if_neg (by rw [hs]; decide)] at hn
                  (refine goI ?_; repeat (intro gg; refine goI ?_))
                  (exact ⟨none, trivial, fun gr => ⟨⟨(k + 1, g), by dsimp only; omega⟩, by show l.length - (k + 1) < l.length - k; omega, hxI hn, hxI hn, hxI hn, hxI hn⟩⟩)
              · have h3' := h3
                have hs : Sv.sought name tag l[k] = false := by unfold Sv.sought; rw [h1, h2', h3']; rfl
                rw [if_neg (by rw [hs]; decide)] at hn
                (refine goI ?_; repeat (intro gg; refine goI ?_))
                (exact ⟨none, trivial, fun gr => ⟨⟨(k + 1, g), by dsimp only; omega⟩, by show l.length - (k + 1) < l.length - k; omega, hxI hn, hxI hn, hxI hn, hxI hn⟩⟩)
          · skip
            have hs : Sv.sought name tag l[k] = false := by unfold Sv.sought; rw [h1]; rfl
            rw [if_neg (by rw [hs]; decide)] at hn
            (refine goI ?_; repeat (intro gg; refine goI ?_))
            (exact ⟨none, trivial, fun gr => ⟨⟨(k + 1, g), by dsimp only; omega⟩, by show l.length - (k + 1) < l.length - k; omega, hxI hn, hxI hn, hxI hn, hxI hn⟩⟩)
        · have hge : l.length ≤ k := (by have := of_decide_eq_false h0; omega)
          obtain rfl : k = l.length := by omega
          (refine goI ?_; repeat (intro gg; refine goI ?_))
          rw [hF, show findR l name tag = findR (l.take l.length) name tag by rw [List.take_length]]
          (exact ⟨[], aI⟩)
theorem rsfind_fun (l : List Sv) (name tag : ByteArray) (hl : l.length ≤ 1000) : Fun Try.prog 17 [.c (.sl false (l.map Sv.row)), .c (.v (.string name)), .c (.v (.string tag))] [.c (.sl false ((findR l name tag).map Sv.row))] := by
  refine fun_x ck_hearsayref_FindOf rfl ?_
  (refine goI ?_; repeat (intro gg; refine goI ?_))
  (refine ⟨[(7, 112, 24, 9)], none, {p : Nat × Nat // p.1 ≤ l.length}, [0, 1, 2], fun ⟨⟨k, g⟩, hk⟩ => [(7, .own 112 g), (8, .v (.int .i64 k))], [], fun ⟨⟨k, g⟩, hk⟩ => [(112, ⟨g, 24, 9, (findR (l.take k) name tag).map Sv.row⟩)], fun ⟨⟨k, g⟩, hk⟩ => l.length - k, (by exact ⟨rfl, by decide, (fun _ _ _ _ h => by cases h), trivial⟩), fun gs => ⟨trivial, fun _ => ⟨⟨(0, gs 112), by omega⟩, tI, tI, tI, tI⟩⟩, fun ⟨⟨k, g⟩, hk⟩ => ?_⟩)
  have hk' : k ≤ l.length := hk
  have hlen := findR_len (l.take k) name tag
  rw [List.length_take] at hlen
  (refine goI ?_; repeat (intro gg; refine goI ?_))
  rw [List.length_map]
  (refine bIf_of (fun h0 => ?_) (fun h0 => ?_) <;> rw [h0])
  · have hlt : k < l.length := (by have := of_decide_eq_true h0; omega)
    have hn := findR_next (name := name) (tag := tag) hlt
    (refine goI ?_; repeat (intro gg; refine goI ?_))
    refine ⟨k, _, rfl, row_map hlt, ?_⟩
    (refine goI ?_; repeat (intro gg; refine goI ?_))
    (refine bIf_of (fun h1 => ?_) (fun h1 => ?_) <;> rw [h1])
    · (refine goI ?_; repeat (intro gg; refine goI ?_))
      (refine bIf_of (fun h2 => ?_) (fun h2 => ?_) <;> rw [h2])
      · have h2' : emp tag = true := h2
        (refine goI ?_; repeat (intro gg; refine goI ?_))
        refine ⟨k, _, rfl, row_map hlt, ?_⟩
        (refine goI ?_; repeat (intro gg; refine goI ?_))
        (refine bIf_of (fun h4 => ?_) (fun h4 => ?_) <;> rw [h4])
        · (refine goI ?_; repeat (intro gg; refine goI ?_))
          refine ⟨k, _, rfl, row_map hlt, ?_⟩
          (refine goI ?_; repeat (intro gg; refine goI ?_))
          (refine bIf_of (fun h5 => ?_) (fun h5 => ?_) <;> rw [h5])
          · skip
            have hs : Sv.sought name tag l[k] = true := by unfold Sv.sought; rw [h1, h2', h4, h5]; rfl
            rw [if_pos hs] at hn
            (refine goI ?_; repeat (intro gg; refine goI ?_))
            refine ⟨k, _, rfl, row_map hlt, ?_⟩
            (refine goI ?_; repeat (intro gg; refine goI ?_))
            refine ⟨lI, lI, ?_⟩
            (refine goI ?_; repeat (intro gg; refine goI ?_))
            (exact ⟨none, trivial, fun gr => ⟨⟨(k + 1, gg), by dsimp only; omega⟩, by show l.length - (k + 1) < l.length - k; omega, hxI hn, hxI hn, hxI hn, hxI hn⟩⟩)
          · skip
            have hs : Sv.sought name tag l[k] = false := by unfold Sv.sought; rw [h1, h2', h4, h5]; rfl
            rw [if_neg (by rw [hs]; decide)] at hn
            (refine goI ?_; repeat (intro gg; refine goI ?_))
            (exact ⟨none, trivial, fun gr => ⟨⟨(k + 1, g), by dsimp only; omega⟩, by show l.length - (k + 1) < l.length - k; omega, hxI hn, hxI hn, hxI hn, hxI hn⟩⟩)
        · skip
          have hs : Sv.sought name tag l[k] = false := by unfold Sv.sought; rw [h1, h2', h4]; rfl
          rw [if_neg (by rw [hs]; decide)] at hn
          (refine goI ?_; repeat (intro gg; refine goI ?_))
          (exact ⟨none, trivial, fun gr => ⟨⟨(k + 1, g), by dsimp only; omega⟩, by show l.length - (k + 1) < l.length - k; omega, hxI hn, hxI hn, hxI hn, hxI hn⟩⟩)
      · have h2' : emp tag = false := h2
        (refine goI ?_; repeat (intro gg; refine goI ?_))
        refine ⟨k, _, rfl, row_map hlt, ?_⟩
        (refine goI ?_; repeat (intro gg; refine goI ?_))
        (refine bIf_of (fun h3 => ?_) (fun h3 => ?_) <;> rw [h3])
        · have h3' : (l[k].tg.toList == tag.toList) = true := by rw [← h3]; exact teq_comm _ _
          (refine goI ?_; repeat (intro gg; refine goI ?_))
          refine ⟨k, _, rfl, row_map hlt, ?_⟩
          (refine goI ?_; repeat (intro gg; refine goI ?_))
          (refine bIf_of (fun h4 => ?_) (fun h4 => ?_) <;> rw [h4])
          · (refine goI ?_; repeat (intro gg; refine goI ?_))
            refine ⟨k, _, rfl, row_map hlt, ?_⟩
            (refine goI ?_; repeat (intro gg; refine goI ?_))
            (refine bIf_of (fun h5 => ?_) (fun h5 => ?_) <;> rw [h5])
            · skip
              have hs : Sv.sought name tag l[k] = true := by unfold Sv.sought; rw [h1, h2', h3', h4, h5]; rfl
              rw [if_pos hs] at hn
              (refine goI ?_; repeat (intro gg; refine goI ?_))
              refine ⟨k, _, rfl, row_map hlt, ?_⟩
              (refine goI ?_; repeat (intro gg; refine goI ?_))
              refine ⟨lI, lI, ?_⟩
              (refine goI ?_; repeat (intro gg; refine goI ?_))
              (exact ⟨none, trivial, fun gr => ⟨⟨(k + 1, gg), by dsimp only; omega⟩, by show l.length - (k + 1) < l.length - k; omega, hxI hn, hxI hn, hxI hn, hxI hn⟩⟩)
            · skip
              have hs : Sv.sought name tag l[k] = false := by unfold Sv.sought; rw [h1, h2', h3', h4, h5]; rfl
              rw [if_neg (by rw [hs]; decide)] at hn
              (refine goI ?_; repeat (intro gg; refine goI ?_))
              (exact ⟨none, trivial, fun gr => ⟨⟨(k + 1, g), by dsimp only; omega⟩, by show l.length - (k + 1) < l.length - k; omega, hxI hn, hxI hn, hxI hn, hxI hn⟩⟩)
          · skip
            have hs : Sv.sought name tag l[k] = false := by unfold Sv.sought; rw [h1, h2', h3', h4]; rfl
            rw [if_neg (by rw [hs]; decide)] at hn
            (refine goI ?_; repeat (intro gg; refine goI ?_))
            (exact ⟨none, trivial, fun gr => ⟨⟨(k + 1, g), by dsimp only; omega⟩, by show l.length - (k + 1) < l.length - k; omega, hxI hn, hxI hn, hxI hn, hxI hn⟩⟩)
        · have h3' : (l[k].tg.toList == tag.toList) = false := by rw [← h3]; exact teq_comm _ _
          have hs : Sv.sought name tag l[k] = false := by unfold Sv.sought; rw [h1, h2', h3']; rfl
          rw [if_neg (by rw [hs]; decide)] at hn
          (refine goI ?_; repeat (intro gg; refine goI ?_))
          (exact ⟨none, trivial, fun gr => ⟨⟨(k + 1, g), by dsimp only; omega⟩, by show l.length - (k + 1) < l.length - k; omega, hxI hn, hxI hn, hxI hn, hxI hn⟩⟩)
    · skip
      have hs : Sv.sought name tag l[k] = false := by unfold Sv.sought; rw [h1]; rfl
      rw [if_neg (by rw [hs]; decide)] at hn
      (refine goI ?_; repeat (intro gg; refine goI ?_))
      (exact ⟨none, trivial, fun gr => ⟨⟨(k + 1, g), by dsimp only; omega⟩, by show l.length - (k + 1) < l.length - k; omega, hxI hn, hxI hn, hxI hn, hxI hn⟩⟩)
  · have hge : l.length ≤ k := (by have := of_decide_eq_false h0; omega)
    obtain rfl : k = l.length := by omega
    (refine goI ?_; repeat (intro gg; refine goI ?_))
    rw [show findR l name tag = findR (l.take l.length) name tag by rw [List.take_length]]
    (exact ⟨[], aI⟩)
def sN : ByteArray := ⟨#[110]⟩
def sI : ByteArray := ⟨#[105]⟩
def sS : ByteArray := ⟨#[115]⟩
def s0 : ByteArray := ⟨#[]⟩
theorem emp_0 : emp s0 = true := beq_self_eq_true _
theorem sbegun_fun : Fun Try.prog 4 [] [.c (.v (.bool true))] := by
  have hl1 : lab sN.data.toList = true := by kernel_rfl
  have hl2 : lab sI.data.toList = true := by kernel_rfl
  have hl3 : lab sS.data.toList = true := by kernel_rfl
  have hm : mayb s0 = true := by unfold mayb; rw [emp_0]; rfl
  have he : (Sv.mk sN sI sS s0 0 0 true 1 false).err = 0 := by simp [Sv.err, hl1, hl2, hl3, hm, wi]
  have h1 : regM [] ⟨sN, sI, sS, s0, 0, 0, true, 0, false⟩ = (0, [⟨sN, sI, sS, s0, 0, 0, true, 1, false⟩]) := by
    have he' : (Sv.fresh ⟨sN, sI, sS, s0, 0, 0, true, 0, false⟩).err = 0 := he
    simp [regM, regR, he', he, ckSv, ckL, firstErr, sorted, setR, low, Sv.at_, Sv.fresh]
  have h2 : findM [⟨sN, sI, sS, s0, 0, 0, true, 1, false⟩] sS s0 = (0, [⟨sN, sI, sS, s0, 0, 0, true, 1, false⟩]) := by
    have hs : Sv.sought sS s0 ⟨sN, sI, sS, s0, 0, 0, true, 1, false⟩ = true := by unfold Sv.sought; rw [emp_0, beq_self_eq_true]; rfl
    have hck : ckSv [⟨sN, sI, sS, s0, 0, 0, true, 1, false⟩] = 0 := by simp [ckSv, ckL, firstErr, sorted, he]
    simp [findM, findR, hl3, hm, hs, hck]
  have hok : (Sv.mk sN sI sS s0 0 0 true 1 false).ok := by unfold Sv.ok; decide
  have f1 := sreg_fun [] ⟨sN, sI, sS, s0, 0, 0, true, 0, false⟩ (by simp) (by simp) (by unfold Sv.ok; decide)
  rw [h1] at f1
  have f2 := sFind_fun [⟨sN, sI, sS, s0, 0, 0, true, 1, false⟩] sS s0 (by simp) (by simpa using hok) (by decide) (by decide)
  rw [h2] at f2
  refine fun_x ck_hearsaylaw_catalogBegun rfl ?_
  (refine goI ?_; repeat (intro gg; refine goI ?_))
  (refine .inl ⟨_, _, false, [], aI, f1, nobor, nI, ?_⟩)
  (refine goI ?_; repeat (intro gg; refine goI ?_))
  (refine .inl ⟨_, _, false, [], aI, f2, nobor, nI, ?_⟩)
  (refine goI ?_; repeat (intro gg; refine goI ?_))
  refine ⟨0, _, rfl, rfl, ?_⟩
  (refine goI ?_; repeat (intro gg; refine goI ?_))
  (exact ⟨[], aI⟩)
end Go.Proofs.Ytdaffjjconlmoaa
/- Contracts of the functions of services again: what comes is the caller's own. -/
namespace Go.Proofs.Ytdaffjjconlmoaa
open Go.RowKit Pl
set_option linter.unusedVariables false
theorem ssetO_fun (l : List Sv) (s : Sv) (h : ckSv l = 0) : Fun Try.prog 28 [.c (.sl false (l.map Sv.row)), .c (.agg s.row)] [.o 24 9 ((setR l s).2.map Sv.row), .c (.v (.int .i64 (setR l s).1))] := by
  have hi := ckSv_inv h
  have hm := Sv.smono hi.2.2 s.nd s.id
  have hlow := low_le (cf := Sv.kf s) l
  refine fun_x ck_catalog_set rfl ?_
  (refine goI ?_; repeat (intro gg; refine goI ?_))
  (refine .inl ⟨_, _, false, [], aI, sclone_fun false l (by omega), nobor, nI, ?_⟩)
  (refine goI ?_; repeat (intro gg; refine goI ?_))
  (refine .inl ⟨_, _, true, [], aI, sfind_fun false l s.nd s.id (by omega) hm.mono, (fun _ => fI), nI, ?_⟩)
  (refine goI ?_; repeat (intro gg; refine goI ?_))
  (refine bIf_of (fun h1 => ?_) (fun h1 => ?_) <;> rw [h1])
  · have h1' : hit (Sv.kf s) l = true := h1
    have hlt := hit_lt h1
    have hR := setR_hit h1'
    have hb := Sv.err_inv (hi.2.1 _ hlt)
    (refine goI ?_; repeat (intro gg; refine goI ?_))
    refine ⟨low (Sv.cf s.nd s.id) l, _, rfl, row_map hlt, ?_⟩
    (refine goI ?_; repeat (intro gg; refine goI ?_))
    (refine bIf_of (fun h2 => ?_) (fun h2 => ?_) <;> rw [h2])
    · (refine goI ?_; repeat (intro gg; refine goI ?_))
      rw [hR, if_pos (show 1000000 < (l[low (Sv.kf s) l]'(hit_lt h1')).vs + 1 from of_decide_eq_true h2)]
      (exact ⟨[], aI⟩)
    · (refine goI ?_; repeat (intro gg; refine goI ?_))
      refine ⟨low (Sv.cf s.nd s.id) l, _, rfl, row_map hlt, ?_⟩
      (refine goI ?_; repeat (intro gg; refine goI ?_))
      rw [hR, if_neg (show ¬ 1000000 < (l[low (Sv.kf s) l]'(hit_lt h1')).vs + 1 from of_decide_eq_false h2), List.map_set]
      (exact ⟨[144], aI⟩)
  · have h1' : hit (Sv.kf s) l = false := h1
    have hR := setR_miss h1'
    (refine goI ?_; repeat (intro gg; refine goI ?_))
    rw [List.length_map]
    (refine bIf_of (fun h2 => ?_) (fun h2 => ?_) <;> rw [h2])
    · (refine goI ?_; repeat (intro gg; refine goI ?_))
      rw [hR, if_pos (by have h' : ((l.length : Int) == 40) = true := h2
                         simp at h'; omega)]
      (exact ⟨[], aI⟩)
    · have h2' : ¬ l.length = 40 := by have h' : ((l.length : Int) == 40) = false := h2
                                       simp at h'; omega
      (refine goI ?_; repeat (intro gg; refine goI ?_))
      (refine .inl ⟨_, _, true, [144, 736], aI, sinsert_fun l (s.at_ 1) (low (Sv.kf s) l) hlow (by omega), (fun _ => fI), nI, ?_⟩)
      (refine goI ?_; repeat (intro gg; refine goI ?_))
      rw [hR, if_neg h2']
      (exact ⟨[752], aI⟩)
theorem sregO_fun (l : List Sv) (s : Sv) (hl : l.length ≤ 9223372036854775807) (hw : ∀ x ∈ l, x.ok) (hm : s.ok) : Fun Try.prog 7 [.c (.sl false (l.map Sv.row)), .c (.agg s.row)] [.o 24 9 ((regM l s).2.map Sv.row), .c (.v (.int .i64 (regM l s).1))] := by
  refine fun_x ck_catalog_Register rfl ?_
  (refine goI ?_; repeat (intro gg; refine goI ?_))
  (refine .inl ⟨_, _, true, [], aI, scheck_fun false [l] (by simp) (by simpa using hl) (by simpa using hw), (fun _ => fI), nI, ?_⟩)
  rw [firstErr_one]
  (refine goI ?_; repeat (intro gg; refine goI ?_))
  (refine bIf_of (fun h1 => ?_) (fun h1 => ?_) <;> rw [h1])
  · have h1' : ckSv l = 0 := by simpa using h1
    (refine goI ?_; repeat (intro gg; refine goI ?_))
    (refine .inl ⟨_, _, false, [], aI, sone_fun s.fresh hm, nobor, nI, ?_⟩)
    (refine goI ?_; repeat (intro gg; refine goI ?_))
    (refine bIf_of (fun h2 => ?_) (fun h2 => ?_) <;> rw [h2])
    · have h2' : s.fresh.err ≠ 0 := by simpa using h2
      (refine goI ?_; repeat (intro gg; refine goI ?_))
      rw [show regM l s = (s.fresh.err, []) by simp [regM, regR, h1', h2']]
      (exact ⟨[], aI⟩)
    · have h2' : s.fresh.err = 0 := by simpa using h2
      (refine goI ?_; repeat (intro gg; refine goI ?_))
      (refine .inl ⟨_, _, false, [], aI, ssetO_fun l s.fresh h1', nobor, nI, ?_⟩)
      (refine goI ?_; repeat (intro gg; refine goI ?_))
      rw [show regM l s = setR l s.fresh by simp [regM, regR, h1', h2']]
      (exact ⟨[336], aI⟩)
  · have h1' : ckSv l ≠ 0 := by simpa using h1
    (refine goI ?_; repeat (intro gg; refine goI ?_))
    (refine bIf_of (fun h2 => ?_) (fun h2 => ?_) <;> rw [h2])
    · (refine goI ?_; repeat (intro gg; refine goI ?_))
      rw [show regM l s = (ckSv l, []) by simp [regM, h1']]
      (exact ⟨[], aI⟩)
    · exact absurd (by simpa using h2) h1'
theorem sFindO_fun (l : List Sv) (name tag : ByteArray) (hl : l.length ≤ 9223372036854775807) (hw : ∀ x ∈ l, x.ok) (hname : name.size ≤ 9223372036854775807) (htag : tag.size ≤ 9223372036854775807) : Fun Try.prog 8 [.c (.sl false (l.map Sv.row)), .c (.v (.string name)), .c (.v (.string tag))] [.o 24 9 ((findM l name tag).2.map Sv.row), .c (.v (.int .i64 (findM l name tag).1))] := by
  refine fun_x ck_catalog_Find rfl ?_
  (refine goI ?_; repeat (intro gg; refine goI ?_))
  (refine .inl ⟨_, _, true, [], aI, scheck_fun false [l] (by simp) (by simpa using hl) (by simpa using hw), (fun _ => fI), nI, ?_⟩)
  rw [firstErr_one]
  (refine goI ?_; repeat (intro gg; refine goI ?_))
  (refine bIf_of (fun h1 => ?_) (fun h1 => ?_) <;> rw [h1])
  · have h1' : ckSv l ≠ 0 := by simpa using h1
    (refine goI ?_; repeat (intro gg; refine goI ?_))
    rw [show findM l name tag = (ckSv l, []) by simp [findM, h1']]
    (exact ⟨[], aI⟩)
  · have hc : ckSv l = 0 := by simpa using h1
    have hi := ckSv_inv hc
    clear h1
    (refine goI ?_; repeat (intro gg; refine goI ?_))
    (refine .inl ⟨_, _, false, [], aI, label_fun name hname, nobor, nI, ?_⟩)
    (refine goI ?_; repeat (intro gg; refine goI ?_))
    (refine bIf_of (fun h2 => ?_) (fun h2 => ?_) <;> rw [h2])
    · (refine goI ?_; repeat (intro gg; refine goI ?_))
      rw [show findM l name tag = (1, []) by simp [findM, hc, not_t h2]]
      (exact ⟨[], aI⟩)
    · (refine goI ?_; repeat (intro gg; refine goI ?_))
      (refine .inl ⟨_, _, false, [], aI, maybe_fun tag htag, nobor, nI, ?_⟩)
      (refine goI ?_; repeat (intro gg; refine goI ?_))
      (refine bIf_of (fun h3 => ?_) (fun h3 => ?_) <;> rw [h3])
      · (refine goI ?_; repeat (intro gg; refine goI ?_))
        rw [show findM l name tag = (1, []) by simp [findM, hc, not_f h2, not_t h3]]
        (exact ⟨[], aI⟩)
      · have hF : findM l name tag = (0, findR l name tag) := by simp [findM, hc, not_f h2, not_f h3]
        clear h2 h3
        (refine goI ?_; repeat (intro gg; refine goI ?_))
        rw [List.length_map]
        (refine ⟨[(9, 144, 24, 9)], none, {p : Nat × Nat // p.1 ≤ l.length}, [1, 2, 26, 27], fun ⟨⟨k, g⟩, hk⟩ => [(9, .own 144 g), (28, .v (.int .i64 k))], [], fun ⟨⟨k, g⟩, hk⟩ => [(144, ⟨g, 24, 9, (findR (l.take k) name tag).map Sv.row⟩)], fun ⟨⟨k, g⟩, hk⟩ => l.length - k, (by exact ⟨rfl, by decide, (fun _ _ _ _ h => by cases h), trivial⟩), fun gs => ⟨trivial, fun _ => ⟨⟨(0, gs 144), by omega⟩, tI, tI, tI, tI⟩⟩, fun ⟨⟨k, g⟩, hk⟩ => ?_⟩)
        have hk' : k ≤ l.length := hk
        have hlen := findR_len (l.take k) name tag
        rw [List.length_take] at hlen
        (refine goI ?_; repeat (intro gg; refine goI ?_))
        (refine bIf_of (fun h0 => ?_) (fun h0 => ?_) <;> rw [h0])
        · have hlt : k < l.length := (by have := of_decide_eq_true h0; omega)
          have hn := findR_next (name := name) (tag := tag) hlt
          (refine goI ?_; repeat (intro gg; refine goI ?_))
          refine ⟨k, _, rfl, row_map hlt, ?_⟩
          (refine goI ?_; repeat (intro gg; refine goI ?_))
          (refine bIf_of (fun h1 => ?_) (fun h1 => ?_) <;> rw [h1])
          · (refine goI ?_; repeat (intro gg; refine goI ?_))
            (refine bIf_of (fun h2 => ?_) (fun h2 => ?_) <;> rw [h2])
            · have h2' : emp tag = true := h2
              (refine goI ?_; repeat (intro gg; refine goI ?_))
              (refine bIf_of (fun h4 => ?_) (fun h4 => ?_) <;> rw [h4])
              · (refine goI ?_; repeat (intro gg; refine goI ?_))
                (refine bIf_of (fun h5 => ?_) (fun h5 => ?_) <;> rw [h5])
                · skip
                  have hs : Sv.sought name tag l[k] = true := by unfold Sv.sought; rw [h1, h2', h4, h5]; rfl
                  rw [if_pos hs] at hn
                  (refine goI ?_; repeat (intro gg; refine goI ?_))
                  refine ⟨lI, lI, ?_⟩
                  (refine goI ?_; repeat (intro gg; refine goI ?_))
                  have hn' : (findR (l.take (k + 1)) name tag).map Sv.row = (findR (l.take k) name tag).map Sv.row ++ [[.v (.string l[k].nd), .v (.string l[k].id), .v (.string l[k].nm), .v (.string l[k].tg), .v (.int .i64 l[k].ad), .v (.int .i64 l[k].pt), .v (.bool true), .v (.int .i64 l[k].vs), .v (.bool l[k].gn)]] := by
                    rw [hn, List.map_append]
                    show _ ++ [Sv.row l[k]] = _
                    unfold Sv.row; rw [h4]
                  (exact ⟨none, trivial, fun gr => ⟨⟨(k + 1, gg), by dsimp only; omega⟩, by show l.length - (k + 1) < l.length - k; omega, hxI hn', hxI hn', hxI hn', hxI hn'⟩⟩)
                · skip
                  have hs : Sv.sought name tag l[k] = false := by unfold Sv.sought; rw [h1, h2', h4, h5]; rfl
                  rw [if_neg (by rw [hs]; decide)] at hn
                  (refine goI ?_; repeat (intro gg; refine goI ?_))
                  (exact ⟨none, trivial, fun gr => ⟨⟨(k + 1, g), by dsimp only; omega⟩, by show l.length - (k + 1) < l.length - k; omega, hxI hn, hxI hn, hxI hn, hxI hn⟩⟩)
              · skip
                have hs : Sv.sought name tag l[k] = false := by unfold Sv.sought; rw [h1, h2', h4]; rfl
                rw [if_neg (by rw [hs]; decide)] at hn
                (refine goI ?_; repeat (intro gg; refine goI ?_))
                (exact ⟨none, trivial, fun gr => ⟨⟨(k + 1, g), by dsimp only; omega⟩, by show l.length - (k + 1) < l.length - k; omega, hxI hn, hxI hn, hxI hn, hxI hn⟩⟩)
            · have h2' : emp tag = false := h2
              (refine goI ?_; repeat (intro gg; refine goI ?_))
              (refine bIf_of (fun h3 => ?_) (fun h3 => ?_) <;> rw [h3])
              · have h3' := h3
                (refine goI ?_; repeat (intro gg; refine goI ?_))
                (refine bIf_of (fun h4 => ?_) (fun h4 => ?_) <;> rw [h4])
                · (refine goI ?_; repeat (intro gg; refine goI ?_))
                  (refine bIf_of (fun h5 => ?_) (fun h5 => ?_) <;> rw [h5])
                  · skip
                    have hs : Sv.sought name tag l[k] = true := by unfold Sv.sought; rw [h1, h2', h3', h4, h5]; rfl
                    rw [if_pos hs] at hn
                    (refine goI ?_; repeat (intro gg; refine goI ?_))
                    refine ⟨lI, lI, ?_⟩
                    (refine goI ?_; repeat (intro gg; refine goI ?_))
                    have hn' : (findR (l.take (k + 1)) name tag).map Sv.row = (findR (l.take k) name tag).map Sv.row ++ [[.v (.string l[k].nd), .v (.string l[k].id), .v (.string l[k].nm), .v (.string l[k].tg), .v (.int .i64 l[k].ad), .v (.int .i64 l[k].pt), .v (.bool true), .v (.int .i64 l[k].vs), .v (.bool l[k].gn)]] := by
                      rw [hn, List.map_append]
                      show _ ++ [Sv.row l[k]] = _
                      unfold Sv.row; rw [h4]
                    (exact ⟨none, trivial, fun gr => ⟨⟨(k + 1, gg), by dsimp only; omega⟩, by show l.length - (k + 1) < l.length - k; omega, hxI hn', hxI hn', hxI hn', hxI hn'⟩⟩)
                  · skip
                    have hs : Sv.sought name tag l[k] = false := by unfold Sv.sought; rw [h1, h2', h3', h4, h5]; rfl
                    rw [if_neg (by rw [hs]; decide)] at hn
                    (refine goI ?_; repeat (intro gg; refine goI ?_))
                    (exact ⟨none, trivial, fun gr => ⟨⟨(k + 1, g), by dsimp only; omega⟩, by show l.length - (k + 1) < l.length - k; omega, hxI hn, hxI hn, hxI hn, hxI hn⟩⟩)
                · skip
                  have hs : Sv.sought name tag l[k] = false := by unfold Sv.sought; rw [h1, h2', h3', h4]; rfl
                  rw [if_neg (by rw [hs]; decide)] at hn
                  (refine goI ?_; repeat (intro gg; refine goI ?_))
                  (exact ⟨none, trivial, fun gr => ⟨⟨(k + 1, g), by dsimp only; omega⟩, by show l.length - (k + 1) < l.length - k; omega, hxI hn, hxI hn, hxI hn, hxI hn⟩⟩)
              · have h3' := h3
                have hs : Sv.sought name tag l[k] = false := by unfold Sv.sought; rw [h1, h2', h3']; rfl
                rw [if_neg (by rw [hs]; decide)] at hn
                (refine goI ?_; repeat (intro gg; refine goI ?_))
                (exact ⟨none, trivial, fun gr => ⟨⟨(k + 1, g), by dsimp only; omega⟩, by show l.length - (k + 1) < l.length - k; omega, hxI hn, hxI hn, hxI hn, hxI hn⟩⟩)
          · skip
            have hs : Sv.sought name tag l[k] = false := by unfold Sv.sought; rw [h1]; rfl
            rw [if_neg (by rw [hs]; decide)] at hn
            (refine goI ?_; repeat (intro gg; refine goI ?_))
            (exact ⟨none, trivial, fun gr => ⟨⟨(k + 1, g), by dsimp only; omega⟩, by show l.length - (k + 1) < l.length - k; omega, hxI hn, hxI hn, hxI hn, hxI hn⟩⟩)
        · have hge : l.length ≤ k := (by have := of_decide_eq_false h0; omega)
          obtain rfl : k = l.length := by omega
          (refine goI ?_; repeat (intro gg; refine goI ?_))
          rw [hF, show findR l name tag = findR (l.take l.length) name tag by rw [List.take_length]]
          (exact ⟨[144], aI⟩)
end Go.Proofs.Ytdaffjjconlmoaa
/- slices.Insert of one value into a row of the call's own, at hearsay/api.Gateway: whatever the capacity. -/
namespace Go.Proofs.Ytdaffjjconlmoaa
open Go.RowKit
set_option linter.unusedVariables false

theorem infoGw : (Try.prog.info? 62).map (fun i => (i.zero, i.size, i.bytes)) = some (some (.agg #[.string ⟨#[]⟩, .int .i64 0, .int .i64 0]), 3, 32) := by kernel_rfl

theorem cellsGw : (Try.prog.info? 62).map (·.size) = some 3 := by kernel_rfl
theorem sizeGw : ∀ w, (Go.sizeOf 62).run Try.prog w = .ok 3 w := by
  intro w
  obtain ⟨i0, hi0, hz0, hzs, hzb⟩ := info_parts infoGw
  simp [sizeOf, typeInfo, hi0, hzs]

theorem insGw_over (vb g : Nat) (vc lb cb off : Nat) (vs cur : Array Value) (w : World) (hv : Blk w vb 62 vs) (hg : Blk w g 62 cur) (hne : vb ≠ g) (hcur : cur.size ≠ 0) :
    (callFunc 63 #[.slice (some ⟨vb, 0, none⟩) 1 vc, .slice (some ⟨g, off, none⟩) lb cb]).run Try.prog w = .ok (.value (.bool false)) w := by
  rw [run_callFunc_extern Try.func63 (by kernel_rfl) (by kernel_rfl) (by kernel_rfl) (e := Extern.SlicesOverlaps.overlaps #[25, 25] #[4]) (by kernel_rfl),
    Lib.run_overlaps_apart w 25 4 62 Try.underlying25 3 sizeGw ⟨vb, 0, none⟩ ⟨g, off, none⟩ 1 vc lb cb hne 62 62 vs.size cur.size
      (by unfold Blk at hv; simp [World.shape?, hv]) (by unfold Blk at hg; simp [World.shape?, hg]) hcur (hv.frozen _) (hv.frozen _)]
  rfl

/-- what Insert leaves -/
def InsGw (L : Nat → Prop) (base n i : Nat) (xs vs : List Value) (w : World) (e : Ending) (w' : World) : Prop :=
  ∃ A' c', e = .returned (.slice A' (n + 1) c') ∧ w'.ownsRow base 62 3 (.slice A' (n + 1) c') (n + 1) (xs.take (i * 3) ++ vs ++ xs.drop (i * 3)) ∧ Fr L w w' ∧ ∀ k, (Value.slice A' (n + 1) c').ownBlock = some k → L k ∨ w.heap.size ≤ k

set_option maxHeartbeats 1000000 in
set_option maxRecDepth 100000 in
theorem insGw_end (base : Nat) (A : Option Addr) (n c : Nat) (xs : List Value) (vb vc : Nat) (vcur : Array Value) (vs : List Value) (w : World) (hown : w.ownsRow base 62 3 (.slice A n c) n xs) (hbase : base ≤ w.heap.size)
    (hn : n ≤ 1000) (hv : Blk w vb 62 vcur) (hvc : vcur.toList.take 3 = vs) (hvl : vs.length = 3) (h1 : ∀ v ∈ vs, v.oneCell' = true) :
    Calls Try.prog 35 #[.slice A n c, .int .i64 n, .slice (some ⟨vb, 0, none⟩) 1 vc] w (InsGw (LB A) base n n xs vs w) := by
  obtain ⟨i0, hi0, hz0, hzs, hzb⟩ := info_parts infoGw
  have hnc : n ≤ c ∧ c ≤ 9223372036854775807 := by
    rcases hown.2 with ⟨hv, hz⟩ | ⟨g, cap, cur, hv, _, _, h, h', _⟩
    · injection hv; omega
    · injection hv with _ _ e; subst e; exact ⟨h, h'⟩
  obtain ⟨hnc, hc63⟩ := hnc
  have hxs : xs.length = n * 3 := hown.1
  have HXS := hid hxs
  have HVL := hid hvl
  have HV := hid hv
  have HO := hid hown
  have HZ0 := hid hz0
  have HZS := hid hzs
  have HZB := hid hzb
  have HI0 := hid hi0
  clear hxs hvl hv hown hz0 hzs hzb hi0
  have hnn : ((n : Int) == (n : Int)) = true := by simp
  go_enter Try.func35, Try.ntmps35
  go_wp2_with (at_builtin; refine wpList_appD _ rfl _ _ 25 rfl base 62 i0 _ 3 32 Try.underlying25 HI0.out HZ0.out HZS.out HZB.out rfl (by decide) _ _ _ rfl HO.out ⟨vb, 0, none⟩ 1 vc vs rfl (by simpa using HVL.out) (blk_at HV.out hvc) h1 (by simp only [maxLen]; omega) (by omega) hbase ?_; intro v1 w1 hown1 hg1 hd1 hat1)
  all_goals go_ret
  all_goals
    obtain ⟨A', c', rfl⟩ := own_form hown1
    refine ⟨A', c', rfl, ?_, (Fr.refl _ _).grown hg1 (inl_own HO.out (fun k hk => lb_of (n := n) (c := c) hk)) hd1, fun k hk => ?_⟩
    rotate_left
    · rcases hat1 with h | h
      · exact .inl (lb_of (n := n) (c := c) (h.symm.trans hk))
      · have := h.symm.trans hk
        injection this with this
        exact .inr (by omega)
    rw [List.take_of_length_le (by have := HXS.out; omega), List.drop_of_length_le (by have := HXS.out; omega), List.append_nil]
    exact hown1

set_option maxHeartbeats 2000000 in
set_option maxRecDepth 100000 in
/-- there is room, and it is not at the end: in place -/
theorem insGw_room (base g : Nat) (n c i : Nat) (cur : Array Value) (xs : List Value) (vb vc : Nat) (vcur : Array Value) (vs : List Value) (w : World) (hg : Blk w g 62 cur) (hbg : base ≤ g) (hcs : cur.size = c * 3) (hcx : cur.toList.take (n * 3) = xs)
    (hi : i < n) (hr : n + 1 ≤ c) (hc63 : c ≤ 9223372036854775807) (hn : n ≤ 1000) (hv : Blk w vb 62 vcur) (hvc : vcur.toList.take 3 = vs) (hne : vb ≠ g) (hvl : vs.length = 3) (h1 : ∀ v ∈ vs, v.oneCell' = true) (h1x : ∀ v ∈ xs, v.oneCell' = true) :
    Calls Try.prog 35 #[.slice (some ⟨g, 0, none⟩) n c, .int .i64 i, .slice (some ⟨vb, 0, none⟩) 1 vc] w (InsGw (LB (some ⟨g, 0, none⟩)) base n i xs vs w) := by
  have hcl : cur.toList.length = c * 3 := by rw [Array.length_toList]; exact hcs
  have hxl : xs.length = n * 3 := by rw [← hcx, List.length_take, hcl]; omega
  have hov : ∀ lb cb, (callFunc 63 #[.slice (some ⟨vb, 0, none⟩) 1 vc, .slice (some ⟨g, (i + 1) * 3, none⟩) lb cb]).run Try.prog w = .ok (.value (.bool false)) w := fun lb cb => insGw_over vb g vc lb cb ((i + 1) * 3) vcur cur w hv hg hne (by omega)
  have HB2 : Hid ((splice (splice cur.toList ((i + 1) * 3) (xs.drop (i * 3))) (i * 3) vs).take ((n + 1) * 3) = xs.take (i * 3) ++ vs ++ xs.drop (i * 3)) := by
    refine hid ?_
    have h := splice_room cur.toList xs vs (i * 3) (n * 3) hcx (by rw [hcl]; omega) (by omega) (by rw [hcl, hvl]; omega)
    rw [hvl] at h
    rw [Nat.add_mul, Nat.add_mul, Nat.one_mul]
    exact h
  have HC1 : Hid ((xs.drop (i * 3)).length = Nat.min (n + 1 - i) (n - i) * 3) := by
    refine hid ?_
    rw [List.length_drop, hxl, show Nat.min (n + 1 - i) (n - i) = n - i from Nat.min_eq_right (by omega), Nat.sub_mul]
  have HC2 := hid (fun j v (hj : (xs.drop (i * 3))[j]? = some v) => blk_drop hg.drew hcx (i * 3) j v hj)
  have HC3 : Hid ((i + 1) * 3 + (xs.drop (i * 3)).length ≤ cur.size) := hid (by rw [List.length_drop]; omega)
  have HC3' : Hid ((i + 1) * 3 + (xs.drop (i * 3)).length ≤ cur.toList.length) := hid (by rw [List.length_drop, hcl]; omega)
  have HC4 := hid (fun v (hv : v ∈ xs.drop (i * 3)) => h1x v (List.mem_of_mem_drop hv))
  have HC5 : Hid (vs.length = Nat.min 1 (n + 1 - i) * 3) := by
    refine hid ?_
    rw [hvl, show Nat.min 1 (n + 1 - i) = 1 from Nat.min_eq_left (by omega)]
  have HC6 : Hid (i * 3 + vs.length ≤ (splice cur.toList ((i + 1) * 3) (xs.drop (i * 3))).toArray.size) := by
    refine hid ?_
    rw [List.size_toArray, length_splice _ _ _ (by rw [hcl, ← hcs]; exact HC3.out), hcl, hvl]
    omega
  have HXL := hid hxl
  have HVL := hid hvl
  have HG := hid hg
  have HV := hid hv
  have HCS := hid hcs
  have HNE := hid hne
  have HCX := hid hcx
  clear hxl hvl hg hv hcs hne hcx
  have hw1 : IntKind.i64.wrap ((i : Int) + 1) = (i : Int) + 1 := by rw [IntWalk.i64_in _ (by omega)]
  have hb1 : (0 : Int) ≤ (i : Int) + 1 := by omega
  have htn : ((i : Int) + 1).toNat = i + 1 := by omega
  have hb3 : (i : Int) ≤ (n : Int) + 1 := by omega
  have hb4 : (i : Int) + 1 ≤ (n : Int) + 1 := by omega
  have hb5 : (i : Int) ≤ (n : Int) := by omega
  have hb6 : ¬ c = i := by omega
  have hb7 : ¬ c = i + 1 := by omega
  have hb8 : ((i : Int) == (n : Int)) = false := by simp; omega
  go_enter Try.func35, Try.ntmps35
  go_wp2_with (simp only [hov])
  go_region_law (refine step_copyN rfl (.tmp 73) (.tmp 76) 25 25 rfl 62 3 Try.underlying25 cellsGw g ((i + 1) * 3) (n - i) (c - (i + 1)) ⟨g, i * 3, none⟩ (n + 1 - i) (c - i) (by simp [Act.eval, Act.put]) (by simp [Act.eval, Act.put]) cur 62 HG.out.drew (xs.drop (i * 3)) HC1.out HC2.out HC3.out HC4.out ?_; intro w1 hk1 hg1 hd1)
  have HK1 := hid hk1
  have HG1 := hid hg1
  have HV1 := hid (HV.out.drew.grown hg1 (fun e => HNE.out (by injection e)))
  clear hk1 hg1
  go_wp2_with (refine wpList_copyN rfl (.tmp 80) (.tmp 81) 25 25 rfl 62 3 Try.underlying25 cellsGw g (i * 3) (n + 1 - i) (c - i) ⟨vb, 0, none⟩ 1 vc (by simp [Act.eval]) (by simp [Act.eval]) _ 62 HK1.out vs HC5.out (blk_at HV1.out hvc) HC6.out h1 ?_; intro w2 hk2 hg2 hd2)
  go_ret
  refine ⟨_, _, rfl, ⟨?_, .inr ⟨g, c, _, rfl, hbg, hk2, by omega, by simpa [maxLen] using hc63, ?_, ?_⟩⟩, ?_, fun k hk => .inl ⟨_, rfl, by injection hk with hk⟩⟩
  · simp only [List.length_append, List.length_take, List.length_drop]
    have := HXL.out; have := HVL.out
    omega
  · have h1 := length_splice cur.toList ((i + 1) * 3) (xs.drop (i * 3)) HC3'.out
    have h2 := length_splice (splice cur.toList ((i + 1) * 3) (xs.drop (i * 3))) (i * 3) vs (by simpa using HC6.out)
    rw [List.size_toArray, List.toList_toArray, h2, h1]
    simpa using HCS.out
  · rw [List.toList_toArray, List.toList_toArray]
    exact HB2.out
  · have hlt := HG.out.lt
    exact ((Fr.refl _ w).drew.grown HG1.out (fun k hk => .inl (⟨_, rfl, by injection hk with hk⟩)) hd1).grown hg2 (fun k hk => .inl (⟨_, rfl, by injection hk with hk⟩)) hd2

set_option maxHeartbeats 2000000 in
set_option maxRecDepth 100000 in
/-- there is no room, and it is not at the end: a new row -/
theorem insGw_grow (base g : Nat) (n c i : Nat) (cur : Array Value) (xs : List Value) (vb vc : Nat) (vcur : Array Value) (vs : List Value) (w : World) (hg : Blk w g 62 cur) (hbase : base ≤ w.heap.size) (hcs : cur.size = c * 3) (hcx : cur.toList.take (n * 3) = xs)
    (hi : i < n) (hnc : n ≤ c) (hr : c < n + 1) (hn : n ≤ 1000) (hv : Blk w vb 62 vcur) (hvc : vcur.toList.take 3 = vs) (hvl : vs.length = 3) (h1 : ∀ v ∈ vs, v.oneCell' = true) (h1x : ∀ v ∈ xs, v.oneCell' = true) :
    Calls Try.prog 35 #[.slice (some ⟨g, 0, none⟩) n c, .int .i64 i, .slice (some ⟨vb, 0, none⟩) 1 vc] w (InsGw (LB (some ⟨g, 0, none⟩)) base n i xs vs w) := by
  obtain ⟨i0, hi0, hz0, hzs, hzb⟩ := info_parts infoGw
  have hcl : cur.toList.length = c * 3 := by rw [Array.length_toList]; exact hcs
  have hxl : xs.length = n * 3 := by rw [← hcx, List.length_take, hcl]; omega
  have hold : (Builtin.firstCells i0.size i (.slice (some ⟨g, 0, none⟩) i c)).run Try.prog w.drew = .ok (xs.take (i * 3)).toArray w.drew := by
    rw [hzs]
    exact run_firstCells_some w.drew 3 i ⟨g, 0, none⟩ i c (xs.take (i * 3)) (by rw [List.length_take]; omega) (fun j v hj => by
      have hj' : (xs.drop 0)[j]? = some v := by
        rw [List.drop_zero]
        rw [List.getElem?_take] at hj
        split at hj
        · exact hj
        · cases hj
      exact blk_drop hg.drew hcx 0 j v hj')
  have hkk : (n : Int) + 1 - (i : Int) = ((n + 1 - i : Nat) : Int) := by omega
  have hik : i + (n + 1 - i) = n + 1 := by omega
  obtain ⟨G, hG⟩ : ∃ G, G = grownCap w (n + 1) c 62 := ⟨_, rfl⟩
  have hGn : n + 1 ≤ G := by rw [hG]; exact grownCap_ge w _ _ _
  have hG63 : G ≤ 9223372036854775807 := by
    have := grownCap_le_maxLen w (n + 1) c 62 (by unfold maxLen; omega)
    rw [← hG] at this
    unfold maxLen at this
    omega
  obtain ⟨ROW, hROW⟩ : ∃ ROW : Array Value, ROW = (xs.take (i * 3)).toArray ++ Builtin.zeroCells (Value.agg #[.string ⟨#[]⟩, .int .i64 0, .int .i64 0]).cells (n + 1 - i) ++ Builtin.zeroCells (Value.agg #[.string ⟨#[]⟩, .int .i64 0, .int .i64 0]).cells (G - (n + 1)) := ⟨_, rfl⟩
  have hrz : ∀ ty, (Builtin.append_ #[25, 3] ty #[.slice (some ⟨g, 0, none⟩) i c, .int .i64 ((n : Int) + 1 - (i : Int))]).run Try.prog w =
      .ok (.slice (some ⟨w.heap.size, 0, none⟩) (n + 1) G) (w.drew.alloc (.cells ROW 62)) := fun ty => by
    have h := Lib.run_append_grow_zeros w 25 3 ty 62 i0 _ .i64 .i64 Try.underlying25 Try.underlying3 hi0 hz0 (some ⟨g, 0, none⟩) i c (xs.take (i * 3)) hold (n + 1 - i) (by omega) (by omega) (by omega) (by omega) (by rw [hzb]; omega) (by rw [hzb, hik]; exact growslice_fits hr (by omega))
    rw [hik] at h
    rw [hkk, hROW, hG]
    exact h
  have hRs : ROW.size = G * 3 := by
    rw [hROW]
    simp [Builtin.zeroCells, Value.cells]
    omega
  have hRl : ROW.toList.length = G * 3 := by rw [Array.length_toList]; exact hRs
  have hRt : ROW.toList.take (i * 3) = xs.take (i * 3) := by
    rw [hROW, Array.toList_append, Array.toList_append, List.append_assoc, List.take_append_of_le_length (by simp; omega), List.toList_toArray, List.take_take, Nat.min_self]
  have HB2 : Hid ((splice (splice ROW.toList (i * 3) vs) ((i + 1) * 3) (xs.drop (i * 3))).take ((n + 1) * 3) = xs.take (i * 3) ++ vs ++ xs.drop (i * 3)) := by
    refine hid ?_
    have h := splice_new ROW.toList xs vs (i * 3) (n * 3) hRt hxl (by omega) (by rw [hRl, hvl]; omega)
    rw [hvl] at h
    rw [Nat.add_mul, Nat.add_mul, Nat.one_mul]
    exact h
  have hgl := hg.lt
  have hvlt := hv.lt
  have HN := hid (Blk.new_ w.drew 62 ROW (g := w.heap.size) rfl)
  have HV := hid ((hv.drew).alloc (.cells ROW 62))
  have HG0 := hid ((hg.drew).alloc (.cells ROW 62))
  have HC1 : Hid (vs.length = Nat.min 1 (n + 1 - i) * 3) := by
    refine hid ?_
    rw [hvl, show Nat.min 1 (n + 1 - i) = 1 from Nat.min_eq_left (by omega)]
  have HC2 : Hid (i * 3 + vs.length ≤ ROW.size) := hid (by rw [hRs, hvl]; omega)
  have HC2' : Hid (i * 3 + vs.length ≤ ROW.toList.length) := hid (by rw [hRl, hvl]; omega)
  have HC3 : Hid ((xs.drop (i * 3)).length = Nat.min (n - i) (n - i) * 3) := by
    refine hid ?_
    rw [List.length_drop, hxl, show Nat.min (n - i) (n - i) = n - i from Nat.min_self _, Nat.sub_mul]
  have HC4 : Hid ((i + 1) * 3 + (xs.drop (i * 3)).length ≤ (splice ROW.toList (i * 3) vs).toArray.size) := by
    refine hid ?_
    rw [List.size_toArray, length_splice _ _ _ HC2'.out, hRl, List.length_drop]
    omega
  have HC5 := hid (fun v (hv : v ∈ xs.drop (i * 3)) => h1x v (List.mem_of_mem_drop hv))
  have HRL := hid hRl
  have HXL := hid hxl
  have HVL := hid hvl
  have HCX := hid hcx
  have HRS := hid hRs
  have HNE : Hid (w.heap.size ≠ g) := hid (by omega)
  have HNV : Hid (w.heap.size ≠ vb) := hid (by omega)
  clear hRl hxl hvl hcx hRs hold hi0 hz0 hzs hzb hkk hik hROW hG hg hv hcs hcl hRt
  have hw1 : IntKind.i64.wrap ((i : Int) + 1) = (i : Int) + 1 := by rw [IntWalk.i64_in _ (by omega)]
  have hb1 : (0 : Int) ≤ (i : Int) + 1 := by omega
  have htn : ((i : Int) + 1).toNat = i + 1 := by omega
  have hb3 : (i : Int) ≤ (n : Int) + 1 := by omega
  have hb4 : (i : Int) + 1 ≤ (n : Int) + 1 := by omega
  have hb5 : (i : Int) ≤ (n : Int) := by omega
  have hb6 : ¬ c = i := by omega
  have hb7 : ¬ G = i + 1 := by omega
  have hb9 : ¬ G = i := by omega
  have hb8 : ((i : Int) == (n : Int)) = false := by simp; omega
  go_enter Try.func35, Try.ntmps35
  go_wp2_with (first
    | (at_builtin; refine Lib.wpList_append_run _ rfl _ _ _ _ rfl _ _ rfl rfl _ _ (hrz _) ?_; clear hrz)
    | (refine wpList_copyN rfl (.tmp 43) (.tmp 44) 25 25 rfl 62 3 Try.underlying25 cellsGw w.heap.size (i * 3) (n + 1 - i) (G - i) ⟨vb, 0, none⟩ 1 vc (by simp [Act.eval]) (by simp [Act.eval]) ROW 62 HN.out.drew vs HC1.out (blk_at HV.out.drew hvc) HC2.out h1 ?_; intro w1 hk1 hg1 hd1))
  have HK1 := hid hk1
  have HG1 := hid hg1
  have HG0' := hid ((show Blk (w.alloc (.cells ROW 62)).drew g 62 cur from HG0.out).grown hg1 (fun e => HNE.out (by injection e with e; exact e.symm)))
  have HC2a := hid (fun j v (hj : (xs.drop (i * 3))[j]? = some v) => blk_drop HG0'.out.drew HCX.out (i * 3) j v hj)
  clear hk1 hg1
  go_region_law (refine step_copyN rfl (.tmp 50) (.tmp 53) 25 25 rfl 62 3 Try.underlying25 cellsGw w.heap.size ((i + 1) * 3) (n - i) (G - (i + 1)) ⟨g, i * 3, none⟩ (n - i) (c - i) (by simp [Act.eval, Act.put]) (by simp [Act.eval, Act.put]) _ 62 HK1.out.drew (xs.drop (i * 3)) HC3.out HC2a.out HC4.out HC5.out ?_; intro w2 hk2 hg2 hd2)
  have HK2 := hid hk2
  have HG2 := hid hg2
  clear hk2 hg2
  go_wp2
  go_ret
  refine ⟨_, _, rfl, ⟨?_, .inr ⟨w.heap.size, G, _, rfl, hbase, HK2.out, hGn, by simpa [maxLen] using hG63, ?_, ?_⟩⟩, ?_, fun k hk => .inr (Nat.le_of_eq (show w.heap.size = k by injection hk))⟩
  · simp only [List.length_append, List.length_take, List.length_drop]
    have := HXL.out; have := HVL.out
    omega
  · have h1 := length_splice ROW.toList (i * 3) vs HC2'.out
    have h2 := length_splice (splice ROW.toList (i * 3) vs) ((i + 1) * 3) (xs.drop (i * 3)) (by simpa using HC4.out)
    rw [List.size_toArray, List.toList_toArray, h2, h1]
    simpa using HRS.out
  · rw [List.toList_toArray, List.toList_toArray]
    exact HB2.out
  · exact ((((Fr.refl _ w).alloc _).drew.grown HG1.out (fun k hk => .inr (by injection hk with hk; omega)) hd1).drew).grown HG2.out (fun k hk => .inr (by injection hk with hk; omega)) hd2

/-- whatever the capacity -/
theorem insGw_any (base : Nat) (A : Option Addr) (n c i : Nat) (xs : List Value) (vb vc : Nat) (vcur : Array Value) (vs : List Value) (w : World) (hown : w.ownsRow base 62 3 (.slice A n c) n xs) (hbase : base ≤ w.heap.size)
    (hi : i ≤ n) (hn : n ≤ 1000) (hv : Blk w vb 62 vcur) (hvc : vcur.toList.take 3 = vs) (hne : (Value.slice A n c).ownBlock ≠ some vb) (hvl : vs.length = 3) (h1 : ∀ v ∈ vs, v.oneCell' = true) (h1x : ∀ v ∈ xs, v.oneCell' = true) :
    Calls Try.prog 35 #[.slice A n c, .int .i64 i, .slice (some ⟨vb, 0, none⟩) 1 vc] w (InsGw (LB A) base n i xs vs w) := by
  by_cases hin : i = n
  · subst hin
    exact insGw_end base A i c xs vb vc vcur vs w hown hbase hn hv hvc hvl h1
  · obtain ⟨hl, h2⟩ := hown
    rcases h2 with ⟨_, h0⟩ | ⟨g, cap, cur, hA, hbg, hh, hnc, hm, hsz, htk⟩
    · omega
    · injection hA with hA _ hcap
      subst hA; subst hcap
      have hne' : vb ≠ g := fun e => hne (by subst e; rfl)
      by_cases hr : n + 1 ≤ c
      · exact insGw_room base g n c i cur xs vb vc vcur vs w hh hbg hsz htk (by omega) hr (by simpa [maxLen] using hm) hn hv hvc hne' hvl h1 h1x
      · exact insGw_grow base g n c i cur xs vb vc vcur vs w hh hbase hsz htk (by omega) hnc (by omega) hn hv hvc hvl h1 h1x
end Go.Proofs.Ytdaffjjconlmoaa
/- slices.Clone at hearsay/api.Gateway. -/
namespace Go.Proofs.Ytdaffjjconlmoaa
open Go.RowKit
set_option linter.unusedVariables false

/-- what Clone leaves -/
def ClnGw (base n : Nat) (xs : List Value) (w : World) (e : Ending) (w' : World) : Prop :=
  ∃ A' c', e = .returned (.slice A' n c') ∧ w'.ownsRow base 62 3 (.slice A' n c') n xs ∧ Below base w w' ∧ w.drawn ≤ w'.drawn

set_option maxRecDepth 100000 in
theorem clnGw_any (A : Option Addr) (n c : Nat) (xs : List Value) (w : World) (hA : A = none → n = 0) (hn : n ≤ 1000) (hxl : xs.length = n * 3) (hx : ∀ ad, A = some ad → ∀ j u, xs[j]? = some u → w.cell? (ad.add j) = some u) (h1 : ∀ v ∈ xs, v.oneCell' = true) :
    Calls Try.prog 33 #[.slice A n c] w (ClnGw w.heap.size n xs w) := by
  obtain ⟨i0, hi0, hz0, hzs, hzb⟩ := info_parts infoGw
  cases A with
  | none =>
    obtain rfl := hA rfl
    obtain rfl : xs = [] := List.eq_nil_of_length_eq_zero (by simpa using hxl)
    clear hx hxl hi0 hz0 hzs hzb h1
    have hnl := fun (w : World) => Lib.run_eql_slice_nil (P := Try.prog) w 25 62 none 0 c 0 0 Try.underlying25
    go_enter Try.func33, Try.ntmps33
    go_wp2
    go_ret
    exact ⟨none, 0, rfl, World.ownsRow_nil _ _ _ _, Below.refl _ _, Nat.le_refl _⟩
  | some ad =>
    have HX := hid (hx ad rfl)
    have HXL := hid hxl
    have HZ0 := hid hz0
    have HZS := hid hzs
    have HZB := hid hzb
    have HI0 := hid hi0
    clear hx hxl hA hi0 hz0 hzs hzb
    have hnl := fun (w : World) => Lib.run_eql_slice_nil (P := Try.prog) w 25 62 (some ad) n c 0 0 Try.underlying25
    go_enter Try.func33, Try.ntmps33
    have hown0 : (w.alloc (.cells #[] 62)).ownsRow w.heap.size 62 3 (.slice (some ⟨w.heap.size, 0, none⟩) 0 0) 0 [] :=
      ⟨by simp, .inr ⟨w.heap.size, 0, #[], rfl, Nat.le_refl _, heap_alloc_new w _, by omega, by simp [maxLen], by simp, by simp⟩⟩
    have HO := hid hown0
    have HX1 := hid (fun j u (hj : xs[j]? = some u) => (World.cell?_alloc_lt w (.cells #[] 62) (ad.add j) (cell_lt (HX.out j u hj))).trans (HX.out j u hj))
    clear hown0
    go_wp2_with (at_builtin; refine wpList_appD _ rfl _ _ 25 rfl w.heap.size 62 i0 _ 3 32 Try.underlying25 HI0.out HZ0.out HZS.out HZB.out rfl (by decide) _ _ _ rfl HO.out ad n c xs rfl HXL.out HX1.out h1 (by simp only [maxLen]; omega) (by omega) (by simp) ?_; intro v1 w1 hown1 hg1 hd1 hat1)
    go_ret
    rw [Nat.zero_add, List.nil_append] at hown1
    obtain ⟨A', c', rfl⟩ := own_form hown1
    exact ⟨A', c', rfl, hown1, ((Below.refl _ _).alloc (Nat.le_refl _) _).grown hg1 (by simp) (own_base HO.out), hd1⟩
end Go.Proofs.Ytdaffjjconlmoaa
/- slices.Clone and slices.Insert at hearsay/api.Gateway, as contracts. -/
namespace Go.Proofs.Ytdaffjjconlmoaa
open Go.RowKit
set_option linter.unusedVariables false
theorem cloneGw_fun {α : Type} (enc : α → List Value) (he : ∀ x, (enc x).length = 3) (h1 : ∀ x, ∀ v ∈ enc x, v.oneCell' = true) (cl : Bool) (l : List α) (hl : l.length ≤ 1000) :
    Fun Try.prog 33 [.c (.sl cl (l.map fun x => (enc x).map .v))] [.o 62 3 (l.map fun x => (enc x).map .v)] := by
  refine ⟨callable Try.func33 (by kernel_rfl) (by kernel_rfl), fun w R xs hlt hp => ?_⟩
  obtain ⟨v, rfl, hv⟩ := pars_one hp
  obtain ⟨A, c, rfl, hA, hx⟩ := sl_cells he hv
  have hone : ∀ v ∈ l.flatMap enc, v.oneCell' = true := fun v hv => by
    obtain ⟨g, _, hg⟩ := List.mem_flatMap.1 hv
    exact h1 g v hg
  refine (clnGw_any A l.length c (l.flatMap enc) w hA hl (flat_len he l) hx hone).mono ?_
  rintro e w' ⟨A', c', rfl, hown, hb, hd⟩
  exact own_result he h1 (by decide) hlt hown (fr_of_below hb hd) (fun k hk => .inr (own_base hown k hk)) (fun k hk => by have := own_base hown k hk; intro h; have := hlt k h; omega)
set_option maxHeartbeats 1000000 in
theorem insertGw_fun {α : Type} (enc : α → List Value) (he : ∀ x, (enc x).length = 3) (h1 : ∀ x, ∀ v ∈ enc x, v.oneCell' = true) (l : List α) (x : α) (i : Nat) (hi : i ≤ l.length) (hl : l.length ≤ 1000) :
    Fun Try.prog 35 [.o 62 3 (l.map fun x => (enc x).map .v), .c (.v (.int .i64 i)), .o 62 3 [(enc x).map .v]] [.o 62 3 ((l.take i ++ [x] ++ l.drop i).map fun x => (enc x).map .v)] := by
  refine ⟨callable Try.func35 (by kernel_rfl) (by kernel_rfl), fun w R xs hlt hp => ?_⟩
  obtain ⟨v0, v2, rfl, o0, o2, hap, hf0⟩ := pars_ins (enc := enc) he hp
  obtain ⟨A, c, rfl⟩ := own_form o0
  rcases o2.2 with ⟨_, h0⟩ | ⟨g, cap, cur, rfl, _, hh, hcap, _, hsz, htk⟩
  · omega
  have hone : ∀ v ∈ l.flatMap enc, v.oneCell' = true := fun v hv => by
    obtain ⟨g, _, hg⟩ := List.mem_flatMap.1 hv
    exact h1 g v hg
  refine (insGw_any 0 A l.length c i (l.flatMap enc) g cap cur (enc x) w o0 (Nat.zero_le _) hi hl hh (by rw [Nat.one_mul] at htk; exact htk) (fun e => hap g e rfl) (he x) (h1 x) hone).mono ?_
  rintro e w' ⟨A', c', rfl, hown, hb, hk⟩
  rw [flat_ins he l x i, show l.length + 1 = (l.take i ++ [x] ++ l.drop i).length by simp; omega] at hown
  rw [show l.length + 1 = (l.take i ++ [x] ++ l.drop i).length by simp; omega] at hk ⊢
  have hL : ∀ k, LB A k → ParBlk [.o 62 3 (l.map fun x => (enc x).map .v), .c (.v (.int .i64 i)), .o 62 3 [(enc x).map .v]] [.slice A l.length c, .int .i64 i, .slice (some ⟨g, 0, none⟩) 1 cap] k := fun k ⟨a, ha, hq⟩ => ⟨0, _, _, _, _, rfl, rfl, by subst ha; simp only [Value.ownBlock]; rw [hq]⟩
  exact own_result he h1 (by decide) hlt hown (hb.imp hL) (fun k hk' => (hk k hk').imp (hL k) (fun h => h)) (fun k hk' => by
    rcases hk k hk' with h | h
    · exact hf0 k (hL k h)
    · intro h'; have := hlt k h'; omega)
end Go.Proofs.Ytdaffjjconlmoaa
/- Contracts of the functions of gateways. -/
namespace Go.Proofs.Ytdaffjjconlmoaa
open Go.RowKit Pl
set_option linter.unusedVariables false
theorem gwithin_fun (n a b : Int) : Fun Try.prog 60 [.c (.v (.int .i64 n)), .c (.v (.int .i64 a)), .c (.v (.int .i64 b))] [.c (.v (.bool (wi n a b)))] := by
  refine fun_x ck_centre_within rfl ?_
  (refine goI ?_; repeat (intro gg; refine goI ?_))
  (refine bIf_of (fun h => ?_) (fun h => ?_) <;> rw [h])
  · (refine goI ?_; repeat (intro gg; refine goI ?_))
    rw [wi_t h]
    (exact ⟨[], aI⟩)
  · (refine goI ?_; repeat (intro gg; refine goI ?_))
    rw [wi_f h]
    (exact ⟨[], aI⟩)
theorem gone_fun (m : Gw) (hm : m.ok) : Fun Try.prog 32 [.c (.agg m.row)] [.c (.v (.int .i64 m.err))] := by
  refine fun_x ck_centre_one rfl ?_
  (refine goI ?_; repeat (intro gg; refine goI ?_))
  (refine .inl ⟨_, _, false, [], aI, label_fun _ hm, nobor, nI, ?_⟩)
  (refine goI ?_; repeat (intro gg; refine goI ?_))
  (refine bIf_of (fun h1 => ?_) (fun h1 => ?_) <;> rw [h1])
  · (refine goI ?_; repeat (intro gg; refine goI ?_))
    (rw [show m.err = 1 from by (first | (simp_all ; done) | (unfold Gw.err; simp_all))]; (exact ⟨[], aI⟩))
  · (refine goI ?_; repeat (intro gg; refine goI ?_))
    (refine .inl ⟨_, _, false, [], aI, gwithin_fun _ _ _, nobor, nI, ?_⟩)
    (refine goI ?_; repeat (intro gg; refine goI ?_))
    (refine bIf_of (fun h3 => ?_) (fun h3 => ?_) <;> rw [h3])
    · (refine goI ?_; repeat (intro gg; refine goI ?_))
      (rw [show m.err = 3 from by (first | (simp_all ; done) | (unfold Gw.err; simp_all))]; (exact ⟨[], aI⟩))
    · (refine goI ?_; repeat (intro gg; refine goI ?_))
      (refine .inl ⟨_, _, false, [], aI, gwithin_fun _ _ _, nobor, nI, ?_⟩)
      (refine goI ?_; repeat (intro gg; refine goI ?_))
      (refine bIf_of (fun h4 => ?_) (fun h4 => ?_) <;> rw [h4])
      · (refine goI ?_; repeat (intro gg; refine goI ?_))
        (rw [show m.err = 3 from by (first | (simp_all ; done) | (unfold Gw.err; simp_all))]; (exact ⟨[], aI⟩))
      · (refine goI ?_; repeat (intro gg; refine goI ?_))
        (rw [show m.err = 0 from by (first | (simp_all ; done) | (unfold Gw.err; simp_all))]; (exact ⟨[], aI⟩))
def glsRow (l : List Gw) : List V := [.sl false (l.map Gw.row)]
theorem gcheck_fun (c : Bool) (ls : List (List Gw)) (hls : ls.length ≤ 9223372036854775807) (hl : ∀ l ∈ ls, l.length ≤ 9223372036854775807) (hw : ∀ l ∈ ls, ∀ m ∈ l, m.ok) : Fun Try.prog 31 [.c (.sl c (ls.map glsRow))] [.c (.v (.int .i64 (firstErr ckGw ls)))] := by
  refine fun_x ck_centre_check rfl ?_
  (refine goI ?_; repeat (intro gg; refine goI ?_))
  rw [List.length_map]
  (refine ⟨[], none, {k : Nat // k ≤ ls.length ∧ ∀ j, (h : j < ls.length) → j < k → ckGw (ls[j]) = 0}, [9, 10], fun ⟨k, hk, h0⟩ => [(11, .v (.int .i64 k))], [], fun ⟨k, hk, h0⟩ => [], fun ⟨k, hk, h0⟩ => ls.length - k, trivial, fun _ => ⟨trivial, fun _ => ⟨⟨0, by omega, fun j _ h => by omega⟩, tI, keptE_refl _ _, tI, keptH_refl _ _⟩⟩, fun ⟨k, hk, h0⟩ => ?_⟩)
  (refine goI ?_; repeat (intro gg; refine goI ?_))
  (refine bIf_of (fun h => ?_) (fun h => ?_) <;> rw [h])
  · have hlt : k < ls.length := by simpa using h
    (refine goI ?_; repeat (intro gg; refine goI ?_))
    refine ⟨k, _, rfl, row_map hlt, ?_⟩
    (refine goI ?_; repeat (intro gg; refine goI ?_))
    have HL := hl _ (List.getElem_mem hlt)
    have HW := hw _ (List.getElem_mem hlt)
    have HE := firstErr_at (e := ckGw) hlt h0
    have HN : ckGw ls[k] = 0 → ∀ j, (h : j < ls.length) → j < k + 1 → ckGw (ls[j]) = 0 := fun e => up1 (p := fun j h => ckGw (ls[j]) = 0) h0 (fun _ => e)
    generalize ls[k] = l at *
    rw [List.length_map]
    (refine bIf_of (fun h1 => ?_) (fun h1 => ?_) <;> rw [h1])
    · (refine goI ?_; repeat (intro gg; refine goI ?_))
      have e : ckGw l = 2 := ckL_long (by have := of_decide_eq_true h1; omega)
      rw [HE (by rw [e]; decide), e]
      (exact ⟨[], aI⟩)
    · have h1' : ¬ 6 < l.length := (by have := of_decide_eq_false h1; omega)
      (refine goI ?_; repeat (intro gg; refine goI ?_))
      rw [List.length_map]
      (refine ⟨[], none, {k : Nat // k ≤ l.length ∧ ∀ j, (h : j < l.length) → j < k → (l[j]).err = 0}, [4, 9, 10, 11, 18, 19], fun ⟨p, hp, p0⟩ => [(20, .v (.int .i64 p))], [], fun ⟨p, hp, p0⟩ => [], fun ⟨p, hp, p0⟩ => l.length - p, trivial, fun _ => ⟨trivial, fun _ => ⟨⟨0, by omega, fun j _ h => by omega⟩, tI, keptE_refl _ _, tI, keptH_refl _ _⟩⟩, fun ⟨p, hp, p0⟩ => ?_⟩)
      (refine goI ?_; repeat (intro gg; refine goI ?_))
      (refine bIf_of (fun h2 => ?_) (fun h2 => ?_) <;> rw [h2])
      · have hlt2 : p < l.length := (by have := of_decide_eq_true h2; omega)
        (refine goI ?_; repeat (intro gg; refine goI ?_))
        refine ⟨p, _, rfl, row_map hlt2, ?_⟩
        (refine goI ?_; repeat (intro gg; refine goI ?_))
        (refine .inl ⟨_, _, false, [], aI, gone_fun _ (HW _ (List.getElem_mem hlt2)), nobor, nI, ?_⟩)
        (refine goI ?_; repeat (intro gg; refine goI ?_))
        (refine bIf_of (fun h5 => ?_) (fun h5 => ?_) <;> rw [h5])
        · (refine goI ?_; repeat (intro gg; refine goI ?_))
          have h5' : (l[p]).err ≠ 0 := by simpa using h5
          have e0 := firstErr_at hlt2 p0 h5'
          have e : ckGw l = (l[p]).err := (ckL_each h1' (by rw [e0]; exact h5')).trans e0
          rw [HE (by rw [e]; exact h5'), e]
          (exact ⟨[], aI⟩)
        · (refine goI ?_; repeat (intro gg; refine goI ?_))
          (exact ⟨none, trivial, fun _ => ⟨⟨p + 1, by omega, up1 (p := fun j h => (l[j]).err = 0) p0 (fun _ => by simpa using h5)⟩, by show l.length - (p + 1) < l.length - p; omega, tI, tI, tI, tI⟩⟩)
      · have hge2 : ¬ p < l.length := (by have := of_decide_eq_false h2; omega)
        have h2' : firstErr Gw.err l = 0 := firstErr_zero fun i hi => p0 i hi (by omega)
        (refine goI ?_; repeat (intro gg; refine goI ?_))
        (refine ⟨[], none, {k : Nat // (k < l.length ∨ k = 0) ∧ ∀ i, (h : i + 1 < l.length) → i < k → Gw.lt l[i] l[i + 1] = true}, [4, 9, 10, 11], fun ⟨q, hq, g0⟩ => [(8, .v (.int .i64 ((q : Int) + 1)))], [], fun ⟨q, hq, g0⟩ => [], fun ⟨q, hq, g0⟩ => l.length - q, trivial, fun _ => ⟨trivial, fun _ => ⟨⟨0, by omega, fun j _ h => by omega⟩, tI, keptE_refl _ _, tI, keptH_refl _ _⟩⟩, fun ⟨q, hq, g0⟩ => ?_⟩)
        (refine goI ?_; repeat (intro gg; refine goI ?_))
        rw [List.length_map]
        (refine bIf_of (fun h3 => ?_) (fun h3 => ?_) <;> rw [h3])
        · have hlt3 : q + 1 < l.length := (by have := of_decide_eq_true h3; omega)
          (refine goI ?_; repeat (intro gg; refine goI ?_))
          refine ⟨q + 1, _, by omega, row_map hlt3, ?_⟩
          (refine goI ?_; repeat (intro gg; refine goI ?_))
          refine ⟨q, _, by omega, row_map (by omega), ?_⟩
          (refine goI ?_; repeat (intro gg; refine goI ?_))
          rw [sle_eq]
          (refine bIf_of (fun h4 => ?_) (fun h4 => ?_) <;> rw [h4])
          · (refine goI ?_; repeat (intro gg; refine goI ?_))
            have e : ckGw l = 4 := ckL_no h1' h2' (sorted_not hlt3 (by simpa [Gw.lt] using h4))
            rw [HE (by rw [e]; decide), e]
            (exact ⟨[], aI⟩)
          · (refine goI ?_; repeat (intro gg; refine goI ?_))
            (exact ⟨none, trivial, fun _ => ⟨⟨q + 1, by omega, up2 (p := fun i h => Gw.lt l[i] l[i + 1] = true) g0 (fun _ => by simpa [Gw.lt] using h4)⟩, by show l.length - (q + 1) < l.length - q; omega, tI, tI, tI, tI⟩⟩)
        · have hge3 : ¬ q + 1 < l.length := (by have := of_decide_eq_false h3; omega)
          (refine goI ?_; repeat (intro gg; refine goI ?_))
          have e : ckGw l = 0 := ckL_yes h1' h2' (sorted_of fun i hi => g0 i hi (by omega))
          (exact ⟨none, trivial, fun _ => ⟨⟨k + 1, by omega, HN e⟩, by show ls.length - (k + 1) < ls.length - k; omega, tI, tI, tI, tI⟩⟩)
  · have hge : ¬ k < ls.length := by simpa using h
    (refine goI ?_; repeat (intro gg; refine goI ?_))
    rw [firstErr_zero (l := ls) (fun i hi => h0 i hi (by omega))]
    (exact ⟨[], aI⟩)
theorem grcheck_fun (c : Bool) (l : List Gw) (hl : l.length ≤ 9223372036854775807) (hw : ∀ m ∈ l, m.ok) : Fun Try.prog 18 [.c (.sl c (l.map Gw.row))] [.c (.v (.int .i64 (ckGw l)))] := by
  refine fun_x ck_hearsayref_CheckGateways rfl ?_
  (refine goI ?_; repeat (intro gg; refine goI ?_))
  rw [List.length_map]
  (refine bIf_of (fun h1 => ?_) (fun h1 => ?_) <;> rw [h1])
  · (refine goI ?_; repeat (intro gg; refine goI ?_))
    have e : ckGw l = 2 := ckL_long (by have := of_decide_eq_true h1; omega)
    rw [e]
    (exact ⟨[], aI⟩)
  · have h1' : ¬ 6 < l.length := (by have := of_decide_eq_false h1; omega)
    (refine goI ?_; repeat (intro gg; refine goI ?_))
    (refine ⟨[], none, {k : Nat // k ≤ l.length ∧ ∀ j, (h : j < l.length) → j < k → (l[j]).err = 0}, [0], fun ⟨k, hk, h0⟩ => [(3, .v (.int .i64 k))], [], fun ⟨k, hk, h0⟩ => [], fun ⟨k, hk, h0⟩ => l.length - k, trivial, fun _ => ⟨trivial, fun _ => ⟨⟨0, by omega, fun j _ h => by omega⟩, tI, keptE_refl _ _, tI, keptH_refl _ _⟩⟩, fun ⟨k, hk, h0⟩ => ?_⟩)
    (refine goI ?_; repeat (intro gg; refine goI ?_))
    rw [List.length_map]
    (refine bIf_of (fun h => ?_) (fun h => ?_) <;> rw [h])
    · have hlt : k < l.length := (by have := of_decide_eq_true h; omega)
      have hE : (l[k]).err ≠ 0 → ckGw l = (l[k]).err := fun h2' => by
        have e0 := firstErr_at hlt h0 h2'
        exact (ckL_each h1' (by rw [e0]; exact h2')).trans e0
      have hN : (l[k]).err = 0 → _ := fun e => up1 (p := fun j h => (l[j]).err = 0) h0 (fun _ => e)
      (refine goI ?_; repeat (intro gg; refine goI ?_))
      refine ⟨k, _, rfl, row_map hlt, ?_⟩
      (refine goI ?_; repeat (intro gg; refine goI ?_))
      (refine .inl ⟨_, _, false, [], aI, rlabel_fun _ (hw _ (List.getElem_mem hlt)), nobor, nI, ?_⟩)
      (refine goI ?_; repeat (intro gg; refine goI ?_))
      (refine bIf_of (fun h2 => ?_) (fun h2 => ?_) <;> rw [h2])
      · (refine goI ?_; repeat (intro gg; refine goI ?_))
        have e1 : (l[k]).err = 1 := by unfold Gw.err; simp_all
        rw [hE (by rw [e1]; decide), e1]
        (exact ⟨[], aI⟩)
      · (refine goI ?_; repeat (intro gg; refine goI ?_))
        refine ⟨k, _, rfl, row_map hlt, ?_⟩
        (refine goI ?_; repeat (intro gg; refine goI ?_))
        (refine .inl ⟨_, _, false, [], aI, address_fun _, nobor, nI, ?_⟩)
        (refine goI ?_; repeat (intro gg; refine goI ?_))
        (refine bIf_of (fun h3 => ?_) (fun h3 => ?_) <;> rw [h3])
        · (refine goI ?_; repeat (intro gg; refine goI ?_))
          have e1 : (l[k]).err = 3 := by unfold Gw.err; simp_all
          rw [hE (by rw [e1]; decide), e1]
          (exact ⟨[], aI⟩)
        · (refine goI ?_; repeat (intro gg; refine goI ?_))
          refine ⟨k, _, rfl, row_map hlt, ?_⟩
          (refine goI ?_; repeat (intro gg; refine goI ?_))
          (refine .inl ⟨_, _, false, [], aI, between_fun _ _ _, nobor, nI, ?_⟩)
          (refine goI ?_; repeat (intro gg; refine goI ?_))
          (refine bIf_of (fun h4 => ?_) (fun h4 => ?_) <;> rw [h4])
          · (refine goI ?_; repeat (intro gg; refine goI ?_))
            have e1 : (l[k]).err = 3 := by unfold Gw.err; simp_all
            rw [hE (by rw [e1]; decide), e1]
            (exact ⟨[], aI⟩)
          · have e1 : (l[k]).err = 0 := by unfold Gw.err; simp_all
            (refine goI ?_; repeat (intro gg; refine goI ?_))
            (exact ⟨none, trivial, fun _ => ⟨⟨k + 1, by omega, hN e1⟩, by show l.length - (k + 1) < l.length - k; omega, tI, tI, tI, tI⟩⟩)
    · have hge : ¬ k < l.length := (by have := of_decide_eq_false h; omega)
      have h2' : firstErr Gw.err l = 0 := firstErr_zero fun i hi => h0 i hi (by omega)
      (refine goI ?_; repeat (intro gg; refine goI ?_))
      (refine ⟨[], none, {k : Nat // (k < l.length ∨ k = 0) ∧ ∀ i, (h : i + 1 < l.length) → i < k → Gw.lt l[i] l[i + 1] = true}, [0], fun ⟨q, hq, g0⟩ => [(4, .v (.int .i64 ((q : Int) + 1)))], [], fun ⟨q, hq, g0⟩ => [], fun ⟨q, hq, g0⟩ => l.length - q, trivial, fun _ => ⟨trivial, fun _ => ⟨⟨0, by omega, fun j _ h => by omega⟩, tI, keptE_refl _ _, tI, keptH_refl _ _⟩⟩, fun ⟨q, hq, g0⟩ => ?_⟩)
      (refine goI ?_; repeat (intro gg; refine goI ?_))
      rw [List.length_map]
      (refine bIf_of (fun h3 => ?_) (fun h3 => ?_) <;> rw [h3])
      · have hlt3 : q + 1 < l.length := (by have := of_decide_eq_true h3; omega)
        (refine goI ?_; repeat (intro gg; refine goI ?_))
        refine ⟨q + 1, _, by omega, row_map hlt3, ?_⟩
        (refine goI ?_; repeat (intro gg; refine goI ?_))
        refine ⟨q, _, by omega, row_map (by omega), ?_⟩
        (refine goI ?_; repeat (intro gg; refine goI ?_))
        rw [sle_eq]
        (refine bIf_of (fun h4 => ?_) (fun h4 => ?_) <;> rw [h4])
        · (refine goI ?_; repeat (intro gg; refine goI ?_))
          have e : ckGw l = 4 := ckL_no h1' h2' (sorted_not hlt3 (by simpa [Gw.lt] using h4))
          rw [e]
          (exact ⟨[], aI⟩)
        · (refine goI ?_; repeat (intro gg; refine goI ?_))
          (exact ⟨none, trivial, fun _ => ⟨⟨q + 1, by omega, up2 (p := fun i h => Gw.lt l[i] l[i + 1] = true) g0 (fun _ => by simpa [Gw.lt] using h4)⟩, by show l.length - (q + 1) < l.length - q; omega, tI, tI, tI, tI⟩⟩)
      · have hge3 : ¬ q + 1 < l.length := (by have := of_decide_eq_false h3; omega)
        (refine goI ?_; repeat (intro gg; refine goI ?_))
        have e : ckGw l = 0 := ckL_yes h1' h2' (sorted_of fun i hi => g0 i hi (by omega))
        rw [e]
        (exact ⟨[], aI⟩)
theorem gcf_fun (g : Gw) (name : ByteArray) : Fun Try.prog 62 [.c (.agg g.row), .c (.v (.string name))] [.c (.v (.int .i64 (Gw.cf name g)))] := by
  refine fun_x ck_centre_find_1 rfl ?_
  (refine goI ?_; repeat (intro gg; refine goI ?_))
  (refine .inl ⟨_, _, false, [], aI, cmps_fun _ _, nobor, nI, ?_⟩)
  (refine goI ?_; repeat (intro gg; refine goI ?_))
  (exact ⟨[], aI⟩)
theorem gbs_fun (c : Bool) (l : List Gw) (name : ByteArray) (hl : l.length ≤ 1000) (hm : Mono (Gw.cf name) l) : Fun Try.prog 61 [.c (.sl c (l.map Gw.row)), .c (.v (.string name)), .c (.v (.func (.func 62) #[] #[]))] [.c (.v (.int .i64 (low (Gw.cf name) l))), .c (.v (.bool (hit (Gw.cf name) l)))] := by
  refine fun_x ck_slices_BinarySearchFunc_api_Gateway_api_Gateway_string rfl ?_
  (refine goI ?_; repeat (intro gg; refine goI ?_))
  rw [List.length_map]
  (refine ⟨[], none, {p : Nat × Nat // p.1 ≤ p.2 ∧ p.2 ≤ l.length ∧ (∀ k, (h : k < l.length) → k < p.1 → Gw.cf name l[k] < 0) ∧ (∀ k, (h : k < l.length) → p.2 ≤ k → 0 ≤ Gw.cf name l[k])}, [0, 1, 2, 8], fun ⟨⟨i, j⟩, h1, h2, h3, h4⟩ => [(9, .v (.int .i64 i)), (10, .v (.int .i64 j))], [], fun ⟨⟨i, j⟩, h1, h2, h3, h4⟩ => [], fun ⟨⟨i, j⟩, h1, h2, h3, h4⟩ => j - i, trivial, fun _ => ⟨trivial, fun _ => ⟨⟨(0, l.length), by omega, by omega, fun k _ h => absurd h (by omega), fun k h h' => absurd h (by omega)⟩, tI, keptE_refl _ _, tI, keptH_refl _ _⟩⟩, fun ⟨⟨i, j⟩, h1, h2, h3, h4⟩ => ?_⟩)
  dsimp only at h1 h2 h3 h4
  (refine goI ?_; repeat (intro gg; refine goI ?_))
  (refine bIf_of (fun h => ?_) (fun h => ?_) <;> rw [h])
  · have hlt : i < j := (by have := of_decide_eq_true h; omega)
    have hk : (i + j) / 2 < l.length := by omega
    (refine goI ?_; repeat (intro gg; refine goI ?_))
    refine ⟨(i + j) / 2, _, by omega, row_map hk, ?_⟩
    (refine goI ?_; repeat (intro gg; refine goI ?_))
    (refine .inl ⟨_, _, false, [], aI, gcf_fun _ _, nobor, nI, ?_⟩)
    (refine goI ?_; repeat (intro gg; refine goI ?_))
    (refine bIf_of (fun h5 => ?_) (fun h5 => ?_) <;> rw [h5])
    · have h5' : Gw.cf name l[(i + j) / 2] < 0 := by simpa using h5
      (refine goI ?_; repeat (intro gg; refine goI ?_))
      (exact ⟨none, trivial, fun _ => ⟨⟨((i + j) / 2 + 1, j), by dsimp only; omega, h2, fun k hk' hka => hm k ((i + j) / 2) hk' hk (by dsimp only at hka; omega) h5', h4⟩, by show j - ((i + j) / 2 + 1) < j - i; omega, tI, tI, tI, tI⟩⟩)
    · have h5' : ¬ Gw.cf name l[(i + j) / 2] < 0 := by simpa using h5
      (refine goI ?_; repeat (intro gg; refine goI ?_))
      (exact ⟨none, trivial, fun _ => ⟨⟨(i, (i + j) / 2), by dsimp only; omega, by dsimp only; omega, h3, fun k hk' hka => Int.not_lt.1 (fun h' => h5' (hm ((i + j) / 2) k hk hk' hka h'))⟩, by show (i + j) / 2 - i < j - i; omega, tI, tI, tI, tI⟩⟩)
  · have hij : i = j := (by have := of_decide_eq_false h; omega)
    subst hij
    have HE := low_uniq (cf := Gw.cf name) h2 h3 h4
    (refine goI ?_; repeat (intro gg; refine goI ?_))
    (refine bIf_of (fun h5 => ?_) (fun h5 => ?_) <;> rw [h5])
    · have hin : i < l.length := (by have := of_decide_eq_true h5; omega)
      have HH : hit (Gw.cf name) l = decide (Gw.cf name l[i] = 0) := by
        have hin' : low (Gw.cf name) l < l.length := by rw [← HE]; exact hin
        rw [hit_in hin']
        simp only [← HE]
      (refine goI ?_; repeat (intro gg; refine goI ?_))
      refine ⟨i, _, rfl, row_map hin, ?_⟩
      (refine goI ?_; repeat (intro gg; refine goI ?_))
      (refine .inl ⟨_, _, false, [], aI, gcf_fun _ _, nobor, nI, ?_⟩)
      (refine goI ?_; repeat (intro gg; refine goI ?_))
      rw [← HE, HH]
      (exact ⟨[], aI⟩)
    · have HH : hit (Gw.cf name) l = false := hit_out (by rw [← HE]; exact (by have := of_decide_eq_false h5; omega))
      (refine goI ?_; repeat (intro gg; refine goI ?_))
      rw [← HE, HH]
      (exact ⟨[], aI⟩)
theorem gfind_fun (c : Bool) (l : List Gw) (name : ByteArray) (hl : l.length ≤ 1000) (hm : Mono (Gw.cf name) l) : Fun Try.prog 34 [.c (.sl c (l.map Gw.row)), .c (.v (.string name))] [.c (.v (.int .i64 (low (Gw.cf name) l))), .c (.v (.bool (hit (Gw.cf name) l)))] := by
  refine fun_x ck_centre_find rfl ?_
  (refine goI ?_; repeat (intro gg; refine goI ?_))
  (refine .inl ⟨_, _, false, [], aI, gbs_fun c l name hl hm, nobor, nI, ?_⟩)
  (refine goI ?_; repeat (intro gg; refine goI ?_))
  (exact ⟨[], aI⟩)
theorem gat_fun (c : Bool) (l : List Gw) (name : ByteArray) (hl : l.length ≤ 9223372036854775807) : Fun Try.prog 50 [.c (.sl c (l.map Gw.row)), .c (.v (.string name))] [.c (.v (.int .i64 (at_ (Gw.is name) l)))] := by
  refine fun_x ck_hearsayref_GatewayAt rfl ?_
  (refine goI ?_; repeat (intro gg; refine goI ?_))
  (refine ⟨[], none, {k : Nat // k ≤ l.length ∧ ∀ j, (h : j < l.length) → j < k → Gw.is name l[j] = false}, [0, 1], fun ⟨k, hk, h0⟩ => [(5, .v (.int .i64 k))], [], fun ⟨k, hk, h0⟩ => [], fun ⟨k, hk, h0⟩ => l.length - k, trivial, fun _ => ⟨trivial, fun _ => ⟨⟨0, by omega, fun j _ h => by omega⟩, tI, keptE_refl _ _, tI, keptH_refl _ _⟩⟩, fun ⟨k, hk, h0⟩ => ?_⟩)
  (refine goI ?_; repeat (intro gg; refine goI ?_))
  rw [List.length_map]
  (refine bIf_of (fun h => ?_) (fun h => ?_) <;> rw [h])
  · have hlt : k < l.length := (by have := of_decide_eq_true h; omega)
    (refine goI ?_; repeat (intro gg; refine goI ?_))
    refine ⟨k, _, rfl, row_map hlt, ?_⟩
    (refine goI ?_; repeat (intro gg; refine goI ?_))
    (refine bIf_of (fun h2 => ?_) (fun h2 => ?_) <;> rw [h2])
    · (refine goI ?_; repeat (intro gg; refine goI ?_))
      rw [at_yes hlt h0 h2]
      (exact ⟨[], aI⟩)
    · (refine goI ?_; repeat (intro gg; refine goI ?_))
      (exact ⟨none, trivial, fun _ => ⟨⟨k + 1, by omega, up1 (p := fun j h => Gw.is name l[j] = false) h0 (fun _ => h2)⟩, by show l.length - (k + 1) < l.length - k; omega, tI, tI, tI, tI⟩⟩)
  · have hge : ¬ k < l.length := (by have := of_decide_eq_false h; omega)
    (refine goI ?_; repeat (intro gg; refine goI ?_))
    rw [at_no (p := Gw.is name) (l := l) (fun i hi => h0 i hi (by omega))]
    (exact ⟨[], aI⟩)
end Go.Proofs.Ytdaffjjconlmoaa
/- Contracts of the functions of gateways: opening, joining, routes; what laws use. -/
namespace Go.Proofs.Ytdaffjjconlmoaa
open Go.RowKit Pl
set_option linter.unusedVariables false
theorem gclone_fun (c : Bool) (l : List Gw) (hl : l.length ≤ 1000) : Fun Try.prog 33 [.c (.sl c (l.map Gw.row))] [.o 62 3 (l.map Gw.row)] :=
  cloneGw_fun Gw.enc Gw.enc_len Gw.enc_one c l hl
theorem ginsert_fun (l : List Gw) (x : Gw) (i : Nat) (hi : i ≤ l.length) (hl : l.length ≤ 1000) : Fun Try.prog 35 [.o 62 3 (l.map Gw.row), .c (.v (.int .i64 i)), .o 62 3 [x.row]] [.o 62 3 ((l.take i ++ [x] ++ l.drop i).map Gw.row)] :=
  insertGw_fun Gw.enc Gw.enc_len Gw.enc_one l x i hi hl
theorem gOpen_fun (l : List Gw) (name : ByteArray) (a : Int) (hl : l.length ≤ 9223372036854775807) (hw : ∀ x ∈ l, x.ok) (hn : name.size ≤ 9223372036854775807) : Fun Try.prog 10 [.c (.sl false (l.map Gw.row)), .c (.v (.string name)), .c (.v (.int .i64 a))] [.c (.sl false ((openG l name a).2.map Gw.row)), .c (.v (.int .i64 (openG l name a).1))] := by
  refine fun_x ck_centre_Open rfl ?_
  (refine goI ?_; repeat (intro gg; refine goI ?_))
  (refine .inl ⟨_, _, true, [], aI, gcheck_fun false [l] (by simp) (by simpa using hl) (by simpa using hw), (fun _ => fI), nI, ?_⟩)
  rw [firstErr_one]
  (refine goI ?_; repeat (intro gg; refine goI ?_))
  (refine bIf_of (fun h1 => ?_) (fun h1 => ?_) <;> rw [h1])
  · (refine goI ?_; repeat (intro gg; refine goI ?_))
    rw [openG_ck (by simpa using h1)]
    (exact ⟨[], aI⟩)
  · have h1' : ckGw l = 0 := by simpa using h1
    have hi := ckGw_inv h1'
    have hm := Gw.smono hi.2.2 name
    have hlow := low_le (cf := Gw.cf name) l
    (refine goI ?_; repeat (intro gg; refine goI ?_))
    (refine .inl ⟨_, _, false, [], aI, gone_fun ⟨name, a, 1⟩ hn, nobor, nI, ?_⟩)
    (refine goI ?_; repeat (intro gg; refine goI ?_))
    (refine bIf_of (fun h2 => ?_) (fun h2 => ?_) <;> rw [h2])
    · (refine goI ?_; repeat (intro gg; refine goI ?_))
      rw [openG_one h1' (by simpa using h2)]
      (exact ⟨[], aI⟩)
    · have h2' : (⟨name, a, 1⟩ : Gw).err = 0 := by simpa using h2
      (refine goI ?_; repeat (intro gg; refine goI ?_))
      (refine .inl ⟨_, _, false, [], aI, gclone_fun false l (by omega), nobor, nI, ?_⟩)
      (refine goI ?_; repeat (intro gg; refine goI ?_))
      (refine .inl ⟨_, _, true, [], aI, gfind_fun false l name (by omega) hm.mono, (fun _ => fI), nI, ?_⟩)
      (refine goI ?_; repeat (intro gg; refine goI ?_))
      (refine bIf_of (fun h3 => ?_) (fun h3 => ?_) <;> rw [h3])
      · have h3' : hit (Gw.cf name) l = true := h3
        have hlt := hit_lt h3'
        have hO := openG_hit h1' h2' h3'
        have hb := (Gw.err_inv (hi.2.1 _ hlt)).2.2
        (refine goI ?_; repeat (intro gg; refine goI ?_))
        refine ⟨low (Gw.cf name) l, _, rfl, row_map hlt, ?_⟩
        (refine goI ?_; repeat (intro gg; refine goI ?_))
        (refine bIf_of (fun h4 => ?_) (fun h4 => ?_) <;> rw [h4])
        · (refine goI ?_; repeat (intro gg; refine goI ?_))
          rw [hO, if_pos (by simpa using h4)]
          (exact ⟨[], aI⟩)
        · rw [if_neg (by simpa using h4)] at hO
          (refine goI ?_; repeat (intro gg; refine goI ?_))
          refine ⟨low (Gw.cf name) l, _, rfl, row_map hlt, ?_⟩
          (refine goI ?_; repeat (intro gg; refine goI ?_))
          refine ⟨low (Gw.cf name) l, _, rfl, row_map hlt, ?_⟩
          (refine goI ?_; repeat (intro gg; refine goI ?_))
          rw [hO, List.map_set]
          (exact ⟨[], aI⟩)
      · have h3' : hit (Gw.cf name) l = false := h3
        have hO := openG_miss h1' h2' h3'
        (refine goI ?_; repeat (intro gg; refine goI ?_))
        rw [List.length_map]
        (refine bIf_of (fun h4 => ?_) (fun h4 => ?_) <;> rw [h4])
        · (refine goI ?_; repeat (intro gg; refine goI ?_))
          rw [hO, if_pos (by have := of_decide_eq_true h4; omega)]
          (exact ⟨[], aI⟩)
        · rw [if_neg (by have := of_decide_eq_false h4; omega)] at hO
          (refine goI ?_; repeat (intro gg; refine goI ?_))
          (refine .inl ⟨_, _, true, [448, 1056], aI, ginsert_fun l ⟨name, a, 1⟩ (low (Gw.cf name) l) hlow (by omega), (fun _ => fI), nI, ?_⟩)
          (refine goI ?_; repeat (intro gg; refine goI ?_))
          rw [hO]
          (exact ⟨[], aI⟩)
theorem gTable_fun (l : List Gw) (here : ByteArray) (hl : l.length ≤ 9223372036854775807) (hw : ∀ x ∈ l, x.ok) (hh : here.size ≤ 9223372036854775807) : Fun Try.prog 9 [.c (.sl false (l.map Gw.row)), .c (.v (.string here))] [.c (.sl false ((tabG l here).2.map Rt.row)), .c (.v (.int .i64 (tabG l here).1))] := by
  refine fun_x ck_centre_Table rfl ?_
  (refine goI ?_; repeat (intro gg; refine goI ?_))
  (refine .inl ⟨_, _, true, [], aI, gcheck_fun false [l] (by simp) (by simpa using hl) (by simpa using hw), (fun _ => fI), nI, ?_⟩)
  rw [firstErr_one]
  (refine goI ?_; repeat (intro gg; refine goI ?_))
  (refine bIf_of (fun h1 => ?_) (fun h1 => ?_) <;> rw [h1])
  · (refine goI ?_; repeat (intro gg; refine goI ?_))
    rw [tabG_ck (by simpa using h1)]
    (exact ⟨[], aI⟩)
  · have h1' : ckGw l = 0 := by simpa using h1
    have hi := ckGw_inv h1'
    (refine goI ?_; repeat (intro gg; refine goI ?_))
    (refine .inl ⟨_, _, false, [], aI, label_fun here hh, nobor, nI, ?_⟩)
    (refine goI ?_; repeat (intro gg; refine goI ?_))
    (refine bIf_of (fun h2 => ?_) (fun h2 => ?_) <;> rw [h2])
    · (refine goI ?_; repeat (intro gg; refine goI ?_))
      rw [tabG_lab h1' (not_t h2)]
      (exact ⟨[], aI⟩)
    · rw [tabG_ok h1' (not_f h2)]
      (refine goI ?_; repeat (intro gg; refine goI ?_))
      rw [List.length_map]
      (refine ⟨[(7, 112, 51, 2)], none, {p : Nat × Nat // p.1 ≤ l.length}, [1, 19, 20], fun ⟨⟨k, g⟩, hk⟩ => [(7, .own 112 g), (21, .v (.int .i64 k))], [], fun ⟨⟨k, g⟩, hk⟩ => [(112, ⟨g, 51, 2, (tabS here (l.take k)).map Rt.row⟩)], fun ⟨⟨k, g⟩, hk⟩ => l.length - k, (by exact ⟨rfl, by decide, (fun _ _ _ _ h => by cases h), trivial⟩), fun gs => ⟨trivial, fun _ => ⟨⟨(0, gs 112), by omega⟩, tI, tI, tI, tI⟩⟩, fun ⟨⟨k, g⟩, hk⟩ => ?_⟩)
      have hk' : k ≤ l.length := hk
      (refine goI ?_; repeat (intro gg; refine goI ?_))
      (refine bIf_of (fun h3 => ?_) (fun h3 => ?_) <;> rw [h3])
      · have hlt : k < l.length := (by have := of_decide_eq_true h3; omega)
        have hn := tabS_next (here := here) hlt
        have hlen := tabS_len here (l.take k)
        rw [List.length_take] at hlen
        (refine goI ?_; repeat (intro gg; refine goI ?_))
        refine ⟨k, _, rfl, row_map hlt, ?_⟩
        (refine goI ?_; repeat (intro gg; refine goI ?_))
        (refine bIf_of (fun h4 => ?_) (fun h4 => ?_) <;> rw [h4])
        · rw [if_pos h4] at hn
          (refine goI ?_; repeat (intro gg; refine goI ?_))
          refine ⟨lI, lI, ?_⟩
          (refine goI ?_; repeat (intro gg; refine goI ?_))
          (exact ⟨none, trivial, fun gr => ⟨⟨(k + 1, gg), by dsimp only; omega⟩, by show l.length - (k + 1) < l.length - k; omega, hxI hn, hxI hn, hxI hn, hxI hn⟩⟩)
        · rw [if_neg (by rw [h4]; decide)] at hn
          (refine goI ?_; repeat (intro gg; refine goI ?_))
          (exact ⟨none, trivial, fun gr => ⟨⟨(k + 1, g), by dsimp only; omega⟩, by show l.length - (k + 1) < l.length - k; omega, hxI hn, hxI hn, hxI hn, hxI hn⟩⟩)
      · have hge : l.length ≤ k := (by have := of_decide_eq_false h3; omega)
        obtain rfl : k = l.length := by omega
        (refine goI ?_; repeat (intro gg; refine goI ?_))
        rw [show tabS here l = tabS here (l.take l.length) by rw [List.take_length]]
        (exact ⟨[], aI⟩)
theorem gNext_fun (l : List Gw) (here to : ByteArray) (hl : l.length ≤ 9223372036854775807) (hw : ∀ x ∈ l, x.ok) (hh : here.size ≤ 9223372036854775807) (ht : to.size ≤ 9223372036854775807) : Fun Try.prog 23 [.c (.sl false (l.map Gw.row)), .c (.v (.string here)), .c (.v (.string to))] [.c (.v (.int .i64 (nextG l here to).2)), .c (.v (.int .i64 (nextG l here to).1))] := by
  refine fun_x ck_centre_Next rfl ?_
  (refine goI ?_; repeat (intro gg; refine goI ?_))
  (refine .inl ⟨_, _, true, [], aI, gcheck_fun false [l] (by simp) (by simpa using hl) (by simpa using hw), (fun _ => fI), nI, ?_⟩)
  rw [firstErr_one]
  (refine goI ?_; repeat (intro gg; refine goI ?_))
  (refine bIf_of (fun h1 => ?_) (fun h1 => ?_) <;> rw [h1])
  · (refine goI ?_; repeat (intro gg; refine goI ?_))
    rw [nextG_ck (by simpa using h1)]
    (exact ⟨[], aI⟩)
  · have h1' : ckGw l = 0 := by simpa using h1
    have hi := ckGw_inv h1'
    have hm := Gw.smono hi.2.2 to
    (refine goI ?_; repeat (intro gg; refine goI ?_))
    (refine .inl ⟨_, _, false, [], aI, label_fun here hh, nobor, nI, ?_⟩)
    (refine goI ?_; repeat (intro gg; refine goI ?_))
    (refine bIf_of (fun h2 => ?_) (fun h2 => ?_) <;> rw [h2])
    · (refine goI ?_; repeat (intro gg; refine goI ?_))
      rw [nextG_h h1' (not_t h2)]
      (exact ⟨[], aI⟩)
    · have h2' := not_f h2
      (refine goI ?_; repeat (intro gg; refine goI ?_))
      (refine .inl ⟨_, _, false, [], aI, label_fun to ht, nobor, nI, ?_⟩)
      (refine goI ?_; repeat (intro gg; refine goI ?_))
      (refine bIf_of (fun h3 => ?_) (fun h3 => ?_) <;> rw [h3])
      · (refine goI ?_; repeat (intro gg; refine goI ?_))
        rw [nextG_t h1' h2' (not_t h3)]
        (exact ⟨[], aI⟩)
      · have h3' := not_f h3
        (refine goI ?_; repeat (intro gg; refine goI ?_))
        (refine bIf_of (fun h4 => ?_) (fun h4 => ?_) <;> rw [h4])
        · (refine goI ?_; repeat (intro gg; refine goI ?_))
          rw [nextG_s h1' h2' h3' h4]
          (exact ⟨[], aI⟩)
        · (refine goI ?_; repeat (intro gg; refine goI ?_))
          (refine .inl ⟨_, _, false, [], aI, gfind_fun false l to (by omega) hm.mono, nobor, nI, ?_⟩)
          (refine goI ?_; repeat (intro gg; refine goI ?_))
          (refine bIf_of (fun h5 => ?_) (fun h5 => ?_) <;> rw [h5])
          · (refine goI ?_; repeat (intro gg; refine goI ?_))
            rw [nextG_miss h1' h2' h3' h4 (not_t h5)]
            (exact ⟨[], aI⟩)
          · have h5' : hit (Gw.cf to) l = true := not_f h5
            have hlt := hit_lt h5'
            (refine goI ?_; repeat (intro gg; refine goI ?_))
            refine ⟨low (Gw.cf to) l, _, rfl, row_map hlt, ?_⟩
            (refine goI ?_; repeat (intro gg; refine goI ?_))
            rw [nextG_hit h1' h2' h3' h4 h5']
            (exact ⟨[], aI⟩)
theorem gsame_fun (c d : Bool) (a b : List Gw) (ha : a.length ≤ 9223372036854775807) : Fun Try.prog 13 [.c (.sl c (a.map Gw.row)), .c (.sl d (b.map Gw.row))] [.c (.v (.bool (sameL Gw.same a b)))] := by
  refine fun_x ck_hearsayref_SameGateways rfl ?_
  (refine goI ?_; repeat (intro gg; refine goI ?_))
  rw [List.length_map, List.length_map]
  (refine bIf_of (fun h => ?_) (fun h => ?_) <;> rw [h])
  · (refine goI ?_; repeat (intro gg; refine goI ?_))
    rw [sameL_no (fun e => by rw [e] at h; simp at h)]
    (exact ⟨[], aI⟩)
  · have hab : a.length = b.length := by have h' : ((a.length : Int) != (b.length : Int)) = false := h
                                         simp at h'; omega
    (refine goI ?_; repeat (intro gg; refine goI ?_))
    (refine ⟨[], none, {k : Nat // k ≤ a.length ∧ ∀ j, (h : j < a.length) → j < k → Gw.same a[j] (b[j]'(by omega)) = true}, [0, 1], fun ⟨k, hk, h0⟩ => [(5, .v (.int .i64 k))], [], fun ⟨k, hk, h0⟩ => [], fun ⟨k, hk, h0⟩ => a.length - k, trivial, fun _ => ⟨trivial, fun _ => ⟨⟨0, by omega, fun j _ h => by omega⟩, tI, keptE_refl _ _, tI, keptH_refl _ _⟩⟩, fun ⟨k, hk, h0⟩ => ?_⟩)
    (refine goI ?_; repeat (intro gg; refine goI ?_))
    rw [List.length_map]
    (refine bIf_of (fun h2 => ?_) (fun h2 => ?_) <;> rw [h2])
    · have hlt : k < a.length := (by have := of_decide_eq_true h2; omega)
      have hlt' : k < b.length := by omega
      (refine goI ?_; repeat (intro gg; refine goI ?_))
      refine ⟨k, _, rfl, row_map hlt, ?_⟩
      (refine goI ?_; repeat (intro gg; refine goI ?_))
      refine ⟨k, _, rfl, row_map hlt', ?_⟩
      (refine goI ?_; repeat (intro gg; refine goI ?_))
      (refine bIf_of (fun h3 => ?_) (fun h3 => ?_) <;> rw [h3])
      · (refine goI ?_; repeat (intro gg; refine goI ?_))
        rw [sameL_at hlt hlt' (not_t (b := Gw.same a[k] b[k]) h3)]
        (exact ⟨[], aI⟩)
      · (refine goI ?_; repeat (intro gg; refine goI ?_))
        (exact ⟨none, trivial, fun _ => ⟨⟨k + 1, by omega, up1 (p := fun j h => Gw.same a[j] (b[j]'(by omega)) = true) h0 (fun _ => not_f (b := Gw.same a[k] b[k]) h3)⟩, by show a.length - (k + 1) < a.length - k; omega, tI, tI, tI, tI⟩⟩)
    · have hge : ¬ k < a.length := (by have := of_decide_eq_false h2; omega)
      (refine goI ?_; repeat (intro gg; refine goI ?_))
      rw [sameL_yes hab (fun i hi _ => h0 i hi (by omega))]
      (exact ⟨[], aI⟩)
def strC : ByteArray := ⟨#[99]⟩
def strH : ByteArray := ⟨#[104]⟩
theorem gbegun_fun : Fun Try.prog 5 [] [.c (.v (.bool true))] := by
  have h1 : openG [] strC 7 = (0, [⟨strC, 7, 1⟩]) := by kernel_rfl
  have h0 : ckGw [⟨strC, 7, 1⟩] = 0 := by kernel_rfl
  have h2 : nextG [⟨strC, 7, 1⟩] strH strC = (0, 7) := by
    have hh : hit (Gw.cf strC) [⟨strC, 7, 1⟩] = true := by simp [low, hit, Gw.cf, scmp_eq]
    rw [nextG_hit h0 (by kernel_rfl) (by kernel_rfl) (by kernel_rfl) hh]
    simp [low, Gw.cf, scmp_eq]
  have f1 := gOpen_fun [] strC 7 (by simp) (by simp) (by show strC.size ≤ _; decide)
  rw [h1] at f1
  have f2 := gNext_fun [⟨strC, 7, 1⟩] strH strC (by simp) (by simp [Gw.ok]; decide) (by decide) (by decide)
  rw [h2] at f2
  refine fun_x ck_hearsaylaw_centreBegun rfl ?_
  (refine goI ?_; repeat (intro gg; refine goI ?_))
  (refine .inl ⟨_, _, false, [], aI, f1, nobor, nI, ?_⟩)
  (refine goI ?_; repeat (intro gg; refine goI ?_))
  (refine .inl ⟨_, _, false, [], aI, f2, nobor, nI, ?_⟩)
  (refine goI ?_; repeat (intro gg; refine goI ?_))
  (exact ⟨[], aI⟩)
end Go.Proofs.Ytdaffjjconlmoaa
/- Contracts: the reference: gateways, put, opened. -/
namespace Go.Proofs.Ytdaffjjconlmoaa
open Go.RowKit Pl
set_option linter.unusedVariables false
namespace Pl
theorem Gw.putL_put {l : List Gw} (hs : sorted Gw.lt l = true) (m : Gw) : putL (Gw.ge m) (Gw.ne m) m l = putAt (Gw.kf m) m l := by
  rw [Gw.ge_eq, Gw.ne_eq]
  exact putL_sorted (Gw.smono hs m.c) m
end Pl
theorem rgput_fun (l : List Gw) (x : Gw) (hl : l.length ≤ 100) (hs : sorted Gw.lt l = true) : Fun Try.prog 51 [.c (.sl false (l.map Gw.row)), .c (.agg x.row)] [.c (.sl false ((putAt (Gw.kf x) x l).map Gw.row))] := by
  rw [← Gw.putL_put hs x]
  refine fun_x ck_hearsayref_PutGateway rfl ?_
  (refine goI ?_; repeat (intro gg; refine goI ?_))
  (refine ⟨[(5, 80, 62, 3)], none, {p : Nat × Nat // p.1 ≤ l.length}, [0, 3], fun ⟨⟨k, g⟩, hk⟩ => [(5, .own 80 g), (6, .v (.bool (putTo (Gw.ge x) (Gw.ne x) x (l.take k)).2)), (7, .v (.int .i64 k))], [48], fun ⟨⟨k, g⟩, hk⟩ => [(80, ⟨g, 62, 3, (putTo (Gw.ge x) (Gw.ne x) x (l.take k)).1.map Gw.row⟩)], fun ⟨⟨k, g⟩, hk⟩ => l.length - k, (by exact ⟨rfl, by decide, (fun _ _ _ _ h => by cases h), trivial⟩), fun gs => ⟨trivial, fun _ => ⟨⟨(0, gs 80), by omega⟩, tI, tI, tI, tI⟩⟩, fun ⟨⟨k, g⟩, hk⟩ => ?_⟩)
  have hk' : k ≤ l.length := hk
  have hlen := putTo_len (ge := Gw.ge x) (ne := Gw.ne x) (g := x) k (l.take k) (by rw [List.length_take]; omega)
  (refine goI ?_; repeat (intro gg; refine goI ?_))
  rw [List.length_map]
  (refine bIf_of (fun h3 => ?_) (fun h3 => ?_) <;> rw [h3])
  · have hlt3 : k < l.length := (by have := of_decide_eq_true h3; omega)
    have hN := putTo_next (ge := Gw.ge x) (ne := Gw.ne x) (g := x) hlt3
    (refine goI ?_; repeat (intro gg; refine goI ?_))
    (refine bIf_of (fun h4 => ?_) (fun h4 => ?_) <;> rw [h4])
    · have h4' : (putTo (Gw.ge x) (Gw.ne x) x (l.take k)).2 = false := by simpa using h4
      (refine goI ?_; repeat (intro gg; refine goI ?_))
      refine ⟨k, _, rfl, row_map hlt3, ?_⟩
      (refine goI ?_; repeat (intro gg; refine goI ?_))
      (refine bIf_of (fun h5 => ?_) (fun h5 => ?_) <;> rw [h5])
      · (refine goI ?_; repeat (intro gg; refine goI ?_))
        refine ⟨lI, lI, ?_⟩
        (refine goI ?_; repeat (intro gg; refine goI ?_))
        refine ⟨k, _, rfl, row_map hlt3, ?_⟩
        (refine goI ?_; repeat (intro gg; refine goI ?_))
        (refine bIf_of (fun h6 => ?_) (fun h6 => ?_) <;> rw [h6])
        · have hn : putTo (Gw.ge x) (Gw.ne x) x (l.take (k + 1)) = ((putTo (Gw.ge x) (Gw.ne x) x (l.take k)).1 ++ [x] ++ [l[k]], true) := by rw [hN]; simp [putStep, h4', show Gw.ge x l[k] = true from h5, show Gw.ne x l[k] = true from h6]
          (refine goI ?_; repeat (intro gg; refine goI ?_))
          refine ⟨k, _, rfl, row_map hlt3, ?_⟩
          (refine goI ?_; repeat (intro gg; refine goI ?_))
          refine ⟨lI, lI, ?_⟩
          (refine goI ?_; repeat (intro gg; refine goI ?_))
          (exact ⟨none, trivial, fun gr => ⟨⟨(k + 1, gg), by dsimp only; omega⟩, by show l.length - (k + 1) < l.length - k; omega, hxI hn, hxI hn, hxI hn, hxI hn⟩⟩)
        · have hn : putTo (Gw.ge x) (Gw.ne x) x (l.take (k + 1)) = ((putTo (Gw.ge x) (Gw.ne x) x (l.take k)).1 ++ [x], true) := by rw [hN]; simp [putStep, h4', show Gw.ge x l[k] = true from h5, show Gw.ne x l[k] = false from h6]
          (refine goI ?_; repeat (intro gg; refine goI ?_))
          (exact ⟨none, trivial, fun gr => ⟨⟨(k + 1, gg), by dsimp only; omega⟩, by show l.length - (k + 1) < l.length - k; omega, hxI hn, hxI hn, hxI hn, hxI hn⟩⟩)
      · (refine goI ?_; repeat (intro gg; refine goI ?_))
        refine ⟨k, _, rfl, row_map hlt3, ?_⟩
        (refine goI ?_; repeat (intro gg; refine goI ?_))
        (refine bIf_of (fun h6 => ?_) (fun h6 => ?_) <;> rw [h6])
        · have hn : putTo (Gw.ge x) (Gw.ne x) x (l.take (k + 1)) = ((putTo (Gw.ge x) (Gw.ne x) x (l.take k)).1 ++ [l[k]], (putTo (Gw.ge x) (Gw.ne x) x (l.take k)).2) := by rw [hN]; simp [putStep, h4', show Gw.ge x l[k] = false from h5, show Gw.ne x l[k] = true from h6]
          (refine goI ?_; repeat (intro gg; refine goI ?_))
          refine ⟨k, _, rfl, row_map hlt3, ?_⟩
          (refine goI ?_; repeat (intro gg; refine goI ?_))
          refine ⟨lI, lI, ?_⟩
          (refine goI ?_; repeat (intro gg; refine goI ?_))
          (exact ⟨none, trivial, fun gr => ⟨⟨(k + 1, gg), by dsimp only; omega⟩, by show l.length - (k + 1) < l.length - k; omega, hxI hn, hxI hn, hxI hn, hxI hn⟩⟩)
        · have hn : putTo (Gw.ge x) (Gw.ne x) x (l.take (k + 1)) = (putTo (Gw.ge x) (Gw.ne x) x (l.take k)) := by rw [hN]; simp [putStep, h4', show Gw.ge x l[k] = false from h5, show Gw.ne x l[k] = false from h6]
          (refine goI ?_; repeat (intro gg; refine goI ?_))
          (exact ⟨none, trivial, fun gr => ⟨⟨(k + 1, g), by dsimp only; omega⟩, by show l.length - (k + 1) < l.length - k; omega, hxI hn, hxI hn, hxI hn, hxI hn⟩⟩)
    · have h4' : (putTo (Gw.ge x) (Gw.ne x) x (l.take k)).2 = true := by simpa using h4
      (refine goI ?_; repeat (intro gg; refine goI ?_))
      refine ⟨k, _, rfl, row_map hlt3, ?_⟩
      (refine goI ?_; repeat (intro gg; refine goI ?_))
      (refine bIf_of (fun h6 => ?_) (fun h6 => ?_) <;> rw [h6])
      · have hn : putTo (Gw.ge x) (Gw.ne x) x (l.take (k + 1)) = ((putTo (Gw.ge x) (Gw.ne x) x (l.take k)).1 ++ [l[k]], (putTo (Gw.ge x) (Gw.ne x) x (l.take k)).2) := by rw [hN]; simp [putStep, h4', show Gw.ne x l[k] = true from h6]
        (refine goI ?_; repeat (intro gg; refine goI ?_))
        refine ⟨k, _, rfl, row_map hlt3, ?_⟩
        (refine goI ?_; repeat (intro gg; refine goI ?_))
        refine ⟨lI, lI, ?_⟩
        (refine goI ?_; repeat (intro gg; refine goI ?_))
        (exact ⟨none, trivial, fun gr => ⟨⟨(k + 1, gg), by dsimp only; omega⟩, by show l.length - (k + 1) < l.length - k; omega, hxI hn, hxI hn, hxI hn, hxI hn⟩⟩)
      · have hn : putTo (Gw.ge x) (Gw.ne x) x (l.take (k + 1)) = (putTo (Gw.ge x) (Gw.ne x) x (l.take k)) := by rw [hN]; simp [putStep, h4', show Gw.ne x l[k] = false from h6]
        (refine goI ?_; repeat (intro gg; refine goI ?_))
        (exact ⟨none, trivial, fun gr => ⟨⟨(k + 1, g), by dsimp only; omega⟩, by show l.length - (k + 1) < l.length - k; omega, hxI hn, hxI hn, hxI hn, hxI hn⟩⟩)
  · have hge : l.length ≤ k := (by have := of_decide_eq_false h3; omega)
    obtain rfl : k = l.length := by omega
    (refine goI ?_; repeat (intro gg; refine goI ?_))
    have hT : putTo (Gw.ge x) (Gw.ne x) x (l.take l.length) = putTo (Gw.ge x) (Gw.ne x) x l := by rw [List.take_length]
    (refine bIf_of (fun h4 => ?_) (fun h4 => ?_) <;> rw [h4])
    · have h4' : (putTo (Gw.ge x) (Gw.ne x) x l).2 = false := by rw [← hT]; simpa using h4
      (refine goI ?_; repeat (intro gg; refine goI ?_))
      refine ⟨lI, lI, ?_⟩
      (refine goI ?_; repeat (intro gg; refine goI ?_))
      rw [show putL (Gw.ge x) (Gw.ne x) x l = (putTo (Gw.ge x) (Gw.ne x) x (l.take l.length)).1 ++ [x] by rw [hT]; simp [putL, h4'], List.map_append]
      (exact ⟨[], aI⟩)
    · have h4' : (putTo (Gw.ge x) (Gw.ne x) x l).2 = true := by rw [← hT]; simpa using h4
      (refine goI ?_; repeat (intro gg; refine goI ?_))
      rw [show putL (Gw.ge x) (Gw.ne x) x l = (putTo (Gw.ge x) (Gw.ne x) x (l.take l.length)).1 by rw [hT]; simp [putL, h4']]
      (exact ⟨[], aI⟩)
theorem openOf_fun (l : List Gw) (h : ckGw l = 0) (name : ByteArray) (hn : name.size ≤ 9223372036854775807) (a : Int) : Fun Try.prog 19 [.c (.sl false (l.map Gw.row)), .c (.v (.string name)), .c (.v (.int .i64 a))] [.c (.sl false ((openG l name a).2.map Gw.row)), .c (.v (.int .i64 (openG l name a).1))] := by
  have hi := ckGw_inv h
  have hat := Gw.at_eq hi.2.2 name
  have hA := gat_fun false l name (by omega)
  have hone : lab name.data.toList = true → (⟨name, a, 1⟩ : Gw).err = if wi a 0 4294967295 then 0 else 3 := fun q => by
    unfold Gw.err
    rw [show lab (⟨name, a, 1⟩ : Gw).c.data.toList = true from q]
    show (if (wi a 0 4294967295 && wi 1 1 1000000) = true then (0 : Int) else 3) = _
    rw [show wi 1 1 1000000 = true from rfl, Bool.and_true]
  refine fun_x ck_hearsayref_OpenOf rfl ?_
  (refine goI ?_; repeat (intro gg; refine goI ?_))
  (refine .inl ⟨_, _, false, [], aI, rlabel_fun name hn, nobor, nI, ?_⟩)
  (refine goI ?_; repeat (intro gg; refine goI ?_))
  (refine bIf_of (fun h1 => ?_) (fun h1 => ?_) <;> rw [h1])
  · have e1 : (⟨name, a, 1⟩ : Gw).err = 1 := by unfold Gw.err; rw [show lab (⟨name, a, 1⟩ : Gw).c.data.toList = false from not_t h1]; rfl
    rw [openG_one h (by rw [e1]; decide), e1]
    (refine goI ?_; repeat (intro gg; refine goI ?_))
    (exact ⟨[], aI⟩)
  · have h1' := not_f h1
    have ho := hone h1'
    rcases Bool.eq_false_or_eq_true (hit (Gw.cf name) l) with h2 | h2
    · rw [hat, if_pos h2] at hA
      have hlt := hit_lt h2
      have hP := rgput_fun l ⟨name, a, (l[low (Gw.cf name) l]).v + 1⟩ (by omega) hi.2.2
      have hpu : putAt (Gw.kf ⟨name, a, (l[low (Gw.cf name) l]).v + 1⟩) ⟨name, a, (l[low (Gw.cf name) l]).v + 1⟩ l = l.set (low (Gw.cf name) l) ⟨name, a, (l[low (Gw.cf name) l]).v + 1⟩ := by
        unfold putAt; rw [if_pos (show hit (Gw.kf ⟨name, a, (l[low (Gw.cf name) l]).v + 1⟩) l = true from h2)]; rfl
      rw [hpu] at hP
      have hv := (Gw.err_inv (hi.2.1 _ hlt)).2.2
      (refine goI ?_; repeat (intro gg; refine goI ?_))
      (refine .inl ⟨_, _, false, [], aI, hA, nobor, nI, ?_⟩)
      (refine goI ?_; repeat (intro gg; refine goI ?_))
      refine ⟨low (Gw.cf name) l, _, rfl, row_map hlt, ?_⟩
      (refine goI ?_; repeat (intro gg; refine goI ?_))
      (refine .inl ⟨_, _, false, [], aI, address_fun a, nobor, nI, ?_⟩)
      (refine goI ?_; repeat (intro gg; refine goI ?_))
      cases ha : wi a 0 4294967295 with
      | false =>
        rw [ha] at ho
        have ho : (⟨name, a, 1⟩ : Gw).err = 3 := ho
        rw [openG_one h (by rw [ho]; decide), ho]
        (refine goI ?_; repeat (intro gg; refine goI ?_))
        (exact ⟨[], aI⟩)
      | true =>
        rw [ha] at ho
        have ho : (⟨name, a, 1⟩ : Gw).err = 0 := ho
        rw [openG_hit h ho h2]
        (refine goI ?_; repeat (intro gg; refine goI ?_))
        (refine bIf_of (fun h3 => ?_) (fun h3 => ?_) <;> rw [h3])
        · rw [if_pos (by have := of_decide_eq_true h3; omega)]
          (refine goI ?_; repeat (intro gg; refine goI ?_))
          (exact ⟨[], aI⟩)
        · rw [if_neg (by have := of_decide_eq_false h3; omega)]
          (refine goI ?_; repeat (intro gg; refine goI ?_))
          (refine .inl ⟨_, _, false, [], aI, hP, nobor, nI, ?_⟩)
          (refine goI ?_; repeat (intro gg; refine goI ?_))
          rw [List.length_map, List.length_set]
          (refine bIf_of (fun q => ?_) (fun q => ?_) <;> rw [q]; focus (exfalso; have := of_decide_eq_true q; omega))
          (refine goI ?_; repeat (intro gg; refine goI ?_))
          (exact ⟨[], aI⟩)
    · rw [hat, if_neg (by rw [h2]; decide)] at hA
      have hP := rgput_fun l ⟨name, a, 1⟩ (by omega) hi.2.2
      have hpu : putAt (Gw.kf ⟨name, a, 1⟩) ⟨name, a, 1⟩ l = l.take (low (Gw.cf name) l) ++ [⟨name, a, 1⟩] ++ l.drop (low (Gw.cf name) l) := by
        unfold putAt; rw [if_neg (show ¬ hit (Gw.kf ⟨name, a, 1⟩) l = true by rw [show hit (Gw.kf ⟨name, a, 1⟩) l = false from h2]; simp)]; rfl
      have hlen : (l.take (low (Gw.cf name) l) ++ [(⟨name, a, 1⟩ : Gw)] ++ l.drop (low (Gw.cf name) l)).length = l.length + 1 := by
        have := low_le (cf := Gw.cf name) l
        simp only [List.length_append, List.length_take, List.length_drop, List.length_cons, List.length_nil]; omega
      rw [hpu] at hP
      (refine goI ?_; repeat (intro gg; refine goI ?_))
      (refine .inl ⟨_, _, false, [], aI, hA, nobor, nI, ?_⟩)
      (refine goI ?_; repeat (intro gg; refine goI ?_))
      (refine .inl ⟨_, _, false, [], aI, address_fun a, nobor, nI, ?_⟩)
      (refine goI ?_; repeat (intro gg; refine goI ?_))
      cases ha : wi a 0 4294967295 with
      | false =>
        rw [ha] at ho
        have ho : (⟨name, a, 1⟩ : Gw).err = 3 := ho
        rw [openG_one h (by rw [ho]; decide), ho]
        (refine goI ?_; repeat (intro gg; refine goI ?_))
        (exact ⟨[], aI⟩)
      | true =>
        rw [ha] at ho
        have ho : (⟨name, a, 1⟩ : Gw).err = 0 := ho
        rw [openG_miss h ho h2]
        (refine goI ?_; repeat (intro gg; refine goI ?_))
        (refine .inl ⟨_, _, false, [], aI, hP, nobor, nI, ?_⟩)
        (refine goI ?_; repeat (intro gg; refine goI ?_))
        rw [List.length_map, hlen]
        (refine bIf_of (fun h3 => ?_) (fun h3 => ?_) <;> rw [h3])
        · rw [if_pos (by have := of_decide_eq_true h3; omega)]
          (refine goI ?_; repeat (intro gg; refine goI ?_))
          (exact ⟨[], aI⟩)
        · rw [if_neg (by have := of_decide_eq_false h3; omega)]
          (refine goI ?_; repeat (intro gg; refine goI ?_))
          (exact ⟨[], aI⟩)
end Go.Proofs.Ytdaffjjconlmoaa
/- Contracts of the functions of gateways again: what comes is the caller's own. -/
namespace Go.Proofs.Ytdaffjjconlmoaa
open Go.RowKit Pl
set_option linter.unusedVariables false
theorem gOpenO_fun (l : List Gw) (name : ByteArray) (a : Int) (hl : l.length ≤ 9223372036854775807) (hw : ∀ x ∈ l, x.ok) (hn : name.size ≤ 9223372036854775807) : Fun Try.prog 10 [.c (.sl false (l.map Gw.row)), .c (.v (.string name)), .c (.v (.int .i64 a))] [.o 62 3 ((openG l name a).2.map Gw.row), .c (.v (.int .i64 (openG l name a).1))] := by
  refine fun_x ck_centre_Open rfl ?_
  (refine goI ?_; repeat (intro gg; refine goI ?_))
  (refine .inl ⟨_, _, true, [], aI, gcheck_fun false [l] (by simp) (by simpa using hl) (by simpa using hw), (fun _ => fI), nI, ?_⟩)
  rw [firstErr_one]
  (refine goI ?_; repeat (intro gg; refine goI ?_))
  (refine bIf_of (fun h1 => ?_) (fun h1 => ?_) <;> rw [h1])
  · (refine goI ?_; repeat (intro gg; refine goI ?_))
    rw [openG_ck (by simpa using h1)]
    (exact ⟨[], aI⟩)
  · have h1' : ckGw l = 0 := by simpa using h1
    have hi := ckGw_inv h1'
    have hm := Gw.smono hi.2.2 name
    have hlow := low_le (cf := Gw.cf name) l
    (refine goI ?_; repeat (intro gg; refine goI ?_))
    (refine .inl ⟨_, _, false, [], aI, gone_fun ⟨name, a, 1⟩ hn, nobor, nI, ?_⟩)
    (refine goI ?_; repeat (intro gg; refine goI ?_))
    (refine bIf_of (fun h2 => ?_) (fun h2 => ?_) <;> rw [h2])
    · (refine goI ?_; repeat (intro gg; refine goI ?_))
      rw [openG_one h1' (by simpa using h2)]
      (exact ⟨[], aI⟩)
    · have h2' : (⟨name, a, 1⟩ : Gw).err = 0 := by simpa using h2
      (refine goI ?_; repeat (intro gg; refine goI ?_))
      (refine .inl ⟨_, _, false, [], aI, gclone_fun false l (by omega), nobor, nI, ?_⟩)
      (refine goI ?_; repeat (intro gg; refine goI ?_))
      (refine .inl ⟨_, _, true, [], aI, gfind_fun false l name (by omega) hm.mono, (fun _ => fI), nI, ?_⟩)
      (refine goI ?_; repeat (intro gg; refine goI ?_))
      (refine bIf_of (fun h3 => ?_) (fun h3 => ?_) <;> rw [h3])
      · have h3' : hit (Gw.cf name) l = true := h3
        have hlt := hit_lt h3'
        have hO := openG_hit h1' h2' h3'
        have hb := (Gw.err_inv (hi.2.1 _ hlt)).2.2
        (refine goI ?_; repeat (intro gg; refine goI ?_))
        refine ⟨low (Gw.cf name) l, _, rfl, row_map hlt, ?_⟩
        (refine goI ?_; repeat (intro gg; refine goI ?_))
        (refine bIf_of (fun h4 => ?_) (fun h4 => ?_) <;> rw [h4])
        · (refine goI ?_; repeat (intro gg; refine goI ?_))
          rw [hO, if_pos (by simpa using h4)]
          (exact ⟨[], aI⟩)
        · rw [if_neg (by simpa using h4)] at hO
          (refine goI ?_; repeat (intro gg; refine goI ?_))
          refine ⟨low (Gw.cf name) l, _, rfl, row_map hlt, ?_⟩
          (refine goI ?_; repeat (intro gg; refine goI ?_))
          refine ⟨low (Gw.cf name) l, _, rfl, row_map hlt, ?_⟩
          (refine goI ?_; repeat (intro gg; refine goI ?_))
          rw [hO, List.map_set]
          (exact ⟨[448], aI⟩)
      · have h3' : hit (Gw.cf name) l = false := h3
        have hO := openG_miss h1' h2' h3'
        (refine goI ?_; repeat (intro gg; refine goI ?_))
        rw [List.length_map]
        (refine bIf_of (fun h4 => ?_) (fun h4 => ?_) <;> rw [h4])
        · (refine goI ?_; repeat (intro gg; refine goI ?_))
          rw [hO, if_pos (by have := of_decide_eq_true h4; omega)]
          (exact ⟨[], aI⟩)
        · rw [if_neg (by have := of_decide_eq_false h4; omega)] at hO
          (refine goI ?_; repeat (intro gg; refine goI ?_))
          (refine .inl ⟨_, _, true, [448, 1056], aI, ginsert_fun l ⟨name, a, 1⟩ (low (Gw.cf name) l) hlow (by omega), (fun _ => fI), nI, ?_⟩)
          (refine goI ?_; repeat (intro gg; refine goI ?_))
          rw [hO]
          (exact ⟨[1072], aI⟩)
theorem gTableO_fun (l : List Gw) (here : ByteArray) (hl : l.length ≤ 9223372036854775807) (hw : ∀ x ∈ l, x.ok) (hh : here.size ≤ 9223372036854775807) : Fun Try.prog 9 [.c (.sl false (l.map Gw.row)), .c (.v (.string here))] [.o 51 2 ((tabG l here).2.map Rt.row), .c (.v (.int .i64 (tabG l here).1))] := by
  refine fun_x ck_centre_Table rfl ?_
  (refine goI ?_; repeat (intro gg; refine goI ?_))
  (refine .inl ⟨_, _, true, [], aI, gcheck_fun false [l] (by simp) (by simpa using hl) (by simpa using hw), (fun _ => fI), nI, ?_⟩)
  rw [firstErr_one]
  (refine goI ?_; repeat (intro gg; refine goI ?_))
  (refine bIf_of (fun h1 => ?_) (fun h1 => ?_) <;> rw [h1])
  · (refine goI ?_; repeat (intro gg; refine goI ?_))
    rw [tabG_ck (by simpa using h1)]
    (exact ⟨[], aI⟩)
  · have h1' : ckGw l = 0 := by simpa using h1
    have hi := ckGw_inv h1'
    (refine goI ?_; repeat (intro gg; refine goI ?_))
    (refine .inl ⟨_, _, false, [], aI, label_fun here hh, nobor, nI, ?_⟩)
    (refine goI ?_; repeat (intro gg; refine goI ?_))
    (refine bIf_of (fun h2 => ?_) (fun h2 => ?_) <;> rw [h2])
    · (refine goI ?_; repeat (intro gg; refine goI ?_))
      rw [tabG_lab h1' (not_t h2)]
      (exact ⟨[], aI⟩)
    · rw [tabG_ok h1' (not_f h2)]
      (refine goI ?_; repeat (intro gg; refine goI ?_))
      rw [List.length_map]
      (refine ⟨[(7, 112, 51, 2)], none, {p : Nat × Nat // p.1 ≤ l.length}, [1, 19, 20], fun ⟨⟨k, g⟩, hk⟩ => [(7, .own 112 g), (21, .v (.int .i64 k))], [], fun ⟨⟨k, g⟩, hk⟩ => [(112, ⟨g, 51, 2, (tabS here (l.take k)).map Rt.row⟩)], fun ⟨⟨k, g⟩, hk⟩ => l.length - k, (by exact ⟨rfl, by decide, (fun _ _ _ _ h => by cases h), trivial⟩), fun gs => ⟨trivial, fun _ => ⟨⟨(0, gs 112), by omega⟩, tI, tI, tI, tI⟩⟩, fun ⟨⟨k, g⟩, hk⟩ => ?_⟩)
      have hk' : k ≤ l.length := hk
      (refine goI ?_; repeat (intro gg; refine goI ?_))
      (refine bIf_of (fun h3 => ?_) (fun h3 => ?_) <;> rw [h3])
      · have hlt : k < l.length := (by have := of_decide_eq_true h3; omega)
        have hn := tabS_next (here := here) hlt
        have hlen := tabS_len here (l.take k)
        rw [List.length_take] at hlen
        (refine goI ?_; repeat (intro gg; refine goI ?_))
        refine ⟨k, _, rfl, row_map hlt, ?_⟩
        (refine goI ?_; repeat (intro gg; refine goI ?_))
        (refine bIf_of (fun h4 => ?_) (fun h4 => ?_) <;> rw [h4])
        · rw [if_pos h4] at hn
          (refine goI ?_; repeat (intro gg; refine goI ?_))
          refine ⟨lI, lI, ?_⟩
          (refine goI ?_; repeat (intro gg; refine goI ?_))
          (exact ⟨none, trivial, fun gr => ⟨⟨(k + 1, gg), by dsimp only; omega⟩, by show l.length - (k + 1) < l.length - k; omega, hxI hn, hxI hn, hxI hn, hxI hn⟩⟩)
        · rw [if_neg (by rw [h4]; decide)] at hn
          (refine goI ?_; repeat (intro gg; refine goI ?_))
          (exact ⟨none, trivial, fun gr => ⟨⟨(k + 1, g), by dsimp only; omega⟩, by show l.length - (k + 1) < l.length - k; omega, hxI hn, hxI hn, hxI hn, hxI hn⟩⟩)
      · have hge : l.length ≤ k := (by have := of_decide_eq_false h3; omega)
        obtain rfl : k = l.length := by omega
        (refine goI ?_; repeat (intro gg; refine goI ?_))
        rw [show tabS here l = tabS here (l.take l.length) by rw [List.take_length]]
        (exact ⟨[112], aI⟩)
end Go.Proofs.Ytdaffjjconlmoaa
/- slices.SortFunc, out of the shelf's contract, as a function that turns what it is lent. No program in sight. -/
namespace Go.Proofs.Ytdaffjjconlmoaa
open Go.RowKit Go.Sort Go.Shelf
set_option linter.unusedVariables false
theorem callable_enters {P : Program} {f : FuncId} (h : Callable P f) : ∀ args w, (callFunc f args).run P w = .ok (.enter f args) w := fun args w => by
  obtain ⟨fn, h1, h2, h3⟩ := h
  have h2' : fn.name ≠ "runtime.NumGoroutine" := by simpa using h2
  have h3' : ¬ fn.body = none := by intro q; rw [q] at h3; simp at h3
  simp [callFunc, h1, h2', h3']
theorem world_of_fr {L : Nat → Prop} {w w' : World} (h : Fr L w w') (hL : ∀ b, ¬ L b) : ∃ q os, w' = Go.Sort.grow (w.drewN q) os := by
  refine ⟨w'.drawn - w.drawn, w'.heap.extract w.heap.size w'.heap.size, ?_⟩
  obtain ⟨hp, tp, dr, os, out⟩ := w
  obtain ⟨hp', tp', dr', os', out'⟩ := w'
  obtain ⟨rfl, rfl, rfl, h4, h5, h6⟩ := h
  have h4 : hp.size ≤ hp'.size := h4
  have h6 : dr ≤ dr' := h6
  have e : hp' = hp ++ hp'.extract hp.size hp'.size := by
    apply Array.ext_getElem?
    intro i
    by_cases hi : i < hp.size
    · rw [Array.getElem?_append_left hi]; exact h5 i hi (hL i)
    · rw [Array.getElem?_append_right (by omega), Array.getElem?_extract]
      by_cases hi' : i < hp'.size
      · rw [if_pos (by omega)]; congr 1; omega
      · rw [if_neg (by omega), Array.getElem?_eq_none (by omega)]
  have e2 : dr' = dr + (dr' - dr) := by omega
  unfold Go.Sort.grow World.drewN
  simp only [World.mk.injEq, true_and, and_true]
  exact ⟨e, e2⟩
section
variable {α : Type} [Inhabited α] {enc : α → Value}
theorem holds_blk {w : World} {g : Nat} {cur : Array Value} {e : TypeId} {ss : List α} (hb : w.heap[g]? = some (.cells cur e (0, 0))) (ht : cur.toList.take ss.length = ss.map enc) : Holds enc w g 0 ss.toArray := by
  intro j hj
  have hj' : j < ss.length := by simpa using hj
  refine ⟨?_, by simp [World.frozen?, hb]⟩
  have h1 : (cur.toList.take ss.length)[j]? = (ss.map enc)[j]? := by rw [ht]
  rw [List.getElem?_take_of_lt hj'] at h1
  simp only [World.cell?, hb, Nat.zero_add]
  simp only [Option.isSome_none, Bool.false_eq_true, if_false]
  rw [← Array.getElem?_toList, h1]
  simp [hj']
theorem heap_srt {w : World} {g n : Nat} {os : Array Obj} {cur : Array Value} {e : TypeId} {fr : Nat × Nat} (d : Array α) (hb : w.heap[g]? = some (.cells cur e fr)) :
    (sortWorld enc w g 0 n d os).heap[g]? = some (.cells (putCells enc 0 d cur) e fr) := by
  have hg : g < w.heap.size := (Array.getElem?_eq_some_iff.1 hb).1
  unfold sortWorld
  rw [heap_grow_old _ _ (by simpa using hg)]
  simp [putRow, mapBlock, Sort.ahead, Array.getElem?_modify, hb, onCells]
theorem heap_else {w : World} {g n k : Nat} {os : Array Obj} (d : Array α) (hk : k < w.heap.size) (hne : k ≠ g) : (sortWorld enc w g 0 n d os).heap[k]? = w.heap[k]? := by
  unfold sortWorld
  rw [heap_grow_old _ _ (by simpa using hk)]
  have : g ≠ k := fun e => hne e.symm
  simp [putRow, mapBlock, Sort.ahead, Array.getElem?_modify, this]
theorem srt_size {w : World} {g n : Nat} {os : Array Obj} (d : Array α) : w.heap.size ≤ (sortWorld enc w g 0 n d os).heap.size := by
  unfold sortWorld Go.Sort.grow; simp
theorem take_cells (cur : Array Value) (ts : List α) (h : ts.length ≤ cur.size) : (putCells enc 0 ts.toArray cur).toList.take ts.length = ts.map enc := by
  apply List.ext_getElem?
  intro j
  by_cases hj : j < ts.length
  · rw [List.getElem?_take_of_lt hj, Array.getElem?_toList]
    simp [putCells, hj, show j < cur.size by omega]
  · rw [List.getElem?_take_eq_none (by omega), List.getElem?_eq_none (by simp; omega)]
def oneRow (enc : α → Value) (x : α) : List V := [.v (enc x)]
def srtL (cf : α → α → Int) (d : List α) : List α := d.mergeSort fun x y => !(ltOf cf) y x
omit [Inhabited α] in
theorem rows_one {w : World} {R : Nat → Prop} {G : Nat → Option Loc} {d : List α} {vs : List Value} (hl : vs.length = d.length * 1) (h : RowsR w R G vs 1 (d.map (oneRow enc))) : vs = d.map enc := by
  apply List.ext_getElem?
  intro i
  by_cases hi : i < d.length
  · obtain ⟨x, h1, _, h2⟩ := h.2 i 0 (oneRow enc d[i]) (.v (enc d[i])) (by simp [hi]) rfl
    rw [Nat.mul_one, Nat.add_zero] at h1
    rw [h1, rv_v h2]; simp [hi]
  · rw [List.getElem?_eq_none (by omega), List.getElem?_eq_none (by simp; omega)]
omit [Inhabited α] in
theorem one_rows (h1 : OneCell enc) {w : World} {R : Nat → Prop} {G : Nat → Option Loc} (d : List α) : RowsR w R G (d.map enc) 1 (d.map (oneRow enc)) := by
  refine ⟨fun row hr => ?_, fun i j row u hi hj => ?_⟩
  · obtain ⟨x, _, rfl⟩ := List.mem_map.1 hr; rfl
  · have hi' : i < d.length := by have := (List.getElem?_eq_some_iff.1 hi).1; simpa using this
    have e : row = oneRow enc d[i] := by rw [List.getElem?_map, List.getElem?_eq_getElem hi'] at hi; simpa using hi.symm
    subst e
    cases j with
    | succ j => simp [oneRow] at hj
    | zero =>
      have e2 : u = .v (enc d[i]) := by simpa [oneRow] using hj.symm
      subst e2
      exact ⟨enc d[i], by simp [hi'], h1 _, .v _⟩
theorem sort_funM {P : Program} {ρ : Ren} (L : SlLaysF.n6 P ρ) (hcall : Callable P (ρ.f 6)) (T : TypeId) (h1 : OneCell enc) (cf : α → α → Int) (hO : SWO (ltOf cf)) (hT : ∀ x y, ltOf cf x y = false → ltOf cf y x = false → x = y) (f : FuncId) (caps : List V) (hfc : Callable P f) (d : List α) (hsz : d.length < 4611686018427387904)
    (hf : d ≠ [] → ∀ x y, Fun P f (.c (.v (enc x)) :: .c (.v (enc y)) :: caps.map .c) [.c (.v (.int .i64 (cf x y)))]) :
    FunM P (ρ.f 6) [.ms T 1 (d.map (oneRow enc)) ((srtL cf d).map (oneRow enc)), .p (.c (.clo f caps))] [] := by
  refine ⟨hcall, fun w R xs F hlt hp => ?_⟩
  match xs, hp with
  | [x0, x1], hp =>
    obtain ⟨F1, F2, ⟨⟨hpos, vs, hown, hrows⟩, hF1⟩, ⟨F3, F4, ⟨hx1, hF3⟩, hnil, hd34, hF2⟩, hd12, hF⟩ := hp
    have hx1 : RV w R noG (.clo f caps) x1 := hx1
    have hF3' : ∀ k, ¬ F3 k := fun k hk => by
      obtain ⟨i, T', sz, rows, x, q1, _⟩ := (hF3 k).1 hk
      cases i with
      | zero => simp at q1
      | succ i => simp at q1
    have hFF : ∀ b, F b ↔ F1 b := fun b => by
      rw [hF b, hF2 b]
      constructor
      · rintro (q | q | q)
        · exact q
        · exact absurd q (hF3' b)
        · exact absurd q (hnil b)
      · exact .inl
    cases hx1 with
    | clo f cs xs' hl hcs =>
      have hvs := rows_one (by simpa using hown.1) hrows
      subst hvs
      have hlen : (d.map (oneRow enc)).length = d.length := by simp
      have hslen : (srtL cf d).length = d.length := List.length_mergeSort d
      -- what comes back
      have fin : ∀ w', Fr F w w' → (∀ b, R b → w'.heap[b]? = w.heap[b]?) → w'.ownsRow 0 T 1 x0 (srtL cf d).length ((srtL cf d).map enc) →
          ∃ (ys : List Value) (R' F' : Nat → Prop), Ending.returned (Value.tuple #[]) = .returned (packV ys) ∧ ([] : List ParM).length = ys.length ∧ Fr F w w' ∧ (∀ b, R b → R' b) ∧ (∀ b, R' b → R b ∨ (b < w'.heap.size ∧ (F b ∨ w.heap.size ≤ b))) ∧
            ParsM w' R' (([] : List ParM) ++ exitsP [.ms T 1 (d.map (oneRow enc)) ((srtL cf d).map (oneRow enc)), .p (.c (.clo f caps))]) (ys ++ exitsX [.ms T 1 (d.map (oneRow enc)) ((srtL cf d).map (oneRow enc)), .p (.c (.clo f caps))] [x0, .func (.func f) #[] xs'.toArray]) F' ∧ (∀ b, F' b → F b ∨ w.heap.size ≤ b) := fun w' hfr hR ho => by
        refine ⟨[], R, F1, rfl, rfl, hfr, fun b hb => hb, fun b hb => .inl hb, ?_, fun b hb => .inl ((hFF b).2 hb)⟩
        refine ⟨F1, fun _ => False, ⟨⟨hpos, (srtL cf d).map enc, by rw [List.length_map]; exact ho, one_rows h1 _⟩, fun k => ?_⟩, fun b hb => hb, fun b hb => ⟨fun q => q, (hd12 b hb).2⟩, fun b => by simp⟩
        rw [hF1 k]
        constructor
        · rintro ⟨i, T', sz, rows, x, q1, q2, q3⟩
          cases i with
          | zero => simp at q1 q2; exact ⟨0, T, 1, _, x, rfl, by simpa using q2, q3⟩
          | succ i => simp at q1
        · rintro ⟨i, T', sz, rows, x, q1, q2, q3⟩
          cases i with
          | zero => simp at q1 q2; exact ⟨0, T, 1, _, x, rfl, by simpa using q2, q3⟩
          | succ i => simp at q1
      have hnone : ∀ (p : Option Addr) (cap : Nat), d = [] → x0 = .slice p 0 cap → Calls P (ρ.f 6) [x0, .func (.func f) #[] xs'.toArray].toArray w fun e w' => ∃ (ys : List Value) (R' F' : Nat → Prop), e = .returned (packV ys) ∧ ([] : List ParM).length = ys.length ∧ Fr F w w' ∧ (∀ b, R b → R' b) ∧ (∀ b, R' b → R b ∨ (b < w'.heap.size ∧ (F b ∨ w.heap.size ≤ b))) ∧
            ParsM w' R' (([] : List ParM) ++ exitsP [.ms T 1 (d.map (oneRow enc)) ((srtL cf d).map (oneRow enc)), .p (.c (.clo f caps))]) (ys ++ exitsX [.ms T 1 (d.map (oneRow enc)) ((srtL cf d).map (oneRow enc)), .p (.c (.clo f caps))] [x0, .func (.func f) #[] xs'.toArray]) F' ∧ (∀ b, F' b → F b ∨ w.heap.size ≤ b) := fun p cap hd0 hx => by
        have hs0 : srtL cf d = [] := List.eq_nil_of_length_eq_zero (by rw [hslen, hd0]; rfl)
        have h := AnyF.slices_SortFunc_none (P := P) (ρ := ρ) { L with } p cap (.func (.func f) #[] xs'.toArray) w
        rw [← hx] at h
        refine h.mono ?_
        rintro e w' ⟨rfl, rfl⟩
        refine fin w' (Fr.refl _ _) (fun _ _ => rfl) ?_
        rw [hs0]; rw [hd0] at hown; exact hown
      rcases hown.2 with ⟨hx, hz⟩ | ⟨g, cap, cur, hx, hbase, hb, hnc, hcm, hcs2, htake⟩
      · exact hnone none 0 (List.eq_nil_of_length_eq_zero (by omega)) hx
      · by_cases hd0 : d = []
        · exact hnone _ cap hd0 (by rw [hx, hd0]; rfl)
        · have hgR : ∀ b, R b → b ≠ g := fun b hb e => by
            have : F1 g := (hF1 g).2 ⟨0, T, 1, _, x0, rfl, rfl, by rw [hx]; rfl⟩
            exact (hd12 g this).2 (e ▸ hb)
          have hgF : F g := (hFF g).2 ((hF1 g).2 ⟨0, T, 1, _, x0, rfl, rfl, by rw [hx]; rfl⟩)
          have hgs : g < w.heap.size := (Array.getElem?_eq_some_iff.1 hb).1
          have hH : Holds enc w g 0 d.toArray := holds_blk hb (by simpa using htake)
          have hcmp : CmpLays1 P f xs'.toArray enc cf g 0 d.toArray.size w := fun m os dk hs x y => by
            have hW : ∀ b, R b → (sortWorld enc w g 0 m dk os).heap[b]? = w.heap[b]? := fun b hb => heap_else dk (hlt b hb) (hgR b hb)
            have hlt' : ∀ b, R b → b < (sortWorld enc w g 0 m dk os).heap.size := fun b hb => Nat.lt_of_lt_of_le (hlt b hb) (srt_size dk)
            have hpars : Pars (sortWorld enc w g 0 m dk os) R (.c (.v (enc x)) :: .c (.v (enc y)) :: caps.map .c) (enc x :: enc y :: xs') := by
              have hc : ∀ p ∈ (.c (.v (enc x)) :: .c (.v (enc y)) :: caps.map .c : List Par), ∃ u, p = .c u := fun p hp => by
                simp only [List.mem_cons, List.mem_map] at hp
                rcases hp with rfl | rfl | ⟨u, _, rfl⟩ <;> exact ⟨_, rfl⟩
              refine ⟨by simp [hl], fun i p z q1 q2 => ?_, fun i j T1 s1 r1 T2 s2 r2 z1 z2 b _ q1 => ?_, fun b hb => absurd hb (no_blk hc)⟩
              · match i with
                | 0 => simp at q1 q2; subst q1 q2; exact .v _
                | 1 => simp at q1 q2; subst q1 q2; exact .v _
                | i + 2 =>
                  simp only [List.getElem?_cons_succ, List.getElem?_map] at q1 q2
                  cases hu : caps[i]? with
                  | none => rw [hu] at q1; cases q1
                  | some u =>
                    rw [hu] at q1; injection q1 with q1; subst q1
                    exact (hcs i u z hu q2).mono (fun b hb => ⟨hb, hW b hb⟩) (Gle.refl _)
              · obtain ⟨u, hu⟩ := hc _ (List.mem_of_getElem? q1)
                cases hu
            have := (hf hd0 x y).2 _ R _ hlt' hpars
            have e0 : (#[enc x, enc y] ++ xs'.toArray : Array Value) = (enc x :: enc y :: xs').toArray := by simp
            rw [e0]
            refine this.mono fun e w' ⟨ys, R', he, hfr, _, _, hr, _⟩ => ?_
            have hy : ys = [.int .i64 (cf x y)] := pars_v (xs := [.int .i64 (cf x y)]) hr
            subst hy
            refine ⟨he, world_of_fr hfr fun b hb => no_blk (fun p hp => ?_) hb⟩
            simp only [List.mem_cons, List.mem_map] at hp
            rcases hp with rfl | rfl | ⟨u, _, rfl⟩ <;> exact ⟨_, rfl⟩
          have h := Any.slices_SortFunc_total L enc h1 cf hO f xs'.toArray g 0 cap d.toArray w (callable_enters hfc) hcmp hH hgs (by simpa using hsz) hT
          have e1 : x0 = .slice (some ⟨g, 0, none⟩) d.toArray.size cap := by rw [hx]; simp
          rw [← e1] at h
          refine h.mono ?_
          rintro e w' ⟨rfl, n, os, rfl⟩
          have hto : d.toArray.toList = d := by simp
          rw [hto]
          refine fin _ ⟨rfl, rfl, rfl, srt_size _, fun k hk hn => heap_else _ hk (fun e => hn (e ▸ hgF)), Nat.le_add_right _ _⟩ (fun b hb => heap_else _ (hlt b hb) (hgR b hb)) ?_
          rw [hx, hlen, ← hslen]
          refine ⟨by simp, .inr ⟨g, cap, _, rfl, Nat.zero_le _, heap_srt _ hb, by rw [hslen]; rw [hlen] at hnc; exact hnc, hcm, by simp [putCells, hcs2], ?_⟩⟩
          rw [Nat.mul_one]
          exact take_cells cur _ (by rw [hslen, hcs2]; rw [hlen] at hnc; omega)
end
end Go.Proofs.Ytdaffjjconlmoaa
/- Plain: names in the order of how far they are; whoever inserts one by one has what the library sorts. No program in sight. -/
namespace Go.Proofs.Ytdaffjjconlmoaa.Pl
open Go.Sort Go.Shelf
set_option linter.unusedVariables false
section
variable {α : Type} {c : α → α → Int}
theorem Good.self (g : Good c) (x : α) : c x x = 0 := by have := g.anti x x; omega
theorem swo_of (g : Good c) : SWO (ltOf c) where
  irrefl x := by unfold ltOf; rw [g.self]; rfl
  trans x y z h1 h2 := by
    unfold ltOf at *
    have h1 := of_decide_eq_true h1
    have h2 := of_decide_eq_true h2
    have a1 := g.anti x y
    have a2 := g.anti y z
    have a3 := g.anti x z
    have := g.pp z y x (by omega) (by omega)
    exact decide_eq_true (by omega)
  ntrans x y z h1 h2 := by
    unfold ltOf at *
    have h1 := of_decide_eq_false h1
    have h2 := of_decide_eq_false h2
    refine decide_eq_false ?_
    by_cases p1 : c x y = 0
    · by_cases p2 : c y z = 0
      · have := g.zz x y z p1 p2; omega
      · have := g.zp x y z p1 (by omega); omega
    · by_cases p2 : c y z = 0
      · have := g.pz x y z (by omega) p2; omega
      · have := g.pp x y z (by omega) (by omega); omega
theorem tot_of (g : Good c) (h0 : ∀ x y, c x y = 0 → x = y) : ∀ x y, ltOf c x y = false → ltOf c y x = false → x = y := fun x y h1 h2 => by
  unfold ltOf at *
  have h1 := of_decide_eq_false h1
  have h2 := of_decide_eq_false h2
  have := g.anti x y
  exact h0 x y (by omega)
def leB (c : α → α → Int) (y x : α) : Bool := !(ltOf c) x y
theorem sort_uniq {r : α → α → Prop} (an : ∀ x y, r x y → r y x → x = y) : ∀ {a b : List α}, a.Perm b → a.Pairwise r → b.Pairwise r → a = b
  | [], b, h, _, _ => (List.nil_perm.1 h).symm
  | x :: a, [], h, _, _ => by have := h.length_eq; simp at this
  | x :: a, y :: b, h, ha, hb => by
    have ha' := List.pairwise_cons.1 ha
    have hb' := List.pairwise_cons.1 hb
    have e : x = y := by
      have h1 : x ∈ y :: b := h.mem_iff.1 List.mem_cons_self
      have h2 : y ∈ x :: a := h.mem_iff.2 List.mem_cons_self
      rcases List.mem_cons.1 h1 with q | q
      · exact q
      · rcases List.mem_cons.1 h2 with q2 | q2
        · exact q2.symm
        · exact an _ _ (ha'.1 _ q2) (hb'.1 _ q)
    subst e
    rw [sort_uniq an (List.Perm.cons_inv h) ha'.2 hb'.2]
/-- one more, behind those that stand ahead of it or level with it -/
def insA (c : α → α → Int) (l : List α) (x : α) : List α := l.takeWhile (fun y => leB c y x) ++ x :: l.dropWhile fun y => leB c y x
theorem insA_perm (l : List α) (x : α) : (insA c l x).Perm (x :: l) := by
  unfold insA
  refine (List.perm_middle).trans ?_
  rw [List.takeWhile_append_dropWhile]
theorem insA_cons (y x : α) (l : List α) : insA c (y :: l) x = if leB c y x = true then y :: insA c l x else x :: y :: l := by
  unfold insA
  rw [List.takeWhile_cons, List.dropWhile_cons]
  split <;> rfl
theorem insA_sorted (g : Good c) (x : α) : ∀ {l : List α}, l.Pairwise (fun u v => leB c u v = true) → (insA c l x).Pairwise fun u v => leB c u v = true
  | [], _ => List.pairwise_singleton ..
  | y :: l, h => by
    have h' := List.pairwise_cons.1 h
    rw [insA_cons]
    split
    · rename_i q
      refine List.pairwise_cons.2 ⟨fun z hz => ?_, insA_sorted g x h'.2⟩
      have := (insA_perm (c := c) l x).mem_iff.1 hz
      rcases List.mem_cons.1 this with rfl | hz
      · exact q
      · exact h'.1 z hz
    · rename_i q
      have q : ltOf c x y = true := by simpa [leB] using q
      have s := swo_of g
      have hxy : leB c x y = true := by
        unfold leB
        cases p : ltOf c y x with
        | false => rfl
        | true => have := s.trans _ _ _ p q; rw [s.irrefl] at this; cases this
      refine List.pairwise_cons.2 ⟨fun z hz => ?_, h⟩
      rcases List.mem_cons.1 hz with rfl | hz
      · exact hxy
      · have hyz := h'.1 z hz
        unfold leB at *
        rw [Bool.not_eq_true'] at *
        exact s.ntrans _ _ _ hyz hxy
theorem insA_all (g : Good c) : ∀ (d : List α) {l : List α}, l.Pairwise (fun u v => leB c u v = true) → (d.foldl (insA c) l).Pairwise (fun u v => leB c u v = true) ∧ (d.foldl (insA c) l).Perm (l ++ d)
  | [], l, h => ⟨h, by simp⟩
  | x :: d, l, h => by
    obtain ⟨h1, h2⟩ := insA_all g d (insA_sorted g x h)
    refine ⟨h1, h2.trans ?_⟩
    refine ((insA_perm l x).append_right d).trans ?_
    exact (List.perm_middle).symm
theorem insA_srt (g : Good c) (h0 : ∀ x y, c x y = 0 → x = y) (d : List α) : d.foldl (insA c) [] = srtL c d := by
  obtain ⟨h1, h2⟩ := insA_all g d (l := []) List.Pairwise.nil
  have s := swo_of g
  have hs : (srtL c d).Pairwise fun x y => (!(ltOf c) y x) = true := by
    refine List.pairwise_mergeSort (fun a b e p1 p2 => ?_) (fun a b => ?_) _
    · have p1' : ltOf c b a = false := by simpa using p1
      have p2' : ltOf c e b = false := by simpa using p2
      simpa using s.ntrans e b a p2' p1'
    · cases q : ltOf c b a with
      | false => rfl
      | true =>
        cases p : ltOf c a b with
        | false => rfl
        | true => have := s.trans _ _ _ p q; rw [s.irrefl] at this; cases this
  refine sort_uniq (r := fun u v => leB c u v = true) (fun x y p1 p2 => ?_) (h2.trans (List.mergeSort_perm _ _).symm) h1 hs
  have p1' : ltOf c y x = false := by simpa [leB] using p1
  have p2' : ltOf c x y = false := by simpa [leB] using p2
  exact tot_of g h0 x y p2' p1'
end
/-- how far a name is, if anybody tells -/
def rkN (K : ByteArray → Option Int) (a : ByteArray) : Int := if (K a).isSome then 0 else 1
def frN (K : ByteArray → Option Int) (a : ByteArray) : Int := (K a).getD 0
def cfN (K : ByteArray → Option Int) (a b : ByteArray) : Int := firstNZ [icmp (rkN K a) (rkN K b), icmp (frN K a) (frN K b), scmp a b]
theorem cfN_good (K : ByteArray → Option Int) : Good (cfN K) := good_list [fun a b => icmp (rkN K a) (rkN K b), fun a b => icmp (frN K a) (frN K b), fun a b => scmp a b] (by
  intro c hc
  simp only [List.mem_cons, List.not_mem_nil, or_false] at hc
  rcases hc with rfl | rfl | rfl
  · exact good_int (rkN K)
  · exact good_int (frN K)
  · exact good_str fun a => a)
theorem cfN_zero {K : ByteArray → Option Int} {a b : ByteArray} (h : cfN K a b = 0) : a = b := scmp_zero.1 (nz_zero h _ (by simp))
theorem cfN_sort (K : ByteArray → Option Int) (d : List ByteArray) : d.foldl (insA (cfN K)) [] = srtL (cfN K) d := insA_srt (cfN_good K) (fun _ _ => cfN_zero) d
end Go.Proofs.Ytdaffjjconlmoaa.Pl
/- Plain arithmetic of the integer square root: no program in sight. -/
namespace Go.Proofs.Ytdaffjjconlmoaa.Pl
set_option linter.unusedVariables false

def isqAux (n : Nat) : Nat → Nat
  | 0 => 0
  | k + 1 => if (k + 1) * (k + 1) ≤ n then k + 1 else isqAux n k

/-- the greatest number whose square is not more -/
def isq (n : Nat) : Nat := isqAux n n

theorem isqAux_sq (n k : Nat) : isqAux n k * isqAux n k ≤ n := by
  induction k with
  | zero => simp [isqAux]
  | succ k ih =>
    unfold isqAux
    split
    · assumption
    · exact ih

theorem isqAux_lt (n k : Nat) (h : n < (k + 1) * (k + 1)) : n < (isqAux n k + 1) * (isqAux n k + 1) := by
  induction k with
  | zero => simpa [isqAux] using h
  | succ k ih =>
    unfold isqAux
    split
    · exact h
    · exact ih (by omega)

theorem isq_sq (n : Nat) : isq n * isq n ≤ n := isqAux_sq n n
theorem isq_lt (n : Nat) : n < (isq n + 1) * (isq n + 1) := isqAux_lt n n (by rw [Nat.add_mul]; omega)

theorem isq_uniq (n r : Nat) (h1 : r * r ≤ n) (h2 : n < (r + 1) * (r + 1)) : isq n = r := by
  have a := isq_sq n
  have b := isq_lt n
  rcases Nat.lt_trichotomy (isq n) r with h | h | h
  · have := Nat.mul_le_mul (show isq n + 1 ≤ r from h) (show isq n + 1 ≤ r from h); omega
  · exact h
  · have := Nat.mul_le_mul (show r + 1 ≤ isq n from h) (show r + 1 ≤ isq n from h); omega

/-- the root of a number from 0 on, as an integer -/
def rt (n : Int) : Int := (isq n.toNat : Int)

theorem rt_nonneg (n : Int) : 0 ≤ rt n := Int.natCast_nonneg _
theorem rt_sq (n : Int) (h : 0 ≤ n) : rt n * rt n ≤ n := by
  have := isq_sq n.toNat
  unfold rt
  have e : ((isq n.toNat * isq n.toNat : Nat) : Int) ≤ (n.toNat : Int) := Int.ofNat_le.2 this
  rw [Int.natCast_mul] at e
  omega
theorem rt_lt (n : Int) (h : 0 ≤ n) : n < (rt n + 1) * (rt n + 1) := by
  have := isq_lt n.toNat
  unfold rt
  have e : (n.toNat : Int) < ((isq n.toNat + 1) * (isq n.toNat + 1) : Nat) := Int.ofNat_lt.2 this
  rw [Int.natCast_mul] at e
  simp only [Int.natCast_add, Int.natCast_one] at e
  omega
theorem sq_mono {a b : Int} (h0 : 0 ≤ a) (h : a ≤ b) : a * a ≤ b * b := Int.mul_le_mul h h h0 (by omega)
theorem sq_le {a b : Int} (h0 : 0 ≤ b) (h : a * a < (b + 1) * (b + 1)) : a ≤ b := by
  rcases Int.lt_or_le b a with g | g
  · have := sq_mono (show 0 ≤ b + 1 by omega) (show b + 1 ≤ a by omega); omega
  · exact g
theorem rt_le {n r : Int} (h : 0 ≤ n) (h0 : 0 ≤ r) (h2 : n < (r + 1) * (r + 1)) : rt n ≤ r := by
  have := rt_sq n h
  exact sq_le h0 (by omega)
theorem le_rt {n r : Int} (h : 0 ≤ n) (h2 : r * r ≤ n) : r ≤ rt n := by
  have := rt_lt n h
  exact sq_le (rt_nonneg n) (by omega)
theorem rt_uniq {n r : Int} (h0 : 0 ≤ r) (h1 : r * r ≤ n) (h2 : n < (r + 1) * (r + 1)) : rt n = r := by
  have hn : 0 ≤ n := Int.le_trans (Int.mul_nonneg h0 h0) h1
  have a := rt_le hn h0 h2
  have b := le_rt hn h1
  omega
theorem rt_max (n : Int) (h : 0 ≤ n) (hm : n ≤ 9223372036854775807) : rt n ≤ 3037000499 := rt_le h (by omega) (by omega)

theorem div_bounds {n x : Int} (hn : 0 ≤ n) (hx : 1 ≤ x) : 0 ≤ n / x ∧ x * (n / x) ≤ n ∧ n < x * (n / x) + x := by
  have := Int.mul_ediv_add_emod n x
  have := Int.emod_nonneg n (show x ≠ 0 by omega)
  have := Int.emod_lt_of_pos n (show 0 < x by omega)
  exact ⟨Int.ediv_nonneg hn (by omega), by omega, by omega⟩

theorem amgm {a b s : Int} (h0 : 0 ≤ a) (h1 : 0 ≤ b) (h : a + b ≤ 2 * s) : a * b ≤ s * s := by
  have h2 : (a + b) * (a + b) ≤ (2 * s) * (2 * s) := sq_mono (by omega) h
  have h3 : 0 ≤ (a - b) * (a - b) := by
    rcases Int.le_total 0 (a - b) with g | g
    · exact Int.mul_nonneg g g
    · exact Int.mul_nonneg_of_nonpos_of_nonpos g g
  have e : (a - b) * (a - b) = (a + b) * (a + b) - 4 * (a * b) := by grind
  have e2 : (2 * s) * (2 * s) = 4 * (s * s) := by grind
  omega

/-- a step of the first loop -/
theorem up_le {n x : Int} (hn : 0 ≤ n) (hm : n ≤ 9223372036854775807) (hx : 1 ≤ x) (h : x ≤ n / x) : x ≤ 3037000499 := by
  obtain ⟨a, b, c⟩ := div_bounds hn hx
  have : x * x ≤ x * (n / x) := Int.mul_le_mul_of_nonneg_left h (by omega)
  exact sq_le (by omega) (by omega)
theorem up_end {n x : Int} (hn : 0 ≤ n) (hx : 1 ≤ x) (h : n / x < x) : rt n ≤ x := by
  obtain ⟨a, b, c⟩ := div_bounds hn hx
  have : x * (n / x) ≤ x * (x - 1) := Int.mul_le_mul_of_nonneg_left (by omega) (by omega)
  have e : x * (x - 1) = x * x - x := by grind
  have e2 : (x + 1) * (x + 1) = x * x + 2 * x + 1 := by grind
  exact rt_le hn (by omega) (by omega)
/-- the quotient in the second loop -/
theorem down_q {n x : Int} (hn : 1 ≤ n) (hx : 1 ≤ x) (h : rt n ≤ x) : n / x ≤ rt n + 2 := by
  have a := rt_lt n (by omega)
  have b : 1 ≤ rt n := le_rt (by omega) (by omega)
  refine Int.ediv_le_of_le_mul (by omega) ?_
  have e : (rt n + 1) * (rt n + 1) = (rt n + 2) * rt n + 1 := by grind
  have : (rt n + 2) * rt n ≤ (rt n + 2) * x := Int.mul_le_mul_of_nonneg_left h (by omega)
  omega
theorem down_ge {n x : Int} (hn : 0 ≤ n) (hx : 1 ≤ x) : rt n ≤ (x + n / x) / 2 := by
  obtain ⟨a, b, c⟩ := div_bounds hn hx
  have s := rt_sq n hn
  rcases Int.lt_or_le ((x + n / x) / 2) (rt n) with g | g
  · have := amgm (a := x) (b := n / x + 1) (s := rt n) (by omega) (by omega) (by omega)
    have e : x * (n / x + 1) = x * (n / x) + x := by grind
    omega
  · exact g
theorem down_end {n x : Int} (hn : 0 ≤ n) (hx : 1 ≤ x) (h : rt n ≤ x) (g : x ≤ (x + n / x) / 2) : x = rt n := by
  obtain ⟨a, b, c⟩ := div_bounds hn hx
  have : x * x ≤ x * (n / x) := Int.mul_le_mul_of_nonneg_left (by omega) (by omega)
  have := le_rt (n := n) (r := x) hn (by omega)
  omega

/-- bit by bit: b is a power of two (or 0); the root lies between r and what the bits left can add -/
def RootRel (n r b : Int) : Prop :=
  0 ≤ r ∧ r * r ≤ n ∧ ((b = 0 ∧ n < (r + 1) * (r + 1)) ∨ ((∃ k : Nat, k ≤ 31 ∧ b = 2 ^ k) ∧ n < (r + 2 * b) * (r + 2 * b)))

theorem pow_half (k : Nat) : ((2 : Int) ^ (k + 1)) / 2 = 2 ^ k ∧ (2 : Int) ^ (k + 1) = 2 * 2 ^ k ∧ 1 ≤ (2 : Int) ^ k := by
  have h : (2 : Int) ^ (k + 1) = 2 ^ k * 2 := Int.pow_succ 2 k
  have p : 0 < (2 : Int) ^ k := Int.pow_pos (by omega)
  omega
theorem pow_le (k : Nat) (h : k ≤ 31) : (2 : Int) ^ k ≤ 2147483648 := by
  have e : (2147483648 : Int) = 2 ^ k * 2 ^ (31 - k) := by
    rw [← Int.pow_add, show k + (31 - k) = 31 by omega]; decide
  have p : 1 ≤ (2 : Int) ^ (31 - k) := by have : 0 < (2 : Int) ^ (31 - k) := Int.pow_pos (by omega); omega
  have q : 0 ≤ (2 : Int) ^ k := by have : 0 < (2 : Int) ^ k := Int.pow_pos (by omega); omega
  have := Int.mul_le_mul_of_nonneg_left p q
  omega
theorem rootRel_start {n : Int} (h0 : 0 ≤ n) (hm : n ≤ 9223372036854775807) : RootRel n 0 2147483648 :=
  ⟨by omega, by omega, .inr ⟨⟨31, by omega, by decide⟩, by omega⟩⟩
theorem rootRel_bounds {n r b : Int} (h0 : 0 ≤ n) (hm : n ≤ 9223372036854775807) (h : RootRel n r b) :
    0 ≤ r ∧ r ≤ 3037000499 ∧ 0 ≤ b ∧ b ≤ 2147483648 ∧ (0 < b → 0 ≤ b / 2) := by
  obtain ⟨a, c, d⟩ := h
  have hr : r ≤ 3037000499 := sq_le (by omega) (by omega)
  refine ⟨a, hr, ?_⟩
  rcases d with ⟨e, _⟩ | ⟨⟨k, hk, e⟩, _⟩
  · omega
  · have := pow_le k hk
    have : 0 < (2 : Int) ^ k := Int.pow_pos (by omega)
    omega
theorem rootRel_yes {n r b : Int} (h : RootRel n r b) (hb : 0 < b) (c : (r + b) * (r + b) ≤ n) : RootRel n (r + b) (b / 2) := by
  obtain ⟨a, _, d⟩ := h
  refine ⟨by omega, c, ?_⟩
  rcases d with ⟨e, _⟩ | ⟨⟨k, hk, e⟩, d⟩
  · omega
  · cases k with
    | zero =>
      have : b = 1 := by simpa using e
      subst this
      exact .inl ⟨by decide, by rw [show r + 1 + 1 = r + 2 * 1 by omega]; exact d⟩
    | succ k =>
      obtain ⟨p, q, s⟩ := pow_half k
      refine .inr ⟨⟨k, by omega, by rw [e, p]⟩, ?_⟩
      rw [show r + b + 2 * (b / 2) = r + 2 * b by rw [e, p, q]; omega]; exact d
theorem rootRel_no {n r b : Int} (h : RootRel n r b) (hb : 0 < b) (c : n < (r + b) * (r + b)) : RootRel n r (b / 2) := by
  obtain ⟨a, f, d⟩ := h
  refine ⟨a, f, ?_⟩
  rcases d with ⟨e, _⟩ | ⟨⟨k, hk, e⟩, d⟩
  · omega
  · cases k with
    | zero =>
      have : b = 1 := by simpa using e
      subst this
      exact .inl ⟨by decide, c⟩
    | succ k =>
      obtain ⟨p, q, s⟩ := pow_half k
      refine .inr ⟨⟨k, by omega, by rw [e, p]⟩, ?_⟩
      rw [show r + 2 * (b / 2) = r + b by rw [e, p, q]]; exact c
theorem rootRel_end {n r b : Int} (h0 : 0 ≤ n) (h : RootRel n r b) (hb : b ≤ 0) : r = rt n := by
  obtain ⟨a, f, d⟩ := h
  rcases d with ⟨e, d⟩ | ⟨⟨k, hk, e⟩, d⟩
  · exact (rt_uniq a f d).symm
  · have : 0 < (2 : Int) ^ k := Int.pow_pos (by omega)
    omega
theorem sq_small {x : Int} (h0 : 0 ≤ x) (h : x ≤ 3037000499) : x * x ≤ 9223372036854775807 := by
  have := sq_mono h0 h
  omega
theorem sq_big {n x : Int} (h0 : 0 ≤ n) (hm : n ≤ 9223372036854775807) (h : 3037000500 ≤ x) : n < x * x := by
  have := sq_mono (show (0 : Int) ≤ 3037000500 by omega) h
  omega

end Go.Proofs.Ytdaffjjconlmoaa.Pl
/- Plain functions of how far places are: no program in sight. -/
namespace Go.Proofs.Ytdaffjjconlmoaa.Pl
set_option linter.unusedVariables false

def sq3 (x y z x' y' z' : Int) : Int := (x - x') * (x - x') + (y - y') * (y - y') + (z - z') * (z - z')
/-- how far without heights -/
def flat (x y z x' y' z' : Int) : Int := rt (sq3 x y z x' y' z')

theorem okPl_iff {x y z h s : Int} : okPl x y z h s = true ↔ (-10000000 ≤ x ∧ x ≤ 10000000) ∧ (-10000000 ≤ y ∧ y ≤ 10000000) ∧ (-10000000 ≤ z ∧ z ≤ 10000000) ∧ (0 ≤ h ∧ h ≤ 1000000) ∧ (0 ≤ s ∧ s ≤ 1000) := by
  unfold okPl
  simp only [Bool.and_eq_true, wi_iff, and_assoc]

theorem sq_abs {x b : Int} (h1 : -b ≤ x) (h2 : x ≤ b) : 0 ≤ x * x ∧ x * x ≤ b * b := by
  rcases Int.le_total 0 x with h | h
  · exact ⟨Int.mul_nonneg h h, sq_mono h h2⟩
  · have := sq_mono (a := -x) (b := b) (by omega) (by omega)
    rw [Int.neg_mul_neg] at this
    exact ⟨Int.mul_nonneg_of_nonpos_of_nonpos h h, this⟩
theorem sq_diff {x x' : Int} (h1 : -10000000 ≤ x) (h2 : x ≤ 10000000) (h3 : -10000000 ≤ x') (h4 : x' ≤ 10000000) : 0 ≤ (x - x') * (x - x') ∧ (x - x') * (x - x') ≤ 400000000000000 :=
  sq_abs (x := x - x') (b := 20000000) (by omega) (by omega)
theorem sq3_bd {x y z x' y' z' : Int} (a1 : 0 ≤ (x - x') * (x - x') ∧ (x - x') * (x - x') ≤ 400000000000000) (a2 : 0 ≤ (y - y') * (y - y') ∧ (y - y') * (y - y') ≤ 400000000000000)
    (a3 : 0 ≤ (z - z') * (z - z') ∧ (z - z') * (z - z') ≤ 400000000000000) : 0 ≤ sq3 x y z x' y' z' ∧ sq3 x y z x' y' z' ≤ 1200000000000000 := by unfold sq3; omega
theorem flat_bd {x y z x' y' z' : Int} (h : 0 ≤ sq3 x y z x' y' z' ∧ sq3 x y z x' y' z' ≤ 1200000000000000) : 0 ≤ flat x y z x' y' z' ∧ flat x y z x' y' z' ≤ 34641017 :=
  ⟨rt_nonneg _, rt_le h.1 (by omega) (by omega)⟩
theorem flat_ok {x y z h s x' y' z' h' s' : Int} (o : okPl x y z h s = true) (o' : okPl x' y' z' h' s' = true) : 0 ≤ flat x y z x' y' z' ∧ flat x y z x' y' z' ≤ 34641017 := by
  obtain ⟨⟨a1, a2⟩, ⟨a3, a4⟩, ⟨a5, a6⟩, _, _⟩ := okPl_iff.1 o
  obtain ⟨⟨b1, b2⟩, ⟨b3, b4⟩, ⟨b5, b6⟩, _, _⟩ := okPl_iff.1 o'
  exact flat_bd (sq3_bd (sq_diff a1 a2 b1 b2) (sq_diff a3 a4 b3 b4) (sq_diff a5 a6 b5 b6))
theorem flat_comm (x y z x' y' z' : Int) : flat x y z x' y' z' = flat x' y' z' x y z := by
  unfold flat sq3
  rw [show (x - x') * (x - x') = (x' - x) * (x' - x) by grind, show (y - y') * (y - y') = (y' - y) * (y' - y) by grind, show (z - z') * (z - z') = (z' - z) * (z' - z) by grind]
/-- how far, heights too -/
def far (x y z h x' y' z' h' : Int) : Int := flat x y z x' y' z' + h + h'
end Go.Proofs.Ytdaffjjconlmoaa.Pl
/- Plain: places, moved. No program in sight (but for the order of texts). -/
namespace Go.Proofs.Ytdaffjjconlmoaa.Pl
set_option linter.unusedVariables false
structure Pc where
  x : Int
  y : Int
  z : Int
  h : Int
  s : Int
def Pc.row (p : Pc) : List V := [.v (.int .i64 p.x), .v (.int .i64 p.y), .v (.int .i64 p.z), .v (.int .i64 p.h), .v (.int .i64 p.s)]
instance : FlatRow Pc.row := ⟨fun x u hu => by simp [Pc.row] at hu; rcases hu with rfl | rfl | rfl | rfl | rfl <;> exact ⟨_, rfl⟩⟩
def Pc.ok (p : Pc) : Prop := True
def Pc.okb (p : Pc) : Bool := okPl p.x p.y p.z p.h p.s
def Pc.err (p : Pc) : Int := ckPl p.x p.y p.z p.h p.s
theorem Pc.err_ok {p : Pc} (h : p.okb = true) : p.err = 0 := by unfold Pc.err ckPl; unfold Pc.okb at h; rw [if_pos h]
theorem Pc.err_bad {p : Pc} (h : p.okb = false) : p.err = 3 := by unfold Pc.err ckPl; unfold Pc.okb at h; rw [if_neg (by rw [h]; decide)]
theorem Pc.err_iff {p : Pc} : p.err = 0 ↔ p.okb = true := by
  cases h : p.okb with
  | true => simp [Pc.err_ok h]
  | false => simp [Pc.err_bad h]
def Pc.flat (a b : Pc) : Int := Pl.flat a.x a.y a.z b.x b.y b.z
def Pc.far (a b : Pc) : Int := Pl.far a.x a.y a.z a.h b.x b.y b.z b.h
def farM (a b : Pc) : Int × Int := if a.okb = true then (if b.okb = true then (0, a.far b) else (3, 0)) else (3, 0)
def bnd (n least most : Int) : Int := max least (min most n)
def weight (a b : Pc) : Int := if 0 < a.s + b.s then (a.s * 1000).tdiv (a.s + b.s) else 500
def pull (a b : Pc) (round : Int) : Int := ((round - a.far b) * weight a b).tdiv 4000
def wrongP (a b : Pc) (round : Int) : Int := min 1000 ((max (round - a.far b) (a.far b - round) * 1000).tdiv round)
def alongP (s d u v : Int) : Int := bnd (u + (s * (u - v)).tdiv d) (-10000000) 10000000
/-- what Move gives, of what is right -/
def moveR (a b : Pc) (round : Int) : Pc :=
  ⟨if 0 < a.flat b then alongP (pull a b round) (a.flat b) a.x b.x else bnd (a.x + pull a b round) (-10000000) 10000000,
   if 0 < a.flat b then alongP (pull a b round) (a.flat b) a.y b.y else a.y,
   if 0 < a.flat b then alongP (pull a b round) (a.flat b) a.z b.z else a.z,
   bnd (a.h + (pull a b round).tdiv 10) 0 1000000,
   bnd (a.s + ((wrongP a b round - a.s) * weight a b).tdiv 4000) 0 1000⟩
def moveM (a b : Pc) (round : Int) : Int × Pc :=
  if a.okb = true then (if b.okb = true then (if wi round 1 5000000 = true then (0, moveR a b round) else (3, ⟨0, 0, 0, 0, 0⟩)) else (3, ⟨0, 0, 0, 0, 0⟩)) else (3, ⟨0, 0, 0, 0, 0⟩)
theorem mul_bd {x y A B : Int} (hx : -A ≤ x ∧ x ≤ A) (hy : -B ≤ y ∧ y ≤ B) : -(A * B) ≤ x * y ∧ x * y ≤ A * B := by
  have e : (x * y).natAbs ≤ (A * B).natAbs := by
    rw [Int.natAbs_mul, Int.natAbs_mul]
    exact Nat.mul_le_mul (by omega) (by omega)
  have h : 0 ≤ A * B := Int.mul_nonneg (by omega) (by omega)
  omega
theorem tdiv_bd {x y A : Int} (hx : -A ≤ x ∧ x ≤ A) : -A ≤ x.tdiv y ∧ x.tdiv y ≤ A := by
  have e : (x.tdiv y).natAbs ≤ x.natAbs := by rw [Int.natAbs_tdiv]; exact Nat.div_le_self _ _
  omega
theorem tdiv_nn {x y : Int} (hx : 0 ≤ x) (hy : 0 ≤ y) : 0 ≤ x.tdiv y := Int.tdiv_nonneg hx hy
theorem far_bd {a b : Pc} (h : a.okb = true) (h' : b.okb = true) : (0 ≤ a.flat b ∧ a.flat b ≤ 34641017) ∧ (0 ≤ a.far b ∧ a.far b ≤ 36641017) := by
  have f := flat_ok h h'
  obtain ⟨_, _, _, ⟨a7, a8⟩, _⟩ := okPl_iff.1 h
  obtain ⟨_, _, _, ⟨b7, b8⟩, _⟩ := okPl_iff.1 h'
  refine ⟨f, ?_⟩
  unfold Pc.far Pl.far
  omega
theorem weight_bd {a b : Pc} (h : a.okb = true) (h' : b.okb = true) : 0 ≤ weight a b ∧ weight a b ≤ 1000 := by
  obtain ⟨_, _, _, _, ⟨a7, a8⟩⟩ := okPl_iff.1 h
  obtain ⟨_, _, _, _, ⟨b7, b8⟩⟩ := okPl_iff.1 h'
  unfold weight
  split
  · rename_i hp
    refine ⟨tdiv_nn (by omega) (by omega), ?_⟩
    rw [Int.tdiv_eq_ediv_of_nonneg (by omega)]
    exact Int.ediv_le_of_le_mul hp (by omega)
  · omega
theorem pull_bd {a b : Pc} {r : Int} (h : a.okb = true) (h' : b.okb = true) (hr : wi r 1 5000000 = true) : (-36641017000 ≤ (r - a.far b) * weight a b ∧ (r - a.far b) * weight a b ≤ 36641017000) ∧ (-36641017000 ≤ pull a b r ∧ pull a b r ≤ 36641017000) := by
  have f := (far_bd h h').2
  have w := weight_bd h h'
  have hr' := wi_iff.1 hr
  have m := mul_bd (x := r - a.far b) (y := weight a b) (A := 36641017) (B := 1000) (by omega) (by omega)
  have e : (36641017 : Int) * 1000 = 36641017000 := by decide
  rw [e] at m
  exact ⟨m, tdiv_bd m⟩
theorem wrong_bd {a b : Pc} {r : Int} (h : a.okb = true) (h' : b.okb = true) (hr : wi r 1 5000000 = true) : 0 ≤ wrongP a b r ∧ wrongP a b r ≤ 1000 := by
  have f := (far_bd h h').2
  have hr' := wi_iff.1 hr
  unfold wrongP
  have := tdiv_nn (x := max (r - a.far b) (a.far b - r) * 1000) (y := r) (by omega) (by omega)
  omega
theorem sure_bd {a b : Pc} {r : Int} (h : a.okb = true) (h' : b.okb = true) (hr : wi r 1 5000000 = true) : (-1000000 ≤ (wrongP a b r - a.s) * weight a b ∧ (wrongP a b r - a.s) * weight a b ≤ 1000000) ∧ (-1000000 ≤ ((wrongP a b r - a.s) * weight a b).tdiv 4000 ∧ ((wrongP a b r - a.s) * weight a b).tdiv 4000 ≤ 1000000) := by
  have f := wrong_bd h h' hr
  have w := weight_bd h h'
  obtain ⟨_, _, _, _, ⟨a7, a8⟩⟩ := okPl_iff.1 h
  have m := mul_bd (x := wrongP a b r - a.s) (y := weight a b) (A := 1000) (B := 1000) (by omega) (by omega)
  have e : (1000 : Int) * 1000 = 1000000 := by decide
  rw [e] at m
  exact ⟨m, tdiv_bd m⟩
theorem step_bd {s d u v : Int} (hs : -36641017000 ≤ s ∧ s ≤ 36641017000) (hu : -10000000 ≤ u ∧ u ≤ 10000000) (hv : -10000000 ≤ v ∧ v ≤ 10000000) : (-732820340000000000 ≤ s * (u - v) ∧ s * (u - v) ≤ 732820340000000000) ∧ (-732820340000000000 ≤ (s * (u - v)).tdiv d ∧ (s * (u - v)).tdiv d ≤ 732820340000000000) := by
  have m := mul_bd (x := s) (y := u - v) (A := 36641017000) (B := 20000000) hs (by omega)
  have e : (36641017000 : Int) * 20000000 = 732820340000000000 := by decide
  rw [e] at m
  exact ⟨m, tdiv_bd m⟩
theorem bnd_if {n l m : Int} (h : l ≤ m) : bnd n l m = if n < l then l else if m < n then m else n := by
  unfold bnd; split
  · omega
  · split <;> omega
theorem bnd_in {n l m : Int} (h : l ≤ m) : l ≤ bnd n l m ∧ bnd n l m ≤ m := by unfold bnd; omega
theorem bnd_id {n l m : Int} (h1 : l ≤ n) (h2 : n ≤ m) : bnd n l m = n := by unfold bnd; omega
theorem flat_comm' (a b : Pc) : a.flat b = b.flat a := flat_comm _ _ _ _ _ _
theorem far_comm (a b : Pc) : a.far b = b.far a := by
  have := flat_comm' a b
  unfold Pc.flat at this
  unfold Pc.far Pl.far
  omega
theorem move_okb {a b : Pc} {r : Int} (h : a.okb = true) : (moveR a b r).okb = true := by
  obtain ⟨a1, a2, a3, a4, a5⟩ := okPl_iff.1 h
  refine okPl_iff.2 ⟨?_, ?_, ?_, bnd_in (by omega), bnd_in (by omega)⟩
  · show _ ≤ (if _ then _ else _) ∧ (if _ then _ else _) ≤ _
    split
    · exact bnd_in (by omega)
    · exact bnd_in (by omega)
  · show _ ≤ (if _ then _ else _) ∧ (if _ then _ else _) ≤ _
    split
    · exact bnd_in (by omega)
    · exact a2
  · show _ ≤ (if _ then _ else _) ∧ (if _ then _ else _) ≤ _
    split
    · exact bnd_in (by omega)
    · exact a3
/-- a round that took just as long as told -/
theorem move_same {a b : Pc} (h : a.okb = true) (h' : b.okb = true) (hr : wi (a.far b) 1 5000000 = true) : (moveR a b (a.far b)).x = a.x ∧ (moveR a b (a.far b)).y = a.y ∧ (moveR a b (a.far b)).z = a.z ∧ (moveR a b (a.far b)).h = a.h ∧ (moveR a b (a.far b)).s ≤ a.s := by
  obtain ⟨a1, a2, a3, a4, a5⟩ := okPl_iff.1 h
  have p0 : pull a b (a.far b) = 0 := by unfold pull; rw [Int.sub_self, Int.zero_mul]; decide
  have hr' := wi_iff.1 hr
  have w0 : wrongP a b (a.far b) = 0 := by
    unfold wrongP
    rw [Int.sub_self]
    simp
    decide
  have w := weight_bd h h'
  have al : ∀ u v : Int, -10000000 ≤ u ∧ u ≤ 10000000 → alongP 0 (a.flat b) u v = u := fun u v hu => by
    unfold alongP
    rw [Int.zero_mul, Int.zero_tdiv, Int.add_zero]
    exact bnd_id hu.1 hu.2
  refine ⟨?_, ?_, ?_, ?_, ?_⟩
  · show (if _ then _ else _) = _
    rw [p0]
    split
    · exact al _ _ a1
    · rw [Int.add_zero]; exact bnd_id a1.1 a1.2
  · show (if _ then _ else _) = _
    rw [p0]
    split
    · exact al _ _ a2
    · rfl
  · show (if _ then _ else _) = _
    rw [p0]
    split
    · exact al _ _ a3
    · rfl
  · show bnd _ _ _ = _
    rw [p0, Int.zero_tdiv, Int.add_zero]
    exact bnd_id a4.1 a4.2
  · show bnd _ _ _ ≤ _
    rw [w0]
    have m : (0 - a.s) * weight a b ≤ 0 := Int.mul_nonpos_of_nonpos_of_nonneg (by omega) w.1
    have t : ((0 - a.s) * weight a b).tdiv 4000 ≤ 0 := by
      have e : (0 - a.s) * weight a b = -(a.s * weight a b) := by rw [Int.zero_sub, Int.neg_mul]
      rw [e, Int.neg_tdiv]
      have := tdiv_nn (x := a.s * weight a b) (y := 4000) (Int.mul_nonneg a5.1 w.1) (by omega)
      omega
    unfold bnd
    omega
theorem pl_dec (row : List V) (h : Fits [.i, .i, .i, .i, .i] row) : ∃ m : Pc, row = m.row ∧ m.ok := by
  obtain ⟨u0, _, rfl, f0, h⟩ := fits_cons h
  obtain ⟨u1, _, rfl, f1, h⟩ := fits_cons h
  obtain ⟨u2, _, rfl, f2, h⟩ := fits_cons h
  obtain ⟨u3, _, rfl, f3, h⟩ := fits_cons h
  obtain ⟨u4, _, rfl, f4, h⟩ := fits_cons h
  obtain rfl := fits_nil h
  obtain ⟨a, rfl, _⟩ := fit_i f0
  obtain ⟨b, rfl, _⟩ := fit_i f1
  obtain ⟨c, rfl, _⟩ := fit_i f2
  obtain ⟨d, rfl, _⟩ := fit_i f3
  obtain ⟨e, rfl, _⟩ := fit_i f4
  exact ⟨⟨a, b, c, d, e⟩, rfl, trivial⟩
end Go.Proofs.Ytdaffjjconlmoaa.Pl
/- Plain: maps with texts for keys, as lists. -/
namespace Go.Proofs.Ytdaffjjconlmoaa.Pl
set_option linter.unusedVariables false
/-- the entries, as the walk has them -/
def ents (l : List (ByteArray × V)) : List (Value × V) := l.map fun p => (.string p.1, p.2)
def look (k : ByteArray) : List (ByteArray × V) → Nat → Option (Nat × V)
  | [], _ => none
  | (a, v) :: es, i => if k = a then some (i, v) else look k es (i + 1)
theorem findE_str (k : ByteArray) : ∀ (l : List (ByteArray × V)) (i : Nat), findE .string (.string k) (ents l) i = some (look k l i)
  | [], i => rfl
  | (a, v) :: es, i => by
    have ih := findE_str k es (i + 1)
    unfold ents at ih
    by_cases h : k = a
    · subst h
      have hb : (k == k) = true := (Go.MapKept.bytes_beq k k).2 rfl
      simp [ents, findE, look, Instr.sameNow, hb]
    · have hb : (k == a) = false := by
        cases q : (k == a) with
        | true => exact absurd ((Go.MapKept.bytes_beq k a).1 q) h
        | false => rfl
      simp only [ents, List.map_cons, findE, look, Instr.sameNow, hb, if_neg h]
      exact ih
def put (l : List (ByteArray × V)) (k : ByteArray) (v : V) : List (ByteArray × V) := match look k l 0 with
  | some (i, _) => l.set i (k, v)
  | none => l ++ [(k, v)]
theorem putE_str (l : List (ByteArray × V)) (k : ByteArray) (v : V) : putE (ents l) (.string k) v (look k l 0) = ents (put l k v) := by
  unfold put putE
  cases h : look k l 0 with
  | none => simp [ents]
  | some p => obtain ⟨i, u⟩ := p; simp [ents, List.map_set]
theorem ents_len (l : List (ByteArray × V)) : (ents l).length = l.length := by simp [ents]
theorem look_some {k : ByteArray} : ∀ {l : List (ByteArray × V)} {i j : Nat} {v : V}, look k l i = some (j, v) → i ≤ j ∧ l[j - i]? = some (k, v)
  | [], i, j, v, h => by simp [look] at h
  | (a, u) :: es, i, j, v, h => by
    unfold look at h
    split at h
    · rename_i e
      simp only [Option.some.injEq, Prod.mk.injEq] at h
      obtain ⟨rfl, rfl⟩ := h
      subst e
      exact ⟨Nat.le_refl _, by simp⟩
    · obtain ⟨h1, h2⟩ := look_some h
      exact ⟨by omega, by rw [show j - i = (j - (i + 1)) + 1 by omega]; simpa using h2⟩
theorem look_none {k : ByteArray} : ∀ {l : List (ByteArray × V)} {i : Nat}, look k l i = none ↔ k ∉ l.map (·.1)
  | [], i => by simp [look]
  | (a, u) :: es, i => by
    unfold look
    split
    · rename_i e; subst e; simp
    · rename_i e
      rw [look_none (l := es) (i := i + 1)]
      simp [e]
open Classical in
/-- keys stay apart -/
theorem put_keys {l : List (ByteArray × V)} {k : ByteArray} {v : V} : (put l k v).map (·.1) = if k ∈ l.map (·.1) then l.map (·.1) else l.map (·.1) ++ [k] := by
  unfold put
  cases h : look k l 0 with
  | none => rw [if_neg (look_none.1 h)]; simp
  | some p =>
    obtain ⟨i, u⟩ := p
    have hk : k ∈ l.map (·.1) := Classical.byContradiction fun q => by rw [look_none.2 q] at h; cases h
    rw [if_pos hk]
    obtain ⟨_, h2⟩ := look_some h
    simp only [Nat.sub_zero] at h2
    show (l.set i (k, v)).map (·.1) = l.map (·.1)
    rw [List.map_set]
    apply List.ext_getElem? ; intro j
    rw [List.getElem?_set]
    split
    · rename_i e; subst e
      split
      · simp [h2]
      · rename_i q; simp at q; simp [q]
    · rfl
/-- so many keys as texts: none stands twice -/
structure Names (l : List (ByteArray × V)) (ns : List ByteArray) : Prop where
  mem : ∀ n, n ∈ l.map (·.1) ↔ n ∈ ns
  le : l.length ≤ ns.length
  all : l.length = ns.length ↔ ns.Nodup
  cl : ∀ p ∈ l, Cl p.2
theorem Names.nil : Names [] [] := ⟨by simp, by simp, by simp, by simp⟩
theorem Names.put {l : List (ByteArray × V)} {ns : List ByteArray} (h : Names l ns) (k : ByteArray) (v : V) (hv : Cl v) : Names (put l k v) (ns ++ [k]) := by
  have hk := put_keys (l := l) (k := k) (v := v)
  have hlen : (Pl.put l k v).length = ((Pl.put l k v).map (·.1)).length := by simp
  have hm := h.mem k
  refine ⟨fun n => ?_, ?_, ?_, fun p hp => ?_⟩
  · rw [hk]
    split
    · rename_i q
      rw [h.mem n]; simp
      intro e; subst e; exact hm.1 q
    · simp only [List.mem_append, h.mem n]
  · rw [hlen, hk]
    have := h.le
    split <;> simp <;> omega
  · rw [hlen, hk]
    split
    · rename_i q
      have := h.le
      constructor
      · intro e; simp at e; omega
      · intro e
        have := (List.nodup_append.1 e).2.2 k (hm.1 q) k (by simp)
        exact absurd rfl this
    · rename_i q
      have hq : k ∉ ns := fun e => q (hm.2 e)
      simp only [List.length_append, List.length_map, List.length_cons, List.length_nil]
      rw [List.nodup_append]
      constructor
      · intro e
        refine ⟨h.all.1 (by omega), by simp, ?_⟩
        intro a ha b hb e'
        simp at hb; subst hb; subst e'; exact hq ha
      · intro e
        have := h.all.2 e.1
        omega
  · unfold Pl.put at hp
    split at hp
    · rcases List.mem_or_eq_of_mem_set hp with q | rfl
      · exact h.cl p q
      · exact hv
    · rcases List.mem_append.1 hp with q | q
      · exact h.cl p q
      · simp at q; subst q; exact hv
end Go.Proofs.Ytdaffjjconlmoaa.Pl
/- Plain: where nodes are, and how far each name is. No program in sight. -/
namespace Go.Proofs.Ytdaffjjconlmoaa.Pl
set_option linter.unusedVariables false
structure Wh where
  nd : ByteArray
  pl : Pc
def Wh.row (x : Wh) : List V := [.v (.string x.nd), .v (.int .i64 x.pl.x), .v (.int .i64 x.pl.y), .v (.int .i64 x.pl.z), .v (.int .i64 x.pl.h), .v (.int .i64 x.pl.s)]
instance : FlatRow Wh.row := ⟨fun x u hu => by simp [Wh.row] at hu; rcases hu with rfl | rfl | rfl | rfl | rfl | rfl <;> exact ⟨_, rfl⟩⟩
def Wh.ok (x : Wh) : Prop := x.nd.size ≤ 9223372036854775807
theorem wh_dec (row : List V) (h : Fits [.s, .i, .i, .i, .i, .i] row) : ∃ m : Wh, row = m.row ∧ m.ok := by
  obtain ⟨u0, _, rfl, f0, h⟩ := fits_cons h
  obtain ⟨u1, _, rfl, f1, h⟩ := fits_cons h
  obtain ⟨u2, _, rfl, f2, h⟩ := fits_cons h
  obtain ⟨u3, _, rfl, f3, h⟩ := fits_cons h
  obtain ⟨u4, _, rfl, f4, h⟩ := fits_cons h
  obtain ⟨u5, _, rfl, f5, h⟩ := fits_cons h
  obtain rfl := fits_nil h
  obtain ⟨n, rfl, hn⟩ := fit_s f0
  obtain ⟨a, rfl, _⟩ := fit_i f1
  obtain ⟨b, rfl, _⟩ := fit_i f2
  obtain ⟨c, rfl, _⟩ := fit_i f3
  obtain ⟨d, rfl, _⟩ := fit_i f4
  obtain ⟨e, rfl, _⟩ := fit_i f5
  exact ⟨⟨n, a, b, c, d, e⟩, rfl, hn⟩
def Wh.perr (w : Wh) : Int := w.pl.err
/-- how far a name is, if anybody tells -/
def farK (f : Pc) : List Wh → ByteArray → Option Int
  | [], _ => none
  | w :: l, a => if a = w.nd then some (f.far w.pl) else farK f l a
theorem farK_snoc (f : Pc) (w : Wh) (a : ByteArray) : ∀ l : List Wh, farK f (l ++ [w]) a = (farK f l a).or (if a = w.nd then some (f.far w.pl) else none)
  | [] => by simp [farK]
  | v :: l => by
    show (if a = v.nd then some (f.far v.pl) else farK f (l ++ [w]) a) = (if a = v.nd then some (f.far v.pl) else farK f l a).or _
    split
    · rfl
    · exact farK_snoc f w a l
theorem farK_pos {f : Pc} (hf : f.okb = true) {a : ByteArray} {x : Int} : ∀ {l : List Wh}, (∀ w ∈ l, w.pl.okb = true) → farK f l a = some x → 0 ≤ x
  | [], _, h => by cases h
  | w :: l, hl, h => by
    unfold farK at h
    split at h
    · injection h with h; subst h
      exact (far_bd hf (hl w (List.mem_cons_self ..))).2.1
    · exact farK_pos hf (fun v hv => hl v (List.mem_cons_of_mem _ hv)) h
def iV (n : Int) : V := .v (.int .i64 n)
theorem look_app (k : ByteArray) (v : V) (a : ByteArray) : ∀ (E : List (ByteArray × V)) (i : Nat), look a (E ++ [(k, v)]) i = (look a E i).or (if a = k then some (i + E.length, v) else none)
  | [], i => by simp [look]
  | (b, u) :: E, i => by
    show (if a = b then some (i, u) else look a (E ++ [(k, v)]) (i + 1)) = (if a = b then some (i, u) else look a E (i + 1)).or _
    split
    · rfl
    · rw [look_app k v a E (i + 1)]
      congr 2
      simp [Nat.add_assoc, Nat.add_comm 1]
/-- the map says what the list says -/
def Tells (f : Pc) (l : List Wh) (E : List (ByteArray × V)) : Prop := ∀ a, (look a E 0).map (·.2) = (farK f l a).map iV
theorem Tells.nil (f : Pc) : Tells f [] [] := fun a => rfl
theorem Tells.old {f : Pc} {l : List Wh} {E : List (ByteArray × V)} (h : Tells f l E) {w : Wh} (hw : look w.nd E 0 ≠ none) : Tells f (l ++ [w]) E := fun a => by
  rw [h a, farK_snoc]
  by_cases e : a = w.nd
  · subst e
    have := h w.nd
    cases q : look w.nd E 0 with
    | none => exact absurd q hw
    | some r =>
      rw [q] at this
      cases q2 : farK f l w.nd with
      | none => rw [q2] at this; cases this
      | some x => rfl
  · rw [if_neg e]; cases farK f l a <;> rfl
theorem Tells.new {f : Pc} {l : List Wh} {E : List (ByteArray × V)} (h : Tells f l E) {w : Wh} (hw : look w.nd E 0 = none) : Tells f (l ++ [w]) (put E w.nd (iV (f.far w.pl))) := fun a => by
  have e : put E w.nd (iV (f.far w.pl)) = E ++ [(w.nd, iV (f.far w.pl))] := by unfold put; rw [hw]
  have hn : farK f l w.nd = none := by
    have := h w.nd
    rw [hw] at this
    cases q2 : farK f l w.nd with
    | none => rfl
    | some x => rw [q2] at this; cases this
  rw [e, look_app, farK_snoc]
  by_cases q : a = w.nd
  · subst q
    rw [hw, hn]; simp
  · rw [if_neg q, if_neg q]
    have := h a
    cases q1 : look a E 0 <;> cases q2 : farK f l a <;> rw [q1, q2] at this <;> first | rfl | cases this | exact this
theorem Tells.at_none {f : Pc} {l : List Wh} {E : List (ByteArray × V)} (h : Tells f l E) {a : ByteArray} (hf : farK f l a = none) : look a E 0 = none := by
  have := h a
  rw [hf] at this
  cases q : look a E 0 with
  | none => rfl
  | some r => rw [q] at this; cases this
theorem Tells.at_some {f : Pc} {l : List Wh} {E : List (ByteArray × V)} (h : Tells f l E) {a : ByteArray} {x : Int} (hf : farK f l a = some x) : ∃ i, look a E 0 = some (i, iV x) := by
  have := h a
  rw [hf] at this
  cases q : look a E 0 with
  | none => rw [q] at this; cases this
  | some r =>
    rw [q] at this
    obtain ⟨i, u⟩ := r
    exact ⟨i, by have e : u = iV x := by simpa using this
                 rw [e]⟩
theorem Tells.val {f : Pc} {l : List Wh} {E : List (ByteArray × V)} (h : Tells f l E) {a : ByteArray} {i : Nat} {v : V} (q : look a E 0 = some (i, v)) : ∃ x, v = iV x := by
  have := h a
  rw [q] at this
  cases q2 : farK f l a with
  | none => rw [q2] at this; cases this
  | some x => rw [q2] at this; exact ⟨x, by simpa using this⟩
theorem Tells.cl {f : Pc} {l : List Wh} {E : List (ByteArray × V)} (hE : ∀ p ∈ E, Cl p.2) : ∀ p ∈ ents E, Cl p.2 := fun p hp => by
  unfold ents at hp
  obtain ⟨q, hq, rfl⟩ := List.mem_map.1 hp
  exact hE q hq
def tRow (s : ByteArray) : List V := [.v (.string s)]
instance : FlatRow tRow := ⟨fun x u hu => by simp [tRow] at hu; exact ⟨_, hu⟩⟩
instance : OneRow tRow 1 := ⟨fun _ => rfl, fun x u hu => by simp [tRow] at hu; exact ⟨_, hu, rfl⟩⟩
theorem tx_dec (row : List V) (h : Fits [.s] row) : ∃ m : ByteArray, row = tRow m ∧ m.size ≤ 9223372036854775807 := by
  obtain ⟨u0, _, rfl, f0, h⟩ := fits_cons h
  obtain rfl := fits_nil h
  obtain ⟨n, rfl, hn⟩ := fit_s f0
  exact ⟨n, rfl, hn⟩
/-- names, sorted -/
noncomputable def sortN (f : Pc) (l : List Wh) (names : List ByteArray) : List ByteArray := names.foldl (insA (cfN (farK f l))) []
noncomputable def sortErr (f : Pc) (l : List Wh) (names : List ByteArray) : Int := if 100 < l.length ∨ 100 < names.length then 2 else if f.err ≠ 0 then f.err else firstErr Wh.perr l
theorem sortN_snoc {f : Pc} {l : List Wh} {names : List ByteArray} {k : Nat} (hk : k < names.length) : sortN f l (names.take (k + 1)) = insA (cfN (farK f l)) (sortN f l (names.take k)) names[k] := by
  unfold sortN
  rw [List.take_add_one, List.getElem?_eq_getElem hk, List.foldl_append]; rfl
theorem insA_len {c : ByteArray → ByteArray → Int} (l : List ByteArray) (x : ByteArray) : (insA c l x).length = l.length + 1 := by
  have := (insA_perm (c := c) l x).length_eq
  simpa using this
theorem foldl_len {c : ByteArray → ByteArray → Int} : ∀ (d l : List ByteArray), (d.foldl (insA c) l).length = l.length + d.length
  | [], l => by simp
  | x :: d, l => by rw [List.foldl_cons, foldl_len, insA_len, List.length_cons]; omega
theorem sortN_len {f : Pc} {l : List Wh} {names : List ByteArray} : (sortN f l names).length = names.length := by
  unfold sortN; rw [foldl_len]; simp
/-- where the first stands that is not ahead -/
theorem insA_at {c : ByteArray → ByteArray → Int} {l : List ByteArray} {x : ByteArray} {n : Nat} (hn : n ≤ l.length) (h1 : ∀ j, (h : j < l.length) → j < n → leB c l[j] x = true) (h2 : n = l.length ∨ ∃ h : n < l.length, leB c l[n] x = false) :
    insA c l x = l.take n ++ (x :: l.drop n) := by
  unfold insA
  have ht : l.takeWhile (fun y => leB c y x) = l.take n ∧ l.dropWhile (fun y => leB c y x) = l.drop n := by
    clear hn
    induction l generalizing n with
    | nil => simp
    | cons y l ih =>
      cases n with
      | zero =>
        rcases h2 with h2 | ⟨hl, h2⟩
        · simp at h2
        · simp only [List.getElem_cons_zero] at h2
          simp [h2]
      | succ n =>
        have h0 := h1 0 (by simp) (by omega)
        simp only [List.getElem_cons_zero] at h0
        have := ih (n := n) (fun j h hj => by have := h1 (j + 1) (by simpa using h) (by omega); simpa using this) (by
          rcases h2 with h2 | ⟨hl, h2⟩
          · left; simpa using h2
          · right; exact ⟨by simpa using hl, by simpa using h2⟩)
        rw [List.takeWhile_cons, List.dropWhile_cons, if_pos h0, if_pos h0]
        exact ⟨by rw [this.1]; rfl, by rw [this.2]; rfl⟩
  rw [ht.1, ht.2]
/-- how far: -1 if nobody tells -/
def farN (K : ByteArray → Option Int) (a : ByteArray) : Int := (K a).getD (-1)
theorem ahead_iff {K : ByteArray → Option Int} (h0 : ∀ a x, K a = some x → 0 ≤ x) (y x : ByteArray) :
    leB (cfN K) y x = true ↔ (farN K x < 0 ∧ 0 ≤ farN K y) ∨ ((farN K x < 0 ↔ farN K y < 0) ∧ (farN K y < farN K x ∨ (farN K y = farN K x ∧ slt x y = false))) := by
  have hs : scmp x y < 0 ↔ slt x y = true := scmp_neg
  have key : leB (cfN K) y x = true ↔ ¬ cfN K x y < 0 := by unfold leB ltOf; simp
  rw [key]
  unfold cfN farN rkN frN
  have hx := h0 x
  have hy := h0 y
  rw [← Bool.not_eq_true, ← hs]
  cases q1 : K x <;> cases q2 : K y <;> simp only [Option.isSome_none, Option.isSome_some, Option.getD_none, Option.getD_some, Bool.false_eq_true, if_false, if_true, nz_cons, firstNZ]
  · simp [icmp, nz_cons, firstNZ]; omega
  · rename_i b; have := hy b q2; simp [icmp, nz_cons, firstNZ]; omega
  · rename_i b; have := hx b q1; simp [icmp, nz_cons, firstNZ]; omega
  · rename_i b d; have := hx b q1; have := hy d q2
    simp only [icmp, nz_cons, firstNZ]
    by_cases c1 : b < d
    · simp [c1]; omega
    · by_cases c2 : d < b
      · simp [c1, c2]; omega
      · have : b = d := by omega
        subst this
        simp; omega
end Go.Proofs.Ytdaffjjconlmoaa.Pl
/- nothing of its own -/
