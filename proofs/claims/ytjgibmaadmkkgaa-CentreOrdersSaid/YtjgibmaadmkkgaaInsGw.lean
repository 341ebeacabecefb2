/- slices.Insert of one value into a row of the call's own, at hearsay/api.Gateway: whatever the capacity. -/
import Derived.Test.YtjgibmaadmkkgaaRows
import Derived.Test.YtjgibmaadmkkgaaSliceOps
import Derived.Lib.Walk
import Derived.Lib.SliceRun
import Derived.Lib.JoinLaws
import Derived.Lib.AppendZeros
namespace Go.Proofs.Ytjgibmaadmkkgaa
open Go.RowKit
set_option linter.unusedVariables false

theorem infoGw : (Try.prog.info? 37).map (fun i => (i.zero, i.size, i.bytes)) = some (some (.agg #[.string ⟨#[]⟩, .int .i64 0, .int .i64 0]), 3, 32) := by kernel_rfl

theorem cellsGw : (Try.prog.info? 37).map (·.size) = some 3 := by kernel_rfl
theorem sizeGw : ∀ w, (Go.sizeOf 37).run Try.prog w = .ok 3 w := by
  intro w
  obtain ⟨i0, hi0, hz0, hzs, hzb⟩ := info_parts infoGw
  simp [sizeOf, typeInfo, hi0, hzs]

theorem insGw_over (vb g : Nat) (vc lb cb off : Nat) (vs cur : Array Value) (w : World) (hv : Blk w vb 37 vs) (hg : Blk w g 37 cur) (hne : vb ≠ g) (hcur : cur.size ≠ 0) :
    (callFunc 102 #[.slice (some ⟨vb, 0, none⟩) 1 vc, .slice (some ⟨g, off, none⟩) lb cb]).run Try.prog w = .ok (.value (.bool false)) w := by
  rw [run_callFunc_extern Try.func102 (by kernel_rfl) (by kernel_rfl) (by kernel_rfl) (e := Extern.SlicesOverlaps.overlaps #[22, 22] #[4]) (by kernel_rfl),
    Lib.run_overlaps_apart w 22 4 37 Try.underlying22 3 sizeGw ⟨vb, 0, none⟩ ⟨g, off, none⟩ 1 vc lb cb hne 37 37 vs.size cur.size
      (by unfold Blk at hv; simp [World.shape?, hv]) (by unfold Blk at hg; simp [World.shape?, hg]) hcur (hv.frozen _) (hv.frozen _)]
  rfl

/-- what Insert leaves -/
def InsGw (L : Nat → Prop) (base n i : Nat) (xs vs : List Value) (w : World) (e : Ending) (w' : World) : Prop :=
  ∃ A' c', e = .returned (.slice A' (n + 1) c') ∧ w'.ownsRow base 37 3 (.slice A' (n + 1) c') (n + 1) (xs.take (i * 3) ++ vs ++ xs.drop (i * 3)) ∧ Fr L w w' ∧ ∀ k, (Value.slice A' (n + 1) c').ownBlock = some k → L k ∨ w.heap.size ≤ k

set_option maxHeartbeats 1000000 in
set_option maxRecDepth 100000 in
theorem insGw_end (base : Nat) (A : Option Addr) (n c : Nat) (xs : List Value) (vb vc : Nat) (vcur : Array Value) (vs : List Value) (w : World) (hown : w.ownsRow base 37 3 (.slice A n c) n xs) (hbase : base ≤ w.heap.size)
    (hn : n ≤ 1000) (hv : Blk w vb 37 vcur) (hvc : vcur.toList.take 3 = vs) (hvl : vs.length = 3) (h1 : ∀ v ∈ vs, v.oneCell' = true) :
    Calls Try.prog 73 #[.slice A n c, .int .i64 n, .slice (some ⟨vb, 0, none⟩) 1 vc] w (InsGw (LB A) base n n xs vs w) := by
  obtain ⟨i0, hi0, hz0, hzs, hzb⟩ := info_parts infoGw
  have hnc : n ≤ c ∧ c ≤ 9223372036854775807 := by
    rcases hown.2 with ⟨hv, hz⟩ | ⟨g, cap, cur, hv, _, _, h, h', _⟩
    · injection hv; omega
    · injection hv with _ _ e; subst e; exact ⟨h, h'⟩
  obtain ⟨hnc, hc63⟩ := hnc
  have hxs : xs.length = n * 3 := hown.1
  have HXS := hid hxs
  have HVL := hid hvl
  have HV := hid hv
  have HO := hid hown
  have HZ0 := hid hz0
  have HZS := hid hzs
  have HZB := hid hzb
  have HI0 := hid hi0
  clear hxs hvl hv hown hz0 hzs hzb hi0
  have hnn : ((n : Int) == (n : Int)) = true := by simp
  go_enter Try.func73, Try.ntmps73
  go_wp2_with (at_builtin; refine wpList_append_own_at _ rfl _ _ 22 rfl base 37 i0 _ 3 32 Try.underlying22 HI0.out HZ0.out HZS.out HZB.out rfl (by decide) _ _ _ rfl HO.out ⟨vb, 0, none⟩ 1 vc vs rfl (by simpa using HVL.out) (blk_at HV.out hvc) h1 (by simp only [maxLen]; omega) (by omega) hbase ?_; intro v1 w1 hown1 hg1 _ hat1)
  all_goals go_ret
  all_goals
    obtain ⟨A', c', rfl⟩ := own_form hown1
    refine ⟨A', c', rfl, ?_, (Fr.refl _ _).grown hg1 (inl_own HO.out (fun k hk => lb_of (n := n) (c := c) hk)), fun k hk => ?_⟩
    rotate_left
    · rcases hat1 with h | h
      · exact .inl (lb_of (n := n) (c := c) (h.symm.trans hk))
      · have := h.symm.trans hk
        injection this with this
        exact .inr (by omega)
    rw [List.take_of_length_le (by have := HXS.out; omega), List.drop_of_length_le (by have := HXS.out; omega), List.append_nil]
    exact hown1

set_option maxHeartbeats 2000000 in
set_option maxRecDepth 100000 in
/-- there is room, and it is not at the end: in place -/
theorem insGw_room (base g : Nat) (n c i : Nat) (cur : Array Value) (xs : List Value) (vb vc : Nat) (vcur : Array Value) (vs : List Value) (w : World) (hg : Blk w g 37 cur) (hbg : base ≤ g) (hcs : cur.size = c * 3) (hcx : cur.toList.take (n * 3) = xs)
    (hi : i < n) (hr : n + 1 ≤ c) (hc63 : c ≤ 9223372036854775807) (hn : n ≤ 1000) (hv : Blk w vb 37 vcur) (hvc : vcur.toList.take 3 = vs) (hne : vb ≠ g) (hvl : vs.length = 3) (h1 : ∀ v ∈ vs, v.oneCell' = true) (h1x : ∀ v ∈ xs, v.oneCell' = true) :
    Calls Try.prog 73 #[.slice (some ⟨g, 0, none⟩) n c, .int .i64 i, .slice (some ⟨vb, 0, none⟩) 1 vc] w (InsGw (LB (some ⟨g, 0, none⟩)) base n i xs vs w) := by
  have hcl : cur.toList.length = c * 3 := by rw [Array.length_toList]; exact hcs
  have hxl : xs.length = n * 3 := by rw [← hcx, List.length_take, hcl]; omega
  have hov : ∀ lb cb, (callFunc 102 #[.slice (some ⟨vb, 0, none⟩) 1 vc, .slice (some ⟨g, (i + 1) * 3, none⟩) lb cb]).run Try.prog w = .ok (.value (.bool false)) w := fun lb cb => insGw_over vb g vc lb cb ((i + 1) * 3) vcur cur w hv hg hne (by omega)
  have HB2 : Hid ((splice (splice cur.toList ((i + 1) * 3) (xs.drop (i * 3))) (i * 3) vs).take ((n + 1) * 3) = xs.take (i * 3) ++ vs ++ xs.drop (i * 3)) := by
    refine hid ?_
    have h := splice_room cur.toList xs vs (i * 3) (n * 3) hcx (by rw [hcl]; omega) (by omega) (by rw [hcl, hvl]; omega)
    rw [hvl] at h
    rw [Nat.add_mul, Nat.add_mul, Nat.one_mul]
    exact h
  have HC1 : Hid ((xs.drop (i * 3)).length = Nat.min (n + 1 - i) (n - i) * 3) := by
    refine hid ?_
    rw [List.length_drop, hxl, show Nat.min (n + 1 - i) (n - i) = n - i from Nat.min_eq_right (by omega), Nat.sub_mul]
  have HC2 := hid (fun j v (hj : (xs.drop (i * 3))[j]? = some v) => blk_drop hg.drew hcx (i * 3) j v hj)
  have HC3 : Hid ((i + 1) * 3 + (xs.drop (i * 3)).length ≤ cur.size) := hid (by rw [List.length_drop]; omega)
  have HC3' : Hid ((i + 1) * 3 + (xs.drop (i * 3)).length ≤ cur.toList.length) := hid (by rw [List.length_drop, hcl]; omega)
  have HC4 := hid (fun v (hv : v ∈ xs.drop (i * 3)) => h1x v (List.mem_of_mem_drop hv))
  have HC5 : Hid (vs.length = Nat.min 1 (n + 1 - i) * 3) := by
    refine hid ?_
    rw [hvl, show Nat.min 1 (n + 1 - i) = 1 from Nat.min_eq_left (by omega)]
  have HC6 : Hid (i * 3 + vs.length ≤ (splice cur.toList ((i + 1) * 3) (xs.drop (i * 3))).toArray.size) := by
    refine hid ?_
    rw [List.size_toArray, length_splice _ _ _ (by rw [hcl, ← hcs]; exact HC3.out), hcl, hvl]
    omega
  have HXL := hid hxl
  have HVL := hid hvl
  have HG := hid hg
  have HV := hid hv
  have HCS := hid hcs
  have HNE := hid hne
  have HCX := hid hcx
  clear hxl hvl hg hv hcs hne hcx
  have hw1 : IntKind.i64.wrap ((i : Int) + 1) = (i : Int) + 1 := by rw [IntWalk.i64_in _ (by omega)]
  have hb1 : (0 : Int) ≤ (i : Int) + 1 := by omega
  have htn : ((i : Int) + 1).toNat = i + 1 := by omega
  have hb3 : (i : Int) ≤ (n : Int) + 1 := by omega
  have hb4 : (i : Int) + 1 ≤ (n : Int) + 1 := by omega
  have hb5 : (i : Int) ≤ (n : Int) := by omega
  have hb6 : ¬ c = i := by omega
  have hb7 : ¬ c = i + 1 := by omega
  have hb8 : ((i : Int) == (n : Int)) = false := by simp; omega
  go_enter Try.func73, Try.ntmps73
  go_wp2_with (simp only [hov])
  go_region_law (refine step_copyN rfl (.tmp 73) (.tmp 76) 22 22 rfl 37 3 Try.underlying22 cellsGw g ((i + 1) * 3) (n - i) (c - (i + 1)) ⟨g, i * 3, none⟩ (n + 1 - i) (c - i) (by simp [Act.eval, Act.put]) (by simp [Act.eval, Act.put]) cur 37 HG.out.drew (xs.drop (i * 3)) HC1.out HC2.out HC3.out HC4.out ?_; intro w1 hk1 hg1)
  have HK1 := hid hk1
  have HG1 := hid hg1
  have HV1 := hid (HV.out.drew.grown hg1 (fun e => HNE.out (by injection e)))
  clear hk1 hg1
  go_wp2_with (refine wpList_copyN rfl (.tmp 80) (.tmp 81) 22 22 rfl 37 3 Try.underlying22 cellsGw g (i * 3) (n + 1 - i) (c - i) ⟨vb, 0, none⟩ 1 vc (by simp [Act.eval]) (by simp [Act.eval]) _ 37 HK1.out vs HC5.out (blk_at HV1.out hvc) HC6.out h1 ?_; intro w2 hk2 hg2)
  go_ret
  refine ⟨_, _, rfl, ⟨?_, .inr ⟨g, c, _, rfl, hbg, hk2, by omega, by simpa [maxLen] using hc63, ?_, ?_⟩⟩, ?_, fun k hk => .inl ⟨_, rfl, by injection hk with hk⟩⟩
  · simp only [List.length_append, List.length_take, List.length_drop]
    have := HXL.out; have := HVL.out
    omega
  · have h1 := length_splice cur.toList ((i + 1) * 3) (xs.drop (i * 3)) HC3'.out
    have h2 := length_splice (splice cur.toList ((i + 1) * 3) (xs.drop (i * 3))) (i * 3) vs (by simpa using HC6.out)
    rw [List.size_toArray, List.toList_toArray, h2, h1]
    simpa using HCS.out
  · rw [List.toList_toArray, List.toList_toArray]
    exact HB2.out
  · have hlt := HG.out.lt
    exact ((Fr.refl _ w).drew.grown HG1.out (fun k hk => .inl (⟨_, rfl, by injection hk with hk⟩))).grown hg2 (fun k hk => .inl (⟨_, rfl, by injection hk with hk⟩))

set_option maxHeartbeats 2000000 in
set_option maxRecDepth 100000 in
/-- there is no room, and it is not at the end: a new row -/
theorem insGw_grow (base g : Nat) (n c i : Nat) (cur : Array Value) (xs : List Value) (vb vc : Nat) (vcur : Array Value) (vs : List Value) (w : World) (hg : Blk w g 37 cur) (hbase : base ≤ w.heap.size) (hcs : cur.size = c * 3) (hcx : cur.toList.take (n * 3) = xs)
    (hi : i < n) (hnc : n ≤ c) (hr : c < n + 1) (hn : n ≤ 1000) (hv : Blk w vb 37 vcur) (hvc : vcur.toList.take 3 = vs) (hvl : vs.length = 3) (h1 : ∀ v ∈ vs, v.oneCell' = true) (h1x : ∀ v ∈ xs, v.oneCell' = true) :
    Calls Try.prog 73 #[.slice (some ⟨g, 0, none⟩) n c, .int .i64 i, .slice (some ⟨vb, 0, none⟩) 1 vc] w (InsGw (LB (some ⟨g, 0, none⟩)) base n i xs vs w) := by
  obtain ⟨i0, hi0, hz0, hzs, hzb⟩ := info_parts infoGw
  have hcl : cur.toList.length = c * 3 := by rw [Array.length_toList]; exact hcs
  have hxl : xs.length = n * 3 := by rw [← hcx, List.length_take, hcl]; omega
  have hold : (Builtin.firstCells i0.size i (.slice (some ⟨g, 0, none⟩) i c)).run Try.prog w.drew = .ok (xs.take (i * 3)).toArray w.drew := by
    rw [hzs]
    exact run_firstCells_some w.drew 3 i ⟨g, 0, none⟩ i c (xs.take (i * 3)) (by rw [List.length_take]; omega) (fun j v hj => by
      have hj' : (xs.drop 0)[j]? = some v := by
        rw [List.drop_zero]
        rw [List.getElem?_take] at hj
        split at hj
        · exact hj
        · cases hj
      exact blk_drop hg.drew hcx 0 j v hj')
  have hkk : (n : Int) + 1 - (i : Int) = ((n + 1 - i : Nat) : Int) := by omega
  have hik : i + (n + 1 - i) = n + 1 := by omega
  obtain ⟨G, hG⟩ : ∃ G, G = grownCap w (n + 1) c 37 := ⟨_, rfl⟩
  have hGn : n + 1 ≤ G := by rw [hG]; exact grownCap_ge w _ _ _
  have hG63 : G ≤ 9223372036854775807 := by
    have := grownCap_le_maxLen w (n + 1) c 37 (by unfold maxLen; omega)
    rw [← hG] at this
    unfold maxLen at this
    omega
  obtain ⟨ROW, hROW⟩ : ∃ ROW : Array Value, ROW = (xs.take (i * 3)).toArray ++ Builtin.zeroCells (Value.agg #[.string ⟨#[]⟩, .int .i64 0, .int .i64 0]).cells (n + 1 - i) ++ Builtin.zeroCells (Value.agg #[.string ⟨#[]⟩, .int .i64 0, .int .i64 0]).cells (G - (n + 1)) := ⟨_, rfl⟩
  have hrz : ∀ ty, (Builtin.append_ #[22, 3] ty #[.slice (some ⟨g, 0, none⟩) i c, .int .i64 ((n : Int) + 1 - (i : Int))]).run Try.prog w =
      .ok (.slice (some ⟨w.heap.size, 0, none⟩) (n + 1) G) (w.drew.alloc (.cells ROW 37)) := fun ty => by
    have h := Lib.run_append_grow_zeros w 22 3 ty 37 i0 _ .i64 .i64 Try.underlying22 Try.underlying3 hi0 hz0 (some ⟨g, 0, none⟩) i c (xs.take (i * 3)) hold (n + 1 - i) (by omega) (by omega) (by omega) (by omega) (by rw [hzb]; omega) (by rw [hzb, hik]; exact growslice_fits hr (by omega))
    rw [hik] at h
    rw [hkk, hROW, hG]
    exact h
  have hRs : ROW.size = G * 3 := by
    rw [hROW]
    simp [Builtin.zeroCells, Value.cells]
    omega
  have hRl : ROW.toList.length = G * 3 := by rw [Array.length_toList]; exact hRs
  have hRt : ROW.toList.take (i * 3) = xs.take (i * 3) := by
    rw [hROW, Array.toList_append, Array.toList_append, List.append_assoc, List.take_append_of_le_length (by simp; omega), List.toList_toArray, List.take_take, Nat.min_self]
  have HB2 : Hid ((splice (splice ROW.toList (i * 3) vs) ((i + 1) * 3) (xs.drop (i * 3))).take ((n + 1) * 3) = xs.take (i * 3) ++ vs ++ xs.drop (i * 3)) := by
    refine hid ?_
    have h := splice_new ROW.toList xs vs (i * 3) (n * 3) hRt hxl (by omega) (by rw [hRl, hvl]; omega)
    rw [hvl] at h
    rw [Nat.add_mul, Nat.add_mul, Nat.one_mul]
    exact h
  have hgl := hg.lt
  have hvlt := hv.lt
  have HN := hid (Blk.new_ w.drew 37 ROW (g := w.heap.size) rfl)
  have HV := hid ((hv.drew).alloc (.cells ROW 37))
  have HG0 := hid ((hg.drew).alloc (.cells ROW 37))
  have HC1 : Hid (vs.length = Nat.min 1 (n + 1 - i) * 3) := by
    refine hid ?_
    rw [hvl, show Nat.min 1 (n + 1 - i) = 1 from Nat.min_eq_left (by omega)]
  have HC2 : Hid (i * 3 + vs.length ≤ ROW.size) := hid (by rw [hRs, hvl]; omega)
  have HC2' : Hid (i * 3 + vs.length ≤ ROW.toList.length) := hid (by rw [hRl, hvl]; omega)
  have HC3 : Hid ((xs.drop (i * 3)).length = Nat.min (n - i) (n - i) * 3) := by
    refine hid ?_
    rw [List.length_drop, hxl, show Nat.min (n - i) (n - i) = n - i from Nat.min_self _, Nat.sub_mul]
  have HC4 : Hid ((i + 1) * 3 + (xs.drop (i * 3)).length ≤ (splice ROW.toList (i * 3) vs).toArray.size) := by
    refine hid ?_
    rw [List.size_toArray, length_splice _ _ _ HC2'.out, hRl, List.length_drop]
    omega
  have HC5 := hid (fun v (hv : v ∈ xs.drop (i * 3)) => h1x v (List.mem_of_mem_drop hv))
  have HRL := hid hRl
  have HXL := hid hxl
  have HVL := hid hvl
  have HCX := hid hcx
  have HRS := hid hRs
  have HNE : Hid (w.heap.size ≠ g) := hid (by omega)
  have HNV : Hid (w.heap.size ≠ vb) := hid (by omega)
  clear hRl hxl hvl hcx hRs hold hi0 hz0 hzs hzb hkk hik hROW hG hg hv hcs hcl hRt
  have hw1 : IntKind.i64.wrap ((i : Int) + 1) = (i : Int) + 1 := by rw [IntWalk.i64_in _ (by omega)]
  have hb1 : (0 : Int) ≤ (i : Int) + 1 := by omega
  have htn : ((i : Int) + 1).toNat = i + 1 := by omega
  have hb3 : (i : Int) ≤ (n : Int) + 1 := by omega
  have hb4 : (i : Int) + 1 ≤ (n : Int) + 1 := by omega
  have hb5 : (i : Int) ≤ (n : Int) := by omega
  have hb6 : ¬ c = i := by omega
  have hb7 : ¬ G = i + 1 := by omega
  have hb9 : ¬ G = i := by omega
  have hb8 : ((i : Int) == (n : Int)) = false := by simp; omega
  go_enter Try.func73, Try.ntmps73
  go_wp2_with (first
    | (at_builtin; refine Lib.wpList_append_run _ rfl _ _ _ _ rfl _ _ rfl rfl _ _ (hrz _) ?_; clear hrz)
    | (refine wpList_copyN rfl (.tmp 43) (.tmp 44) 22 22 rfl 37 3 Try.underlying22 cellsGw w.heap.size (i * 3) (n + 1 - i) (G - i) ⟨vb, 0, none⟩ 1 vc (by simp [Act.eval]) (by simp [Act.eval]) ROW 37 HN.out.drew vs HC1.out (blk_at HV.out.drew hvc) HC2.out h1 ?_; intro w1 hk1 hg1))
  have HK1 := hid hk1
  have HG1 := hid hg1
  have HG0' := hid ((show Blk (w.alloc (.cells ROW 37)).drew g 37 cur from HG0.out).grown hg1 (fun e => HNE.out (by injection e with e; exact e.symm)))
  have HC2a := hid (fun j v (hj : (xs.drop (i * 3))[j]? = some v) => blk_drop HG0'.out.drew HCX.out (i * 3) j v hj)
  clear hk1 hg1
  go_region_law (refine step_copyN rfl (.tmp 50) (.tmp 53) 22 22 rfl 37 3 Try.underlying22 cellsGw w.heap.size ((i + 1) * 3) (n - i) (G - (i + 1)) ⟨g, i * 3, none⟩ (n - i) (c - i) (by simp [Act.eval, Act.put]) (by simp [Act.eval, Act.put]) _ 37 HK1.out.drew (xs.drop (i * 3)) HC3.out HC2a.out HC4.out HC5.out ?_; intro w2 hk2 hg2)
  have HK2 := hid hk2
  have HG2 := hid hg2
  clear hk2 hg2
  go_wp2
  go_ret
  refine ⟨_, _, rfl, ⟨?_, .inr ⟨w.heap.size, G, _, rfl, hbase, HK2.out, hGn, by simpa [maxLen] using hG63, ?_, ?_⟩⟩, ?_, fun k hk => .inr (Nat.le_of_eq (show w.heap.size = k by injection hk))⟩
  · simp only [List.length_append, List.length_take, List.length_drop]
    have := HXL.out; have := HVL.out
    omega
  · have h1 := length_splice ROW.toList (i * 3) vs HC2'.out
    have h2 := length_splice (splice ROW.toList (i * 3) vs) ((i + 1) * 3) (xs.drop (i * 3)) (by simpa using HC4.out)
    rw [List.size_toArray, List.toList_toArray, h2, h1]
    simpa using HRS.out
  · rw [List.toList_toArray, List.toList_toArray]
    exact HB2.out
  · exact ((((Fr.refl _ w).alloc _).drew.grown HG1.out (fun k hk => .inr (by injection hk with hk; omega))).drew).grown HG2.out (fun k hk => .inr (by injection hk with hk; omega))

/-- whatever the capacity -/
theorem insGw_any (base : Nat) (A : Option Addr) (n c i : Nat) (xs : List Value) (vb vc : Nat) (vcur : Array Value) (vs : List Value) (w : World) (hown : w.ownsRow base 37 3 (.slice A n c) n xs) (hbase : base ≤ w.heap.size)
    (hi : i ≤ n) (hn : n ≤ 1000) (hv : Blk w vb 37 vcur) (hvc : vcur.toList.take 3 = vs) (hne : (Value.slice A n c).ownBlock ≠ some vb) (hvl : vs.length = 3) (h1 : ∀ v ∈ vs, v.oneCell' = true) (h1x : ∀ v ∈ xs, v.oneCell' = true) :
    Calls Try.prog 73 #[.slice A n c, .int .i64 i, .slice (some ⟨vb, 0, none⟩) 1 vc] w (InsGw (LB A) base n i xs vs w) := by
  by_cases hin : i = n
  · subst hin
    exact insGw_end base A i c xs vb vc vcur vs w hown hbase hn hv hvc hvl h1
  · obtain ⟨hl, h2⟩ := hown
    rcases h2 with ⟨_, h0⟩ | ⟨g, cap, cur, hA, hbg, hh, hnc, hm, hsz, htk⟩
    · omega
    · injection hA with hA _ hcap
      subst hA; subst hcap
      have hne' : vb ≠ g := fun e => hne (by subst e; rfl)
      by_cases hr : n + 1 ≤ c
      · exact insGw_room base g n c i cur xs vb vc vcur vs w hh hbg hsz htk (by omega) hr (by simpa [maxLen] using hm) hn hv hvc hne' hvl h1 h1x
      · exact insGw_grow base g n c i cur xs vb vc vcur vs w hh hbase hsz htk (by omega) hnc (by omega) hn hv hvc hvl h1 h1x
end Go.Proofs.Ytjgibmaadmkkgaa
