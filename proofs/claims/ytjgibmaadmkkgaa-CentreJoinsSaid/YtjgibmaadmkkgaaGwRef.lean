/- The walks of the reference's GatewayAt, PutGateway, SameGateways. -/
import Derived.Test.YtjgibmaadmkkgaaGwW
import Derived.Test.YtjgibmaadmkkgaaInsGw
import Derived.Test.YtjgibmaadmkkgaaPlainPut
import Derived.Laws.StructEq
namespace Go.Proofs.Ytjgibmaadmkkgaa
open Go.RowKit Pl
set_option linter.unusedVariables false

/-- the gateway of that centre -/
def Gw.is (name : ByteArray) (g : Gw) : Bool := g.c.toList == name.toList

def Srch {α : Type} (p : α → Bool) (l : List α) (i : Value) : Prop := ∃ k : Nat, k ≤ l.length ∧ i = .int .i64 k ∧ ∀ j, (h : j < l.length) → j < k → p l[j] = false

set_option maxRecDepth 100000 in
theorem GatewayAt_any (A : Option Addr) (c : Nat) (l : List Gw) (name : ByteArray) (w : World) (hl : RL Gw.enc 3 w A l) (hn : l.length ≤ 9223372036854775807) :
    Calls Try.prog 30 #[.slice A l.length c, .string name] w fun e w' => e = .returned (.int .i64 (at_ (Gw.is name) l)) ∧ w = w' := by
  go_enter Try.func30, Try.ntmps30
  go_wp2
  go_loop [5] (fun i => Srch (Gw.is name) l i) (fun i => l.length - (intOf i).toNat)
  case atStart => exact ⟨0, Nat.zero_le _, rfl, fun j _ h => absurd h (by omega)⟩
  case round =>
    obtain ⟨k, hk, rfl, h0⟩ := hrel
    have H0 := hid h0
    clear h0
    by_cases hlt : k < l.length
    · obtain ⟨b, off, rfl, hb, hc⟩ := hl.at_ hlt
      have g0 : w.cell? ⟨b, off + k * 3, none⟩ = some (.string (l[k]).c) := hc 0 _ rfl
      clear hc
      rcases Bool.eq_false_or_eq_true (Gw.is name l[k]) with q | q
      · have HE := hid (at_yes hlt H0.out q)
        have q' : ((l[k]).c.toList == name.toList) = true := q
        clear q
        generalize l[k] = g at *
        go_wp2
        go_ret
        exact ⟨ret_int HE.out.symm, rfl⟩
      · have HN : Hid (∀ j, (h : j < l.length) → j < k + 1 → Gw.is name l[j] = false) := hid (fun j hj hjk => by
          rcases (by omega : j < k ∨ j = k) with g | rfl
          · exact H0.out j hj g
          · exact q)
        have q' : ((l[k]).c.toList == name.toList) = false := q
        clear q
        generalize l[k] = g at *
        go_wp2
        go_round
        case rel => exact ⟨k + 1, by omega, by go_num, HN.out⟩
        case measure => simp [intOf]; omega
    · have HE := hid (at_no (p := Gw.is name) (fun j h => H0.out j h (by omega)))
      go_wp2
      go_ret
      exact ⟨ret_int HE.out.symm, rfl⟩

/-- are two the same? -/
def Gw.same (g h : Gw) : Bool := g.c.toList == h.c.toList && g.a == h.a && g.v == h.v
theorem eqGw (g h : Gw) (w : World) : (binOp .neq 37 (.agg #[.string g.c, .int .i64 g.a, .int .i64 g.v]) (.agg #[.string h.c, .int .i64 h.a, .int .i64 h.v])).run Try.prog w = .ok (.bool (!(Gw.same g h))) w := by
  have hS : Try.prog.underlying 37 = some (.struct (Try.prog.fieldsOf 37)) := by kernel_rfl
  have hp : Try.prog.stoodInHeld 37 = false := by kernel_rfl
  have i1 := Try.isAgg3
  have z1 := Try.sizeOf3
  have i2 := Try.isAgg9
  have z2 := Try.sizeOf9
  have u1 := Try.underlying3
  have u2 := Try.underlying9
  rw [run_neq_struct, show (10000 : Nat) = 9999 + 1 from rfl, run_equalIn_agg w 9999 37 _ _ hS hp]
  simp only [Program.fieldsOf, Try.underlying37]
  go_simp
  unfold Gw.same
  by_cases h1 : g.c.toList = h.c.toList <;> by_cases h2 : g.a = h.a <;> by_cases h3 : g.v = h.v <;> simp [h1, h2, h3]

/-- are two lists the same, as the reference asks? -/
def sameL {α : Type} (e : α → α → Bool) (a b : List α) : Bool := decide (a.length = b.length) && (List.zip a b).all fun x => e x.1 x.2
theorem sameL_no {α : Type} {e : α → α → Bool} {a b : List α} (h : a.length ≠ b.length) : sameL e a b = false := by simp [sameL, h]
theorem sameL_at {α : Type} {e : α → α → Bool} {a b : List α} {k : Nat} (h1 : k < a.length) (h2 : k < b.length) (h : e a[k] b[k] = false) : sameL e a b = false := by
  unfold sameL
  rw [Bool.and_eq_false_iff]
  right
  rw [List.all_eq_false]
  refine ⟨(a[k], b[k]), ?_, by simp [h]⟩
  rw [List.mem_iff_getElem]
  exact ⟨k, by simp; omega, by simp⟩
theorem sameL_yes {α : Type} {e : α → α → Bool} {a b : List α} (hl : a.length = b.length) (h : ∀ k, (h1 : k < a.length) → (h2 : k < b.length) → e a[k] b[k] = true) : sameL e a b = true := by
  unfold sameL
  rw [Bool.and_eq_true_iff]
  refine ⟨by simpa using hl, ?_⟩
  rw [List.all_eq_true]
  intro x hx
  rw [List.mem_iff_getElem] at hx
  obtain ⟨k, hk, rfl⟩ := hx
  rw [List.length_zip] at hk
  simp only [List.getElem_zip]
  exact h k (by omega) (by omega)

/-- the relation of the loop over two lists -/
def Same2 {α : Type} (e : α → α → Bool) (a b : List α) (w wr : World) (i : Value) : Prop := ∃ k : Nat, k ≤ a.length ∧ i = .int .i64 k ∧ (∀ j, (h1 : j < a.length) → (h2 : j < b.length) → j < k → e a[j] b[j] = true) ∧ Below w.heap.size w wr

set_option maxRecDepth 100000 in
theorem SameGateways_any (A B : Option Addr) (c d : Nat) (a b : List Gw) (w : World) (ha : RL Gw.enc 3 w A a) (hb : RL Gw.enc 3 w B b) (hn : a.length ≤ 9223372036854775807) (hn' : b.length ≤ 9223372036854775807) :
    Calls Try.prog 58 #[.slice A a.length c, .slice B b.length d] w fun e w' => e = .returned (.bool (sameL Gw.same a b)) ∧ Below w.heap.size w w' := by
  by_cases hlen : a.length = b.length
  · have hli : ((a.length : Int) == (b.length : Int)) = true := by simp; omega
    go_enter Try.func58, Try.ntmps58
    go_wp2
    go_loopw [5] (fun i wr => Same2 Gw.same a b w wr i) (fun i _ => a.length - (intOf i).toNat)
    case atStart => exact ⟨0, Nat.zero_le _, rfl, fun j _ _ h => absurd h (by omega), Below.refl _ _⟩
    case round =>
      obtain ⟨k, hk, rfl, h0, hB⟩ := hrel
      have H0 := hid h0
      have HB := hid hB
      have HLa := hid (ha.below' hB)
      have HLb := hid (hb.below' hB)
      have HLEN := hid hlen
      clear h0 hB hli
      by_cases hlt : k < a.length
      · have hlt' : k < b.length := by omega
        obtain ⟨b1, off1, rfl, hb1, hc1⟩ := HLa.out.at_ hlt
        obtain ⟨b2, off2, rfl, hb2, hc2⟩ := HLb.out.at_ hlt'
        have g0 : wr.cell? ⟨b1, off1 + k * 3, none⟩ = some (.string (a[k]).c) := hc1 0 _ rfl
        have g1 : wr.cell? ⟨b1, off1 + k * 3 + 1, none⟩ = some (.int .i64 (a[k]).a) := hc1 1 _ rfl
        have g2 : wr.cell? ⟨b1, off1 + k * 3 + 2, none⟩ = some (.int .i64 (a[k]).v) := hc1 2 _ rfl
        have f0 : wr.cell? ⟨b2, off2 + k * 3, none⟩ = some (.string (b[k]).c) := hc2 0 _ rfl
        have f1 : wr.cell? ⟨b2, off2 + k * 3 + 1, none⟩ = some (.int .i64 (b[k]).a) := hc2 1 _ rfl
        have f2 : wr.cell? ⟨b2, off2 + k * 3 + 2, none⟩ = some (.int .i64 (b[k]).v) := hc2 2 _ rfl
        have HN := hid (fun (q : Gw.same a[k] b[k] = true) j (h1 : j < a.length) (h2 : j < b.length) (hjk : j < k + 1) => (show Gw.same a[j] b[j] = true from by
          rcases (by omega : j < k ∨ j = k) with g | rfl
          · exact H0.out j h1 h2 g
          · exact q))
        have HX := hid (fun (q : Gw.same a[k] b[k] = false) => sameL_at hlt hlt' q)
        have hi0 : (0 : Int) ≤ (k : Int) := by omega
        have hi1 : (k : Int) < (a.length : Int) := by omega
        have hi2 : (k : Int) < (b.length : Int) := by omega
        clear hc1 hc2 HLa HLb hlen
        generalize a[k] = g at *
        generalize b[k] = f at *
        have he := eqGw g f
        rcases Bool.eq_false_or_eq_true (Gw.same g f) with q | q
        · rw [q] at he
          clear ha hb
          have Q := hid q
          clear q
          go_wp2_with fail
          go_quiet (fail)
          go_wp2
          go_roundw
          case rel => exact ⟨k + 1, by omega, by go_num, HN.out Q.out, below_drewN HB.out _⟩
          case measure => simp [intOf]; omega
        · rw [q] at he
          clear ha hb
          have Q := hid q
          clear q
          go_wp2_with fail
          go_quiet (fail)
          go_wp2
          go_ret
          exact ⟨ret_bool (HX.out Q.out).symm, below_drewN HB.out _⟩
      · have HE := hid (sameL_yes (e := Gw.same) hlen (fun j h1 h2 => H0.out j h1 h2 (by omega)))
        clear hlen
        go_wp2
        go_ret
        exact ⟨ret_bool HE.out.symm, HB.out⟩
  · have hli : ((a.length : Int) == (b.length : Int)) = false := by simp; omega
    have HE := hid (sameL_no (e := Gw.same) hlen)
    clear hlen
    go_enter Try.func58, Try.ntmps58
    go_wp2
    go_ret
    exact ⟨ret_bool HE.out.symm, Below.refl _ _⟩

/-- the relation of the loop that puts -/
def Put {α : Type} (enc : α → List Value) (sz : Nat) (T : TypeId) (ge ne : α → Bool) (x : α) (l : List α) (w wr : World) (out put i : Value) : Prop :=
  ∃ (k : Nat) (A' : Option Addr) (c' : Nat), k ≤ l.length ∧ i = .int .i64 k ∧ put = .bool (putTo ge ne x (l.take k)).2 ∧ out = .slice A' (putTo ge ne x (l.take k)).1.length c' ∧
    wr.ownsRow (w.heap.size + 1) T sz (.slice A' (putTo ge ne x (l.take k)).1.length c') (putTo ge ne x (l.take k)).1.length ((putTo ge ne x (l.take k)).1.flatMap enc) ∧ w.heap.size + 1 ≤ wr.heap.size ∧
    Below (w.heap.size + 1) (w.alloc (.cells (enc x).toArray T)) wr
/-- what Put leaves -/
def PutOut {α : Type} (enc : α → List Value) (sz : Nat) (T : TypeId) (r : List α) (w : World) (e : Ending) (w' : World) : Prop :=
  ∃ A' c', e = .returned (.slice A' r.length c') ∧ w'.ownsRow (w.heap.size + 1) T sz (.slice A' r.length c') r.length (r.flatMap enc) ∧ Below w.heap.size w w'

theorem put_facts {α : Type} {enc : α → List Value} {x : α} {T : TypeId} {w W : World} (hB : Below (w.heap.size + 1) (w.alloc (.cells (enc x).toArray T)) W) : Below w.heap.size w W ∧ Blk W w.heap.size T (enc x).toArray :=
  ⟨((Below.refl _ _).alloc (Nat.le_refl _) _).trans (hB.mono (by omega)), (Blk.new w T (enc x).toArray).below hB (by omega)⟩
theorem put_grown {X w W' : World} {B n : Nat} {o : Obj} {v : Value} (hv : ∀ k, v.ownBlock = some k → B ≤ k) (hB : Below B X w) (hs : B ≤ w.heap.size) (hg : ((w.drewN n).alloc o).grownBy W' v.ownBlock) : Below B X W' :=
  ((below_drewN hB n).alloc hs o).grown hg (by show B ≤ (w.alloc o).heap.size; simp; omega) hv
/-- does it stand at or behind? is it another centre's? -/
def Gw.ge (x g : Gw) : Bool := !(slt g.c x.c)
def Gw.ne (x g : Gw) : Bool := !(g.c.toList == x.c.toList)

set_option maxHeartbeats 2000000 in
set_option maxRecDepth 100000 in
theorem PutGateway_any (A : Option Addr) (c : Nat) (l : List Gw) (x : Gw) (w : World) (hl : RL Gw.enc 3 w A l) (hn : l.length ≤ 300) :
    Calls Try.prog 76 #[.slice A l.length c, .agg #[.string x.c, .int .i64 x.a, .int .i64 x.v]] w (PutOut Gw.enc 3 37 (putL (Gw.ge x) (Gw.ne x) x l) w) := by
  obtain ⟨i0, hi0, hz0, hzs, hzb⟩ := info_parts infoGw
  have HZ0 := hid hz0
  have HZS := hid hzs
  have HZB := hid hzb
  have HI0 := hid hi0
  clear hz0 hzs hzb hi0
  go_enter Try.func76, Try.ntmps76
  go_wp2
  go_loopw [5, 6, 7] (fun out put i wr => Put Gw.enc 3 37 (Gw.ge x) (Gw.ne x) x l w wr out put i) (fun _ _ i _ => l.length - (intOf i).toNat)
  case atStart => exact ⟨0, none, 0, Nat.zero_le _, rfl, rfl, rfl, World.ownsRow_nil _ _ _ _, by simp, Below.refl _ _⟩
  case round =>
    obtain ⟨k, A', c', hk, rfl, rfl, rfl, hown, hsz, hB⟩ := hrel
    by_cases hlt : k < l.length
    · have HSTEP := hid (putTo_next (ge := Gw.ge x) (ne := Gw.ne x) (g := x) hlt)
      have hlen : (putTo (Gw.ge x) (Gw.ne x) x (l.take k)).1.length ≤ 2 * k := putTo_len k _ (by rw [List.length_take]; omega)
      generalize hst : putTo (Gw.ge x) (Gw.ne x) x (l.take k) = st at *
      obtain ⟨out, put⟩ := st
      dsimp only at *
      clear hst
      have HOWN := hid hown
      have HSZ := hid hsz
      obtain ⟨hBw, hBx⟩ := put_facts hB
      have HB := hid hB
      have cx : ∀ i, wr.cell? ⟨w.heap.size, i, none⟩ = (#[.string x.c, .int .i64 x.a, .int .i64 x.v])[i]? := hBx.cell
      have HL0 := hid hl
      obtain ⟨b, off, rfl, hb, hc⟩ := (hl.below' hBw).at_ hlt
      have HL := hid hl
      clear hl HL0
      have g0 : wr.cell? ⟨b, off + k * 3, none⟩ = some (.string (l[k]).c) := hc 0 _ rfl
      have g1 : wr.cell? ⟨b, off + k * 3 + 1, none⟩ = some (.int .i64 (l[k]).a) := hc 1 _ rfl
      have g2 : wr.cell? ⟨b, off + k * 3 + 2, none⟩ = some (.int .i64 (l[k]).v) := hc 2 _ rfl
      have hi0 : (0 : Int) ≤ (k : Int) := by omega
      have hi1 : (k : Int) < (l.length : Int) := by omega
      clear hc hBw hBx hown hB
      generalize hgk : l[k] = g at *
      have HGK := hid hgk
      clear hgk
      rcases Bool.eq_false_or_eq_true put with rfl | rfl
      · rcases Bool.eq_false_or_eq_true (Gw.ne x g) with q3 | q3
        · -- case A1
          have HST : Hid (putTo (Gw.ge x) (Gw.ne x) x (l.take (k + 1)) = (out ++ [g], true)) := hid (by rw [HSTEP.out]; simp [putStep, q3])
          have hne : (g.c.toList == x.c.toList) = false := by simpa [Gw.ne] using q3
          clear q3 HSTEP
          go_wp2_with fail
          go_quiet (fail)
          go_wp2_with fail
          go_quiet (fail)
          go_wp2_with (at_builtin; refine wpList_append_own_at _ rfl (.tmp 38) (.tmp 43) 22 rfl (w.heap.size + 1) 37 i0 _ 3 32 Try.underlying22 HI0.out HZ0.out HZS.out HZB.out rfl (by decide) _ _ _ rfl (own_at HOWN.out rfl) ⟨wr.heap.size, 0, none⟩ 1 1 (Gw.enc g) rfl rfl (news_at (w := wr) rfl) (Gw.enc_one g) (by simp only [maxLen]; omega) (by omega) (by simp; omega) ?_; intro v2 w2 hown2 hg2 _ hat2)
          obtain ⟨A2, c2, rfl⟩ := own_form hown2
          have HB2 := hid (put_grown (own_base HOWN.out) HB.out HSZ.out hg2)
          have hz2 := hg2.size
          simp at hz2
          have HOWN2 := hid hown2
          clear hown2 hg2 hat2
          go_wp2
          go_roundw
          case rel => exact ⟨k + 1, A2, c2, by omega, by go_num, by rw [HST.out], by rw [HST.out]; simp, by rw [HST.out]; simpa using HOWN2.out, by omega, HB2.out⟩
          case measure => simp [intOf]; omega
        · -- case A2
          have HST : Hid (putTo (Gw.ge x) (Gw.ne x) x (l.take (k + 1)) = (out, true)) := hid (by rw [HSTEP.out]; simp [putStep, q3])
          have hne : (g.c.toList == x.c.toList) = true := by simpa [Gw.ne] using q3
          clear q3 HSTEP
          go_wp2_with fail
          go_quiet (fail)
          go_wp2_with fail
          go_quiet (fail)
          go_wp2
          go_roundw
          case rel => exact ⟨k + 1, A', c', by omega, by go_num, by rw [HST.out], by rw [HST.out], by rw [HST.out]; exact own_heap HOWN.out rfl, HSZ.out, below_drewN HB.out _⟩
          case measure => simp [intOf]; omega
      · rcases Bool.eq_false_or_eq_true (Gw.ge x g) with q2 | q2
        · rcases Bool.eq_false_or_eq_true (Gw.ne x g) with q3 | q3
          · -- case B1
            have HST : Hid (putTo (Gw.ge x) (Gw.ne x) x (l.take (k + 1)) = (out ++ [x] ++ [g], true)) := hid (by rw [HSTEP.out]; simp [putStep, q2, q3])
            have hne : (g.c.toList == x.c.toList) = false := by simpa [Gw.ne] using q3
            have hge : Op.bytesLess g.c.toList x.c.toList = false := by simpa [Gw.ge, slt] using q2
            clear q3 HSTEP
            clear q2
            go_wp2_with fail
            go_quiet (fail)
            go_wp2_with (at_builtin; refine wpList_append_own_at _ rfl (.tmp 26) (.tmp 28) 22 rfl (w.heap.size + 1) 37 i0 _ 3 32 Try.underlying22 HI0.out HZ0.out HZS.out HZB.out rfl (by decide) _ _ _ rfl (own_at HOWN.out rfl) ⟨wr.heap.size, 0, none⟩ 1 1 (Gw.enc x) rfl rfl (news_at (w := wr) rfl) (Gw.enc_one x) (by simp only [maxLen]; omega) (by omega) (by simp; omega) ?_; intro v1 w1 hown1 hg1 _ hat1)
            obtain ⟨A1, c1, rfl⟩ := own_form hown1
            have HB1 := hid (put_grown (own_base HOWN.out) HB.out HSZ.out hg1)
            have hz1 := hg1.size
            simp at hz1
            have HOWN1 := hid hown1
            have HSZ1 : Hid (w.heap.size + 1 ≤ w1.heap.size) := hid (by omega)
            obtain ⟨hBw, hBx⟩ := put_facts HB1.out
            clear cx
            have cx : ∀ i, w1.cell? ⟨w.heap.size, i, none⟩ = (#[.string x.c, .int .i64 x.a, .int .i64 x.v])[i]? := hBx.cell
            obtain ⟨b', off', hA', hb', hc⟩ := (HL.out.below' hBw).at_ hlt
            injection hA' with hA'
            injection hA' with e1 e2
            subst e1 e2
            rw [HGK.out] at hc
            have f0 : w1.cell? ⟨b, off + k * 3, none⟩ = some (.string g.c) := hc 0 _ rfl
            have f1 : w1.cell? ⟨b, off + k * 3 + 1, none⟩ = some (.int .i64 g.a) := hc 1 _ rfl
            have f2 : w1.cell? ⟨b, off + k * 3 + 2, none⟩ = some (.int .i64 g.v) := hc 2 _ rfl
            clear hc hBw hBx hown1 hg1 hat1
            go_wp2_with fail
            go_quiet (fail)
            go_wp2_with (at_builtin; refine wpList_append_own_at _ rfl (.tmp 38) (.tmp 43) 22 rfl (w.heap.size + 1) 37 i0 _ 3 32 Try.underlying22 HI0.out HZ0.out HZS.out HZB.out rfl (by decide) _ _ _ rfl (own_at HOWN1.out rfl) ⟨w1.heap.size, 0, none⟩ 1 1 (Gw.enc g) rfl rfl (news_at (w := w1) rfl) (Gw.enc_one g) (by simp only [maxLen]; omega) (by omega) (by simp; omega) ?_; intro v2 w2 hown2 hg2 _ hat2)
            obtain ⟨A2, c2, rfl⟩ := own_form hown2
            have HB2 := hid (put_grown (own_base HOWN1.out) HB1.out HSZ1.out hg2)
            have hz2 := hg2.size
            simp at hz2
            have HOWN2 := hid hown2
            clear hown2 hg2 hat2
            go_wp2
            go_roundw
            case rel => exact ⟨k + 1, A2, c2, by omega, by go_num, by rw [HST.out], by rw [HST.out]; simp, by rw [HST.out]; simpa using HOWN2.out, by omega, HB2.out⟩
            case measure => simp [intOf]; omega
          · -- case B2
            have HST : Hid (putTo (Gw.ge x) (Gw.ne x) x (l.take (k + 1)) = (out ++ [x], true)) := hid (by rw [HSTEP.out]; simp [putStep, q2, q3])
            have hne : (g.c.toList == x.c.toList) = true := by simpa [Gw.ne] using q3
            have hge : Op.bytesLess g.c.toList x.c.toList = false := by simpa [Gw.ge, slt] using q2
            clear q3 HSTEP
            clear q2
            go_wp2_with fail
            go_quiet (fail)
            go_wp2_with (at_builtin; refine wpList_append_own_at _ rfl (.tmp 26) (.tmp 28) 22 rfl (w.heap.size + 1) 37 i0 _ 3 32 Try.underlying22 HI0.out HZ0.out HZS.out HZB.out rfl (by decide) _ _ _ rfl (own_at HOWN.out rfl) ⟨wr.heap.size, 0, none⟩ 1 1 (Gw.enc x) rfl rfl (news_at (w := wr) rfl) (Gw.enc_one x) (by simp only [maxLen]; omega) (by omega) (by simp; omega) ?_; intro v1 w1 hown1 hg1 _ hat1)
            obtain ⟨A1, c1, rfl⟩ := own_form hown1
            have HB1 := hid (put_grown (own_base HOWN.out) HB.out HSZ.out hg1)
            have hz1 := hg1.size
            simp at hz1
            have HOWN1 := hid hown1
            have HSZ1 : Hid (w.heap.size + 1 ≤ w1.heap.size) := hid (by omega)
            obtain ⟨hBw, hBx⟩ := put_facts HB1.out
            clear cx
            have cx : ∀ i, w1.cell? ⟨w.heap.size, i, none⟩ = (#[.string x.c, .int .i64 x.a, .int .i64 x.v])[i]? := hBx.cell
            obtain ⟨b', off', hA', hb', hc⟩ := (HL.out.below' hBw).at_ hlt
            injection hA' with hA'
            injection hA' with e1 e2
            subst e1 e2
            rw [HGK.out] at hc
            have f0 : w1.cell? ⟨b, off + k * 3, none⟩ = some (.string g.c) := hc 0 _ rfl
            have f1 : w1.cell? ⟨b, off + k * 3 + 1, none⟩ = some (.int .i64 g.a) := hc 1 _ rfl
            have f2 : w1.cell? ⟨b, off + k * 3 + 2, none⟩ = some (.int .i64 g.v) := hc 2 _ rfl
            clear hc hBw hBx hown1 hg1 hat1
            go_wp2_with fail
            go_quiet (fail)
            go_wp2
            go_roundw
            case rel => exact ⟨k + 1, A1, c1, by omega, by go_num, by rw [HST.out], by rw [HST.out]; simp, by rw [HST.out]; exact own_heap (w := w1) (by simpa using HOWN1.out) rfl, HSZ1.out, below_drewN HB1.out _⟩
            case measure => simp [intOf]; omega
        · rcases Bool.eq_false_or_eq_true (Gw.ne x g) with q3 | q3
          · -- case C1
            have HST : Hid (putTo (Gw.ge x) (Gw.ne x) x (l.take (k + 1)) = (out ++ [g], false)) := hid (by rw [HSTEP.out]; simp [putStep, q2, q3])
            have hne : (g.c.toList == x.c.toList) = false := by simpa [Gw.ne] using q3
            have hge : Op.bytesLess g.c.toList x.c.toList = true := by simpa [Gw.ge, slt] using q2
            clear q3 HSTEP
            clear q2
            go_wp2_with fail
            go_quiet (fail)
            go_wp2_with fail
            go_quiet (fail)
            go_wp2_with (at_builtin; refine wpList_append_own_at _ rfl (.tmp 38) (.tmp 43) 22 rfl (w.heap.size + 1) 37 i0 _ 3 32 Try.underlying22 HI0.out HZ0.out HZS.out HZB.out rfl (by decide) _ _ _ rfl (own_at HOWN.out rfl) ⟨wr.heap.size, 0, none⟩ 1 1 (Gw.enc g) rfl rfl (news_at (w := wr) rfl) (Gw.enc_one g) (by simp only [maxLen]; omega) (by omega) (by simp; omega) ?_; intro v2 w2 hown2 hg2 _ hat2)
            obtain ⟨A2, c2, rfl⟩ := own_form hown2
            have HB2 := hid (put_grown (own_base HOWN.out) HB.out HSZ.out hg2)
            have hz2 := hg2.size
            simp at hz2
            have HOWN2 := hid hown2
            clear hown2 hg2 hat2
            go_wp2
            go_roundw
            case rel => exact ⟨k + 1, A2, c2, by omega, by go_num, by rw [HST.out], by rw [HST.out]; simp, by rw [HST.out]; simpa using HOWN2.out, by omega, HB2.out⟩
            case measure => simp [intOf]; omega
          · -- case C2
            have HST : Hid (putTo (Gw.ge x) (Gw.ne x) x (l.take (k + 1)) = (out, false)) := hid (by rw [HSTEP.out]; simp [putStep, q2, q3])
            have hne : (g.c.toList == x.c.toList) = true := by simpa [Gw.ne] using q3
            have hge : Op.bytesLess g.c.toList x.c.toList = true := by simpa [Gw.ge, slt] using q2
            clear q3 HSTEP
            clear q2
            go_wp2_with fail
            go_quiet (fail)
            go_wp2_with fail
            go_quiet (fail)
            go_wp2
            go_roundw
            case rel => exact ⟨k + 1, A', c', by omega, by go_num, by rw [HST.out], by rw [HST.out], by rw [HST.out]; exact own_heap HOWN.out rfl, HSZ.out, below_drewN HB.out _⟩
            case measure => simp [intOf]; omega
    · obtain rfl : k = l.length := by omega
      rw [List.take_length] at hown
      have hlen : (putTo (Gw.ge x) (Gw.ne x) x l).1.length ≤ 2 * l.length := putTo_len _ _ rfl
      have hE : (putTo (Gw.ge x) (Gw.ne x) x l).2 = true → putL (Gw.ge x) (Gw.ne x) x l = (putTo (Gw.ge x) (Gw.ne x) x l).1 := fun h => by simp [putL, h]
      have hE2 : (putTo (Gw.ge x) (Gw.ne x) x l).2 = false → putL (Gw.ge x) (Gw.ne x) x l = (putTo (Gw.ge x) (Gw.ne x) x l).1 ++ [x] := fun h => by simp [putL, h]
      rw [List.take_length]
      generalize putL (Gw.ge x) (Gw.ne x) x l = res at *
      generalize hst : putTo (Gw.ge x) (Gw.ne x) x l = st at *
      obtain ⟨out, put⟩ := st
      dsimp only at *
      clear hst
      have HOWN := hid hown
      have HSZ := hid hsz
      obtain ⟨hBw, hBx⟩ := put_facts hB
      have HB := hid hB
      have HBW := hid hBw
      have cx : ∀ i, wr.cell? ⟨w.heap.size, i, none⟩ = (#[.string x.c, .int .i64 x.a, .int .i64 x.v])[i]? := hBx.cell
      clear hBx hown hB hBw hl
      rcases Bool.eq_false_or_eq_true put with rfl | rfl
      · have HE := hid (hE rfl)
        clear hE hE2
        go_wp2
        go_ret
        exact ⟨A', c', by rw [HE.out]; rfl, by rw [HE.out]; exact HOWN.out, HBW.out⟩
      · have HE := hid (hE2 rfl)
        clear hE hE2
        go_wp2_with (at_builtin; refine wpList_append_own_at _ rfl (.tmp 47) (.tmp 49) 22 rfl (w.heap.size + 1) 37 i0 _ 3 32 Try.underlying22 HI0.out HZ0.out HZS.out HZB.out rfl (by decide) _ _ _ rfl (own_at HOWN.out rfl) ⟨wr.heap.size, 0, none⟩ 1 1 (Gw.enc x) rfl rfl (news_at (w := wr) rfl) (Gw.enc_one x) (by simp only [maxLen]; omega) (by omega) (by simp; omega) ?_; intro v1 w1 hown1 hg1 _ hat1)
        go_ret
        obtain ⟨A1, c1, rfl⟩ := own_form hown1
        have hB1 := put_grown (n := 0) (own_base HOWN.out) HB.out HSZ.out hg1
        refine ⟨A1, c1, by rw [HE.out, List.length_append]; rfl, by rw [HE.out]; simpa using hown1, (put_facts hB1).1⟩
end Go.Proofs.Ytjgibmaadmkkgaa
