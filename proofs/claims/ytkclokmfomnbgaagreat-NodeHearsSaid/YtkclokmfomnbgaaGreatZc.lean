/- Texts of this claim, joined. -/
import Derived.Test.YtkclokmfomnbgaaGreatRows
import Derived.Lib.Walk
import Derived.Lib.SliceRun
import Derived.Lib.JoinLaws
import Derived.Lib.AppendZeros
import Derived.WalkSpells
import Derived.Test.YtkclokmfomnbgaaGreatWAbsS
import Derived.Test.YtkclokmfomnbgaaGreatProg
import Derived.Test.YtkclokmfomnbgaaGreatWAbsQ
import Derived.KernelRfl
import Derived.Shelf.SlSortCmp.NoneTotal
import Derived.Shelf.SlGeneric
import Derived.Test.YtkclokmfomnbgaaGreatZa
import Derived.Test.YtkclokmfomnbgaaGreatZb
set_option linter.unusedSimpArgs false
namespace Go.Proofs.YtkclokmfomnbgaaGreat
open Go.RowKit Pl
set_option linter.unusedVariables false
theorem sclone_fun (c : Bool) (l : List Sv) (hl : l.length ≤ 1000) : Fun Tryz.prog 117 [.c (.sl c (l.map Sv.row))] [.o 64 9 (l.map Sv.row)] :=
 cloneSv_fun Sv.enc Sv.enc_len Sv.enc_one c l hl
theorem sinsert_fun (l : List Sv) (x : Sv) (i : Nat) (hi : i ≤ l.length) (hl : l.length ≤ 1000) : Fun Tryz.prog 135 [.o 64 9 (l.map Sv.row), .c (.v (.int .i64 i)), .o 64 9 [x.row]] [.o 64 9 ((l.take i ++ [x] ++ l.drop i).map Sv.row)] :=
 insertSv_fun Sv.enc Sv.enc_len Sv.enc_one l x i hi hl
theorem sJoin_fun (a b : List Sv) (ha : a.length ≤ 9223372036854775807) (hb : b.length ≤ 9223372036854775807) (hwa : ∀ x ∈ a, x.ok) (hwb : ∀ x ∈ b, x.ok) : Fun Tryz.prog 76 [.c (.sl false (a.map Sv.row)), .c (.sl false (b.map Sv.row))] [.c (.sl false ((joinS a b).2.map Sv.row)), .c (.v (.int .i64 (joinS a b).1))] := by
 refine fun_x ck_catalog_Join rfl ?_
 refine G1 ?_; intro gg
 (refine .inl ⟨_, _, true, [], aI, scheck_fun false [a, b] (by simp) (by simpa using ⟨ha, hb⟩) (by simpa using ⟨hwa, hwb⟩), (fun _ => fI), nI, ?_⟩)
 refine G1 ?_; intro gg
 (refine bIf_of (fun h1 => ?_) (fun h1 => ?_) <;> rw [h1])
 ·refine G0 ?_
  rw [joinS_bad (by simpa using h1)]
  (exact ⟨[], aI⟩)
 ·obtain ⟨h1a, h1b⟩ := first_twoS (e := ckSv) (a := a) (b := b) (by simpa using h1)
  have hia := ckSv_inv h1a
  have hib := ckSv_inv h1b
  refine G0 ?_
  (refine .inl ⟨_, _, false, [], aI, sclone_fun false a (by omega), nobor, nI, ?_⟩)
  refine G1 ?_; intro gg
  rw [List.length_map]
  (refine ⟨[], none, {p : Nat × Nat // p.1 ≤ b.length}, [21, 22], fun ⟨⟨k, g⟩, hk⟩ => [(7, .own 320 g), (23, .v (.int .i64 k))], [], fun ⟨⟨k, g⟩, hk⟩ => [(320, ⟨g, 64, 9, (joinL Sv.kf Sv.nw a (b.take k)).map Sv.row⟩)], fun ⟨⟨k, g⟩, hk⟩ => b.length - k, trivial, fun _ => ⟨by (first | exact trivial | exact ⟨_, rfl, rfl, trivial⟩), fun g => ⟨⟨(0, _), by omega⟩, tI, tI, tI, tI⟩⟩, fun ⟨⟨k, g⟩, hk⟩ => ?_⟩)
  have hk' : k ≤ b.length := hk
  refine G0 ?_
  (refine bIf_of (fun h2 => ?_) (fun h2 => ?_) <;> rw [h2])
  ·have hlt : k < b.length := (by have := of_decide_eq_true h2; omega)
   have hn := joinL_next (cf := Sv.kf) (nw := Sv.nw) (a := a) hlt
   have hjl := (joinL_len (cf := Sv.kf) Sv.nw (b.take k) a).2
   have hjs := Sv.ord.join Sv.nw (b.take k) hia.2.2
   rw [List.length_take] at hjl
   have hm := Sv.smono hjs b[k].nd b[k].id
   have hlow := low_le (cf := Sv.kf b[k]) (joinL Sv.kf Sv.nw a (b.take k))
   refine G0 ?_
   refine ⟨k, _, rfl, row_map hlt, ?_⟩
   refine G1 ?_; intro gg
   (refine .inl ⟨_, _, true, [], aI, sfind_fun false (joinL Sv.kf Sv.nw a (b.take k)) b[k].nd b[k].id (by omega) hm.mono, (fun _ => fI), nI, ?_⟩)
   refine G1 ?_; intro gg
   (refine bIf_of (fun h3 => ?_) (fun h3 => ?_) <;> rw [h3])
   ·have h3' : hit (Sv.kf b[k]) (joinL Sv.kf Sv.nw a (b.take k)) = false := not_t h3
    rw [upd_miss h3'] at hn
    refine G1 ?_; intro gg
    (refine .inl ⟨_, _, true, [320, 672], aI, sinsert_fun (joinL Sv.kf Sv.nw a (b.take k)) b[k] (low (Sv.kf b[k]) (joinL Sv.kf Sv.nw a (b.take k))) hlow (by omega), (fun _ => fI), nI, ?_⟩)
    refine G1 ?_; intro gg
    (exact ⟨some (7, 688, 320), by (first | exact trivial | exact ⟨_, rfl, rfl, trivial⟩), fun gr => ⟨⟨(k + 1, gr), by dsimp only; omega⟩, by show b.length - (k + 1) < b.length - k; omega, hxI hn, hxI hn, hxI hn, hxI hn⟩⟩)
   ·have h3' : hit (Sv.kf b[k]) (joinL Sv.kf Sv.nw a (b.take k)) = true := not_f h3
    have hlt3 := hit_lt h3'
    refine G0 ?_
    refine ⟨low (Sv.kf b[k]) (joinL Sv.kf Sv.nw a (b.take k)), _, rfl, row_map hlt3, ?_⟩
    refine G0 ?_
    (refine .inl ⟨_, _, false, [], aI, scmp_fun _ _, nobor, nI, ?_⟩)
    refine G1 ?_; intro gg
    (refine bIf_of (fun h4 => ?_) (fun h4 => ?_) <;> rw [h4])
    ·rw [upd_newer h3' h4] at hn
     refine G0 ?_
     refine ⟨low (Sv.kf b[k]) (joinL Sv.kf Sv.nw a (b.take k)), _, rfl, row_map hlt3, ?_⟩
     refine G0 ?_
     have hn' : (joinL Sv.kf Sv.nw a (b.take (k + 1))).map Sv.row = ((joinL Sv.kf Sv.nw a (b.take k)).map Sv.row).set (low (Sv.kf b[k]) (joinL Sv.kf Sv.nw a (b.take k))) b[k].row := by rw [hn, List.map_set]
     (exact ⟨none, trivial, fun gr => ⟨⟨(k + 1, g), by dsimp only; omega⟩, by show b.length - (k + 1) < b.length - k; omega, hxI hn', hxI hn', hxI hn', hxI hn'⟩⟩)
    ·rw [upd_older h3' h4] at hn
     refine G0 ?_
     (exact ⟨none, trivial, fun gr => ⟨⟨(k + 1, g), by dsimp only; omega⟩, by show b.length - (k + 1) < b.length - k; omega, hxI hn, hxI hn, hxI hn, hxI hn⟩⟩)
  ·have hge : b.length ≤ k := (by have := of_decide_eq_false h2; omega)
   obtain rfl : k = b.length := by omega
   refine G0 ?_
   rw [List.length_map, List.take_length]
   (refine bIf_of (fun h3 => ?_) (fun h3 => ?_) <;> rw [h3])
   ·refine G0 ?_
    rw [joinS_many h1a h1b (by have := of_decide_eq_true h3; omega)]
    (exact ⟨[], aI⟩)
   ·refine G0 ?_
    rw [joinS_ok h1a h1b (by have := of_decide_eq_false h3; omega), show joinL Sv.kf Sv.nw a b = joinL Sv.kf Sv.nw a (b.take b.length) by rw [List.take_length]]
    (exact ⟨[], aI⟩)
theorem rsput_fun (l : List Sv) (s : Sv) (hl : l.length ≤ 100) (hs : sorted Sv.lt l = true) : Fun Tryz.prog 145 [.c (.sl false (l.map Sv.row)), .c (.agg s.row)] [.c (.sl false ((putAt (Sv.kf s) s l).map Sv.row))] := by
 rw [← Sv.putL_put hs s]
 refine fun_x ck_hearsayref_PutService rfl ?_
 refine G1 ?_; intro gg
 (refine ⟨[(5, 80, 64, 9)], none, {p : Nat × Nat // p.1 ≤ l.length}, [0, 3], fun ⟨⟨k, g⟩, hk⟩ => [(5, .own 80 g), (6, .v (.bool (putTo (Sv.ge s) (Sv.ne s) s (l.take k)).2)), (7, .v (.int .i64 k))], [48], fun ⟨⟨k, g⟩, hk⟩ => [(80, ⟨g, 64, 9, (putTo (Sv.ge s) (Sv.ne s) s (l.take k)).1.map Sv.row⟩)], fun ⟨⟨k, g⟩, hk⟩ => l.length - k, (by exact ⟨rfl, by decide, (fun _ _ _ _ h => by cases h), trivial⟩), fun gs => ⟨trivial, fun _ => ⟨⟨(0, gs 80), by omega⟩, tI, tI, tI, tI⟩⟩, fun ⟨⟨k, g⟩, hk⟩ => ?_⟩)
 have hk' : k ≤ l.length := hk
 have hlen := putTo_len (ge := Sv.ge s) (ne := Sv.ne s) (g := s) k (l.take k) (by rw [List.length_take]; omega)
 refine G0 ?_
 rw [List.length_map]
 (refine bIf_of (fun h3 => ?_) (fun h3 => ?_) <;> rw [h3])
 ·have hlt3 : k < l.length := (by have := of_decide_eq_true h3; omega)
  have hN := putTo_next (ge := Sv.ge s) (ne := Sv.ne s) (g := s) hlt3
  refine G0 ?_
  (refine bIf_of (fun h4 => ?_) (fun h4 => ?_) <;> rw [h4])
  ·have h4' : (putTo (Sv.ge s) (Sv.ne s) s (l.take k)).2 = false := by simpa using h4
   refine G0 ?_
   refine ⟨k, _, rfl, row_map hlt3, ?_⟩
   refine G0 ?_
   (refine .inl ⟨_, _, false, [], aI, ahead_fun l[k] s, nobor, nI, ?_⟩)
   refine G1 ?_; intro gg
   (refine bIf_of (fun h5 => ?_) (fun h5 => ?_) <;> rw [h5])
   ·refine G1 ?_; intro gg
    refine ⟨lI, lI, ?_⟩
    refine G1 ?_; intro gg
    refine ⟨k, _, rfl, row_map hlt3, ?_⟩
    refine G0 ?_
    (refine bIf_of (fun h6 => ?_) (fun h6 => ?_) <;> rw [h6])
    ·have hne : Sv.ne s l[k] = true := by unfold Sv.ne Sv.is; rw [not_t h6]; rfl
     have hn : putTo (Sv.ge s) (Sv.ne s) s (l.take (k + 1)) = ((putTo (Sv.ge s) (Sv.ne s) s (l.take k)).1 ++ [s] ++ [l[k]], true) := by rw [hN]; simp [putStep, h4', show Sv.ge s l[k] = true from h5, hne]
     refine G0 ?_
     refine ⟨k, _, rfl, row_map hlt3, ?_⟩
     refine G1 ?_; intro gg
     refine ⟨lI, lI, ?_⟩
     refine G1 ?_; intro gg
     (exact ⟨none, trivial, fun gr => ⟨⟨(k + 1, gg), by dsimp only; omega⟩, by show l.length - (k + 1) < l.length - k; omega, hxI hn, hxI hn, hxI hn, hxI hn⟩⟩)
    ·refine G0 ?_
     refine ⟨k, _, rfl, row_map hlt3, ?_⟩
     refine G0 ?_
     (refine bIf_of (fun h7 => ?_) (fun h7 => ?_) <;> rw [h7])
     ·have hne : Sv.ne s l[k] = true := by unfold Sv.ne Sv.is; rw [not_t h7, Bool.and_false]; rfl
      have hn : putTo (Sv.ge s) (Sv.ne s) s (l.take (k + 1)) = ((putTo (Sv.ge s) (Sv.ne s) s (l.take k)).1 ++ [s] ++ [l[k]], true) := by rw [hN]; simp [putStep, h4', show Sv.ge s l[k] = true from h5, hne]
      refine G0 ?_
      refine ⟨k, _, rfl, row_map hlt3, ?_⟩
      refine G1 ?_; intro gg
      refine ⟨lI, lI, ?_⟩
      refine G1 ?_; intro gg
      (exact ⟨none, trivial, fun gr => ⟨⟨(k + 1, gg), by dsimp only; omega⟩, by show l.length - (k + 1) < l.length - k; omega, hxI hn, hxI hn, hxI hn, hxI hn⟩⟩)
     ·have hne : Sv.ne s l[k] = false := by unfold Sv.ne Sv.is; rw [not_f h6, not_f h7]; rfl
      have hn : putTo (Sv.ge s) (Sv.ne s) s (l.take (k + 1)) = ((putTo (Sv.ge s) (Sv.ne s) s (l.take k)).1 ++ [s], true) := by rw [hN]; simp [putStep, h4', show Sv.ge s l[k] = true from h5, hne]
      refine G0 ?_
      (exact ⟨none, trivial, fun gr => ⟨⟨(k + 1, gg), by dsimp only; omega⟩, by show l.length - (k + 1) < l.length - k; omega, hxI hn, hxI hn, hxI hn, hxI hn⟩⟩)
   ·refine G0 ?_
    refine ⟨k, _, rfl, row_map hlt3, ?_⟩
    refine G0 ?_
    (refine bIf_of (fun h6 => ?_) (fun h6 => ?_) <;> rw [h6])
    ·have hne : Sv.ne s l[k] = true := by unfold Sv.ne Sv.is; rw [not_t h6]; rfl
     have hn : putTo (Sv.ge s) (Sv.ne s) s (l.take (k + 1)) = ((putTo (Sv.ge s) (Sv.ne s) s (l.take k)).1 ++ [l[k]], (putTo (Sv.ge s) (Sv.ne s) s (l.take k)).2) := by rw [hN]; simp [putStep, h4', show Sv.ge s l[k] = false from h5, hne]
     refine G0 ?_
     refine ⟨k, _, rfl, row_map hlt3, ?_⟩
     refine G1 ?_; intro gg
     refine ⟨lI, lI, ?_⟩
     refine G1 ?_; intro gg
     (exact ⟨none, trivial, fun gr => ⟨⟨(k + 1, gg), by dsimp only; omega⟩, by show l.length - (k + 1) < l.length - k; omega, hxI hn, hxI hn, hxI hn, hxI hn⟩⟩)
    ·refine G0 ?_
     refine ⟨k, _, rfl, row_map hlt3, ?_⟩
     refine G0 ?_
     (refine bIf_of (fun h7 => ?_) (fun h7 => ?_) <;> rw [h7])
     ·have hne : Sv.ne s l[k] = true := by unfold Sv.ne Sv.is; rw [not_t h7, Bool.and_false]; rfl
      have hn : putTo (Sv.ge s) (Sv.ne s) s (l.take (k + 1)) = ((putTo (Sv.ge s) (Sv.ne s) s (l.take k)).1 ++ [l[k]], (putTo (Sv.ge s) (Sv.ne s) s (l.take k)).2) := by rw [hN]; simp [putStep, h4', show Sv.ge s l[k] = false from h5, hne]
      refine G0 ?_
      refine ⟨k, _, rfl, row_map hlt3, ?_⟩
      refine G1 ?_; intro gg
      refine ⟨lI, lI, ?_⟩
      refine G1 ?_; intro gg
      (exact ⟨none, trivial, fun gr => ⟨⟨(k + 1, gg), by dsimp only; omega⟩, by show l.length - (k + 1) < l.length - k; omega, hxI hn, hxI hn, hxI hn, hxI hn⟩⟩)
     ·have hne : Sv.ne s l[k] = false := by unfold Sv.ne Sv.is; rw [not_f h6, not_f h7]; rfl
      have hn : putTo (Sv.ge s) (Sv.ne s) s (l.take (k + 1)) = (putTo (Sv.ge s) (Sv.ne s) s (l.take k)) := by rw [hN]; simp [putStep, h4', show Sv.ge s l[k] = false from h5, hne]
      refine G0 ?_
      (exact ⟨none, trivial, fun gr => ⟨⟨(k + 1, g), by dsimp only; omega⟩, by show l.length - (k + 1) < l.length - k; omega, hxI hn, hxI hn, hxI hn, hxI hn⟩⟩)
  ·have h4' : (putTo (Sv.ge s) (Sv.ne s) s (l.take k)).2 = true := by simpa using h4
   refine G0 ?_
   refine ⟨k, _, rfl, row_map hlt3, ?_⟩
   refine G0 ?_
   (refine bIf_of (fun h6 => ?_) (fun h6 => ?_) <;> rw [h6])
   ·have hne : Sv.ne s l[k] = true := by unfold Sv.ne Sv.is; rw [not_t h6]; rfl
    have hn : putTo (Sv.ge s) (Sv.ne s) s (l.take (k + 1)) = ((putTo (Sv.ge s) (Sv.ne s) s (l.take k)).1 ++ [l[k]], (putTo (Sv.ge s) (Sv.ne s) s (l.take k)).2) := by rw [hN]; simp [putStep, h4', hne]
    refine G0 ?_
    refine ⟨k, _, rfl, row_map hlt3, ?_⟩
    refine G1 ?_; intro gg
    refine ⟨lI, lI, ?_⟩
    refine G1 ?_; intro gg
    (exact ⟨none, trivial, fun gr => ⟨⟨(k + 1, gg), by dsimp only; omega⟩, by show l.length - (k + 1) < l.length - k; omega, hxI hn, hxI hn, hxI hn, hxI hn⟩⟩)
   ·refine G0 ?_
    refine ⟨k, _, rfl, row_map hlt3, ?_⟩
    refine G0 ?_
    (refine bIf_of (fun h7 => ?_) (fun h7 => ?_) <;> rw [h7])
    ·have hne : Sv.ne s l[k] = true := by unfold Sv.ne Sv.is; rw [not_t h7, Bool.and_false]; rfl
     have hn : putTo (Sv.ge s) (Sv.ne s) s (l.take (k + 1)) = ((putTo (Sv.ge s) (Sv.ne s) s (l.take k)).1 ++ [l[k]], (putTo (Sv.ge s) (Sv.ne s) s (l.take k)).2) := by rw [hN]; simp [putStep, h4', hne]
     refine G0 ?_
     refine ⟨k, _, rfl, row_map hlt3, ?_⟩
     refine G1 ?_; intro gg
     refine ⟨lI, lI, ?_⟩
     refine G1 ?_; intro gg
     (exact ⟨none, trivial, fun gr => ⟨⟨(k + 1, gg), by dsimp only; omega⟩, by show l.length - (k + 1) < l.length - k; omega, hxI hn, hxI hn, hxI hn, hxI hn⟩⟩)
    ·have hne : Sv.ne s l[k] = false := by unfold Sv.ne Sv.is; rw [not_f h6, not_f h7]; rfl
     have hn : putTo (Sv.ge s) (Sv.ne s) s (l.take (k + 1)) = (putTo (Sv.ge s) (Sv.ne s) s (l.take k)) := by rw [hN]; simp [putStep, h4', hne]
     refine G0 ?_
     (exact ⟨none, trivial, fun gr => ⟨⟨(k + 1, g), by dsimp only; omega⟩, by show l.length - (k + 1) < l.length - k; omega, hxI hn, hxI hn, hxI hn, hxI hn⟩⟩)
 ·have hge : l.length ≤ k := (by have := of_decide_eq_false h3; omega)
  obtain rfl : k = l.length := by omega
  refine G0 ?_
  have hT : putTo (Sv.ge s) (Sv.ne s) s (l.take l.length) = putTo (Sv.ge s) (Sv.ne s) s l := by rw [List.take_length]
  (refine bIf_of (fun h4 => ?_) (fun h4 => ?_) <;> rw [h4])
  ·have h4' : (putTo (Sv.ge s) (Sv.ne s) s l).2 = false := by rw [← hT]; simpa using h4
   refine G1 ?_; intro gg
   refine ⟨lI, lI, ?_⟩
   refine G1 ?_; intro gg
   rw [show putL (Sv.ge s) (Sv.ne s) s l = (putTo (Sv.ge s) (Sv.ne s) s (l.take l.length)).1 ++ [s] by rw [hT]; simp [putL, h4'], List.map_append]
   (exact ⟨[], aI⟩)
  ·have h4' : (putTo (Sv.ge s) (Sv.ne s) s l).2 = true := by rw [← hT]; simpa using h4
   refine G0 ?_
   rw [show putL (Sv.ge s) (Sv.ne s) s l = (putTo (Sv.ge s) (Sv.ne s) s (l.take l.length)).1 by rw [hT]; simp [putL, h4']]
   (exact ⟨[], aI⟩)
theorem ssame_fun (c d : Bool) (a b : List Sv) (ha : a.length ≤ 9223372036854775807) : Fun Tryz.prog 71 [.c (.sl c (a.map Sv.row)), .c (.sl d (b.map Sv.row))] [.c (.v (.bool (sameL Sv.same a b)))] := by
  refine fun_x ck_hearsayref_SameServices rfl ?_
  refine G0 ?_
  rw [List.length_map, List.length_map]
  (refine bIf_of (fun h => ?_) (fun h => ?_) <;> rw [h])
  · refine G0 ?_
    rw [sameL_no (fun e => by rw [e] at h; simp at h)]
    (exact ⟨[], aI⟩)
  · have hab : a.length = b.length := by have h' : ((a.length : Int) != (b.length : Int)) = false := h
                                         simp at h'; omega
    refine G0 ?_
    (refine ⟨[], none, {k : Nat // k ≤ a.length ∧ ∀ j, (h : j < a.length) → j < k → Sv.same a[j] (b[j]'(by omega)) = true}, [0, 1], fun ⟨k, hk, h0⟩ => [(5, .v (.int .i64 k))], [], fun ⟨k, hk, h0⟩ => [], fun ⟨k, hk, h0⟩ => a.length - k, trivial, fun _ => ⟨trivial, fun _ => ⟨⟨0, by omega, fun j _ h => by omega⟩, tI, keptE_refl _ _, tI, keptH_refl _ _⟩⟩, fun ⟨k, hk, h0⟩ => ?_⟩)
    refine G0 ?_
    rw [List.length_map]
    (refine bIf_of (fun h2 => ?_) (fun h2 => ?_) <;> rw [h2])
    · have hlt : k < a.length := (by have := of_decide_eq_true h2; omega)
      have hlt' : k < b.length := by omega
      refine G0 ?_
      refine ⟨k, _, rfl, row_map hlt, ?_⟩
      refine G0 ?_
      refine ⟨k, _, rfl, row_map hlt', ?_⟩
      refine G0 ?_
      (refine bIf_of (fun h3 => ?_) (fun h3 => ?_) <;> rw [h3])
      · refine G0 ?_
        rw [sameL_at hlt hlt' (not_t (b := Sv.same a[k] b[k]) h3)]
        (exact ⟨[], aI⟩)
      · refine G0 ?_
        (exact ⟨none, trivial, fun _ => ⟨⟨k + 1, by omega, up1 (p := fun j h => Sv.same a[j] (b[j]'(by omega)) = true) h0 (fun _ => not_f (b := Sv.same a[k] b[k]) h3)⟩, by show a.length - (k + 1) < a.length - k; omega, tI, tI, tI, tI⟩⟩)
    · have hge : ¬ k < a.length := (by have := of_decide_eq_false h2; omega)
      refine G0 ?_
      rw [sameL_yes hab (fun i hi _ => h0 i hi (by omega))]
      (exact ⟨[], aI⟩)
end Go.Proofs.YtkclokmfomnbgaaGreat
namespace Go.Proofs.YtkclokmfomnbgaaGreat
open Go.RowKit Pl
set_option linter.unusedVariables false
theorem gclone_fun (c : Bool) (l : List Gw) (hl : l.length ≤ 1000) : Fun Tryz.prog 118 [.c (.sl c (l.map Gw.row))] [.o 125 3 (l.map Gw.row)] :=
 cloneGw_fun Gw.enc Gw.enc_len Gw.enc_one c l hl
theorem ginsert_fun (l : List Gw) (x : Gw) (i : Nat) (hi : i ≤ l.length) (hl : l.length ≤ 1000) : Fun Tryz.prog 138 [.o 125 3 (l.map Gw.row), .c (.v (.int .i64 i)), .o 125 3 [x.row]] [.o 125 3 ((l.take i ++ [x] ++ l.drop i).map Gw.row)] :=
 insertGw_fun Gw.enc Gw.enc_len Gw.enc_one l x i hi hl
theorem gJoin_fun (a b : List Gw) (ha : a.length ≤ 9223372036854775807) (hb : b.length ≤ 9223372036854775807) (hwa : ∀ x ∈ a, x.ok) (hwb : ∀ x ∈ b, x.ok) : Fun Tryz.prog 77 [.c (.sl false (a.map Gw.row)), .c (.sl false (b.map Gw.row))] [.c (.sl false ((joinG a b).2.map Gw.row)), .c (.v (.int .i64 (joinG a b).1))] := by
 refine fun_x ck_centre_Join rfl ?_
 refine G1 ?_; intro gg
 (refine .inl ⟨_, _, true, [], aI, gcheck_fun false [a, b] (by simp) (by simpa using ⟨ha, hb⟩) (by simpa using ⟨hwa, hwb⟩), (fun _ => fI), nI, ?_⟩)
 refine G1 ?_; intro gg
 (refine bIf_of (fun h1 => ?_) (fun h1 => ?_) <;> rw [h1])
 ·refine G0 ?_
  rw [joinG_bad (by simpa using h1)]
  (exact ⟨[], aI⟩)
 ·obtain ⟨h1a, h1b⟩ := first_twoG (a := a) (b := b) (by simpa using h1)
  have hia := ckGw_inv h1a
  have hib := ckGw_inv h1b
  refine G0 ?_
  (refine .inl ⟨_, _, false, [], aI, gclone_fun false a (by omega), nobor, nI, ?_⟩)
  refine G1 ?_; intro gg
  rw [List.length_map]
  (refine ⟨[], none, {p : Nat × Nat // p.1 ≤ b.length}, [21, 22], fun ⟨⟨k, g⟩, hk⟩ => [(7, .own 320 g), (23, .v (.int .i64 k))], [], fun ⟨⟨k, g⟩, hk⟩ => [(320, ⟨g, 125, 3, (joinL Gw.kf Gw.nw a (b.take k)).map Gw.row⟩)], fun ⟨⟨k, g⟩, hk⟩ => b.length - k, trivial, fun _ => ⟨by (first | exact trivial | exact ⟨_, rfl, rfl, trivial⟩), fun g => ⟨⟨(0, _), by omega⟩, tI, tI, tI, tI⟩⟩, fun ⟨⟨k, g⟩, hk⟩ => ?_⟩)
  refine G0 ?_
  (refine bIf_of (fun h2 => ?_) (fun h2 => ?_) <;> rw [h2])
  ·have hlt : k < b.length := (by have := of_decide_eq_true h2; omega)
   have hn := joinL_next (cf := Gw.kf) (nw := Gw.nw) (a := a) hlt
   have hjl := (joinL_len (cf := Gw.kf) Gw.nw (b.take k) a).2
   have hjs := Gw.ord.join Gw.nw (b.take k) hia.2.2
   rw [List.length_take] at hjl
   have hm := Gw.smono hjs b[k].c
   have hlow := low_le (cf := Gw.cf b[k].c) (joinL Gw.kf Gw.nw a (b.take k))
   have hlen : (joinL Gw.kf Gw.nw a (b.take k)).length ≤ 12 := by omega
   refine G0 ?_
   refine ⟨k, _, rfl, row_map hlt, ?_⟩
   refine G1 ?_; intro gg
   (refine .inl ⟨_, _, true, [], aI, gfind_fun false (joinL Gw.kf Gw.nw a (b.take k)) b[k].c (by omega) hm.mono, (fun _ => fI), nI, ?_⟩)
   refine G1 ?_; intro gg
   (refine bIf_of (fun h3 => ?_) (fun h3 => ?_) <;> rw [h3])
   ·have h3' : hit (Gw.kf b[k]) (joinL Gw.kf Gw.nw a (b.take k)) = false := not_t (b := hit (Gw.cf b[k].c) (joinL Gw.kf Gw.nw a (b.take k))) h3
    have hn2 := hn.trans (upd_miss h3')
    refine G1 ?_; intro gg
    (refine .inl ⟨_, _, true, [320, 640], aI, ginsert_fun (joinL Gw.kf Gw.nw a (b.take k)) b[k] (low (Gw.cf b[k].c) (joinL Gw.kf Gw.nw a (b.take k))) hlow (by omega), (fun _ => fI), nI, ?_⟩)
    refine G1 ?_; intro gg
    (exact ⟨some (7, 656, 320), by (first | exact trivial | exact ⟨_, rfl, rfl, trivial⟩), fun gr => ⟨⟨(k + 1, gr), by dsimp only; omega⟩, by show b.length - (k + 1) < b.length - k; omega, hxI hn2, hxI hn2, hxI hn2, hxI hn2⟩⟩)
   ·have h3' : hit (Gw.kf b[k]) (joinL Gw.kf Gw.nw a (b.take k)) = true := not_f (b := hit (Gw.cf b[k].c) (joinL Gw.kf Gw.nw a (b.take k))) h3
    have hltj := hit_lt h3'
    refine G0 ?_
    refine ⟨low (Gw.cf b[k].c) (joinL Gw.kf Gw.nw a (b.take k)), _, rfl, row_map hltj, ?_⟩
    refine G0 ?_
    (refine ⟨_, _, false, aI, cmpi_fun _ _, nobor, nI, ?_⟩)
    refine G1 ?_; intro gg
    refine ⟨low (Gw.cf b[k].c) (joinL Gw.kf Gw.nw a (b.take k)), _, rfl, row_map hltj, ?_⟩
    refine G0 ?_
    (refine .inl ⟨_, _, false, [], aI, cmpi_fun _ _, nobor, nI, ?_⟩)
    (refine goI ?_; repeat (intro gg; refine goI ?_))
    (refine .inl ⟨_, _, true, [], aI, or_fun false [icmp b[k].v ((joinL Gw.kf Gw.nw a (b.take k))[low (Gw.cf b[k].c) (joinL Gw.kf Gw.nw a (b.take k))]'hltj).v, icmp b[k].a ((joinL Gw.kf Gw.nw a (b.take k))[low (Gw.cf b[k].c) (joinL Gw.kf Gw.nw a (b.take k))]'hltj).a] (by simp), (fun _ => fI), nI, ?_⟩)
    refine G1 ?_; intro gg
    (refine bIf_of (fun h4 => ?_) (fun h4 => ?_) <;> rw [h4])
    ·have h4' : Gw.nw b[k] ((joinL Gw.kf Gw.nw a (b.take k))[low (Gw.cf b[k].c) (joinL Gw.kf Gw.nw a (b.take k))]'hltj) = true := h4
     have hn2 := (hn.trans (upd_newer h3' h4'))
     refine G0 ?_
     refine ⟨low (Gw.cf b[k].c) (joinL Gw.kf Gw.nw a (b.take k)), _, rfl, row_map hltj, ?_⟩
     refine G0 ?_
     have hn3 : (joinL Gw.kf Gw.nw a (b.take (k + 1))).map Gw.row = ((joinL Gw.kf Gw.nw a (b.take k)).map Gw.row).set (low (Gw.cf b[k].c) (joinL Gw.kf Gw.nw a (b.take k))) b[k].row := by rw [hn2, List.map_set]; rfl
     (exact ⟨none, trivial, fun gr => ⟨⟨(k + 1, g), by dsimp only; omega⟩, by show b.length - (k + 1) < b.length - k; omega, hxI hn3, hxI hn3, hxI hn3, hxI hn3⟩⟩)
    ·have h4' : Gw.nw b[k] ((joinL Gw.kf Gw.nw a (b.take k))[low (Gw.cf b[k].c) (joinL Gw.kf Gw.nw a (b.take k))]'hltj) = false := h4
     have hn2 := hn.trans (upd_older h3' h4')
     refine G0 ?_
     (exact ⟨none, trivial, fun gr => ⟨⟨(k + 1, g), by dsimp only; omega⟩, by show b.length - (k + 1) < b.length - k; omega, hxI hn2, hxI hn2, hxI hn2, hxI hn2⟩⟩)
  ·have hge : b.length ≤ k := (by have := of_decide_eq_false h2; omega)
   have hk' : k ≤ b.length := hk
   obtain rfl : k = b.length := by omega
   refine G0 ?_
   rw [List.length_map, List.take_length]
   (refine bIf_of (fun h3 => ?_) (fun h3 => ?_) <;> rw [h3])
   ·refine G0 ?_
    rw [joinG_many h1a h1b (by have := of_decide_eq_true h3; omega)]
    (exact ⟨[], aI⟩)
   ·refine G0 ?_
    rw [joinG_ok h1a h1b (by have := of_decide_eq_false h3; omega), show joinL Gw.kf Gw.nw a b = joinL Gw.kf Gw.nw a (b.take b.length) by rw [List.take_length]]
    (exact ⟨[], aI⟩)
theorem gsame_fun (c d : Bool) (a b : List Gw) (ha : a.length ≤ 9223372036854775807) : Fun Tryz.prog 72 [.c (.sl c (a.map Gw.row)), .c (.sl d (b.map Gw.row))] [.c (.v (.bool (sameL Gw.same a b)))] := by
  refine fun_x ck_hearsayref_SameGateways rfl ?_
  refine G0 ?_
  rw [List.length_map, List.length_map]
  (refine bIf_of (fun h => ?_) (fun h => ?_) <;> rw [h])
  · refine G0 ?_
    rw [sameL_no (fun e => by rw [e] at h; simp at h)]
    (exact ⟨[], aI⟩)
  · have hab : a.length = b.length := by have h' : ((a.length : Int) != (b.length : Int)) = false := h
                                         simp at h'; omega
    refine G0 ?_
    (refine ⟨[], none, {k : Nat // k ≤ a.length ∧ ∀ j, (h : j < a.length) → j < k → Gw.same a[j] (b[j]'(by omega)) = true}, [0, 1], fun ⟨k, hk, h0⟩ => [(5, .v (.int .i64 k))], [], fun ⟨k, hk, h0⟩ => [], fun ⟨k, hk, h0⟩ => a.length - k, trivial, fun _ => ⟨trivial, fun _ => ⟨⟨0, by omega, fun j _ h => by omega⟩, tI, keptE_refl _ _, tI, keptH_refl _ _⟩⟩, fun ⟨k, hk, h0⟩ => ?_⟩)
    refine G0 ?_
    rw [List.length_map]
    (refine bIf_of (fun h2 => ?_) (fun h2 => ?_) <;> rw [h2])
    · have hlt : k < a.length := (by have := of_decide_eq_true h2; omega)
      have hlt' : k < b.length := by omega
      refine G0 ?_
      refine ⟨k, _, rfl, row_map hlt, ?_⟩
      refine G0 ?_
      refine ⟨k, _, rfl, row_map hlt', ?_⟩
      refine G0 ?_
      (refine bIf_of (fun h3 => ?_) (fun h3 => ?_) <;> rw [h3])
      · refine G0 ?_
        rw [sameL_at hlt hlt' (not_t (b := Gw.same a[k] b[k]) h3)]
        (exact ⟨[], aI⟩)
      · refine G0 ?_
        (exact ⟨none, trivial, fun _ => ⟨⟨k + 1, by omega, up1 (p := fun j h => Gw.same a[j] (b[j]'(by omega)) = true) h0 (fun _ => not_f (b := Gw.same a[k] b[k]) h3)⟩, by show a.length - (k + 1) < a.length - k; omega, tI, tI, tI, tI⟩⟩)
    · have hge : ¬ k < a.length := (by have := of_decide_eq_false h2; omega)
      refine G0 ?_
      rw [sameL_yes hab (fun i hi _ => h0 i hi (by omega))]
      (exact ⟨[], aI⟩)
end Go.Proofs.YtkclokmfomnbgaaGreat
namespace Go.Proofs.YtkclokmfomnbgaaGreat
open Go.RowKit
set_option linter.unusedVariables false
theorem infoWh : (Tryz.prog.info? 113).map (fun i => (i.zero, i.size, i.bytes)) = some (some (.agg #[.string ⟨#[]⟩, .int .i64 0, .int .i64 0, .int .i64 0, .int .i64 0, .int .i64 0]), 6, 56) := by kernel_rfl
theorem cellsWh : (Tryz.prog.info? 113).map (·.size) = some 6 := by kernel_rfl
theorem sizeWh : ∀ w, (Go.sizeOf 113).run Tryz.prog w = .ok 6 w := by
 intro w
 obtain ⟨i0, hi0, hz0, hzs, hzb⟩ := info_parts infoWh
 simp [sizeOf, typeInfo, hi0, hzs]
theorem insWh_over (vb g : Nat) (vc lb cb off : Nat) (vs cur : Array Value) (w : World) (hv : Blk w vb 113 vs) (hg : Blk w g 113 cur) (hne : vb ≠ g) (hcur : cur.size ≠ 0) :
  (callFunc 141 #[.slice (some ⟨vb, 0, none⟩) 1 vc, .slice (some ⟨g, off, none⟩) lb cb]).run Tryz.prog w = .ok (.value (.bool false)) w := by
 rw [run_callFunc_extern Tryz.func141 (by kernel_rfl) (by kernel_rfl) (by kernel_rfl) (e := Extern.SlicesOverlaps.overlaps #[28, 28] #[4]) (by kernel_rfl),
  Lib.run_overlaps_apart w 28 4 113 Tryz.underlying28 6 sizeWh ⟨vb, 0, none⟩ ⟨g, off, none⟩ 1 vc lb cb hne 113 113 vs.size cur.size
   (by unfold Blk at hv; simp [World.shape?, hv]) (by unfold Blk at hg; simp [World.shape?, hg]) hcur (hv.frozen _) (hv.frozen _)]
 rfl
def InsWh (L : Nat → Prop) (base n i : Nat) (xs vs : List Value) (w : World) (e : Ending) (w' : World) : Prop :=
 ∃ A' c', e = .returned (.slice A' (n + 1) c') ∧ w'.ownsRow base 113 6 (.slice A' (n + 1) c') (n + 1) (xs.take (i * 6) ++ vs ++ xs.drop (i * 6)) ∧ Fr L w w' ∧ ∀ k, (Value.slice A' (n + 1) c').ownBlock = some k → L k ∨ w.heap.size ≤ k
set_option maxHeartbeats 1000000 in
set_option maxRecDepth 100000 in
theorem insWh_end (base : Nat) (A : Option Addr) (n c : Nat) (xs : List Value) (vb vc : Nat) (vcur : Array Value) (vs : List Value) (w : World) (hown : w.ownsRow base 113 6 (.slice A n c) n xs) (hbase : base ≤ w.heap.size)
  (hn : n ≤ 1000) (hv : Blk w vb 113 vcur) (hvc : vcur.toList.take 6 = vs) (hvl : vs.length = 6) (h1 : ∀ v ∈ vs, v.oneCell' = true) :
  Calls Tryz.prog 79 #[.slice A n c, .int .i64 n, .slice (some ⟨vb, 0, none⟩) 1 vc] w (InsWh (LB A) base n n xs vs w) := by
 obtain ⟨i0, hi0, hz0, hzs, hzb⟩ := info_parts infoWh
 have hnc : n ≤ c ∧ c ≤ 9223372036854775807 := by
  rcases hown.2 with ⟨hv, hz⟩ | ⟨g, cap, cur, hv, _, _, h, h', _⟩
  ·injection hv; omega
  ·injection hv with _ _ e; subst e; exact ⟨h, h'⟩
 obtain ⟨hnc, hc63⟩ := hnc
 have hxs : xs.length = n * 6 := hown.1
 have HXS := hid hxs
 have HVL := hid hvl
 have HV := hid hv
 have HO := hid hown
 have HZ0 := hid hz0
 have HZS := hid hzs
 have HZB := hid hzb
 have HI0 := hid hi0
 clear hxs hvl hv hown hz0 hzs hzb hi0
 have hnn : ((n : Int) == (n : Int)) = true := by simp
 go_enter Tryz.func79, Tryz.ntmps79
 go_wp2_with (at_builtin; refine wpList_appD _ rfl _ _ 28 rfl base 113 i0 _ 6 56 Tryz.underlying28 HI0.out HZ0.out HZS.out HZB.out rfl (by decide) _ _ _ rfl HO.out ⟨vb, 0, none⟩ 1 vc vs rfl (by simpa using HVL.out) (blk_at HV.out hvc) h1 (by simp only [maxLen]; omega) (by omega) hbase ?_; intro v1 w1 hown1 hg1 hd1 hat1)
 all_goals go_ret
 all_goals
  obtain ⟨A', c', rfl⟩ := own_form hown1
  refine ⟨A', c', rfl, ?_, (Fr.refl _ _).grown hg1 (inl_own HO.out (fun k hk => lb_of (n := n) (c := c) hk)) hd1, fun k hk => ?_⟩
  rotate_left
  ·rcases hat1 with h | h
   ·exact .inl (lb_of (n := n) (c := c) (h.symm.trans hk))
   ·have := h.symm.trans hk
    injection this with this
    exact .inr (by omega)
  rw [List.take_of_length_le (by have := HXS.out; omega), List.drop_of_length_le (by have := HXS.out; omega), List.append_nil]
  exact hown1
set_option maxHeartbeats 2000000 in
set_option maxRecDepth 100000 in
theorem insWh_room (base g : Nat) (n c i : Nat) (cur : Array Value) (xs : List Value) (vb vc : Nat) (vcur : Array Value) (vs : List Value) (w : World) (hg : Blk w g 113 cur) (hbg : base ≤ g) (hcs : cur.size = c * 6) (hcx : cur.toList.take (n * 6) = xs)
  (hi : i < n) (hr : n + 1 ≤ c) (hc63 : c ≤ 9223372036854775807) (hn : n ≤ 1000) (hv : Blk w vb 113 vcur) (hvc : vcur.toList.take 6 = vs) (hne : vb ≠ g) (hvl : vs.length = 6) (h1 : ∀ v ∈ vs, v.oneCell' = true) (h1x : ∀ v ∈ xs, v.oneCell' = true) :
  Calls Tryz.prog 79 #[.slice (some ⟨g, 0, none⟩) n c, .int .i64 i, .slice (some ⟨vb, 0, none⟩) 1 vc] w (InsWh (LB (some ⟨g, 0, none⟩)) base n i xs vs w) := by
 have hcl : cur.toList.length = c * 6 := by rw [Array.length_toList]; exact hcs
 have hxl : xs.length = n * 6 := by rw [← hcx, List.length_take, hcl]; omega
 have hov : ∀ lb cb, (callFunc 141 #[.slice (some ⟨vb, 0, none⟩) 1 vc, .slice (some ⟨g, (i + 1) * 6, none⟩) lb cb]).run Tryz.prog w = .ok (.value (.bool false)) w := fun lb cb => insWh_over vb g vc lb cb ((i + 1) * 6) vcur cur w hv hg hne (by omega)
 have HB2 : Hid ((splice (splice cur.toList ((i + 1) * 6) (xs.drop (i * 6))) (i * 6) vs).take ((n + 1) * 6) = xs.take (i * 6) ++ vs ++ xs.drop (i * 6)) := by
  refine hid ?_
  have h := splice_room cur.toList xs vs (i * 6) (n * 6) hcx (by rw [hcl]; omega) (by omega) (by rw [hcl, hvl]; omega)
  rw [hvl] at h
  rw [Nat.add_mul, Nat.add_mul, Nat.one_mul]
  exact h
 have HC1 : Hid ((xs.drop (i * 6)).length = Nat.min (n + 1 - i) (n - i) * 6) := by
  refine hid ?_
  rw [List.length_drop, hxl, show Nat.min (n + 1 - i) (n - i) = n - i from Nat.min_eq_right (by omega), Nat.sub_mul]
 have HC2 := hid (fun j v (hj : (xs.drop (i * 6))[j]? = some v) => blk_drop hg.drew hcx (i * 6) j v hj)
 have HC3 : Hid ((i + 1) * 6 + (xs.drop (i * 6)).length ≤ cur.size) := hid (by rw [List.length_drop]; omega)
 have HC3' : Hid ((i + 1) * 6 + (xs.drop (i * 6)).length ≤ cur.toList.length) := hid (by rw [List.length_drop, hcl]; omega)
 have HC4 := hid (fun v (hv : v ∈ xs.drop (i * 6)) => h1x v (List.mem_of_mem_drop hv))
 have HC5 : Hid (vs.length = Nat.min 1 (n + 1 - i) * 6) := by
  refine hid ?_
  rw [hvl, show Nat.min 1 (n + 1 - i) = 1 from Nat.min_eq_left (by omega)]
 have HC6 : Hid (i * 6 + vs.length ≤ (splice cur.toList ((i + 1) * 6) (xs.drop (i * 6))).toArray.size) := by
  refine hid ?_
  rw [List.size_toArray, length_splice _ _ _ (by rw [hcl, ← hcs]; exact HC3.out), hcl, hvl]
  omega
 have HXL := hid hxl
 have HVL := hid hvl
 have HG := hid hg
 have HV := hid hv
 have HCS := hid hcs
 have HNE := hid hne
 have HCX := hid hcx
 clear hxl hvl hg hv hcs hne hcx
 have hw1 : IntKind.i64.wrap ((i : Int) + 1) = (i : Int) + 1 := by rw [IntWalk.i64_in _ (by omega)]
 have hb1 : (0 : Int) ≤ (i : Int) + 1 := by omega
 have htn : ((i : Int) + 1).toNat = i + 1 := by omega
 have hb3 : (i : Int) ≤ (n : Int) + 1 := by omega
 have hb4 : (i : Int) + 1 ≤ (n : Int) + 1 := by omega
 have hb5 : (i : Int) ≤ (n : Int) := by omega
 have hb6 : ¬ c = i := by omega
 have hb7 : ¬ c = i + 1 := by omega
 have hb8 : ((i : Int) == (n : Int)) = false := by simp; omega
 go_enter Tryz.func79, Tryz.ntmps79
 go_wp2_with (simp only [hov])
 go_region_law (refine step_copyN rfl (.tmp 73) (.tmp 76) 28 28 rfl 113 6 Tryz.underlying28 cellsWh g ((i + 1) * 6) (n - i) (c - (i + 1)) ⟨g, i * 6, none⟩ (n + 1 - i) (c - i) (by simp [Act.eval, Act.put]) (by simp [Act.eval, Act.put]) cur 113 HG.out.drew (xs.drop (i * 6)) HC1.out HC2.out HC3.out HC4.out ?_; intro w1 hk1 hg1 hd1)
 have HK1 := hid hk1
 have HG1 := hid hg1
 have HV1 := hid (HV.out.drew.grown hg1 (fun e => HNE.out (by injection e)))
 clear hk1 hg1
 go_wp2_with (refine wpList_copyN rfl (.tmp 80) (.tmp 81) 28 28 rfl 113 6 Tryz.underlying28 cellsWh g (i * 6) (n + 1 - i) (c - i) ⟨vb, 0, none⟩ 1 vc (by simp [Act.eval]) (by simp [Act.eval]) _ 113 HK1.out vs HC5.out (blk_at HV1.out hvc) HC6.out h1 ?_; intro w2 hk2 hg2 hd2)
 go_ret
 refine ⟨_, _, rfl, ⟨?_, .inr ⟨g, c, _, rfl, hbg, hk2, by omega, by simpa [maxLen] using hc63, ?_, ?_⟩⟩, ?_, fun k hk => .inl ⟨_, rfl, by injection hk with hk⟩⟩
 ·simp only [List.length_append, List.length_take, List.length_drop]
  have := HXL.out; have := HVL.out
  omega
 ·have h1 := length_splice cur.toList ((i + 1) * 6) (xs.drop (i * 6)) HC3'.out
  have h2 := length_splice (splice cur.toList ((i + 1) * 6) (xs.drop (i * 6))) (i * 6) vs (by simpa using HC6.out)
  rw [List.size_toArray, List.toList_toArray, h2, h1]
  simpa using HCS.out
 ·rw [List.toList_toArray, List.toList_toArray]
  exact HB2.out
 ·have hlt := HG.out.lt
  exact ((Fr.refl _ w).drew.grown HG1.out (fun k hk => .inl (⟨_, rfl, by injection hk with hk⟩)) hd1).grown hg2 (fun k hk => .inl (⟨_, rfl, by injection hk with hk⟩)) hd2
set_option maxHeartbeats 2000000 in
set_option maxRecDepth 100000 in
theorem insWh_grow (base g : Nat) (n c i : Nat) (cur : Array Value) (xs : List Value) (vb vc : Nat) (vcur : Array Value) (vs : List Value) (w : World) (hg : Blk w g 113 cur) (hbase : base ≤ w.heap.size) (hcs : cur.size = c * 6) (hcx : cur.toList.take (n * 6) = xs)
    (hi : i < n) (hnc : n ≤ c) (hr : c < n + 1) (hn : n ≤ 1000) (hv : Blk w vb 113 vcur) (hvc : vcur.toList.take 6 = vs) (hvl : vs.length = 6) (h1 : ∀ v ∈ vs, v.oneCell' = true) (h1x : ∀ v ∈ xs, v.oneCell' = true) :
    Calls Tryz.prog 79 #[.slice (some ⟨g, 0, none⟩) n c, .int .i64 i, .slice (some ⟨vb, 0, none⟩) 1 vc] w (InsWh (LB (some ⟨g, 0, none⟩)) base n i xs vs w) := by
  obtain ⟨i0, hi0, hz0, hzs, hzb⟩ := info_parts infoWh
  have hcl : cur.toList.length = c * 6 := by rw [Array.length_toList]; exact hcs
  have hxl : xs.length = n * 6 := by rw [← hcx, List.length_take, hcl]; omega
  have hold : (Builtin.firstCells i0.size i (.slice (some ⟨g, 0, none⟩) i c)).run Tryz.prog w.drew = .ok (xs.take (i * 6)).toArray w.drew := by
    rw [hzs]
    exact run_firstCells_some w.drew 6 i ⟨g, 0, none⟩ i c (xs.take (i * 6)) (by rw [List.length_take]; omega) (fun j v hj => by
      have hj' : (xs.drop 0)[j]? = some v := by
        rw [List.drop_zero]
        rw [List.getElem?_take] at hj
        split at hj
        · exact hj
        · cases hj
      exact blk_drop hg.drew hcx 0 j v hj')
  have hkk : (n : Int) + 1 - (i : Int) = ((n + 1 - i : Nat) : Int) := by omega
  have hik : i + (n + 1 - i) = n + 1 := by omega
  obtain ⟨G, hG⟩ : ∃ G, G = grownCap w (n + 1) c 113 := ⟨_, rfl⟩
  have hGn : n + 1 ≤ G := by rw [hG]; exact grownCap_ge w _ _ _
  have hG63 : G ≤ 9223372036854775807 := by
    have := grownCap_le_maxLen w (n + 1) c 113 (by unfold maxLen; omega)
    rw [← hG] at this
    unfold maxLen at this
    omega
  obtain ⟨ROW, hROW⟩ : ∃ ROW : Array Value, ROW = (xs.take (i * 6)).toArray ++ Builtin.zeroCells (Value.agg #[.string ⟨#[]⟩, .int .i64 0, .int .i64 0, .int .i64 0, .int .i64 0, .int .i64 0]).cells (n + 1 - i) ++ Builtin.zeroCells (Value.agg #[.string ⟨#[]⟩, .int .i64 0, .int .i64 0, .int .i64 0, .int .i64 0, .int .i64 0]).cells (G - (n + 1)) := ⟨_, rfl⟩
  have hrz : ∀ ty, (Builtin.append_ #[28, 3] ty #[.slice (some ⟨g, 0, none⟩) i c, .int .i64 ((n : Int) + 1 - (i : Int))]).run Tryz.prog w =
      .ok (.slice (some ⟨w.heap.size, 0, none⟩) (n + 1) G) (w.drew.alloc (.cells ROW 113)) := fun ty => by
    have h := Lib.run_append_grow_zeros w 28 3 ty 113 i0 _ .i64 .i64 Tryz.underlying28 Tryz.underlying3 hi0 hz0 (some ⟨g, 0, none⟩) i c (xs.take (i * 6)) hold (n + 1 - i) (by omega) (by omega) (by omega) (by omega) (by rw [hzb]; omega) (by rw [hzb, hik]; exact growslice_fits hr (by omega))
    rw [hik] at h
    rw [hkk, hROW, hG]
    exact h
  have hRs : ROW.size = G * 6 := by
    rw [hROW]
    simp [Builtin.zeroCells, Value.cells]
    omega
  have hRl : ROW.toList.length = G * 6 := by rw [Array.length_toList]; exact hRs
  have hRt : ROW.toList.take (i * 6) = xs.take (i * 6) := by
    rw [hROW, Array.toList_append, Array.toList_append, List.append_assoc, List.take_append_of_le_length (by simp; omega), List.toList_toArray, List.take_take, Nat.min_self]
  have HB2 : Hid ((splice (splice ROW.toList (i * 6) vs) ((i + 1) * 6) (xs.drop (i * 6))).take ((n + 1) * 6) = xs.take (i * 6) ++ vs ++ xs.drop (i * 6)) := by
    refine hid ?_
    have h := splice_new ROW.toList xs vs (i * 6) (n * 6) hRt hxl (by omega) (by rw [hRl, hvl]; omega)
    rw [hvl] at h
    rw [Nat.add_mul, Nat.add_mul, Nat.one_mul]
    exact h
  have hgl := hg.lt
  have hvlt := hv.lt
  have HN := hid (Blk.new_ w.drew 113 ROW (g := w.heap.size) rfl)
  have HV := hid ((hv.drew).alloc (.cells ROW 113))
  have HG0 := hid ((hg.drew).alloc (.cells ROW 113))
  have HC1 : Hid (vs.length = Nat.min 1 (n + 1 - i) * 6) := by
    refine hid ?_
    rw [hvl, show Nat.min 1 (n + 1 - i) = 1 from Nat.min_eq_left (by omega)]
  have HC2 : Hid (i * 6 + vs.length ≤ ROW.size) := hid (by rw [hRs, hvl]; omega)
  have HC2' : Hid (i * 6 + vs.length ≤ ROW.toList.length) := hid (by rw [hRl, hvl]; omega)
  have HC3 : Hid ((xs.drop (i * 6)).length = Nat.min (n - i) (n - i) * 6) := by
    refine hid ?_
    rw [List.length_drop, hxl, show Nat.min (n - i) (n - i) = n - i from Nat.min_self _, Nat.sub_mul]
  have HC4 : Hid ((i + 1) * 6 + (xs.drop (i * 6)).length ≤ (splice ROW.toList (i * 6) vs).toArray.size) := by
    refine hid ?_
    rw [List.size_toArray, length_splice _ _ _ HC2'.out, hRl, List.length_drop]
    omega
  have HC5 := hid (fun v (hv : v ∈ xs.drop (i * 6)) => h1x v (List.mem_of_mem_drop hv))
  have HRL := hid hRl
  have HXL := hid hxl
  have HVL := hid hvl
  have HCX := hid hcx
  have HRS := hid hRs
  have HNE : Hid (w.heap.size ≠ g) := hid (by omega)
  have HNV : Hid (w.heap.size ≠ vb) := hid (by omega)
  clear hRl hxl hvl hcx hRs hold hi0 hz0 hzs hzb hkk hik hROW hG hg hv hcs hcl hRt
  have hw1 : IntKind.i64.wrap ((i : Int) + 1) = (i : Int) + 1 := by rw [IntWalk.i64_in _ (by omega)]
  have hb1 : (0 : Int) ≤ (i : Int) + 1 := by omega
  have htn : ((i : Int) + 1).toNat = i + 1 := by omega
  have hb3 : (i : Int) ≤ (n : Int) + 1 := by omega
  have hb4 : (i : Int) + 1 ≤ (n : Int) + 1 := by omega
  have hb5 : (i : Int) ≤ (n : Int) := by omega
  have hb6 : ¬ c = i := by omega
  have hb7 : ¬ G = i + 1 := by omega
  have hb9 : ¬ G = i := by omega
  have hb8 : ((i : Int) == (n : Int)) = false := by simp; omega
  go_enter Tryz.func79, Tryz.ntmps79
  go_wp2_with (first
    | (at_builtin; refine Lib.wpList_append_run _ rfl _ _ _ _ rfl _ _ rfl rfl _ _ (hrz _) ?_; clear hrz)
    | (refine wpList_copyN rfl (.tmp 43) (.tmp 44) 28 28 rfl 113 6 Tryz.underlying28 cellsWh w.heap.size (i * 6) (n + 1 - i) (G - i) ⟨vb, 0, none⟩ 1 vc (by simp [Act.eval]) (by simp [Act.eval]) ROW 113 HN.out.drew vs HC1.out (blk_at HV.out.drew hvc) HC2.out h1 ?_; intro w1 hk1 hg1 hd1))
  have HK1 := hid hk1
  have HG1 := hid hg1
  have HG0' := hid ((show Blk (w.alloc (.cells ROW 113)).drew g 113 cur from HG0.out).grown hg1 (fun e => HNE.out (by injection e with e; exact e.symm)))
  have HC2a := hid (fun j v (hj : (xs.drop (i * 6))[j]? = some v) => blk_drop HG0'.out.drew HCX.out (i * 6) j v hj)
  clear hk1 hg1
  go_region_law (refine step_copyN rfl (.tmp 50) (.tmp 53) 28 28 rfl 113 6 Tryz.underlying28 cellsWh w.heap.size ((i + 1) * 6) (n - i) (G - (i + 1)) ⟨g, i * 6, none⟩ (n - i) (c - i) (by simp [Act.eval, Act.put]) (by simp [Act.eval, Act.put]) _ 113 HK1.out.drew (xs.drop (i * 6)) HC3.out HC2a.out HC4.out HC5.out ?_; intro w2 hk2 hg2 hd2)
  have HK2 := hid hk2
  have HG2 := hid hg2
  clear hk2 hg2
  go_wp2
  go_ret
  refine ⟨_, _, rfl, ⟨?_, .inr ⟨w.heap.size, G, _, rfl, hbase, HK2.out, hGn, by simpa [maxLen] using hG63, ?_, ?_⟩⟩, ?_, fun k hk => .inr (Nat.le_of_eq (show w.heap.size = k by injection hk))⟩
  · simp only [List.length_append, List.length_take, List.length_drop]
    have := HXL.out; have := HVL.out
    omega
  · have h1 := length_splice ROW.toList (i * 6) vs HC2'.out
    have h2 := length_splice (splice ROW.toList (i * 6) vs) ((i + 1) * 6) (xs.drop (i * 6)) (by simpa using HC4.out)
    rw [List.size_toArray, List.toList_toArray, h2, h1]
    simpa using HRS.out
  · rw [List.toList_toArray, List.toList_toArray]
    exact HB2.out
  · exact ((((Fr.refl _ w).alloc _).drew.grown HG1.out (fun k hk => .inr (by injection hk with hk; omega)) hd1).drew).grown HG2.out (fun k hk => .inr (by injection hk with hk; omega)) hd2
theorem insWh_any (base : Nat) (A : Option Addr) (n c i : Nat) (xs : List Value) (vb vc : Nat) (vcur : Array Value) (vs : List Value) (w : World) (hown : w.ownsRow base 113 6 (.slice A n c) n xs) (hbase : base ≤ w.heap.size)
  (hi : i ≤ n) (hn : n ≤ 1000) (hv : Blk w vb 113 vcur) (hvc : vcur.toList.take 6 = vs) (hne : (Value.slice A n c).ownBlock ≠ some vb) (hvl : vs.length = 6) (h1 : ∀ v ∈ vs, v.oneCell' = true) (h1x : ∀ v ∈ xs, v.oneCell' = true) :
  Calls Tryz.prog 79 #[.slice A n c, .int .i64 i, .slice (some ⟨vb, 0, none⟩) 1 vc] w (InsWh (LB A) base n i xs vs w) := by
 by_cases hin : i = n
 ·subst hin
  exact insWh_end base A i c xs vb vc vcur vs w hown hbase hn hv hvc hvl h1
 ·obtain ⟨hl, h2⟩ := hown
  rcases h2 with ⟨_, h0⟩ | ⟨g, cap, cur, hA, hbg, hh, hnc, hm, hsz, htk⟩
  ·omega
  ·injection hA with hA _ hcap
   subst hA; subst hcap
   have hne' : vb ≠ g := fun e => hne (by subst e; rfl)
   by_cases hr : n + 1 ≤ c
   ·exact insWh_room base g n c i cur xs vb vc vcur vs w hh hbg hsz htk (by omega) hr (by simpa [maxLen] using hm) hn hv hvc hne' hvl h1 h1x
   ·exact insWh_grow base g n c i cur xs vb vc vcur vs w hh hbase hsz htk (by omega) hnc (by omega) hn hv hvc hvl h1 h1x
end Go.Proofs.YtkclokmfomnbgaaGreat
namespace Go.Proofs.YtkclokmfomnbgaaGreat
open Go.RowKit
set_option linter.unusedVariables false
def ClnWh (base n : Nat) (xs : List Value) (w : World) (e : Ending) (w' : World) : Prop :=
 ∃ A' c', e = .returned (.slice A' n c') ∧ w'.ownsRow base 113 6 (.slice A' n c') n xs ∧ Below base w w' ∧ w.drawn ≤ w'.drawn
set_option maxRecDepth 100000 in
theorem clnWh_any (A : Option Addr) (n c : Nat) (xs : List Value) (w : World) (hA : A = none → n = 0) (hn : n ≤ 1000) (hxl : xs.length = n * 6) (hx : ∀ ad, A = some ad → ∀ j u, xs[j]? = some u → w.cell? (ad.add j) = some u) (h1 : ∀ v ∈ xs, v.oneCell' = true) :
  Calls Tryz.prog 119 #[.slice A n c] w (ClnWh w.heap.size n xs w) := by
 obtain ⟨i0, hi0, hz0, hzs, hzb⟩ := info_parts infoWh
 cases A with
 | none =>
  obtain rfl := hA rfl
  obtain rfl : xs = [] := List.eq_nil_of_length_eq_zero (by simpa using hxl)
  clear hx hxl hi0 hz0 hzs hzb h1
  have hnl := fun (w : World) => Lib.run_eql_slice_nil (P := Tryz.prog) w 28 113 none 0 c 0 0 Tryz.underlying28
  go_enter Tryz.func119, Tryz.ntmps119
  go_wp2
  go_ret
  exact ⟨none, 0, rfl, World.ownsRow_nil _ _ _ _, Below.refl _ _, Nat.le_refl _⟩
 | some ad =>
  have HX := hid (hx ad rfl)
  have HXL := hid hxl
  have HZ0 := hid hz0
  have HZS := hid hzs
  have HZB := hid hzb
  have HI0 := hid hi0
  clear hx hxl hA hi0 hz0 hzs hzb
  have hnl := fun (w : World) => Lib.run_eql_slice_nil (P := Tryz.prog) w 28 113 (some ad) n c 0 0 Tryz.underlying28
  go_enter Tryz.func119, Tryz.ntmps119
  have hown0 : (w.alloc (.cells #[] 113)).ownsRow w.heap.size 113 6 (.slice (some ⟨w.heap.size, 0, none⟩) 0 0) 0 [] :=
   ⟨by simp, .inr ⟨w.heap.size, 0, #[], rfl, Nat.le_refl _, heap_alloc_new w _, by omega, by simp [maxLen], by simp, by simp⟩⟩
  have HO := hid hown0
  have HX1 := hid (fun j u (hj : xs[j]? = some u) => (World.cell?_alloc_lt w (.cells #[] 113) (ad.add j) (cell_lt (HX.out j u hj))).trans (HX.out j u hj))
  clear hown0
  go_wp2_with (at_builtin; refine wpList_appD _ rfl _ _ 28 rfl w.heap.size 113 i0 _ 6 56 Tryz.underlying28 HI0.out HZ0.out HZS.out HZB.out rfl (by decide) _ _ _ rfl HO.out ad n c xs rfl HXL.out HX1.out h1 (by simp only [maxLen]; omega) (by omega) (by simp) ?_; intro v1 w1 hown1 hg1 hd1 hat1)
  go_ret
  rw [Nat.zero_add, List.nil_append] at hown1
  obtain ⟨A', c', rfl⟩ := own_form hown1
  exact ⟨A', c', rfl, hown1, ((Below.refl _ _).alloc (Nat.le_refl _) _).grown hg1 (by simp) (own_base HO.out), hd1⟩
end Go.Proofs.YtkclokmfomnbgaaGreat
namespace Go.Proofs.YtkclokmfomnbgaaGreat
open Go.RowKit
set_option linter.unusedVariables false
theorem cloneWh_fun {α : Type} (enc : α → List Value) (he : ∀ x, (enc x).length = 6) (h1 : ∀ x, ∀ v ∈ enc x, v.oneCell' = true) (cl : Bool) (l : List α) (hl : l.length ≤ 1000) :
  Fun Tryz.prog 119 [.c (.sl cl (l.map fun x => (enc x).map .v))] [.o 113 6 (l.map fun x => (enc x).map .v)] := by
 refine ⟨callable Tryz.func119 (by kernel_rfl) (by kernel_rfl), fun w R xs hlt hp => ?_⟩
 obtain ⟨v, rfl, hv⟩ := pars_one hp
 obtain ⟨A, c, rfl, hA, hx⟩ := sl_cells he hv
 have hone : ∀ v ∈ l.flatMap enc, v.oneCell' = true := fun v hv => by
  obtain ⟨g, _, hg⟩ := List.mem_flatMap.1 hv
  exact h1 g v hg
 refine (clnWh_any A l.length c (l.flatMap enc) w hA hl (flat_len he l) hx hone).mono ?_
 rintro e w' ⟨A', c', rfl, hown, hb, hd⟩
 exact own_result he h1 (by decide) hlt hown (fr_of_below hb hd) (fun k hk => .inr (own_base hown k hk)) (fun k hk => by have := own_base hown k hk; intro h; have := hlt k h; omega)
set_option maxHeartbeats 1000000 in
theorem insertWh_fun {α : Type} (enc : α → List Value) (he : ∀ x, (enc x).length = 6) (h1 : ∀ x, ∀ v ∈ enc x, v.oneCell' = true) (l : List α) (x : α) (i : Nat) (hi : i ≤ l.length) (hl : l.length ≤ 1000) :
  Fun Tryz.prog 79 [.o 113 6 (l.map fun x => (enc x).map .v), .c (.v (.int .i64 i)), .o 113 6 [(enc x).map .v]] [.o 113 6 ((l.take i ++ [x] ++ l.drop i).map fun x => (enc x).map .v)] := by
 refine ⟨callable Tryz.func79 (by kernel_rfl) (by kernel_rfl), fun w R xs hlt hp => ?_⟩
 obtain ⟨v0, v2, rfl, o0, o2, hap, hf0⟩ := pars_ins (enc := enc) he hp
 obtain ⟨A, c, rfl⟩ := own_form o0
 rcases o2.2 with ⟨_, h0⟩ | ⟨g, cap, cur, rfl, _, hh, hcap, _, hsz, htk⟩
 ·omega
 have hone : ∀ v ∈ l.flatMap enc, v.oneCell' = true := fun v hv => by
  obtain ⟨g, _, hg⟩ := List.mem_flatMap.1 hv
  exact h1 g v hg
 refine (insWh_any 0 A l.length c i (l.flatMap enc) g cap cur (enc x) w o0 (Nat.zero_le _) hi hl hh (by rw [Nat.one_mul] at htk; exact htk) (fun e => hap g e rfl) (he x) (h1 x) hone).mono ?_
 rintro e w' ⟨A', c', rfl, hown, hb, hk⟩
 rw [flat_ins he l x i, show l.length + 1 = (l.take i ++ [x] ++ l.drop i).length by simp; omega] at hown
 rw [show l.length + 1 = (l.take i ++ [x] ++ l.drop i).length by simp; omega] at hk ⊢
 have hL : ∀ k, LB A k → ParBlk [.o 113 6 (l.map fun x => (enc x).map .v), .c (.v (.int .i64 i)), .o 113 6 [(enc x).map .v]] [.slice A l.length c, .int .i64 i, .slice (some ⟨g, 0, none⟩) 1 cap] k := fun k ⟨a, ha, hq⟩ => ⟨0, _, _, _, _, rfl, rfl, by subst ha; simp only [Value.ownBlock]; rw [hq]⟩
 exact own_result he h1 (by decide) hlt hown (hb.imp hL) (fun k hk' => (hk k hk').imp (hL k) (fun h => h)) (fun k hk' => by
  rcases hk k hk' with h | h
  ·exact hf0 k (hL k h)
  ·intro h'; have := hlt k h'; omega)
end Go.Proofs.YtkclokmfomnbgaaGreat
namespace Go.Proofs.YtkclokmfomnbgaaGreat
open Go.RowKit
set_option linter.unusedVariables false
theorem rv_frz {w : World} {R R' : Nat → Prop} {T : TypeId} {sz : Nat} {rows : List (List V)} {x : Value} (h : ParOk w R (.o T sz rows) x) (hR : ∀ b, R b → R' b) (hb : ∀ b, x.ownBlock = some b → R' b) : RV w R' noG (.sl false rows) x := by
 obtain ⟨hsz, xs, g5, g6⟩ := h
 have g5' : w.ownsRow 0 T (Ent.mk 0 (.t T) sz rows).sz (Loc.mk 0 sz x false none).val (Ent.mk 0 (.t T) sz rows).rows.length xs := g5
 rcases own_val g5' with ⟨hv, h0⟩ | ⟨b, cap, hv, hbk⟩
 ·have hv : x = .slice none 0 0 := hv
  rw [hv]
  have : rows = [] := h0
  subst this
  exact .nil _ _ _ (by simp)
 ·have hv : x = .slice (some ⟨b, 0, none⟩) rows.length cap := hv
  have hbk : x.ownBlock = some b := hbk
  rw [hv]
  have hcapn : rows.length ≤ cap := by
   rcases g5.2 with ⟨q, _⟩ | ⟨g', cap', cur, q, _, _, hnc, _⟩
   ·rw [hv] at q; cases q
   ·rw [hv] at q; injection q with _ _ q; omega
  refine .sl _ rows b 0 cap sz (fun i j => (xs[i * sz + j]?).getD undef) (hb b hbk) hcapn (by simp) g6.1 ?_ ?_
  ·intro i j row u h1 h2
   obtain ⟨y, q1, _, q2⟩ := g6.2 i j row u h1 h2
   show w.cell? ⟨b, 0 + i * sz + j, none⟩ = some ((xs[i * sz + j]?).getD undef)
   rw [q1, Nat.zero_add]
   exact own_cell g5' hbk q1
  ·intro i j row u h1 h2
   obtain ⟨y, q1, _, q2⟩ := g6.2 i j row u h1 h2
   show RV w R' noG u ((xs[i * sz + j]?).getD undef)
   rw [q1]; exact q2.mono (fun b hb => ⟨hR b hb, rfl⟩) (Gle.refl _)
def frz : Par → Par
 | .c u => .c u
 | .o _ _ rows => .c (.sl false rows)
theorem Fun.frz {P : Program} {f : FuncId} {ps rs : List Par} (h : Fun P f ps rs) : Fun P f ps (rs.map frz) := by
 refine ⟨h.1, fun w R xs hlt hp => (h.2 w R xs hlt hp).mono ?_⟩
 rintro e w' ⟨ys, R', he, hfr, h1, h2, h3, h4⟩
 have no : ∀ (i : Nat) (T : TypeId) (sz : Nat) (rows : List (List V)), (rs.map Go.Proofs.YtkclokmfomnbgaaGreat.frz)[i]? ≠ some (.o T sz rows) := fun i T sz rows q => by
  rw [List.getElem?_map] at q
  cases hr : rs[i]? with
  | none => rw [hr] at q; cases q
  | some r =>
   rw [hr] at q
   cases r <;> cases q
 refine ⟨ys, fun b => R' b ∨ ParBlk rs ys b, he, hfr, fun b hb => .inl (h1 b hb), ?_, ⟨by rw [List.length_map]; exact h3.len, ?_, ?_, ?_⟩, ?_⟩
 ·rintro b (hb | hb)
  ·exact h2 b hb
  ·refine .inr ⟨?_, h4 b hb⟩
   obtain ⟨i, T, sz, rows, x, q1, q2, q3⟩ := hb
   obtain ⟨_, xs', g, _⟩ := h3.ok i _ x q1 q2
   exact ownsRow_block g q3
 ·intro i p x hp1 hx
  rw [List.getElem?_map] at hp1
  cases hr : rs[i]? with
  | none => rw [hr] at hp1; cases hp1
  | some r =>
   rw [hr] at hp1
   have ho := h3.ok i r x hr hx
   cases r with
   | c u =>
    injection hp1 with hp1; subst hp1
    exact RV.mono ho (fun b hb => ⟨.inl hb, rfl⟩) (Gle.refl _)
   | o T sz rows =>
    injection hp1 with hp1; subst hp1
    exact rv_frz ho (fun b hb => .inl hb) (fun b hb => .inr ⟨i, T, sz, rows, x, hr, hx, hb⟩)
 ·intro i j T sz rows T' sz' rows' x y b hij h1
  exact absurd h1 (no i T sz rows)
 ·rintro b ⟨i, T, sz, rows, x, q1, _⟩
  exact absurd q1 (no i T sz rows)
 ·rintro b ⟨i, T, sz, rows, x, q1, _⟩
  exact absurd q1 (no i T sz rows)
end Go.Proofs.YtkclokmfomnbgaaGreat
namespace Go.Proofs.YtkclokmfomnbgaaGreat
open Go.RowKit Pl
set_option linter.unusedVariables false
theorem whclone_fun (c : Bool) (l : List Wh) (hl : l.length ≤ 1000) : Fun Tryz.prog 119 [.c (.sl c (l.map Wh.row))] [.o 113 6 (l.map Wh.row)] :=
 cloneWh_fun Wh.enc Wh.enc_len Wh.enc_one c l hl
theorem whinsert_fun (l : List Wh) (x : Wh) (i : Nat) (hi : i ≤ l.length) (hl : l.length ≤ 1000) : Fun Tryz.prog 79 [.o 113 6 (l.map Wh.row), .c (.v (.int .i64 i)), .o 113 6 [x.row]] [.o 113 6 ((l.take i ++ [x] ++ l.drop i).map Wh.row)] :=
 insertWh_fun Wh.enc Wh.enc_len Wh.enc_one l x i hi hl
def wcF (n : Nd) : List Par := [.c (.v (.string n.nm)), .c (.v (.string n.ce)), .c (.sl false (n.ms.map Mb.row)), .c (.sl false (n.rs.map Ru.row)), .c (.sl false (n.sv.map Sv.row)), .c (.sl false (n.gs.map Gw.row)),
 .c (.v (.int .i64 n.pl.x)), .c (.v (.int .i64 n.pl.y)), .c (.v (.int .i64 n.pl.z)), .c (.v (.int .i64 n.pl.h)), .c (.v (.int .i64 n.pl.s)), .c (.sl false (n.wh.map Wh.row))]
def wcO (n : Nd) : List Par := [.c (.v (.string n.nm)), .c (.v (.string n.ce)), .c (.sl false (n.ms.map Mb.row)), .c (.sl false (n.rs.map Ru.row)), .c (.sl false (n.sv.map Sv.row)), .c (.sl false (n.gs.map Gw.row)),
 .c (.v (.int .i64 n.pl.x)), .c (.v (.int .i64 n.pl.y)), .c (.v (.int .i64 n.pl.z)), .c (.v (.int .i64 n.pl.h)), .c (.v (.int .i64 n.pl.s)), .o 113 6 (n.wh.map Wh.row)]
theorem ckWh_inv {l : List Wh} (h : ckWh l = 0) : l.length ≤ 20 := by
 unfold ckWh ckL at h
 split at h
 ·cases h
 ·omega
theorem open_err (n : Nd) (h : n.ok) (he : n.err ≠ 0) : Fun Tryz.prog 59 [.c (.agg n.row)] [.c (.v (.pointer none)), .c (.v (.int .i64 n.err))] := by
 refine fun_x ck_node_open rfl ?_
 refine G1 ?_; intro gg
 (refine .inl ⟨_, _, false, [], aI, ndCheck_fun n h, nobor, nI, ?_⟩)
 refine G1 ?_; intro gg
 rw [show (n.err != 0) = true from bne_iff_ne.2 he]
 refine G0 ?_
 (exact ⟨[], aI⟩)
theorem open_F (n : Nd) (h : n.ok) (g : n.Good) (he : n.err = 0) : FunM Tryz.prog 59 [.p (.c (.agg n.row))] [.pn 89 (wcF n), .p (.c (.v (.int .i64 0)))] := by
 have i1 := (ckMb_inv g.ms).1
 have i2 := (ckRu_inv g.rs).len
 have i3 := (ckSv_inv g.sv).1
 have i4 := (ckGw_inv g.gs).1
 have i5 := ckWh_inv g.wh
 have c1 := (mclone_fun false n.ms (by omega)).frz
 have c2 := (cloneRu_fun false n.rs (by omega)).frz
 have c3 := (sclone_fun false n.sv (by omega)).frz
 have c4 := (gclone_fun false n.gs (by omega)).frz
 have c5 := (whclone_fun false n.wh (by omega)).frz
 simp only [List.map_cons, List.map_nil, Go.Proofs.YtkclokmfomnbgaaGreat.frz] at c1 c2 c3 c4 c5
 have cc := ndCheck_fun n h
 rw [he] at cc
 refine funM_x ck_node_open rfl rfl (show ([0] : List Nat).Nodup from by decide) ?_
 refine G1 ?_; intro gg
 (refine .inl ⟨_, _, false, [], aI, cc, nobor, nI, ?_⟩)
 refine G1 ?_; intro gg
 (refine ⟨_, _, false, aI, c1, nobor, nI, ?_⟩)
 refine G1 ?_; intro gg
 (refine ⟨_, _, false, aI, c2, nobor, nI, ?_⟩)
 refine G1 ?_; intro gg
 (refine ⟨_, _, false, aI, c3, nobor, nI, ?_⟩)
 refine G1 ?_; intro gg
 (refine ⟨_, _, false, aI, c4, nobor, nI, ?_⟩)
 refine G1 ?_; intro gg
 (refine ⟨_, _, false, aI, c5, nobor, nI, ?_⟩)
 (refine goI ?_; repeat (intro gg; refine goI ?_))
 (exact ⟨512 :: ([] ++ []), aM_pn (gone := []) (gone1 := []) rfl aI (by decide) (by decide) (by decide) aM⟩)
theorem retn2 {env : Nat → V} {H : Nat → Option Ent} {ts : List RT} {cs cs' : List V} {v : V} (hG : GetR env H ts [.agg cs, v]) (hc : CellsB H [] cs cs') (hv : Cl v) : ∃ us gone, GetR env H ts us ∧ ArgsOk H gone true gone us [.c (.agg cs'), .c v] := ⟨_, [], hG, .bora hc (.same hv (.nil _))⟩
namespace Pl
structure Pk where
 fr : ByteArray
 wo : Bool
 ms : List Mb
 sv : List Sv
 gs : List Gw
 wh : List Wh
def Pk.row (p : Pk) : List V := [.v (.string p.fr), .v (.bool p.wo), .sl false (p.ms.map Mb.row), .sl false (p.sv.map Sv.row), .sl false (p.gs.map Gw.row), .sl false (p.wh.map Wh.row)]
structure Pk.ok (p : Pk) : Prop where
 fr : p.fr.size ≤ 9223372036854775807
 msl : p.ms.length ≤ 9223372036854775807
 ms : ∀ x ∈ p.ms, x.ok
 svl : p.sv.length ≤ 1000000000000000
 sv : ∀ x ∈ p.sv, x.ok
 gsl : p.gs.length ≤ 1000000000000000
 gs : ∀ x ∈ p.gs, x.ok
 whl : p.wh.length ≤ 1000000000000000
 wh : ∀ x ∈ p.wh, x.ok
def pk0 : Pk := ⟨⟨#[]⟩, false, [], [], [], []⟩
def nd0 : Nd := ⟨⟨#[]⟩, ⟨#[]⟩, [], [], [], [], ⟨0, 0, 0, 0, 0⟩, []⟩
def wholeR (n : Nd) : Pk := ⟨n.nm, true, n.ms, n.sv, n.gs, n.wh⟩
noncomputable def wholeM (n : Nd) : Pk := if n.err ≠ 0 then pk0 else wholeR n
def newR (nm ce : ByteArray) (ad : Int) (sv : Bool) : Nd := ⟨nm, ce, [⟨nm, 1, 1, ad, sv⟩], [], [], [], ⟨0, 0, 0, 0, 1000⟩, []⟩
noncomputable def newM (nm ce : ByteArray) (ad : Int) (sv : Bool) : Nd := if (newR nm ce ad sv).err ≠ 0 then nd0 else newR nm ce ad sv
end Pl
theorem whole_fun (n : Nd) (h : n.ok) : Fun Tryz.prog 20 [.c (.agg n.row)] [.c (.agg (wholeM n).row), .c (.v (.int .i64 n.err))] := by
 by_cases he : n.err = 0
 ·have e : wholeM n = wholeR n := by unfold wholeM; rw [if_neg (by simp [he])]
  rw [e, he]
  refine fun_xc ck_node_Whole rfl ?_
  (refine goI ?_; repeat (intro gg; refine goI ?_))
  (refine .inr (.inl ⟨_, _, false, [], aM, open_F n h (Nd.good he) he, nobor, oI, dI, ?_⟩))
  refine G1 ?_; intro gg
  refine retn2 (.cell1 rfl rfl rfl rfl rfl rfl (.tmp1 rfl .nil)) cBI (cl_b rfl)
 ·have e : wholeM n = pk0 := by unfold wholeM; rw [if_pos he]
  rw [e]
  refine fun_xc ck_node_Whole rfl ?_
  (refine goI ?_; repeat (intro gg; refine goI ?_))
  (refine .inl ⟨_, _, false, [], aI, open_err n h he, nobor, nI, ?_⟩)
  refine G1 ?_; intro gg
  rw [show (n.err != 0) = true from bne_iff_ne.2 he]
  refine G0 ?_
  refine retn2 (.cell1 rfl rfl rfl rfl rfl rfl (.tmp1 rfl .nil)) cBI (cl_b rfl)
theorem new_fun (nm ce : ByteArray) (ad : Int) (sv : Bool) (hn : nm.size ≤ 9223372036854775807) (hc : ce.size ≤ 9223372036854775807) : Fun Tryz.prog 12 [.c (.v (.string nm)), .c (.v (.string ce)), .c (.v (.int .i64 ad)), .c (.v (.bool sv))]
  [.c (.agg (newM nm ce ad sv).row), .c (.v (.int .i64 (newR nm ce ad sv).err))] := by
 have ho : (newR nm ce ad sv).ok := ⟨hn, hc, by show 1 ≤ _; omega, fun x hx => by simp [newR] at hx; subst hx; exact hn, Nat.zero_le _, fun x hx => by simp [newR] at hx, Nat.zero_le _, fun x hx => by simp [newR] at hx, Nat.zero_le _, fun x hx => by simp [newR] at hx, Nat.zero_le _, fun x hx => by simp [newR] at hx⟩
 have hck := ndCheck_fun _ ho
 refine fun_xc ck_node_New rfl ?_
 (refine goI ?_; repeat (intro gg; refine goI ?_))
 (refine .inl ⟨_, _, true, [], aI, hck, (fun _ => fI), nI, ?_⟩)
 refine G1 ?_; intro gg
 (refine bIf_of (fun h1 => ?_) (fun h1 => ?_) <;> rw [h1])
 ·have h1' : (newR nm ce ad sv).err ≠ 0 := by simpa using h1
  have e : newM nm ce ad sv = nd0 := by unfold newM; rw [if_pos h1']
  rw [e]
  refine G0 ?_
  refine retn2 (.cell1 rfl rfl rfl rfl rfl rfl (.tmp1 rfl .nil)) cBI (cl_b rfl)
 ·have h1' : (newR nm ce ad sv).err = 0 := by simpa using h1
  have e : newM nm ce ad sv = newR nm ce ad sv := by unfold newM; rw [if_neg (by simp [h1'])]
  rw [e, h1']
  refine G0 ?_
  refine retn2 (.cell1 rfl rfl rfl rfl rfl rfl (.tmp1 rfl .nil)) cBI (cl_b rfl)
end Go.Proofs.YtkclokmfomnbgaaGreat
namespace Go.Proofs.YtkclokmfomnbgaaGreat.PlM
open Go.Proofs.YtkclokmfomnbgaaGreat Pl
set_option linter.unusedVariables false
theorem kf_self (x : Mb) : Mb.kf x x = 0 := scmp_eq _
theorem kf_sym (x y : Mb) (h : Mb.kf x y = 0) : Mb.kf y x = 0 := by have := scmp_zero.1 h; exact scmp_zero.2 this.symm
theorem kf_tr (x y z : Mb) (h : Mb.kf x y = 0) (k : Mb.kf y z = 0) : Mb.kf x z = 0 := by have h1 := scmp_zero.1 h; have h2 := scmp_zero.1 k; exact scmp_zero.2 (h2.trans h1)
theorem newest : Newest Mb.kf Mb.nw := newest_of (c := Mb.cmp) (good_list [fun (g x : Mb) => icmp g.lf x.lf, fun (g x : Mb) => icmp g.st x.st, fun (g x : Mb) => icmp g.ad x.ad, fun (g x : Mb) => icmp (b2i g.sv) (b2i x.sv)] (by
    intro c hc
    simp only [List.mem_cons, List.not_mem_nil, or_false] at hc
    rcases hc with rfl | rfl | rfl | rfl
    · exact good_int (fun m : Mb => m.lf)
    · exact good_int (fun m : Mb => m.st)
    · exact good_int (fun m : Mb => m.ad)
    · exact good_int (fun m : Mb => b2i m.sv))) (by
    intro x y h1 h2
    have hz := nz_zero (l := [icmp x.lf y.lf, icmp x.st y.st, icmp x.ad y.ad, icmp (b2i x.sv) (b2i y.sv)]) h2
    have e1 := icmp_zero.1 (hz _ (by simp : icmp x.lf y.lf ∈ _))
    have e2 := icmp_zero.1 (hz _ (by simp : icmp x.st y.st ∈ _))
    have e3 := icmp_zero.1 (hz _ (by simp : icmp x.ad y.ad ∈ _))
    have e4 := icmp_zero.1 (hz _ (by simp : icmp (b2i x.sv) (b2i y.sv) ∈ _))
    have e0 : y.n = x.n := scmp_zero.1 h1
    obtain ⟨a, b, c, d, e⟩ := x
    obtain ⟨a', b', c', d', e'⟩ := y
    simp only at e0 e1 e2 e3 e4
    subst e0 e1 e2 e3
    have : e = e' := by cases e <;> cases e' <;> first | rfl | (simp [b2i] at e4)
    rw [this])
theorem ck_upd {l : List Mb} {g : Mb} (h : ckMb l = 0) (hg : g.err = 0) (hn : (Pl.upd Mb.kf Mb.nw l g).length ≤ 20) : ckMb (Pl.upd Mb.kf Mb.nw l g) = 0 := by
 have hi := ckMb_inv h
 refine ckL_ok hn (fun i hi' => ?_) (sorted_get (Mb.ord.upd Mb.nw hi.2.2 g))
 rcases upd_mem (List.getElem_mem hi') with e | e
 ·rw [e]; exact hg
 ·obtain ⟨j, hj, e⟩ := List.getElem_of_mem e
  rw [← e]; exact hi.2.1 j hj
theorem rep0 {l : List Mb} (h : ckMb l = 0) : Rep Mb.lt Mb.kf Mb.nw l (· ∈ l) := rep_self newest kf_self (ckMb_inv h).2.2
theorem rep1 {l : List Mb} {S : Mb → Prop} (h : Rep Mb.lt Mb.kf Mb.nw l S) (g : Mb) : Rep Mb.lt Mb.kf Mb.nw (Pl.upd Mb.kf Mb.nw l g) (fun x => S x ∨ x = g) := rep_upd Mb.ord newest kf_self kf_sym kf_tr h g
theorem hear_inv {l : List Mb} {m : Mb} (h : (hearM l m).1 = 0) : ckMb l = 0 ∧ m.err = 0 ∧ ¬ 20 < (Pl.upd Mb.kf Mb.nw l m).length ∧ hearM l m = (0, Pl.upd Mb.kf Mb.nw l m, hearF Mb.kf Mb.nw l m) := by
 by_cases h1 : ckMb l = 0
 ·by_cases h2 : m.err = 0
  ·by_cases h3 : 20 < (Pl.upd Mb.kf Mb.nw l m).length
   ·rw [hearM_many h1 h2 h3] at h; cases h
   ·exact ⟨h1, h2, h3, hearM_ok h1 h2 h3⟩
  ·rw [hearM_one h1 h2] at h; exact absurd h h2
 ·rw [hearM_ck h1] at h; exact absurd h h1
theorem hear_mem {l : List Mb} {m x : Mb} (h : x ∈ (hearM l m).2.1) : x = m ∨ x ∈ l := by
 unfold hearM at h
 split at h
 ·cases h
 ·split at h
  ·cases h
  ·split at h
   ·cases h
   ·exact upd_mem h
theorem grows_at {l : List Mb} {m : Mb} (hl : ckMb l = 0) {y : Mb} (hy : y ∈ l) : ∃ h : hit (Mb.cf y.n) (Pl.upd Mb.kf Mb.nw l m) = true,
  (Pl.upd Mb.kf Mb.nw l m)[low (Mb.cf y.n) (Pl.upd Mb.kf Mb.nw l m)]'(hit_lt h) = y ∨ Mb.nw ((Pl.upd Mb.kf Mb.nw l m)[low (Mb.cf y.n) (Pl.upd Mb.kf Mb.nw l m)]'(hit_lt h)) y = true := by
 have hs := Mb.ord.upd Mb.nw (ckMb_inv hl).2.2 m
 obtain ⟨z, hz, h1, h2⟩ := (rep1 (rep0 hl) m).top y (.inl hy)
 have hzc : Mb.cf y.n z = 0 := kf_sym z y h1
 have hh := hit_of (Mb.smono hs y.n) hz hzc
 refine ⟨hh, ?_⟩
 have h0 : Mb.kf y ((Pl.upd Mb.kf Mb.nw l m)[low (Mb.cf y.n) (Pl.upd Mb.kf Mb.nw l m)]'(hit_lt hh)) = 0 := hit_zero hh
 have e : (Pl.upd Mb.kf Mb.nw l m)[low (Mb.cf y.n) (Pl.upd Mb.kf Mb.nw l m)]'(hit_lt hh) = z := sorted_uniq Mb.ord kf_self hs (List.getElem_mem _) hz (kf_tr _ _ _ (kf_sym _ _ h0) hzc)
 rw [e]
 rcases Bool.eq_false_or_eq_true (Mb.nw z y) with q | q
 ·exact .inr q
 ·exact .inl (newest.tot z y h1 q h2)
theorem ref_inv {l : List Mb} {me : ByteArray} (h1 : (refM l me).1 = 0) (h2 : (refM l me).2.2 = true) : ∃ h : hit (Mb.cf me) l = true, (refM l me).2.1 = l.set (low (Mb.cf me) l) (l[low (Mb.cf me) l]'(hit_lt h)).up := by
 by_cases hc : ckMb l = 0
 ·cases hb : lab me.data.toList with
  | false => rw [refM_lab hc hb] at h2; cases h2
  | true =>
   rw [refM_ok hc hb] at h1 h2 ⊢
   rcases Bool.eq_false_or_eq_true (hit (Mb.cf me) l) with q | q
   ·refine ⟨q, ?_⟩
    rw [refR_hit q] at h2 ⊢
    split at h2
    ·cases h2
    ·rename_i g1
     rw [if_neg g1]
     split at h2
     ·cases h2
     ·rename_i g2
      rw [if_neg g2]
      split at h2
      ·cases h2
      ·rename_i g3; rw [if_neg g3]
   ·rw [refR_miss q] at h2; cases h2
 ·rw [refM_ck hc] at h2; cases h2
theorem up_sorted {l : List Mb} {me : ByteArray} (hs : sorted Mb.lt l = true) (h : hit (Mb.cf me) l = true) : sorted Mb.lt (l.set (low (Mb.cf me) l) (l[low (Mb.cf me) l]'(hit_lt h)).up) = true := by
 rw [← Mb.up_upd h]; exact Mb.ord.upd Mb.nw hs _
theorem up_cf {l : List Mb} {me : ByteArray} (h : hit (Mb.cf me) l = true) : Mb.cf me (l[low (Mb.cf me) l]'(hit_lt h)).up = 0 := hit_zero h
end Go.Proofs.YtkclokmfomnbgaaGreat.PlM
namespace Go.Proofs.YtkclokmfomnbgaaGreat
open Go.RowKit Pl
set_option linter.unusedVariables false
theorem same_fun (c d : Bool) (a b : List Mb) (ha : a.length ≤ 9223372036854775807) : Fun Tryz.prog 70 [.c (.sl c (a.map Mb.row)), .c (.sl d (b.map Mb.row))] [.c (.v (.bool (sameL Mb.same a b)))] := by
  refine fun_x ck_hearsayref_SameMembers rfl ?_
  (refine goI ?_; repeat (intro gg; refine goI ?_; trace "GG.MbS.1"))
  rw [List.length_map, List.length_map]
  (refine bIf_of (fun h => ?_) (fun h => ?_) <;> rw [h])
  · (refine goI ?_; repeat (intro gg; refine goI ?_; trace "GG.MbS.2"))
    rw [sameL_no (fun e => by rw [e] at h; simp at h)]
    (exact ⟨[], aI⟩)
  · have hab : a.length = b.length := by have h' : ((a.length : Int) != (b.length : Int)) = false := h
                                         simp at h'; omega
    (refine goI ?_; repeat (intro gg; refine goI ?_; trace "GG.MbS.3"))
    (refine ⟨[], none, {k : Nat // k ≤ a.length ∧ ∀ j, (h : j < a.length) → j < k → Mb.same a[j] (b[j]'(by omega)) = true}, [0, 1], fun ⟨k, hk, h0⟩ => [(5, .v (.int .i64 k))], [], fun ⟨k, hk, h0⟩ => [], fun ⟨k, hk, h0⟩ => a.length - k, trivial, fun _ => ⟨trivial, fun _ => ⟨⟨0, by omega, fun j _ h => by omega⟩, tI, keptE_refl _ _, tI, keptH_refl _ _⟩⟩, fun ⟨k, hk, h0⟩ => ?_⟩)
    (refine goI ?_; repeat (intro gg; refine goI ?_; trace "GG.MbS.4"))
    rw [List.length_map]
    (refine bIf_of (fun h2 => ?_) (fun h2 => ?_) <;> rw [h2])
    · have hlt : k < a.length := (by have := of_decide_eq_true h2; omega)
      have hlt' : k < b.length := by omega
      (refine goI ?_; repeat (intro gg; refine goI ?_; trace "GG.MbS.5"))
      refine ⟨k, _, rfl, row_map hlt, ?_⟩
      (refine goI ?_; repeat (intro gg; refine goI ?_; trace "GG.MbS.6"))
      refine ⟨k, _, rfl, row_map hlt', ?_⟩
      (refine goI ?_; repeat (intro gg; refine goI ?_; trace "GG.MbS.7"))
      (refine bIf_of (fun h3 => ?_) (fun h3 => ?_) <;> rw [h3])
      · (refine goI ?_; repeat (intro gg; refine goI ?_; trace "GG.MbS.8"))
        rw [sameL_at hlt hlt' (not_t (b := Mb.same a[k] b[k]) h3)]
        (exact ⟨[], aI⟩)
      · (refine goI ?_; repeat (intro gg; refine goI ?_; trace "GG.MbS.9"))
        (exact ⟨none, trivial, fun _ => ⟨⟨k + 1, by omega, up1 (p := fun j h => Mb.same a[j] (b[j]'(by omega)) = true) h0 (fun _ => not_f (b := Mb.same a[k] b[k]) h3)⟩, by show a.length - (k + 1) < a.length - k; omega, tI, tI, tI, tI⟩⟩)
    · have hge : ¬ k < a.length := (by have := of_decide_eq_false h2; omega)
      (refine goI ?_; repeat (intro gg; refine goI ?_; trace "GG.MbS.10"))
      rw [sameL_yes hab (fun i hi _ => h0 i hi (by omega))]
      (exact ⟨[], aI⟩)
end Go.Proofs.YtkclokmfomnbgaaGreat
namespace Go.Proofs.YtkclokmfomnbgaaGreat
open Go.RowKit Pl
set_option linter.unusedVariables false
theorem rhear_fun (l : List Mb) (m : Mb) (hl : l.length ≤ 100) (hs : sorted Mb.lt l = true) : Fun Tryz.prog 129 [.c (.sl false (l.map Mb.row)), .c (.agg m.row)] [.c (.sl false ((Pl.upd Mb.kf Mb.nw l m).map Mb.row)), .c (.v (.bool (hearF Mb.kf Mb.nw l m)))] := by
 have hm := Mb.smono hs m.n
 have hat := Mb.at_eq hs m.n
 have hA := at_fun false l m.n (by omega)
 by_cases hF : hearF Mb.kf Mb.nw l m = true
 ·have hup := Mb.putL_eq hs hF
  rw [← hup, hF]
  refine fun_x ck_hearsayref_HearMember rfl ?_
  rcases Bool.eq_false_or_eq_true (hit (Mb.cf m.n) l) with h1 | h1
  ·have h1' : hit (Mb.kf m) l = true := h1
   have hlt := hit_lt h1
   have h2 : Mb.nw m l[low (Mb.cf m.n) l] = true := (hearF_hit h1').symm.trans hF
   rw [hat, if_pos h1] at hA
   refine G1 ?_; intro gg
   (refine .inl ⟨_, _, false, [], aI, hA, nobor, nI, ?_⟩)
   refine G1 ?_; intro gg
   refine ⟨low (Mb.cf m.n) l, _, rfl, row_map hlt, ?_⟩
   refine G0 ?_
   (refine .inl ⟨_, _, false, [], aI, rnewer_fun _ _, nobor, nI, ?_⟩)
   rw [h2]
   refine G1 ?_; intro gg
   (refine ⟨[(7, 112, 37, 5)], none, {p : Nat × Nat // p.1 ≤ l.length}, [0, 3], fun ⟨⟨k, g⟩, hk⟩ => [(7, .own 112 g), (8, .v (.bool (putTo (Mb.ge m) (Mb.ne m) m (l.take k)).2)), (9, .v (.int .i64 k))], [48], fun ⟨⟨k, g⟩, hk⟩ => [(112, ⟨g, 37, 5, (putTo (Mb.ge m) (Mb.ne m) m (l.take k)).1.map Mb.row⟩)], fun ⟨⟨k, g⟩, hk⟩ => l.length - k, (by exact ⟨rfl, by decide, (fun _ _ _ _ h => by cases h), trivial⟩), fun gs => ⟨trivial, fun _ => ⟨⟨(0, gs 112), by omega⟩, tI, tI, tI, tI⟩⟩, fun ⟨⟨k, g⟩, hk⟩ => ?_⟩)
   have hk' : k ≤ l.length := hk
   have hlen := putTo_len (ge := Mb.ge m) (ne := Mb.ne m) (g := m) k (l.take k) (by rw [List.length_take]; omega)
   refine G0 ?_
   rw [List.length_map]
   (refine bIf_of (fun h3 => ?_) (fun h3 => ?_) <;> rw [h3])
   ·have hlt3 : k < l.length := (by have := of_decide_eq_true h3; omega)
    have hN := putTo_next (ge := Mb.ge m) (ne := Mb.ne m) (g := m) hlt3
    refine G0 ?_
    (refine bIf_of (fun h4 => ?_) (fun h4 => ?_) <;> rw [h4])
    ·have h4' : (putTo (Mb.ge m) (Mb.ne m) m (l.take k)).2 = false := by simpa using h4
     refine G0 ?_
     refine ⟨k, _, rfl, row_map hlt3, ?_⟩
     refine G0 ?_
     (refine bIf_of (fun h5 => ?_) (fun h5 => ?_) <;> rw [h5])
     ·refine G1 ?_; intro gg
      refine ⟨lI, lI, ?_⟩
      refine G1 ?_; intro gg
      refine ⟨k, _, rfl, row_map hlt3, ?_⟩
      refine G0 ?_
      (refine bIf_of (fun h6 => ?_) (fun h6 => ?_) <;> rw [h6])
      ·have hn : putTo (Mb.ge m) (Mb.ne m) m (l.take (k + 1)) = ((putTo (Mb.ge m) (Mb.ne m) m (l.take k)).1 ++ [m] ++ [l[k]], true) := by rw [hN]; simp [putStep, h4', show Mb.ge m l[k] = true from h5, show Mb.ne m l[k] = true from h6]
       refine G0 ?_
       refine ⟨k, _, rfl, row_map hlt3, ?_⟩
       refine G1 ?_; intro gg
       refine ⟨lI, lI, ?_⟩
       refine G1 ?_; intro gg
       (exact ⟨none, trivial, fun gr => ⟨⟨(k + 1, gg), by dsimp only; omega⟩, by show l.length - (k + 1) < l.length - k; omega, hxI hn, hxI hn, hxI hn, hxI hn⟩⟩)
      ·have hn : putTo (Mb.ge m) (Mb.ne m) m (l.take (k + 1)) = ((putTo (Mb.ge m) (Mb.ne m) m (l.take k)).1 ++ [m], true) := by rw [hN]; simp [putStep, h4', show Mb.ge m l[k] = true from h5, show Mb.ne m l[k] = false from h6]
       refine G0 ?_
       (exact ⟨none, trivial, fun gr => ⟨⟨(k + 1, gg), by dsimp only; omega⟩, by show l.length - (k + 1) < l.length - k; omega, hxI hn, hxI hn, hxI hn, hxI hn⟩⟩)
     ·refine G0 ?_
      refine ⟨k, _, rfl, row_map hlt3, ?_⟩
      refine G0 ?_
      (refine bIf_of (fun h6 => ?_) (fun h6 => ?_) <;> rw [h6])
      ·have hn : putTo (Mb.ge m) (Mb.ne m) m (l.take (k + 1)) = ((putTo (Mb.ge m) (Mb.ne m) m (l.take k)).1 ++ [l[k]], (putTo (Mb.ge m) (Mb.ne m) m (l.take k)).2) := by rw [hN]; simp [putStep, h4', show Mb.ge m l[k] = false from h5, show Mb.ne m l[k] = true from h6]
       refine G0 ?_
       refine ⟨k, _, rfl, row_map hlt3, ?_⟩
       refine G1 ?_; intro gg
       refine ⟨lI, lI, ?_⟩
       refine G1 ?_; intro gg
       (exact ⟨none, trivial, fun gr => ⟨⟨(k + 1, gg), by dsimp only; omega⟩, by show l.length - (k + 1) < l.length - k; omega, hxI hn, hxI hn, hxI hn, hxI hn⟩⟩)
      ·have hn : putTo (Mb.ge m) (Mb.ne m) m (l.take (k + 1)) = (putTo (Mb.ge m) (Mb.ne m) m (l.take k)) := by rw [hN]; simp [putStep, h4', show Mb.ge m l[k] = false from h5, show Mb.ne m l[k] = false from h6]
       refine G0 ?_
       (exact ⟨none, trivial, fun gr => ⟨⟨(k + 1, g), by dsimp only; omega⟩, by show l.length - (k + 1) < l.length - k; omega, hxI hn, hxI hn, hxI hn, hxI hn⟩⟩)
    ·have h4' : (putTo (Mb.ge m) (Mb.ne m) m (l.take k)).2 = true := by simpa using h4
     refine G0 ?_
     refine ⟨k, _, rfl, row_map hlt3, ?_⟩
     refine G0 ?_
     (refine bIf_of (fun h6 => ?_) (fun h6 => ?_) <;> rw [h6])
     ·have hn : putTo (Mb.ge m) (Mb.ne m) m (l.take (k + 1)) = ((putTo (Mb.ge m) (Mb.ne m) m (l.take k)).1 ++ [l[k]], (putTo (Mb.ge m) (Mb.ne m) m (l.take k)).2) := by rw [hN]; simp [putStep, h4', show Mb.ne m l[k] = true from h6]
      refine G0 ?_
      refine ⟨k, _, rfl, row_map hlt3, ?_⟩
      refine G1 ?_; intro gg
      refine ⟨lI, lI, ?_⟩
      refine G1 ?_; intro gg
      (exact ⟨none, trivial, fun gr => ⟨⟨(k + 1, gg), by dsimp only; omega⟩, by show l.length - (k + 1) < l.length - k; omega, hxI hn, hxI hn, hxI hn, hxI hn⟩⟩)
     ·have hn : putTo (Mb.ge m) (Mb.ne m) m (l.take (k + 1)) = (putTo (Mb.ge m) (Mb.ne m) m (l.take k)) := by rw [hN]; simp [putStep, h4', show Mb.ne m l[k] = false from h6]
      refine G0 ?_
      (exact ⟨none, trivial, fun gr => ⟨⟨(k + 1, g), by dsimp only; omega⟩, by show l.length - (k + 1) < l.length - k; omega, hxI hn, hxI hn, hxI hn, hxI hn⟩⟩)
   ·have hge : l.length ≤ k := (by have := of_decide_eq_false h3; omega)
    obtain rfl : k = l.length := by omega
    refine G0 ?_
    have hT : putTo (Mb.ge m) (Mb.ne m) m (l.take l.length) = putTo (Mb.ge m) (Mb.ne m) m l := by rw [List.take_length]
    (refine bIf_of (fun h4 => ?_) (fun h4 => ?_) <;> rw [h4])
    ·have h4' : (putTo (Mb.ge m) (Mb.ne m) m l).2 = false := by rw [← hT]; simpa using h4
     refine G1 ?_; intro gg
     refine ⟨lI, lI, ?_⟩
     refine G1 ?_; intro gg
     rw [show putL (Mb.ge m) (Mb.ne m) m l = (putTo (Mb.ge m) (Mb.ne m) m (l.take l.length)).1 ++ [m] by rw [hT]; simp [putL, h4'], List.map_append]
     (exact ⟨[], aI⟩)
    ·have h4' : (putTo (Mb.ge m) (Mb.ne m) m l).2 = true := by rw [← hT]; simpa using h4
     refine G0 ?_
     rw [show putL (Mb.ge m) (Mb.ne m) m l = (putTo (Mb.ge m) (Mb.ne m) m (l.take l.length)).1 by rw [hT]; simp [putL, h4']]
     (exact ⟨[], aI⟩)
  ·have h1' : hit (Mb.kf m) l = false := h1
   rw [hat, if_neg (by rw [h1]; decide)] at hA
   refine G1 ?_; intro gg
   (refine .inl ⟨_, _, false, [], aI, hA, nobor, nI, ?_⟩)
   refine G1 ?_; intro gg
   (refine ⟨[(7, 112, 37, 5)], none, {p : Nat × Nat // p.1 ≤ l.length}, [0, 3], fun ⟨⟨k, g⟩, hk⟩ => [(7, .own 112 g), (8, .v (.bool (putTo (Mb.ge m) (Mb.ne m) m (l.take k)).2)), (9, .v (.int .i64 k))], [48], fun ⟨⟨k, g⟩, hk⟩ => [(112, ⟨g, 37, 5, (putTo (Mb.ge m) (Mb.ne m) m (l.take k)).1.map Mb.row⟩)], fun ⟨⟨k, g⟩, hk⟩ => l.length - k, (by exact ⟨rfl, by decide, (fun _ _ _ _ h => by cases h), trivial⟩), fun gs => ⟨trivial, fun _ => ⟨⟨(0, gs 112), by omega⟩, tI, tI, tI, tI⟩⟩, fun ⟨⟨k, g⟩, hk⟩ => ?_⟩)
   have hk' : k ≤ l.length := hk
   have hlen := putTo_len (ge := Mb.ge m) (ne := Mb.ne m) (g := m) k (l.take k) (by rw [List.length_take]; omega)
   refine G0 ?_
   rw [List.length_map]
   (refine bIf_of (fun h3 => ?_) (fun h3 => ?_) <;> rw [h3])
   ·have hlt3 : k < l.length := (by have := of_decide_eq_true h3; omega)
    have hN := putTo_next (ge := Mb.ge m) (ne := Mb.ne m) (g := m) hlt3
    refine G0 ?_
    (refine bIf_of (fun h4 => ?_) (fun h4 => ?_) <;> rw [h4])
    ·have h4' : (putTo (Mb.ge m) (Mb.ne m) m (l.take k)).2 = false := by simpa using h4
     refine G0 ?_
     refine ⟨k, _, rfl, row_map hlt3, ?_⟩
     refine G0 ?_
     (refine bIf_of (fun h5 => ?_) (fun h5 => ?_) <;> rw [h5])
     ·refine G1 ?_; intro gg
      refine ⟨lI, lI, ?_⟩
      refine G1 ?_; intro gg
      refine ⟨k, _, rfl, row_map hlt3, ?_⟩
      refine G0 ?_
      (refine bIf_of (fun h6 => ?_) (fun h6 => ?_) <;> rw [h6])
      ·have hn : putTo (Mb.ge m) (Mb.ne m) m (l.take (k + 1)) = ((putTo (Mb.ge m) (Mb.ne m) m (l.take k)).1 ++ [m] ++ [l[k]], true) := by rw [hN]; simp [putStep, h4', show Mb.ge m l[k] = true from h5, show Mb.ne m l[k] = true from h6]
       refine G0 ?_
       refine ⟨k, _, rfl, row_map hlt3, ?_⟩
       refine G1 ?_; intro gg
       refine ⟨lI, lI, ?_⟩
       refine G1 ?_; intro gg
       (exact ⟨none, trivial, fun gr => ⟨⟨(k + 1, gg), by dsimp only; omega⟩, by show l.length - (k + 1) < l.length - k; omega, hxI hn, hxI hn, hxI hn, hxI hn⟩⟩)
      ·have hn : putTo (Mb.ge m) (Mb.ne m) m (l.take (k + 1)) = ((putTo (Mb.ge m) (Mb.ne m) m (l.take k)).1 ++ [m], true) := by rw [hN]; simp [putStep, h4', show Mb.ge m l[k] = true from h5, show Mb.ne m l[k] = false from h6]
       refine G0 ?_
       (exact ⟨none, trivial, fun gr => ⟨⟨(k + 1, gg), by dsimp only; omega⟩, by show l.length - (k + 1) < l.length - k; omega, hxI hn, hxI hn, hxI hn, hxI hn⟩⟩)
     ·refine G0 ?_
      refine ⟨k, _, rfl, row_map hlt3, ?_⟩
      refine G0 ?_
      (refine bIf_of (fun h6 => ?_) (fun h6 => ?_) <;> rw [h6])
      ·have hn : putTo (Mb.ge m) (Mb.ne m) m (l.take (k + 1)) = ((putTo (Mb.ge m) (Mb.ne m) m (l.take k)).1 ++ [l[k]], (putTo (Mb.ge m) (Mb.ne m) m (l.take k)).2) := by rw [hN]; simp [putStep, h4', show Mb.ge m l[k] = false from h5, show Mb.ne m l[k] = true from h6]
       refine G0 ?_
       refine ⟨k, _, rfl, row_map hlt3, ?_⟩
       refine G1 ?_; intro gg
       refine ⟨lI, lI, ?_⟩
       refine G1 ?_; intro gg
       (exact ⟨none, trivial, fun gr => ⟨⟨(k + 1, gg), by dsimp only; omega⟩, by show l.length - (k + 1) < l.length - k; omega, hxI hn, hxI hn, hxI hn, hxI hn⟩⟩)
      ·have hn : putTo (Mb.ge m) (Mb.ne m) m (l.take (k + 1)) = (putTo (Mb.ge m) (Mb.ne m) m (l.take k)) := by rw [hN]; simp [putStep, h4', show Mb.ge m l[k] = false from h5, show Mb.ne m l[k] = false from h6]
       refine G0 ?_
       (exact ⟨none, trivial, fun gr => ⟨⟨(k + 1, g), by dsimp only; omega⟩, by show l.length - (k + 1) < l.length - k; omega, hxI hn, hxI hn, hxI hn, hxI hn⟩⟩)
    ·have h4' : (putTo (Mb.ge m) (Mb.ne m) m (l.take k)).2 = true := by simpa using h4
     refine G0 ?_
     refine ⟨k, _, rfl, row_map hlt3, ?_⟩
     refine G0 ?_
     (refine bIf_of (fun h6 => ?_) (fun h6 => ?_) <;> rw [h6])
     ·have hn : putTo (Mb.ge m) (Mb.ne m) m (l.take (k + 1)) = ((putTo (Mb.ge m) (Mb.ne m) m (l.take k)).1 ++ [l[k]], (putTo (Mb.ge m) (Mb.ne m) m (l.take k)).2) := by rw [hN]; simp [putStep, h4', show Mb.ne m l[k] = true from h6]
      refine G0 ?_
      refine ⟨k, _, rfl, row_map hlt3, ?_⟩
      refine G1 ?_; intro gg
      refine ⟨lI, lI, ?_⟩
      refine G1 ?_; intro gg
      (exact ⟨none, trivial, fun gr => ⟨⟨(k + 1, gg), by dsimp only; omega⟩, by show l.length - (k + 1) < l.length - k; omega, hxI hn, hxI hn, hxI hn, hxI hn⟩⟩)
     ·have hn : putTo (Mb.ge m) (Mb.ne m) m (l.take (k + 1)) = (putTo (Mb.ge m) (Mb.ne m) m (l.take k)) := by rw [hN]; simp [putStep, h4', show Mb.ne m l[k] = false from h6]
      refine G0 ?_
      (exact ⟨none, trivial, fun gr => ⟨⟨(k + 1, g), by dsimp only; omega⟩, by show l.length - (k + 1) < l.length - k; omega, hxI hn, hxI hn, hxI hn, hxI hn⟩⟩)
   ·have hge : l.length ≤ k := (by have := of_decide_eq_false h3; omega)
    obtain rfl : k = l.length := by omega
    refine G0 ?_
    have hT : putTo (Mb.ge m) (Mb.ne m) m (l.take l.length) = putTo (Mb.ge m) (Mb.ne m) m l := by rw [List.take_length]
    (refine bIf_of (fun h4 => ?_) (fun h4 => ?_) <;> rw [h4])
    ·have h4' : (putTo (Mb.ge m) (Mb.ne m) m l).2 = false := by rw [← hT]; simpa using h4
     refine G1 ?_; intro gg
     refine ⟨lI, lI, ?_⟩
     refine G1 ?_; intro gg
     rw [show putL (Mb.ge m) (Mb.ne m) m l = (putTo (Mb.ge m) (Mb.ne m) m (l.take l.length)).1 ++ [m] by rw [hT]; simp [putL, h4'], List.map_append]
     (exact ⟨[], aI⟩)
    ·have h4' : (putTo (Mb.ge m) (Mb.ne m) m l).2 = true := by rw [← hT]; simpa using h4
     refine G0 ?_
     rw [show putL (Mb.ge m) (Mb.ne m) m l = (putTo (Mb.ge m) (Mb.ne m) m (l.take l.length)).1 by rw [hT]; simp [putL, h4']]
     (exact ⟨[], aI⟩)
 ·have hF' : hearF Mb.kf Mb.nw l m = false := by simpa using hF
  have h1' : hit (Mb.kf m) l = true := by
   rcases Bool.eq_false_or_eq_true (hit (Mb.kf m) l) with q | q
   ·exact q
   ·rw [hearF_miss q] at hF'; cases hF'
  have h1 : hit (Mb.cf m.n) l = true := h1'
  have hlt := hit_lt h1
  have h2 : Mb.nw m l[low (Mb.cf m.n) l] = false := (hearF_hit h1').symm.trans hF'
  rw [hF', upd_older h1' h2]
  rw [hat, if_pos h1] at hA
  refine fun_x ck_hearsayref_HearMember rfl ?_
  refine G1 ?_; intro gg
  (refine .inl ⟨_, _, false, [], aI, hA, nobor, nI, ?_⟩)
  refine G1 ?_; intro gg
  refine ⟨low (Mb.cf m.n) l, _, rfl, row_map hlt, ?_⟩
  refine G0 ?_
  (refine .inl ⟨_, _, false, [], aI, rnewer_fun _ _, nobor, nI, ?_⟩)
  rw [h2]
  refine G1 ?_; intro gg
  (exact ⟨[], aI⟩)
end Go.Proofs.YtkclokmfomnbgaaGreat
namespace Go.Proofs.YtkclokmfomnbgaaGreat
open Go.RowKit Pl
set_option linter.unusedVariables false
theorem mrefute_fun (l : List Mb) (me : ByteArray) (hl : l.length ≤ 9223372036854775807) (hw : ∀ x ∈ l, x.ok) (hme : me.size ≤ 9223372036854775807) : Fun Tryz.prog 133 [.c (.sl false (l.map Mb.row)), .c (.v (.string me))] [.c (.sl false ((refM l me).2.1.map Mb.row)), .c (.v (.bool (refM l me).2.2)), .c (.v (.int .i64 (refM l me).1))] := by
 refine fun_x ck_member_Refute rfl ?_
 refine G1 ?_; intro gg
 (refine .inl ⟨_, _, true, [], aI, mcheck_fun false [l] (by simp) (by simpa using hl) (by simpa using hw), (fun _ => fI), nI, ?_⟩)
 rw [firstErr_one]
 refine G1 ?_; intro gg
 (refine bIf_of (fun h1 => ?_) (fun h1 => ?_) <;> rw [h1])
 ·refine G0 ?_
  rw [refM_ck (by simpa using h1)]
  (exact ⟨[], aI⟩)
 ·have h1' : ckMb l = 0 := by simpa using h1
  have hi := ckMb_inv h1'
  have hm := Mb.smono hi.2.2 me
  refine G0 ?_
  (refine .inl ⟨_, _, false, [], aI, label_fun me hme, nobor, nI, ?_⟩)
  refine G1 ?_; intro gg
  (refine bIf_of (fun h2 => ?_) (fun h2 => ?_) <;> rw [h2])
  ·refine G0 ?_
   rw [refM_lab h1' (not_t h2)]
   (exact ⟨[], aI⟩)
  ·rw [refM_ok h1' (not_f h2)]
   refine G0 ?_
   (refine .inl ⟨_, _, false, [], aI, mclone_fun false l (by omega), nobor, nI, ?_⟩)
   refine G1 ?_; intro gg
   (refine .inl ⟨_, _, true, [], aI, mfind_fun false l me (by omega) hm.mono, (fun _ => fI), nI, ?_⟩)
   refine G1 ?_; intro gg
   (refine bIf_of (fun h3 => ?_) (fun h3 => ?_) <;> rw [h3])
   ·refine G0 ?_
    rw [refR_miss (not_t h3)]
    (exact ⟨[], aI⟩)
   ·have h3' : hit (Mb.cf me) l = true := not_f h3
    have hlt := hit_lt h3'
    have hR := refR_hit h3'
    have hl1 : (l[low (Mb.cf me) l]).err = 0 := hi.2.1 _ hlt
    refine G0 ?_
    refine ⟨low (Mb.cf me) l, _, rfl, row_map hlt, ?_⟩
    refine G0 ?_
    (refine bIf_of (fun h4 => ?_) (fun h4 => ?_) <;> rw [h4])
    ·refine G0 ?_
     rw [hR, if_pos (by simpa using h4)]
     (exact ⟨[], aI⟩)
    ·rw [if_neg (by simpa using h4)] at hR
     refine G0 ?_
     refine ⟨low (Mb.cf me) l, _, rfl, row_map hlt, ?_⟩
     refine G0 ?_
     (refine bIf_of (fun h5 => ?_) (fun h5 => ?_) <;> rw [h5])
     ·refine G0 ?_
      rw [hR, if_pos (by simpa using h5)]
      (exact ⟨[], aI⟩)
     ·rw [if_neg (by simpa using h5)] at hR
      refine G0 ?_
      refine ⟨low (Mb.cf me) l, _, rfl, row_map hlt, ?_⟩
      refine G0 ?_
      (refine bIf_of (fun h6 => ?_) (fun h6 => ?_) <;> rw [h6])
      ·refine G0 ?_
       rw [hR, if_pos (by simpa using h6)]
       (exact ⟨[], aI⟩)
      ·rw [if_neg (by simpa using h6)] at hR
       refine G0 ?_
       refine ⟨low (Mb.cf me) l, _, rfl, row_map hlt, ?_⟩
       refine G0 ?_
       have hb := (Mb.err_inv hl1).2.2.1
       have hR' : (refR l me).2.1.map Mb.row = ((l.map Mb.row).set (low (Mb.cf me) l) [.v (.string l[low (Mb.cf me) l].n), .v (.int .i64 1), .v (.int .i64 l[low (Mb.cf me) l].lf), .v (.int .i64 l[low (Mb.cf me) l].ad), .v (.bool l[low (Mb.cf me) l].sv)]).set (low (Mb.cf me) l) l[low (Mb.cf me) l].up.row := by rw [hR, List.set_set, ← List.map_set]
       refine ⟨low (Mb.cf me) l, _, rfl, set_at hlt, ?_⟩
       refine G0 ?_
       refine ⟨_, set_at hlt, ?_⟩
       refine G0 ?_
       refine ⟨low (Mb.cf me) l, _, rfl, set_at hlt, ?_⟩
       refine G0 ?_
       refine ⟨_, set_at hlt, ?_⟩
       refine G0 ?_
       rw [hR', hR]
       (exact ⟨[], aI⟩)
end Go.Proofs.YtkclokmfomnbgaaGreat
namespace Go.Proofs.YtkclokmfomnbgaaGreat
open Go.RowKit Pl
set_option linter.unusedVariables false
theorem putC_fun (m : Mb) (x : Ru) : Fun Tryz.prog 207 [.c (.agg x.row), .c (.rptr m.row 0)] [.c (.v (.bool (Ru.is m.n x)))] := by
 refine fun_x ck_rumor_Put_1 rfl ?_
 refine G1 ?_; intro gg
 (exact ⟨[], aI⟩)
theorem cl_rptr1 {α : Type} {enc : α → List V} [FlatRow enc] {x : α} {o : Nat} : ∀ u ∈ [V.rptr (enc x) o], Cl u := fun u hu => by
 simp only [List.mem_cons, List.not_mem_nil, or_false] at hu; subst hu
 exact cl_rptr cl_rowF
theorem idxRu (cl : Bool) (l : List Ru) (m : Mb) (hl : l.length ≤ 1000) : Fun Tryz.prog 161 [.c (.sl cl (l.map Ru.row)), .c (.clo 207 [.rptr m.row 0])] [.c (.v (.int .i64 (at_ (Ru.is m.n) l)))] :=
 indexRu_fun cl l _ _ cl_rptr1 (Ru.is m.n) hl fun x _ => putC_fun m x
theorem ruPut_fun (cl : Bool) (l : List Ru) (m : Mb) (hl : l.length ≤ 9223372036854775807) (hw : ∀ r ∈ l, r.m.ok) (hm : m.ok) : Fun Tryz.prog 177 [.c (.sl cl (l.map Ru.row)), .c (.agg m.row)] [.o 80 6 ((putRu l m).2.map Ru.row), .c (.v (.int .i64 (putRu l m).1))] := by
 refine fun_x ck_rumor_Put rfl ?_
 refine G1 ?_; intro gg
 (refine .inl ⟨_, _, false, [], aI, ruCheck_fun cl l hl hw, nobor, nI, ?_⟩)
 refine G1 ?_; intro gg
 (refine bIf_of (fun h1 => ?_) (fun h1 => ?_) <;> rw [h1])
 ·have h1' : ckRu l = 0 := by simpa using h1
  have hi := ckRu_inv h1'
  have hlen := hi.len
  rw [h1']
  refine G0 ?_
  (refine .inl ⟨_, _, false, [], aI, mOne_fun m hm, nobor, nI, ?_⟩)
  refine G1 ?_; intro gg
  (refine bIf_of (fun h2 => ?_) (fun h2 => ?_) <;> rw [h2])
  ·have h2' : m.err ≠ 0 := by simpa using h2
   rw [putRu_one h1' h2']
   refine G0 ?_
   (exact ⟨[], aI⟩)
  ·have h2' : m.err = 0 := by simpa using h2
   rw [putRu_ok h1' h2']
   refine G0 ?_
   (refine .inl ⟨_, _, false, [], aI, cloneRu_fun cl l (by omega), nobor, nI, ?_⟩)
   refine G1 ?_; intro gg
   (refine .inl ⟨_, _, true, [], aI, idxRu false l m (by omega), (fun _ => fI), nI, ?_⟩)
   rcases at_inv (p := Ru.is m.n) (l := l) with ⟨q1, q2⟩ | ⟨k, hk, q1, q2, q3⟩
   ·have e : putR l m = putFin l m := putR_no (by rw [q1]; decide)
    rw [q1, e]
    refine G1 ?_; intro gg
    (refine bIf_of (fun h3 => ?_) (fun h3 => ?_) <;> rw [h3])
    ·have h3' : (l).length = 20 := by have := beq_iff_eq.1 h3; simp only [List.length_map] at this; omega
     have e2 : putFin (l) m = (2, []) := by simp [putFin, h3']
     rw [e2]
     refine G0 ?_
     (exact ⟨[], aI⟩)
    ·have h3' : (l).length ≠ 20 := fun q => by rw [show (((((l).map Ru.row).length : Nat) : Int) == 20) = true from by rw [List.length_map, q]; rfl] at h3; cases h3
     have e2 : putFin (l) m = (0, l ++ [⟨m, 0⟩]) := by simp [putFin, h3']
     rw [e2, List.map_append]
     refine G1 ?_; intro gg
     refine ⟨lI, lI, ?_⟩
     refine G1 ?_; intro gg
     (exact ⟨[288], aI⟩)
   ·have hg : 0 ≤ at_ (Ru.is m.n) l := by rw [q1]; exact Int.natCast_nonneg k
    have hr : l[(at_ (Ru.is m.n) l).toNat]? = some l[k] := by rw [q1, Int.toNat_natCast]; exact List.getElem?_eq_getElem hk
    rw [q1]
    refine G1 ?_; intro gg
    refine ⟨k, _, rfl, row_map hk, ?_⟩
    refine G0 ?_
    (refine .inl ⟨_, _, false, [], aI, mcmp_fun m (l[k]).m, nobor, nI, ?_⟩)
    refine G1 ?_; intro gg
    (refine bIf_of (fun h4 => ?_) (fun h4 => ?_) <;> rw [h4])
    ·have h4' : Mb.cmp m (l[k]).m ≤ 0 := (by have := of_decide_eq_true h4; omega)
     rw [putR_old hg hr h4']
     refine G0 ?_
     (exact ⟨[288], aI⟩)
    ·have h4' : ¬ Mb.cmp m (l[k]).m ≤ 0 := (by have := of_decide_eq_false h4; omega)
     have e : putR l m = putFin (l.eraseIdx k) m := by rw [putR_new hg hr h4', q1, Int.toNat_natCast]
     rw [e]
     have hle : (l.eraseIdx k).length ≤ 20 := by rw [List.length_eraseIdx_of_lt hk]; omega
     refine G0 ?_
     (refine .inl ⟨_, _, true, [288], aI, delRu_fun l k hk (by omega), (fun _ => fI), nI, ?_⟩)
     refine G1 ?_; intro gg
     (refine bIf_of (fun h3 => ?_) (fun h3 => ?_) <;> rw [h3])
     ·have h3' : (l.eraseIdx k).length = 20 := by have := beq_iff_eq.1 h3; simp only [List.length_map] at this; omega
      have e2 : putFin (l.eraseIdx k) m = (2, []) := by simp [putFin, h3']
      rw [e2]
      refine G0 ?_
      (exact ⟨[], aI⟩)
     ·have h3' : (l.eraseIdx k).length ≠ 20 := fun q => by rw [show (((((l.eraseIdx k).map Ru.row).length : Nat) : Int) == 20) = true from by rw [List.length_map, q]; rfl] at h3; cases h3
      have e2 : putFin (l.eraseIdx k) m = (0, l.eraseIdx k ++ [⟨m, 0⟩]) := by simp [putFin, h3']
      rw [e2, List.map_append]
      refine G1 ?_; intro gg
      refine ⟨lI, lI, ?_⟩
      refine G1 ?_; intro gg
      (exact ⟨[592], aI⟩)
 ·have h1' : ckRu l ≠ 0 := by simpa using h1
  rw [putRu_ck h1']
  refine G0 ?_
  rw [show (ckRu l != 0) = true from by simpa using h1']
  refine G0 ?_
  (exact ⟨[], aI⟩)
theorem rputRu_fun (l : List Ru) (m : Mb) (hi : RuOk l) : Fun Tryz.prog 143 [.c (.sl false (l.map Ru.row)), .c (.agg m.row)] [.c (.sl false ((putR l m).2.map Ru.row)), .c (.v (.int .i64 (putR l m).1))] := by
 have hlen := hi.len
 refine fun_x ck_hearsayref_PutRumor rfl ?_
 refine G1 ?_; intro gg
 (refine ⟨[(6, 96, 80, 6)], none, {p : Nat × Nat // p.1 ≤ l.length ∧ ∀ j, (h : j < l.length) → j < p.1 → Ru.is m.n l[j] = true → 0 < Mb.cmp m l[j].m}, [0, 3], fun ⟨⟨k, g⟩, hk, h0⟩ => [(6, .own 96 g), (7, .v (.int .i64 k))], [48], fun ⟨⟨k, g⟩, hk, h0⟩ => [(96, ⟨g, 80, 6, (others m.n (l.take k)).map Ru.row⟩)], fun ⟨⟨k, g⟩, hk, h0⟩ => l.length - k, (by exact ⟨rfl, by decide, (fun _ _ _ _ h => by cases h), trivial⟩), fun gs => ⟨trivial, fun _ => ⟨⟨(0, gs 96), Nat.zero_le _, fun j _ h => absurd h (Nat.not_lt_zero _)⟩, tI, tI, tI, tI⟩⟩, fun ⟨⟨k, g⟩, hk, h0⟩ => ?_⟩)
 refine G0 ?_
 (refine bIf_of (fun h => ?_) (fun h => ?_) <;> rw [h])
 ·have hlt : k < l.length := by have := of_decide_eq_true h; simpa using this
  have ho := others_take (n := m.n) hlt
  refine G0 ?_
  refine ⟨k, _, rfl, row_map hlt, ?_⟩
  refine G0 ?_
  (refine bIf_of (fun h2 => ?_) (fun h2 => ?_) <;> rw [h2])
  ·have h2' : Ru.is m.n l[k] = false := not_t h2
   rw [h2', if_neg (by simp)] at ho
   have hle : (others m.n (l.take k)).length ≤ 20 := Nat.le_trans (List.length_filter_le _ _) (by simp; omega)
   refine G0 ?_
   refine ⟨k, _, rfl, row_map hlt, ?_⟩
   refine G1 ?_; intro gg
   refine ⟨lI, lI, ?_⟩
   refine G1 ?_; intro gg
   have e : (others m.n (l.take k)).map Ru.row ++ [Ru.row l[k]] = (others m.n (l.take (k + 1))).map Ru.row := by rw [ho, List.map_append]; rfl
   (exact ⟨none, trivial, fun gr => ⟨⟨(k + 1, gg), by dsimp only; omega, up1 (p := fun j h => Ru.is m.n l[j] = true → 0 < Mb.cmp m l[j].m) h0 (fun _ q => by rw [h2'] at q; cases q)⟩, by show l.length - (k + 1) < l.length - k; omega, tI, tI, ⟨congrArg (fun r => some (Ent.mk gg (.t 80) 6 r)) e, trivial⟩, tI⟩⟩)
  ·have h2' : Ru.is m.n l[k] = true := not_f h2
   rw [if_pos h2'] at ho
   refine G0 ?_
   refine ⟨k, _, rfl, row_map hlt, ?_⟩
   refine G0 ?_
   (refine .inl ⟨_, _, false, [], aI, rnewer_fun m (l[k]).m, nobor, nI, ?_⟩)
   refine G1 ?_; intro gg
   (refine bIf_of (fun h3 => ?_) (fun h3 => ?_) <;> rw [h3])
   ·have h3' : ¬ 0 < Mb.cmp m (l[k]).m := of_decide_eq_false (not_t h3)
    have e : putR l m = (0, l) := by
     rcases at_inv (p := Ru.is m.n) (l := l) with ⟨q1, q2⟩ | ⟨i, hi', q1, q2, q3⟩
     ·have := q2 k hlt; rw [h2'] at this; cases this
     ·have e1 : i = k := nd_get hi.nd hi' hlt ((Ru.is_iff.1 q2).trans (Ru.is_iff.1 h2').symm)
      subst e1
      exact putR_old (r := l[i]) (by rw [q1]; exact Int.natCast_nonneg i) (by rw [q1, Int.toNat_natCast]; exact List.getElem?_eq_getElem hlt) (by omega)
    rw [e]
    refine G0 ?_
    (exact ⟨[], aI⟩)
   ·have h3' : 0 < Mb.cmp m (l[k]).m := of_decide_eq_true (not_f h3)
    refine G0 ?_
    (exact ⟨none, trivial, fun gr => ⟨⟨(k + 1, g), by dsimp only; omega, up1 (p := fun j h => Ru.is m.n l[j] = true → 0 < Mb.cmp m l[j].m) h0 (fun _ _ => h3')⟩, by show l.length - (k + 1) < l.length - k; omega, tI, tI, ⟨congrArg (fun r => some (Ent.mk g (.t 80) 6 (List.map Ru.row r))) ho.symm, trivial⟩, tI⟩⟩)
 ·have hge : ¬ k < l.length := by have := of_decide_eq_false h; simpa using this
  obtain rfl : k = l.length := by dsimp only at hk; omega
  have e0 : l.take l.length = l := List.take_length
  have e : putR l m = putFin (others m.n (l.take l.length)) m := by
   rw [e0]
   rcases at_inv (p := Ru.is m.n) (l := l) with ⟨q1, q2⟩ | ⟨i, hi', q1, q2, q3⟩
   ·rw [others_none (fun r hr => by obtain ⟨i, h, rfl⟩ := List.getElem_of_mem hr; exact q2 i h)]
    exact putR_no (by rw [q1]; decide)
   ·rw [others_erase i hi' hi.nd q2]
    have := h0 i hi' (by dsimp only; omega) q2
    rw [putR_new (r := l[i]) (by rw [q1]; exact Int.natCast_nonneg i) (by rw [q1, Int.toNat_natCast]; exact List.getElem?_eq_getElem hi') (by omega), q1, Int.toNat_natCast]
  have hle : (others m.n (l.take l.length)).length ≤ 20 := by rw [e0]; exact Nat.le_trans (List.length_filter_le _ _) hlen
  rw [e]
  refine G0 ?_
  (refine bIf_of (fun h3 => ?_) (fun h3 => ?_) <;> rw [h3])
  ·have h3' : (others m.n (l.take l.length)).length = 20 := by have := beq_iff_eq.1 h3; simp only [List.length_map] at this; omega
   have e2 : putFin (others m.n (l.take l.length)) m = (2, []) := by simp only [putFin, h3', if_true]
   rw [e2]
   refine G0 ?_
   (exact ⟨[], aI⟩)
  ·have h3' : (others m.n (l.take l.length)).length ≠ 20 := fun q => by rw [show (((((others m.n (l.take l.length)).map Ru.row).length : Nat) : Int) == 20) = true from by rw [List.length_map, q]; rfl] at h3; cases h3
   have e2 : putFin (others m.n (l.take l.length)) m = (0, others m.n (l.take l.length) ++ [⟨m, 0⟩]) := by simp only [putFin, h3', if_false]
   rw [e2, List.map_append]
   refine G1 ?_; intro gg
   refine ⟨lI, lI, ?_⟩
   refine G1 ?_; intro gg
   (exact ⟨[], aI⟩)
theorem up0 {k : Nat} {p : Nat → Prop} (h0 : ∀ j, j < k → p j) (hk : p k) : ∀ j, j < k + 1 → p j := fun j hj => by
 rcases (by omega : j < k ∨ j = k) with q | rfl
 ·exact h0 j q
 ·exact hk
theorem pow_in : ∀ k : Nat, k < 6 → IntKind.i64.wrap (1 * 2 ^ (min (k : Int).toNat IntKind.i64.bits)) = ((2 ^ k : Nat) : Int) := by decide
theorem times_at : ∀ n : Nat, n < 21 → ∀ k : Nat, k < 6 → ¬ 2 ^ k ≤ n → (∀ j, j < k → 2 ^ j ≤ n) → timesL n = 3 * (k : Int) := by decide
theorem ruTimes_fun (n : Int) : Fun Tryz.prog 61 [.c (.v (.int .i64 n))] [.c (.v (.int .i64 (if n < 0 ∨ 20 < n then 0 else timesL n))), .c (.v (.int .i64 (if n < 0 ∨ 20 < n then 3 else 0)))] := by
 refine fun_x ck_rumor_Times rfl ?_
 refine G0 ?_
 (refine bIf_of (fun h => ?_) (fun h => ?_) <;> rw [h])
 ·have h' : n < 0 ∨ 20 < n := .inl (of_decide_eq_true h)
  refine G0 ?_
  rw [if_pos h', if_pos h']
  (exact ⟨[], aI⟩)
 ·have h1 : ¬ n < 0 := of_decide_eq_false h
  refine G0 ?_
  (refine bIf_of (fun h2 => ?_) (fun h2 => ?_) <;> rw [h2])
  ·have h' : n < 0 ∨ 20 < n := .inr (of_decide_eq_true h2)
   refine G0 ?_
   rw [if_pos h', if_pos h']
   (exact ⟨[], aI⟩)
  ·have h3 : ¬ 20 < n := of_decide_eq_false h2
   have h' : ¬ (n < 0 ∨ 20 < n) := by omega
   obtain ⟨m, rfl⟩ : ∃ m : Nat, n = m := ⟨n.toNat, by omega⟩
   rw [if_neg h', if_neg h']
   refine G0 ?_
   (refine ⟨[], none, {k : Nat // k < 6 ∧ ∀ j, j < k → 2 ^ j ≤ m}, [0], fun ⟨k, hk, h0⟩ => [(4, .v (.int .i64 k))], [], fun ⟨k, hk, h0⟩ => [], fun ⟨k, hk, h0⟩ => 6 - k, trivial, fun _ => ⟨trivial, fun _ => ⟨⟨0, by omega, fun j h => by omega⟩, tI, keptE_refl _ _, tI, keptH_refl _ _⟩⟩, fun ⟨k, hk, h0⟩ => ?_⟩)
   refine G0 ?_
   refine ⟨by omega, _, pow_in k hk, ?_⟩
   refine G0 ?_
   (refine bIf_of (fun h4 => ?_) (fun h4 => ?_) <;> rw [h4])
   ·have h4' : 2 ^ k ≤ m := by have := of_decide_eq_true h4; omega
    have hk5 : k < 5 := by
     rcases (by omega : k < 5 ∨ k = 5) with q | q
     ·exact q
     ·subst q; omega
    refine G0 ?_
    (exact ⟨none, trivial, fun _ => ⟨⟨k + 1, by omega, up0 h0 h4'⟩, by show 6 - (k + 1) < 6 - k; omega, tI, tI, tI, tI⟩⟩)
   ·have h4' : ¬ 2 ^ k ≤ m := by have := of_decide_eq_false h4; omega
    rw [times_at m (by omega) k hk h4' h0]
    refine G0 ?_
    (exact ⟨[], aI⟩)
end Go.Proofs.YtkclokmfomnbgaaGreat
namespace Go.Proofs.YtkclokmfomnbgaaGreat.Pl
set_option linter.unusedVariables false
theorem at_mem {l : List Mb} {m : Mb} (hc : ckMb l = 0) (hm : m ∈ l) : hit (Mb.cf m.n) l = true ∧ l[low (Mb.cf m.n) l]? = some m := by
 have hs := (ckMb_inv hc).2.2
 have hh : hit (Mb.cf m.n) l = true := hit_of (Mb.smono hs m.n) hm (scmp_eq _)
 refine ⟨hh, ?_⟩
 rw [List.getElem?_eq_getElem (hit_lt hh)]
 congr 1
 have hz := hit_zero hh
 exact sorted_uniq Mb.ord PlM.kf_self hs (List.getElem_mem _) hm (PlM.kf_sym _ _ hz)
theorem upd_has {l : List Mb} {m : Mb} (h : hearF Mb.kf Mb.nw l m = true) : m ∈ upd Mb.kf Mb.nw l m := by
 rw [upd_put h]; unfold putAt
 split
 ·rename_i hh
  exact List.mem_iff_getElem.2 ⟨low (Mb.kf m) l, by rw [List.length_set]; exact hit_lt hh, List.getElem_set_self _⟩
 ·exact List.mem_append_left _ (List.mem_append_right _ List.mem_cons_self)
noncomputable def putN (n : Nd) (x : Mb) : Nd := if (putRu n.rs x).1 = 0 then { n with rs := (putRu n.rs x).2 } else n
theorem putN_ok {n : Nd} {x : Mb} (h : (putRu n.rs x).1 = 0) : putN n x = { n with rs := (putRu n.rs x).2 } := if_pos h
theorem putN_no {n : Nd} {x : Mb} (h : (putRu n.rs x).1 ≠ 0) : putN n x = n := if_neg h
def meOf (l : List Mb) (nm : ByteArray) : Mb := (l[low (Mb.cf nm) l]?).getD ⟨⟨#[]⟩, 0, 0, 0, false⟩
theorem meOf_at {l : List Mb} {nm : ByteArray} {x : Mb} (h : l[low (Mb.cf nm) l]? = some x) : meOf l nm = x := by unfold meOf; rw [h]; rfl
noncomputable def backM (n : Nd) : Int × Nd :=
 if (refM n.ms n.nm).1 ≠ 0 then ((refM n.ms n.nm).1, n) else if (refM n.ms n.nm).2.2 = false then (0, n)
 else ((putRu n.rs (meOf (refM n.ms n.nm).2.1 n.nm)).1, putN { n with ms := (refM n.ms n.nm).2.1 } (meOf (refM n.ms n.nm).2.1 n.nm))
noncomputable def newsM (n : Nd) (m : Mb) : Int × Nd :=
 if (putRu n.rs m).1 ≠ 0 then ((putRu n.rs m).1, n) else if m.n ≠ n.nm then (0, { n with rs := (putRu n.rs m).2 }) else backM { n with rs := (putRu n.rs m).2 }
noncomputable def spreadM (n : Nd) (m : Mb) : Int × Nd :=
 if (hearM n.ms m).1 ≠ 0 then ((hearM n.ms m).1, n) else if (hearM n.ms m).2.2 = false then (0, n) else newsM { n with ms := (hearM n.ms m).2.1 } m
theorem spreadM_e {n : Nd} {m : Mb} (h : (hearM n.ms m).1 ≠ 0) : spreadM n m = ((hearM n.ms m).1, n) := if_pos h
theorem spreadM_old {n : Nd} {m : Mb} (h : (hearM n.ms m).1 = 0) (h2 : (hearM n.ms m).2.2 = false) : spreadM n m = (0, n) := by
 unfold spreadM; rw [if_neg (by simp [h]), if_pos h2]
theorem spreadM_new {n : Nd} {m : Mb} (h : (hearM n.ms m).1 = 0) (h2 : (hearM n.ms m).2.2 = true) : spreadM n m = newsM { n with ms := (hearM n.ms m).2.1 } m := by
 unfold spreadM; rw [if_neg (by simp [h]), if_neg (by simp [h2])]
theorem newsM_e {n : Nd} {m : Mb} (h : (putRu n.rs m).1 ≠ 0) : newsM n m = ((putRu n.rs m).1, n) := if_pos h
theorem newsM_else {n : Nd} {m : Mb} (h : (putRu n.rs m).1 = 0) (h2 : m.n ≠ n.nm) : newsM n m = (0, { n with rs := (putRu n.rs m).2 }) := by
 unfold newsM; rw [if_neg (by simp [h]), if_pos h2]
theorem newsM_me {n : Nd} {m : Mb} (h : (putRu n.rs m).1 = 0) (h2 : m.n = n.nm) : newsM n m = backM { n with rs := (putRu n.rs m).2 } := by
 unfold newsM; rw [if_neg (by simp [h]), if_neg (by simp [h2])]
theorem backM_e {n : Nd} (h : (refM n.ms n.nm).1 ≠ 0) : backM n = ((refM n.ms n.nm).1, n) := if_pos h
theorem backM_no {n : Nd} (h : (refM n.ms n.nm).1 = 0) (h2 : (refM n.ms n.nm).2.2 = false) : backM n = (0, n) := by
 unfold backM; rw [if_neg (by simp [h]), if_pos h2]
theorem backM_yes {n : Nd} (h : (refM n.ms n.nm).1 = 0) (h2 : (refM n.ms n.nm).2.2 = true) : backM n = ((putRu n.rs (meOf (refM n.ms n.nm).2.1 n.nm)).1, putN { n with ms := (refM n.ms n.nm).2.1 } (meOf (refM n.ms n.nm).2.1 n.nm)) := by
 unfold backM; rw [if_neg (by simp [h]), if_neg (by simp [h2])]
theorem putR_fin {l : List Ru} {m : Mb} {r : Ru} (h : r ∈ (putFin l m).2) : r = ⟨m, 0⟩ ∨ r ∈ l := by
 unfold putFin at h
 split at h
 ·simp at h
 ·rcases List.mem_append.1 h with q | q
  ·exact .inr q
  ·exact .inl (by simpa using q)
theorem putRu_mem {l : List Ru} {m : Mb} {r : Ru} (h : r ∈ (putRu l m).2) : r = ⟨m, 0⟩ ∨ r ∈ l := by
 unfold putRu at h
 split at h
 ·simp at h
 ·split at h
  ·simp at h
  ·unfold putR at h
   split at h
   ·split at h
    ·split at h
     ·exact .inr h
     ·rcases putR_fin h with q | q
      ·exact .inl q
      ·exact .inr (List.mem_of_mem_eraseIdx q)
    ·exact putR_fin h
   ·exact putR_fin h
theorem putFin_len {l : List Ru} {m : Mb} : (putFin l m).2.length ≤ l.length + 1 := by
 unfold putFin
 split <;> simp
theorem putRu_len {l : List Ru} {m : Mb} (hl : l.length ≤ 1000) : (putRu l m).2.length ≤ 1001 := by
 unfold putRu
 split
 ·simp
 ·split
  ·simp
  ·unfold putR
   split
   ·split
    ·split
     ·show l.length ≤ _; omega
     ·have := putFin_len (l := l.eraseIdx (at_ (Ru.is m.n) l).toNat) (m := m)
      have h2 := List.length_eraseIdx_le l (at_ (Ru.is m.n) l).toNat
      omega
    ·have := putFin_len (l := l) (m := m); omega
   ·have := putFin_len (l := l) (m := m); omega
theorem meOf_up {l : List Mb} {nm : ByteArray} (h : hit (Mb.cf nm) l = true) {x : Mb} (hx : Mb.cf nm x = 0) (hs : sorted Mb.lt l = true) : (l.set (low (Mb.cf nm) l) x)[low (Mb.cf nm) (l.set (low (Mb.cf nm) l) x)]? = some x := by
 have := (low_put (Mb.smono hs nm) h hx).1
 rw [this, List.getElem?_set_self (hit_lt h)]
end Go.Proofs.YtkclokmfomnbgaaGreat.Pl
namespace Go.Proofs.YtkclokmfomnbgaaGreat
open Go.RowKit Pl
set_option linter.unusedVariables false
theorem putF_fun (n : Nd) (name : ByteArray) (x : Mb) (hml : n.ms.length ≤ 1000) (hs : sorted Mb.lt n.ms = true) (hx : n.ms[low (Mb.cf name) n.ms]? = some x) (hr : n.rs.length ≤ 9223372036854775807) (hrw : ∀ r ∈ n.rs, r.m.ok) (hxo : x.ok) :
  FunM Tryz.prog 132 [.mn 89 (wcF n) (wcF (putN n x)), .p (.c (.v (.string name)))] [.p (.c (.v (.int .i64 (putRu n.rs x).1)))] := by
 have hl : low (Mb.cf name) n.ms < n.ms.length := (List.getElem?_eq_some_iff.1 hx).1
 have hrow : (n.ms.map Mb.row)[low (Mb.cf name) n.ms]? = some x.row := by rw [List.getElem?_map, hx]; rfl
 have hp := (ruPut_fun false n.rs x hr hrw hxo).frz
 simp only [List.map_cons, List.map_nil, Go.Proofs.YtkclokmfomnbgaaGreat.frz] at hp
 refine funM_x ck_node_worker_put rfl rfl (nd_b rfl) ?_
 refine G0 ?_
 (refine .inl ⟨_, _, false, [], aI, mfind_fun false n.ms name (by omega) (Mb.smono hs _).mono, nobor, nI, ?_⟩)
 refine G1 ?_; intro gg
 refine ⟨low (Mb.cf name) n.ms, _, rfl, hrow, ?_⟩
 refine G0 ?_
 (refine .inl ⟨_, _, false, [], aI, hp, nobor, nI, ?_⟩)
 refine G1 ?_; intro gg
 (refine bIf_of (fun h1 => ?_) (fun h1 => ?_) <;> rw [h1])
 ·have h1' : (putRu n.rs x).1 = 0 := by simpa using h1
  rw [putN_ok h1']
  refine G0 ?_
  (exact ⟨0 :: ([] ++ []), aM_same (by first | exact cl_b rfl | assumption) (aM_pn (gone := []) (gone1 := []) rfl aI (by decide) (by decide) (by decide) (.nil _))⟩)
 ·have h1' : (putRu n.rs x).1 ≠ 0 := by simpa using h1
  rw [putN_no h1']
  refine G0 ?_
  (exact ⟨0 :: ([] ++ []), aM_same (by first | exact cl_b rfl | assumption) (aM_pn (gone := []) (gone1 := []) rfl aI (by decide) (by decide) (by decide) (.nil _))⟩)
end Go.Proofs.YtkclokmfomnbgaaGreat
namespace Go.Proofs.YtkclokmfomnbgaaGreat
open Go.RowKit Pl
set_option linter.unusedVariables false
theorem spreadF_fun (n : Nd) (m : Mb) (hc : ckMb n.ms = 0) (hw : ∀ x ∈ n.ms, x.ok) (hr : n.rs.length ≤ 1000) (hrw : ∀ r ∈ n.rs, r.m.ok) (hm : m.ok) (hnm : n.nm.size ≤ 9223372036854775807) :
  FunM Tryz.prog 75 [.mn 89 (wcF n) (wcF (spreadM n m).2), .p (.c (.agg m.row))] [.p (.c (.v (.int .i64 (spreadM n m).1)))] := by
 have hi := ckMb_inv hc
 have hH := mHear_fun n.ms m (by omega) hw hm
 refine funM_x ck_node_worker_spread rfl rfl (nd_b rfl) ?_
 refine G1 ?_; intro gg
 (refine .inl ⟨_, _, false, [], aI, hH, nobor, nI, ?_⟩)
 refine G1 ?_; intro gg
 (refine bIf_of (fun h1 => ?_) (fun h1 => ?_) <;> rw [h1])
 ·rw [spreadM_e (by simpa using h1)]
  refine G0 ?_
  (exact ⟨0 :: ([] ++ []), aM_same (by first | exact cl_b rfl | assumption) (aM_pn (gone := []) (gone1 := []) rfl aI (by decide) (by decide) (by decide) (.nil _))⟩)
 ·have h1' : (hearM n.ms m).1 = 0 := by simpa using h1
  obtain ⟨_, hm0, hn20, hh⟩ := PlM.hear_inv h1'
  refine G0 ?_
  (refine bIf_of (fun h2 => ?_) (fun h2 => ?_) <;> rw [h2])
  ·rw [spreadM_old h1' (not_t h2), h1']
   refine G0 ?_
   (exact ⟨0 :: ([] ++ []), aM_same (by first | exact cl_b rfl | assumption) (aM_pn (gone := []) (gone1 := []) rfl aI (by decide) (by decide) (by decide) (.nil _))⟩)
  ·have h2' := not_f h2
   have hwl : ∀ x ∈ (hearM n.ms m).2.1, x.ok := fun x hx => by rcases PlM.hear_mem hx with rfl | h; exact hm; exact hw x h
   have hcl : ckMb (hearM n.ms m).2.1 = 0 := by rw [hh]; exact PlM.ck_upd hc hm0 (by omega)
   have hml : m ∈ (hearM n.ms m).2.1 := by
    rw [hh] at h2' ⊢
    exact upd_has h2'
   rw [spreadM_new h1' h2']
   generalize (hearM n.ms m).2.1 = L at *
   have hat := at_mem hcl hml
   have hil := ckMb_inv hcl
   have hP := putF_fun { n with ms := L } m.n m (by show L.length ≤ _; omega) hil.2.2 hat.2 (by show n.rs.length ≤ _; omega) hrw hm
   by_cases hp1 : (putRu n.rs m).1 = 0
   ·rw [putN_ok (n := { n with ms := L }) hp1, show (putRu ({ n with ms := L } : Nd).rs m).1 = 0 from hp1] at hP
    have hpl := putRu_len (l := n.rs) (m := m) hr
    have hpw := fun r (h : r ∈ (putRu n.rs m).2) => (putRu_mem h).elim (fun e => (by rw [e]; exact hm : r.m.ok)) (fun e => hrw r e)
    refine G0 ?_
    (refine .inr (.inl ⟨_, _, false, 0 :: ([] ++ []), ?_, hP, nobor, oI, dI, ?_⟩); focus (exact aM_mn (gone := []) (gone1 := []) rfl aI (by decide) (by decide) (by decide) rfl aM))
    refine G1 ?_; intro gg
    (refine bIf_of (fun h3 => ?_) (fun h3 => ?_) <;> rw [h3])
    ·have h3' : m.n ≠ n.nm := fun e => by
      have := not_t h3
      rw [e] at this; simp at this
     rw [newsM_else (n := { n with ms := L }) hp1 h3']
     refine G0 ?_
     (exact ⟨0 :: ([] ++ []), aM_same (by first | exact cl_b rfl | assumption) (aM_pn (gone := []) (gone1 := []) rfl aI (by decide) (by decide) (by decide) (.nil _))⟩)
    ·have h3' : m.n = n.nm := toList_inj (beq_iff_eq.1 (not_f h3))
     rw [newsM_me (n := { n with ms := L }) hp1 h3']
     have hR := mrefute_fun L n.nm (by omega) hwl hnm
     refine G0 ?_
     (refine .inl ⟨_, _, false, [], aI, hR, nobor, nI, ?_⟩)
     refine G1 ?_; intro gg
     (refine bIf_of (fun h4 => ?_) (fun h4 => ?_) <;> rw [h4])
     ·have h4' : (refM L n.nm).1 ≠ 0 := by simpa using h4
      rw [backM_e (n := { n with ms := L, rs := (putRu n.rs m).2 }) h4']
      refine G0 ?_
      (exact ⟨0 :: ([] ++ []), aM_same (by first | exact cl_b rfl | assumption) (aM_pn (gone := []) (gone1 := []) rfl aI (by decide) (by decide) (by decide) (.nil _))⟩)
     ·have h4' : (refM L n.nm).1 = 0 := by simpa using h4
      refine G0 ?_
      (refine bIf_of (fun h5 => ?_) (fun h5 => ?_) <;> rw [h5])
      ·rw [backM_no (n := { n with ms := L, rs := (putRu n.rs m).2 }) h4' (not_t h5), h4']
       refine G0 ?_
       (exact ⟨0 :: ([] ++ []), aM_same (by first | exact cl_b rfl | assumption) (aM_pn (gone := []) (gone1 := []) rfl aI (by decide) (by decide) (by decide) (.nil _))⟩)
      ·have h5' := not_f h5
       rw [backM_yes (n := { n with ms := L, rs := (putRu n.rs m).2 }) h4' h5']
       obtain ⟨h6, h7⟩ := PlM.ref_inv h4' h5'
       have hmo := meOf_up h6 (PlM.up_cf h6) hil.2.2
       rw [← h7] at hmo
       have hs2 : sorted Mb.lt (refM L n.nm).2.1 = true := by rw [h7]; exact PlM.up_sorted hil.2.2 h6
       have hl2 : (refM L n.nm).2.1.length ≤ 1000 := by rw [h7, List.length_set]; omega
       have hok2 : (meOf (refM L n.nm).2.1 n.nm).ok := by
        rw [meOf_at hmo]; exact (show (L[low (Mb.cf n.nm) L]'(hit_lt h6)).ok from hwl _ (List.getElem_mem _))
       have hP2 := putF_fun { n with ms := (refM L n.nm).2.1, rs := (putRu n.rs m).2 } n.nm (meOf (refM L n.nm).2.1 n.nm) hl2 hs2 (by rw [meOf_at hmo]; exact hmo) (by show (putRu n.rs m).2.length ≤ _; omega) hpw hok2
       refine G0 ?_
       (refine .inr (.inl ⟨_, _, false, 0 :: ([] ++ []), ?_, hP2, nobor, oI, dI, ?_⟩); focus (exact aM_mn (gone := []) (gone1 := []) rfl aI (by decide) (by decide) (by decide) rfl aM))
       refine G1 ?_; intro gg
       (exact ⟨0 :: ([] ++ []), aM_same (by first | exact cl_b rfl | assumption) (aM_pn (gone := []) (gone1 := []) rfl aI (by decide) (by decide) (by decide) (.nil _))⟩)
   ·rw [putN_no (n := { n with ms := L }) hp1] at hP
    rw [newsM_e (n := { n with ms := L }) hp1]
    have hp1' : ((putRu ({ n with ms := L } : Nd).rs m).1 != 0) = true := bne_iff_ne.2 hp1
    refine G0 ?_
    (refine .inr (.inl ⟨_, _, false, 0 :: ([] ++ []), ?_, hP, nobor, oI, dI, ?_⟩); focus (exact aM_mn (gone := []) (gone1 := []) rfl aI (by decide) (by decide) (by decide) rfl aM))
    refine G1 ?_; intro gg
    rw [hp1']
    refine G0 ?_
    (exact ⟨0 :: ([] ++ []), aM_same (by first | exact cl_b rfl | assumption) (aM_pn (gone := []) (gone1 := []) rfl aI (by decide) (by decide) (by decide) (.nil _))⟩)
end Go.Proofs.YtkclokmfomnbgaaGreat
namespace Go.Proofs.YtkclokmfomnbgaaGreat
open Go.RowKit Pl
set_option linter.unusedVariables false
theorem retnM2 {env : Nat → V} {H : Nat → Option Ent} {ts : List RT} {cs cs' : List V} {v : V} {ps : List ParM} (hG : GetR env H ts [.agg cs, v]) (hc : CellsB H [] cs cs') (hv : Cl v) (he : exitV 0 ps = []) (he' : exitsP ps = []) :
  ∃ us gone, GetR env H ts us ∧ ArgsM H gone true gone (us ++ exitV 0 ps) ([.p (.c (.agg cs')), .p (.c v)] ++ exitsP ps) := ⟨_, [], hG, by rw [he, he']; exact aM_bora hc (aM_same hv (.nil _))⟩
namespace Pl
def doneN (e : Int) (n : Nd) : Nd := if e ≠ 0 then nd0 else n
theorem doneN_e {e : Int} {n : Nd} (h : e ≠ 0) : doneN e n = nd0 := if_pos h
theorem doneN_ok (n : Nd) : doneN 0 n = n := if_neg (by simp)
noncomputable def turnR (n : Nd) (name : ByteArray) (frm to : Int) : Int × Nd :=
 if lab name.data.toList = false then (1, nd0) else if name = n.nm then (6, nd0) else if hit (Mb.cf name) n.ms = false then (5, nd0)
 else if (meOf n.ms name).st ≠ frm then (4, nd0)
 else ((spreadM n { meOf n.ms name with st := to }).1, doneN (spreadM n { meOf n.ms name with st := to }).1 (spreadM n { meOf n.ms name with st := to }).2)
noncomputable def turnM (n : Nd) (name : ByteArray) (frm to : Int) : Int × Nd := if n.err ≠ 0 then (n.err, nd0) else turnR n name frm to
theorem turnM_e {n : Nd} {name : ByteArray} {frm to : Int} (h : n.err ≠ 0) : turnM n name frm to = (n.err, nd0) := if_pos h
theorem turnM_ok {n : Nd} {name : ByteArray} {frm to : Int} (h : n.err = 0) : turnM n name frm to = turnR n name frm to := if_neg (by simp [h])
theorem turnR_lab {n : Nd} {name : ByteArray} {frm to : Int} (h : lab name.data.toList = false) : turnR n name frm to = (1, nd0) := if_pos h
theorem turnR_me {n : Nd} {name : ByteArray} {frm to : Int} (h : lab name.data.toList = true) (h2 : name = n.nm) : turnR n name frm to = (6, nd0) := by
 unfold turnR; rw [if_neg (by simp [h]), if_pos h2]
theorem turnR_no {n : Nd} {name : ByteArray} {frm to : Int} (h : lab name.data.toList = true) (h2 : name ≠ n.nm) (h3 : hit (Mb.cf name) n.ms = false) : turnR n name frm to = (5, nd0) := by
 unfold turnR; rw [if_neg (by simp [h]), if_neg h2, if_pos h3]
theorem turnR_st {n : Nd} {name : ByteArray} {frm to : Int} (h : lab name.data.toList = true) (h2 : name ≠ n.nm) (h3 : hit (Mb.cf name) n.ms = true) (h4 : (meOf n.ms name).st ≠ frm) : turnR n name frm to = (4, nd0) := by
 unfold turnR; rw [if_neg (by simp [h]), if_neg h2, if_neg (by simp [h3]), if_pos h4]
theorem turnR_ok {n : Nd} {name : ByteArray} {frm to : Int} (h : lab name.data.toList = true) (h2 : name ≠ n.nm) (h3 : hit (Mb.cf name) n.ms = true) (h4 : (meOf n.ms name).st = frm) :
  turnR n name frm to = ((spreadM n { meOf n.ms name with st := to }).1, doneN (spreadM n { meOf n.ms name with st := to }).1 (spreadM n { meOf n.ms name with st := to }).2) := by
 unfold turnR; rw [if_neg (by simp [h]), if_neg h2, if_neg (by simp [h3]), if_neg (by simp [h4])]
end Pl
theorem done_fun (n : Nd) (e : Int) : FunM Tryz.prog 91 [.pn 89 (wcF n), .p (.c (.v (.int .i64 e)))] [.p (.c (.agg (doneN e n).row)), .p (.c (.v (.int .i64 e)))] := by
 refine funM_xc ck_node_worker_done rfl (nd_b rfl) ?_
 refine G1 ?_; intro gg
 (refine bIf_of (fun h1 => ?_) (fun h1 => ?_) <;> rw [h1])
 ·have h1' : e ≠ 0 := by simpa using h1
  rw [doneN_e h1']
  refine G0 ?_
  exact retnM2 (.cell1 rfl rfl rfl rfl rfl rfl (.tmp1 rfl .nil)) cBI (cl_b rfl) rfl rfl
 ·have h1' : e = 0 := by simpa using h1
  subst h1'
  rw [doneN_ok]
  refine G0 ?_
  exact retnM2 (.cell1 rfl rfl rfl rfl rfl rfl (.tmp1 rfl .nil)) cBI (cl_b rfl) rfl rfl
theorem turn_fun (n : Nd) (h : n.ok) (name : ByteArray) (hn : name.size ≤ 9223372036854775807) (frm to : Int) : Fun Tryz.prog 90 [.c (.agg n.row), .c (.v (.string name)), .c (.v (.int .i64 frm)), .c (.v (.int .i64 to))] [.c (.agg (turnM n name frm to).2.row), .c (.v (.int .i64 (turnM n name frm to).1))] := by
 by_cases he : n.err = 0
 ·have g := Nd.good he
  have hi := ckMb_inv g.ms
  have hr := (ckRu_inv g.rs).len
  rw [turnM_ok he]
  refine fun_xc ck_node_turn rfl ?_
  (refine goI ?_; repeat (intro gg; refine goI ?_))
  (refine .inr (.inl ⟨_, _, false, [], aM, open_F n h g he, nobor, oI, dI, ?_⟩))
  refine G1 ?_; intro gg
  (refine .inl ⟨_, _, false, [], aI, mfind_fun false n.ms name (by omega) (Mb.smono hi.2.2 _).mono, nobor, nI, ?_⟩)
  refine G1 ?_; intro gg
  (refine .inl ⟨_, _, false, [], aI, label_fun name hn, nobor, nI, ?_⟩)
  refine G1 ?_; intro gg
  (refine bIf_of (fun h1 => ?_) (fun h1 => ?_) <;> rw [h1])
  ·rw [turnR_lab (not_t h1)]
   refine G0 ?_
   exact retn2 (.cell1 rfl rfl rfl rfl rfl rfl (.tmp1 rfl .nil)) cBI (cl_b rfl)
  ·have h1' := not_f h1
   refine G0 ?_
   (refine bIf_of (fun h2 => ?_) (fun h2 => ?_) <;> rw [h2])
   ·have h2' : name = n.nm := toList_inj (beq_iff_eq.1 h2)
    rw [turnR_me h1' h2']
    refine G0 ?_
    exact retn2 (.cell1 rfl rfl rfl rfl rfl rfl (.tmp1 rfl .nil)) cBI (cl_b rfl)
   ·have h2' : name ≠ n.nm := fun e => by rw [e, beq_self_eq_true] at h2; cases h2
    refine G0 ?_
    (refine bIf_of (fun h3 => ?_) (fun h3 => ?_) <;> rw [h3])
    ·rw [turnR_no h1' h2' (not_t h3)]
     refine G0 ?_
     exact retn2 (.cell1 rfl rfl rfl rfl rfl rfl (.tmp1 rfl .nil)) cBI (cl_b rfl)
    ·have h3' := not_f h3
     have hl := hit_lt h3'
     have hx : n.ms[low (Mb.cf name) n.ms]? = some (n.ms[low (Mb.cf name) n.ms]) := List.getElem?_eq_getElem hl
     have hme := meOf_at hx
     have hxo : (meOf n.ms name).ok := by rw [hme]; exact h.ms _ (List.getElem_mem hl)
     have hrow : (n.ms.map Mb.row)[low (Mb.cf name) n.ms]? = some (meOf n.ms name).row := by rw [List.getElem?_map, hx, hme]; rfl
     refine G0 ?_
     refine ⟨low (Mb.cf name) n.ms, _, rfl, hrow, ?_⟩
     refine G0 ?_
     (refine bIf_of (fun h4 => ?_) (fun h4 => ?_) <;> rw [h4])
     ·rw [turnR_st h1' h2' h3' (by simpa using h4)]
      refine G0 ?_
      exact retn2 (.cell1 rfl rfl rfl rfl rfl rfl (.tmp1 rfl .nil)) cBI (cl_b rfl)
     ·rw [turnR_ok h1' h2' h3' (by simpa using h4)]
      generalize meOf n.ms name = x at *
      have hS := spreadF_fun n { x with st := to } g.ms h.ms (by omega) h.rs hxo h.nm
      have hD := done_fun (spreadM n { x with st := to }).2 (spreadM n { x with st := to }).1
      refine G0 ?_
      refine ⟨low (Mb.cf name) n.ms, _, rfl, hrow, ?_⟩
      refine G1 ?_; intro gg
      (refine .inr (.inl ⟨_, _, false, 272 :: ([] ++ []), ?_, hS, nobor, oI, dI, ?_⟩); focus (exact aM_mn (gone := []) (gone1 := []) rfl aI (by decide) (by decide) (by decide) rfl aM))
      refine G1 ?_; intro gg
      (refine .inr (.inl ⟨_, _, false, 272 :: ([] ++ []), ?_, hD, nobor, oI, dI, ?_⟩); focus (exact aM_pn (gone := []) (gone1 := []) rfl aI (by decide) (by decide) (by decide) aM))
      refine G1 ?_; intro gg
      exact retn2 (.cell1 rfl rfl rfl rfl rfl rfl (.tmp1 rfl .nil)) cBI (cl_b rfl)
 ·rw [turnM_e he]
  refine fun_xc ck_node_turn rfl ?_
  (refine goI ?_; repeat (intro gg; refine goI ?_))
  (refine .inl ⟨_, _, false, [], aI, open_err n h he, nobor, nI, ?_⟩)
  refine G1 ?_; intro gg
  rw [show (n.err != 0) = true from bne_iff_ne.2 he]
  refine G0 ?_
  exact retn2 (.cell1 rfl rfl rfl rfl rfl rfl (.tmp1 rfl .nil)) cBI (cl_b rfl)
theorem doubt_fun (n : Nd) (h : n.ok) (name : ByteArray) (hn : name.size ≤ 9223372036854775807) : Fun Tryz.prog 28 [.c (.agg n.row), .c (.v (.string name))] [.c (.agg (turnM n name 1 2).2.row), .c (.v (.int .i64 (turnM n name 1 2).1))] := by
 refine fun_xc ck_node_Doubt rfl ?_
 (refine goI ?_; repeat (intro gg; refine goI ?_))
 (refine .inl ⟨_, _, false, [], aI, turn_fun n h name hn 1 2, nobor, nI, ?_⟩)
 refine G1 ?_; intro gg
 exact retn2 (.cell1 rfl rfl rfl rfl rfl rfl (.tmp1 rfl .nil)) cBI (cl_b rfl)
end Go.Proofs.YtkclokmfomnbgaaGreat
namespace Go.Proofs.YtkclokmfomnbgaaGreat
open Go.RowKit Pl
set_option linter.unusedVariables false
namespace Pl
theorem ckMb_each {l : List Mb} (h : ckMb l = 0) {x : Mb} (hx : x ∈ l) : x.err = 0 := by
 obtain ⟨i, hi, rfl⟩ := List.mem_iff_getElem.1 hx
 exact (ckMb_inv h).2.1 i hi
end Pl
theorem open_O (n : Nd) (h : n.ok) (g : n.Good) (he : n.err = 0) : FunM Tryz.prog 59 [.p (.c (.agg n.row))] [.pn 89 (wcO n), .p (.c (.v (.int .i64 0)))] := by
 have i1 := (ckMb_inv g.ms).1
 have i2 := (ckRu_inv g.rs).len
 have i3 := (ckSv_inv g.sv).1
 have i4 := (ckGw_inv g.gs).1
 have i5 := ckWh_inv g.wh
 have c1 := (mclone_fun false n.ms (by omega)).frz
 have c2 := (cloneRu_fun false n.rs (by omega)).frz
 have c3 := (sclone_fun false n.sv (by omega)).frz
 have c4 := (gclone_fun false n.gs (by omega)).frz
 have c5 := (whclone_fun false n.wh (by omega))
 simp only [List.map_cons, List.map_nil, Go.Proofs.YtkclokmfomnbgaaGreat.frz] at c1 c2 c3 c4
 have cc := ndCheck_fun n h
 rw [he] at cc
 refine funM_x ck_node_open rfl rfl (show ([0] : List Nat).Nodup from by decide) ?_
 refine G1 ?_; intro gg
 (refine .inl ⟨_, _, false, [], aI, cc, nobor, nI, ?_⟩)
 refine G1 ?_; intro gg
 (refine ⟨_, _, false, aI, c1, nobor, nI, ?_⟩)
 refine G1 ?_; intro gg
 (refine ⟨_, _, false, aI, c2, nobor, nI, ?_⟩)
 refine G1 ?_; intro gg
 (refine ⟨_, _, false, aI, c3, nobor, nI, ?_⟩)
 refine G1 ?_; intro gg
 (refine ⟨_, _, false, aI, c4, nobor, nI, ?_⟩)
 refine G1 ?_; intro gg
 (refine ⟨_, _, false, aI, c5, nobor, nI, ?_⟩)
 (refine goI ?_; repeat (intro gg; refine goI ?_))
 (exact ⟨512 :: ([432] ++ []), aM_pn (gone := []) (gone1 := [432]) rfl aI (by decide) (by decide) (by decide) aM⟩)
end Go.Proofs.YtkclokmfomnbgaaGreat
namespace Go.Proofs.YtkclokmfomnbgaaGreat
open Go.RowKit Pl
set_option linter.unusedVariables false
namespace Pl
open Classical in
noncomputable def ckFew (l : List Mb) : Int := if 5 < l.length then 2 else if firstErr Mb.err l ≠ 0 then firstErr Mb.err l else if (l.map Mb.n).Nodup then 0 else 6
theorem ckFew_many {l : List Mb} (h : 5 < l.length) : ckFew l = 2 := by simp [ckFew, h]
theorem ckFew_each {l : List Mb} (h : ¬ 5 < l.length) (h2 : firstErr Mb.err l ≠ 0) : ckFew l = firstErr Mb.err l := by simp [ckFew, h, h2]
theorem ckFew_two {l : List Mb} (h : ¬ 5 < l.length) (h2 : firstErr Mb.err l = 0) (h4 : ¬ (l.map Mb.n).Nodup) : ckFew l = 6 := by simp only [ckFew, h, h2, h4, if_false, ne_eq, not_true]
theorem ckFew_ok {l : List Mb} (h : ¬ 5 < l.length) (h2 : firstErr Mb.err l = 0) (h4 : (l.map Mb.n).Nodup) : ckFew l = 0 := by simp only [ckFew, h, h2, h4, if_false, if_true, ne_eq, not_true]
noncomputable def Pk.cks (p : Pk) : List Int := [ckMb p.ms, ckSv p.sv, ckGw p.gs, ckWh p.wh]
noncomputable def Pk.err (p : Pk) : Int :=
 if lab p.fr.data.toList = false then 1 else if p.wo = false then (if p.sv.length + p.gs.length + p.wh.length = 0 then ckFew p.ms else 1) else firstErr (fun e => e) p.cks
theorem Pk.err_form {p : Pk} (h : lab p.fr.data.toList = false) : p.err = 1 := if_pos h
theorem Pk.err_more {p : Pk} (h : lab p.fr.data.toList = true) (h2 : p.wo = false) (h3 : p.sv.length + p.gs.length + p.wh.length ≠ 0) : p.err = 1 := by
 unfold Pk.err; rw [if_neg (by simp [h]), if_pos h2, if_neg h3]
theorem Pk.err_few {p : Pk} (h : lab p.fr.data.toList = true) (h2 : p.wo = false) (h3 : p.sv.length + p.gs.length + p.wh.length = 0) : p.err = ckFew p.ms := by
 unfold Pk.err; rw [if_neg (by simp [h]), if_pos h2, if_pos h3]
theorem Pk.err_all {p : Pk} (h : lab p.fr.data.toList = true) (h2 : p.wo = true) : p.err = firstErr (fun e => e) p.cks := by
 unfold Pk.err; rw [if_neg (by simp [h]), if_neg (by simp [h2])]
end Pl
theorem few_fun (c : Bool) (l : List Mb) (hl : l.length ≤ 9223372036854775807) (hw : ∀ m ∈ l, m.ok) : Fun Tryz.prog 130 [.c (.sl c (l.map Mb.row))] [.c (.v (.int .i64 (ckFew l)))] := by
 have hlm : (l.map Mb.row).length = l.length := List.length_map ..
 refine fun_x ck_packet_few rfl ?_
 refine G0 ?_
 (refine bIf_of (fun h => ?_) (fun h => ?_) <;> rw [h])
 ·have h1 : 5 < l.length := by have := of_decide_eq_true h; omega
  refine G0 ?_
  rw [ckFew_many h1]
  (exact ⟨[], aI⟩)
 ·have h1 : ¬ 5 < l.length := by have := of_decide_eq_false h; omega
  refine G0 ?_
  (refine .inl ⟨_, _, false, [], aI, mEach_fun c l hl hw, nobor, nI, ?_⟩)
  refine G1 ?_; intro gg
  (refine bIf_of (fun h2 => ?_) (fun h2 => ?_) <;> rw [h2])
  ·have h2' : firstErr Mb.err l ≠ 0 := by simpa using h2
   refine G0 ?_
   rw [ckFew_each h1 h2']
   (exact ⟨[], aI⟩)
  ·have h2' : firstErr Mb.err l = 0 := by simpa using h2
   refine G1 ?_; intro gg
   rename Nat => g0
   (refine ⟨[], none, {q : Nat × List (ByteArray × V) // q.1 ≤ l.length ∧ Names q.2 ((l.take q.1).map Mb.n)}, [0, 4, 16, 17], fun ⟨⟨k, E⟩, hk, hE⟩ => [(18, .v (.int .i64 k))], [], fun ⟨⟨k, E⟩, hk, hE⟩ => [(240, ⟨g0, .q (mapI (ents E)), 0, []⟩)], fun ⟨⟨k, E⟩, hk, hE⟩ => l.length - k, trivial, fun _ => ⟨trivial, fun _ => ⟨⟨(0, []), Nat.zero_le _, Names.nil⟩, tI, keptE_refl _ _, tI, keptH_refl _ _⟩⟩, fun ⟨⟨k, E⟩, hk, hE⟩ => ?_⟩)
   refine G0 ?_
   (refine bIf_of (fun h3 => ?_) (fun h3 => ?_) <;> rw [h3])
   ·have hlt : k < l.length := by have := of_decide_eq_true h3; omega
    refine G0 ?_
    refine ⟨k, _, rfl, row_map hlt, ?_⟩
    refine G1 ?_; intro gg
    refine ⟨_, _, rfl, cl_b rfl, findE_str _ _ _, ?_⟩
    refine G0 ?_
    have e := putE_str E l[k].n (.v (.bool true))
    have hE' : Names (put E l[k].n (.v (.bool true))) ((l.take (k + 1)).map Mb.n) := by
     rw [List.take_add_one, List.getElem?_eq_getElem hlt, List.map_append]
     exact hE.put _ _ (cl_b rfl)
    (exact ⟨none, trivial, fun gr => ⟨⟨(k + 1, put E l[k].n (.v (.bool true))), by dsimp only; omega, hE'⟩, by show l.length - (k + 1) < l.length - k; omega, tI, tI, ⟨congrArg (fun x => some (Ent.mk g0 (.q (mapI x)) 0 [])) e, trivial⟩, tI⟩⟩)
   ·have hge : ¬ k < l.length := by have := of_decide_eq_false h3; omega
    rw [List.take_of_length_le (by dsimp only; omega)] at hE
    have hE : Names E (l.map Mb.n) := hE
    refine G0 ?_
    refine ⟨_, rfl, ?_⟩
    refine G0 ?_
    rw [ents_len, List.length_map]
    have ha := hE.all
    have hle := hE.le
    rw [List.length_map] at ha hle
    (refine bIf_of (fun h4 => ?_) (fun h4 => ?_) <;> rw [h4])
    ·have h4' : E.length < l.length := (by have := of_decide_eq_true h4; omega)
     refine G0 ?_
     rw [ckFew_two h1 h2' (fun q => by have := ha.2 q; omega)]
     (exact ⟨[], aI⟩)
    ·have h4' : ¬ E.length < l.length := (by have := of_decide_eq_false h4; omega)
     refine G0 ?_
     rw [ckFew_ok h1 h2' (ha.1 (by omega))]
     (exact ⟨[], aI⟩)
theorem pkCheck_fun (p : Pk) (h : p.ok) : Fun Tryz.prog 74 [.c (.agg p.row)] [.c (.v (.int .i64 p.err))] := by
 have l1 : (p.sv.map Sv.row).length = p.sv.length := List.length_map ..
 have l2 : (p.gs.map Gw.row).length = p.gs.length := List.length_map ..
 have l3 : (p.wh.map Wh.row).length = p.wh.length := List.length_map ..
 have b1 := h.svl
 have b2 := h.gsl
 have b3 := h.whl
 refine fun_x ck_packet_Check rfl ?_
 refine G1 ?_; intro gg
 (refine .inl ⟨_, _, false, [], aI, label_fun p.fr h.fr, nobor, nI, ?_⟩)
 refine G1 ?_; intro gg
 (refine bIf_of (fun h1 => ?_) (fun h1 => ?_) <;> rw [h1])
 ·rw [Pk.err_form (not_t h1)]
  refine G0 ?_
  (exact ⟨[], aI⟩)
 ·have h1' := not_f h1
  cases hwo : p.wo with
  | false =>
   refine G0 ?_
   (refine bIf_of (fun h2 => ?_) (fun h2 => ?_) <;> rw [h2])
   ·have h2' := of_decide_eq_true h2
    rw [Pk.err_more h1' hwo (by omega)]
    refine G0 ?_
    (exact ⟨[], aI⟩)
   ·have h2' := of_decide_eq_false h2
    rw [Pk.err_few h1' hwo (by omega)]
    refine G0 ?_
    (refine .inl ⟨_, _, false, [], aI, few_fun false p.ms h.msl h.ms, nobor, nI, ?_⟩)
    refine G1 ?_; intro gg
    (exact ⟨[], aI⟩)
  | true =>
   rw [Pk.err_all h1' hwo]
   refine G0 ?_
   (refine ⟨_, _, false, aI, mCheck_fun p.ms h.msl h.ms, nobor, nI, ?_⟩)
   refine G1 ?_; intro gg
   (refine ⟨_, _, false, aI, sCheck_fun p.sv (by omega) h.sv, nobor, nI, ?_⟩)
   refine G1 ?_; intro gg
   (refine ⟨_, _, false, aI, gCheck_fun p.gs (by omega) h.gs, nobor, nI, ?_⟩)
   refine G1 ?_; intro gg
   (refine ⟨_, _, false, aI, places_fun false p.wh (by omega) h.wh, nobor, nI, ?_⟩)
   (refine goI ?_; repeat (intro gg; refine goI ?_))
   (refine ⟨[], none, {k : Nat // k ≤ 4 ∧ ∀ j, (h : j < p.cks.length) → j < k → p.cks[j] = 0}, [46, 47], fun ⟨k, hk, h0⟩ => [(48, .v (.int .i64 k))], [16, 736], fun ⟨k, hk, h0⟩ => [], fun ⟨k, hk, h0⟩ => 4 - k, trivial, fun _ => ⟨trivial, fun _ => ⟨⟨0, Nat.zero_le _, fun j _ h => absurd h (Nat.not_lt_zero _)⟩, tI, keptE_refl _ _, tI, keptH_refl _ _⟩⟩, fun ⟨k, hk, h0⟩ => ?_⟩)
   refine G0 ?_
   have hk6 : k ≤ 4 := hk
   (refine bIf_of (fun h3 => ?_) (fun h3 => ?_) <;> rw [h3])
   ·have hlt6 : k < 4 := by have h4 := of_decide_eq_true h3; have h5 : (k : Int) < 4 := h4; omega
    have hlt : k < p.cks.length := hlt6
    refine G0 ?_
    refine ⟨k, _, rfl, row_map (f := zRow) (l := p.cks) hlt, ?_⟩
    refine G0 ?_
    refine ⟨_, row_map (f := zRow) (l := p.cks) hlt, ?_⟩
    refine G0 ?_
    (refine bIf_of (fun h4 => ?_) (fun h4 => ?_) <;> rw [h4])
    ·have h4' : p.cks[k] ≠ 0 := by simpa using h4
     have e : firstErr (fun e => e) p.cks = p.cks[k] := firstErr_at (e := fun e => e) hlt h0 h4'
     refine G0 ?_
     rw [e]
     (exact ⟨[], aI⟩)
    ·have h4' : p.cks[k] = 0 := by simpa using h4
     refine G0 ?_
     (exact ⟨none, trivial, fun _ => ⟨⟨k + 1, by omega, up1 (p := fun j h => p.cks[j] = 0) h0 (fun _ => h4')⟩, by show 4 - (k + 1) < 4 - k; omega, tI, tI, tI, tI⟩⟩)
   ·have hge : ¬ k < 4 := by have h4 := of_decide_eq_false h3; have h5 : ¬ (k : Int) < 4 := h4; omega
    have hz : firstErr (fun e => e) p.cks = 0 := firstErr_zero (e := fun e => e) fun i hi => h0 i hi (by have h6 : i < 4 := hi; omega)
    refine G0 ?_
    rw [hz]
    (exact ⟨[], aI⟩)
end Go.Proofs.YtkclokmfomnbgaaGreat
namespace Go.Proofs.YtkclokmfomnbgaaGreat
open Go.RowKit Pl
set_option linter.unusedVariables false
namespace Pl
def Wh.cf (name : ByteArray) (g : Wh) : Int := scmp g.nd name
theorem Wh.lt_cf (name : ByteArray) (x y : Wh) (h : Wh.lt x y = true) (hy : Wh.cf name y ≤ 0) : Wh.cf name x < 0 := by
 unfold Wh.cf at *
 rw [scmp_neg]
 rcases Bool.eq_false_or_eq_true (slt y.nd name) with g | g
 ·exact slt_trans h g
 ·have h0 : scmp y.nd name = 0 := by
   rcases (by omega : scmp y.nd name < 0 ∨ scmp y.nd name = 0) with q | q
   ·rw [scmp_neg] at q; rw [q] at g; cases g
   ·exact q
  rw [scmp_zero] at h0
  rw [← h0]
  exact h
theorem Wh.lt_trans (x y z : Wh) (h1 : Wh.lt x y = true) (h2 : Wh.lt y z = true) : Wh.lt x z = true := slt_trans h1 h2
theorem Wh.smono {l : List Wh} (h : sorted Wh.lt l = true) (name : ByteArray) : SMono (Wh.cf name) l := smono_of Wh.lt_trans (Wh.lt_cf name) h
def Wh.kf (g x : Wh) : Int := Wh.cf g.nd x
theorem Wh.ord : Ord Wh.lt Wh.kf where
 neg := fun g x => by unfold Wh.kf Wh.cf Wh.lt; exact scmp_neg
 pos := fun g x => by
  unfold Wh.kf Wh.cf Wh.lt
  constructor
  ·intro h
   rcases Bool.eq_false_or_eq_true (slt g.nd x.nd) with q | q
   ·exact q
   ·rcases Bool.eq_false_or_eq_true (slt x.nd g.nd) with p | p
    ·rw [scmp_lt p] at h; omega
    ·have := slt_tri q p
     rw [this, scmp_eq] at h; omega
  ·intro h; rw [scmp_gt h]; omega
 trans := Wh.lt_trans
 left := fun g x y h => by
  unfold Wh.kf Wh.cf at h
  rw [scmp_zero] at h
  unfold Wh.lt; rw [h]
 right := fun g x y h => by
  unfold Wh.kf Wh.cf at h
  rw [scmp_zero] at h
  unfold Wh.lt; rw [h]
end Pl
theorem wcf_fun (g : Wh) (name : ByteArray) : Fun Tryz.prog 140 [.c (.agg g.row), .c (.v (.string name))] [.c (.v (.int .i64 (Wh.cf name g)))] := by
 refine fun_x ck_node_worker_find_1 rfl ?_
 refine G1 ?_; intro gg
 (refine .inl ⟨_, _, false, [], aI, cmps_fun _ _, nobor, nI, ?_⟩)
 refine G1 ?_; intro gg
 (exact ⟨[], aI⟩)
theorem wbs_fun (c : Bool) (l : List Wh) (name : ByteArray) (hl : l.length ≤ 1000) (hm : Mono (Wh.cf name) l) : Fun Tryz.prog 139 [.c (.sl c (l.map Wh.row)), .c (.v (.string name)), .c (.v (.func (.func 140) #[] #[]))] [.c (.v (.int .i64 (low (Wh.cf name) l))), .c (.v (.bool (hit (Wh.cf name) l)))] := by
 refine fun_x ck_slices_BinarySearchFunc_api_Where_api_Where_string rfl ?_
 refine G0 ?_
 rw [List.length_map]
 (refine ⟨[], none, {p : Nat × Nat // p.1 ≤ p.2 ∧ p.2 ≤ l.length ∧ (∀ k, (h : k < l.length) → k < p.1 → Wh.cf name l[k] < 0) ∧ (∀ k, (h : k < l.length) → p.2 ≤ k → 0 ≤ Wh.cf name l[k])}, [0, 1, 2, 8], fun ⟨⟨i, j⟩, h1, h2, h3, h4⟩ => [(9, .v (.int .i64 i)), (10, .v (.int .i64 j))], [], fun ⟨⟨i, j⟩, h1, h2, h3, h4⟩ => [], fun ⟨⟨i, j⟩, h1, h2, h3, h4⟩ => j - i, trivial, fun _ => ⟨trivial, fun _ => ⟨⟨(0, l.length), by omega, by omega, fun k _ h => absurd h (by omega), fun k h h' => absurd h (by omega)⟩, tI, keptE_refl _ _, tI, keptH_refl _ _⟩⟩, fun ⟨⟨i, j⟩, h1, h2, h3, h4⟩ => ?_⟩)
 dsimp only at h1 h2 h3 h4
 refine G0 ?_
 (refine bIf_of (fun h => ?_) (fun h => ?_) <;> rw [h])
 ·have hlt : i < j := (by have := of_decide_eq_true h; omega)
  have hk : (i + j) / 2 < l.length := by omega
  refine G0 ?_
  refine ⟨(i + j) / 2, _, by omega, row_map hk, ?_⟩
  refine G0 ?_
  (refine .inl ⟨_, _, false, [], aI, wcf_fun _ _, nobor, nI, ?_⟩)
  refine G1 ?_; intro gg
  (refine bIf_of (fun h5 => ?_) (fun h5 => ?_) <;> rw [h5])
  ·have h5' : Wh.cf name l[(i + j) / 2] < 0 := by simpa using h5
   refine G0 ?_
   (exact ⟨none, trivial, fun _ => ⟨⟨((i + j) / 2 + 1, j), by dsimp only; omega, h2, fun k hk' hka => hm k ((i + j) / 2) hk' hk (by dsimp only at hka; omega) h5', h4⟩, by show j - ((i + j) / 2 + 1) < j - i; omega, tI, tI, tI, tI⟩⟩)
  ·have h5' : ¬ Wh.cf name l[(i + j) / 2] < 0 := by simpa using h5
   refine G0 ?_
   (exact ⟨none, trivial, fun _ => ⟨⟨(i, (i + j) / 2), by dsimp only; omega, by dsimp only; omega, h3, fun k hk' hka => Int.not_lt.1 (fun h' => h5' (hm ((i + j) / 2) k hk hk' hka h'))⟩, by show (i + j) / 2 - i < j - i; omega, tI, tI, tI, tI⟩⟩)
 ·have hij : i = j := (by have := of_decide_eq_false h; omega)
  subst hij
  have HE := low_uniq (cf := Wh.cf name) h2 h3 h4
  refine G0 ?_
  (refine bIf_of (fun h5 => ?_) (fun h5 => ?_) <;> rw [h5])
  ·have hin : i < l.length := (by have := of_decide_eq_true h5; omega)
   have HH : hit (Wh.cf name) l = decide (Wh.cf name l[i] = 0) := by
    have hin' : low (Wh.cf name) l < l.length := by rw [← HE]; exact hin
    rw [hit_in hin']
    simp only [← HE]
   refine G0 ?_
   refine ⟨i, _, rfl, row_map hin, ?_⟩
   refine G0 ?_
   (refine .inl ⟨_, _, false, [], aI, wcf_fun _ _, nobor, nI, ?_⟩)
   refine G1 ?_; intro gg
   rw [← HE, HH]
   (exact ⟨[], aI⟩)
  ·have HH : hit (Wh.cf name) l = false := hit_out (by rw [← HE]; exact (by have := of_decide_eq_false h5; omega))
   refine G0 ?_
   rw [← HE, HH]
   (exact ⟨[], aI⟩)
theorem find_fun (n : Nd) (name : ByteArray) (hl : n.wh.length ≤ 1000) (hm : Mono (Wh.cf name) n.wh) :
  FunM Tryz.prog 78 [.mn 89 (wcO n) (wcO n), .p (.c (.v (.string name)))] [.p (.c (.v (.int .i64 (low (Wh.cf name) n.wh)))), .p (.c (.v (.bool (hit (Wh.cf name) n.wh))))] := by
 refine funM_x ck_node_worker_find rfl rfl (nd_b rfl) ?_
 refine G0 ?_
 (refine .inl ⟨_, _, true, [], aI, wbs_fun false n.wh name hl hm, (fun _ => fI), nI, ?_⟩)
 refine G1 ?_; intro gg
 (exact ⟨0 :: ([100000000] ++ []), aM_same (by first | exact cl_b rfl | assumption) (aM_same (by first | exact cl_b rfl | assumption) (aM_pn (gone := []) (gone1 := [100000000]) rfl aI (by decide) (by decide) (by decide) (.nil _)))⟩)
end Go.Proofs.YtkclokmfomnbgaaGreat
namespace Go.Proofs.YtkclokmfomnbgaaGreat
open Go.RowKit Pl
set_option linter.unusedVariables false
namespace Pl
theorem Gw.putL_put {l : List Gw} (hs : sorted Gw.lt l = true) (m : Gw) : putL (Gw.ge m) (Gw.ne m) m l = putAt (Gw.kf m) m l := by
 rw [Gw.ge_eq, Gw.ne_eq]
 exact putL_sorted (Gw.smono hs m.c) m
theorem Gw.nw_iff (g x : Gw) : Gw.nw g x = true ↔ x.v < g.v ∨ (g.v = x.v ∧ x.a < g.a) := by
 unfold Gw.nw Gw.cmp firstNZ icmp
 rw [decide_eq_true_iff]
 simp only [firstNZ]
 split <;> split <;> (try split) <;> (try split) <;> (try split) <;> omega
def Wh.is (name : ByteArray) (m : Wh) : Bool := m.nd.toList == name.toList
def Wh.ge (m x : Wh) : Bool := !(Op.bytesLess x.nd.toList m.nd.toList)
def Wh.ne (m x : Wh) : Bool := !(x.nd.toList == m.nd.toList)
theorem Wh.ge_eq (m : Wh) : Wh.ge m = fun x => decide (0 ≤ Wh.kf m x) := by
 funext x
 have h := scmp_neg (a := x.nd) (b := m.nd)
 unfold Wh.ge Wh.kf Wh.cf
 unfold slt at h
 cases hb : Op.bytesLess x.nd.toList m.nd.toList with
 | true => have := h.2 hb; simp; omega
 | false =>
  have : ¬ scmp x.nd m.nd < 0 := fun e => by rw [h.1 e] at hb; cases hb
  simp; omega
theorem Wh.is_eq (name : ByteArray) : Wh.is name = fun x => decide (Wh.cf name x = 0) := by
 funext x
 unfold Wh.is Wh.cf
 by_cases h : x.nd = name
 ·rw [h, scmp_eq]; simp
 ·have h2 : scmp x.nd name ≠ 0 := fun e => h (scmp_zero.1 e)
  rw [seq_no h]; simp [h2]
theorem Wh.ne_eq (m : Wh) : Wh.ne m = fun x => decide (Wh.kf m x ≠ 0) := by
 funext x
 have := congrFun (Wh.is_eq m.nd) x
 unfold Wh.is at this
 unfold Wh.ne Wh.kf
 rw [this]; simp
theorem Wh.at_eq {l : List Wh} (hs : sorted Wh.lt l = true) (name : ByteArray) : at_ (Wh.is name) l = if hit (Wh.cf name) l = true then (low (Wh.cf name) l : Int) else -1 := by
 rw [Wh.is_eq]; exact at_sorted (Wh.smono hs name)
theorem Wh.putL_put {l : List Wh} (hs : sorted Wh.lt l = true) (m : Wh) : putL (Wh.ge m) (Wh.ne m) m l = putAt (Wh.kf m) m l := by
 rw [Wh.ge_eq, Wh.ne_eq]
 exact putL_sorted (Wh.smono hs m.nd) m
def Wh.same (g h : Wh) : Bool := (g.nd.toList == h.nd.toList) && ((g.pl.x == h.pl.x) && ((g.pl.y == h.pl.y) && ((g.pl.z == h.pl.z) && ((g.pl.h == h.pl.h) && ((g.pl.s == h.pl.s) && true)))))
theorem Wh.same_iff {g h : Wh} : Wh.same g h = true ↔ g = h := by
 obtain ⟨a, b, c, d, e, f⟩ := g
 obtain ⟨a', b', c', d', e', f'⟩ := h
 have tl : ∀ a b : ByteArray, a.toList = b.toList ↔ a = b := fun a b => ⟨toList_inj, fun h => by rw [h]⟩
 simp only [Wh.same, Bool.and_true, Bool.and_eq_true, beq_iff_eq, tl, Wh.mk.injEq, Pc.mk.injEq]
end Pl
theorem rgput_fun (l : List Gw) (x : Gw) (hl : l.length ≤ 100) (hs : sorted Gw.lt l = true) : Fun Tryz.prog 146 [.c (.sl false (l.map Gw.row)), .c (.agg x.row)] [.c (.sl false ((putAt (Gw.kf x) x l).map Gw.row))] := by
 rw [← Gw.putL_put hs x]
 refine fun_x ck_hearsayref_PutGateway rfl ?_
 refine G1 ?_; intro gg
 (refine ⟨[(5, 80, 125, 3)], none, {p : Nat × Nat // p.1 ≤ l.length}, [0, 3], fun ⟨⟨k, g⟩, hk⟩ => [(5, .own 80 g), (6, .v (.bool (putTo (Gw.ge x) (Gw.ne x) x (l.take k)).2)), (7, .v (.int .i64 k))], [48], fun ⟨⟨k, g⟩, hk⟩ => [(80, ⟨g, 125, 3, (putTo (Gw.ge x) (Gw.ne x) x (l.take k)).1.map Gw.row⟩)], fun ⟨⟨k, g⟩, hk⟩ => l.length - k, (by exact ⟨rfl, by decide, (fun _ _ _ _ h => by cases h), trivial⟩), fun gs => ⟨trivial, fun _ => ⟨⟨(0, gs 80), by omega⟩, tI, tI, tI, tI⟩⟩, fun ⟨⟨k, g⟩, hk⟩ => ?_⟩)
 have hk' : k ≤ l.length := hk
 have hlen := putTo_len (ge := Gw.ge x) (ne := Gw.ne x) (g := x) k (l.take k) (by rw [List.length_take]; omega)
 refine G0 ?_
 rw [List.length_map]
 (refine bIf_of (fun h3 => ?_) (fun h3 => ?_) <;> rw [h3])
 ·have hlt3 : k < l.length := (by have := of_decide_eq_true h3; omega)
  have hN := putTo_next (ge := Gw.ge x) (ne := Gw.ne x) (g := x) hlt3
  refine G0 ?_
  (refine bIf_of (fun h4 => ?_) (fun h4 => ?_) <;> rw [h4])
  ·have h4' : (putTo (Gw.ge x) (Gw.ne x) x (l.take k)).2 = false := by simpa using h4
   refine G0 ?_
   refine ⟨k, _, rfl, row_map hlt3, ?_⟩
   refine G0 ?_
   (refine bIf_of (fun h5 => ?_) (fun h5 => ?_) <;> rw [h5])
   ·refine G1 ?_; intro gg
    refine ⟨lI, lI, ?_⟩
    refine G1 ?_; intro gg
    refine ⟨k, _, rfl, row_map hlt3, ?_⟩
    refine G0 ?_
    (refine bIf_of (fun h6 => ?_) (fun h6 => ?_) <;> rw [h6])
    ·have hn : putTo (Gw.ge x) (Gw.ne x) x (l.take (k + 1)) = ((putTo (Gw.ge x) (Gw.ne x) x (l.take k)).1 ++ [x] ++ [l[k]], true) := by rw [hN]; simp [putStep, h4', show Gw.ge x l[k] = true from h5, show Gw.ne x l[k] = true from h6]
     refine G0 ?_
     refine ⟨k, _, rfl, row_map hlt3, ?_⟩
     refine G1 ?_; intro gg
     refine ⟨lI, lI, ?_⟩
     refine G1 ?_; intro gg
     (exact ⟨none, trivial, fun gr => ⟨⟨(k + 1, gg), by dsimp only; omega⟩, by show l.length - (k + 1) < l.length - k; omega, hxI hn, hxI hn, hxI hn, hxI hn⟩⟩)
    ·have hn : putTo (Gw.ge x) (Gw.ne x) x (l.take (k + 1)) = ((putTo (Gw.ge x) (Gw.ne x) x (l.take k)).1 ++ [x], true) := by rw [hN]; simp [putStep, h4', show Gw.ge x l[k] = true from h5, show Gw.ne x l[k] = false from h6]
     refine G0 ?_
     (exact ⟨none, trivial, fun gr => ⟨⟨(k + 1, gg), by dsimp only; omega⟩, by show l.length - (k + 1) < l.length - k; omega, hxI hn, hxI hn, hxI hn, hxI hn⟩⟩)
   ·refine G0 ?_
    refine ⟨k, _, rfl, row_map hlt3, ?_⟩
    refine G0 ?_
    (refine bIf_of (fun h6 => ?_) (fun h6 => ?_) <;> rw [h6])
    ·have hn : putTo (Gw.ge x) (Gw.ne x) x (l.take (k + 1)) = ((putTo (Gw.ge x) (Gw.ne x) x (l.take k)).1 ++ [l[k]], (putTo (Gw.ge x) (Gw.ne x) x (l.take k)).2) := by rw [hN]; simp [putStep, h4', show Gw.ge x l[k] = false from h5, show Gw.ne x l[k] = true from h6]
     refine G0 ?_
     refine ⟨k, _, rfl, row_map hlt3, ?_⟩
     refine G1 ?_; intro gg
     refine ⟨lI, lI, ?_⟩
     refine G1 ?_; intro gg
     (exact ⟨none, trivial, fun gr => ⟨⟨(k + 1, gg), by dsimp only; omega⟩, by show l.length - (k + 1) < l.length - k; omega, hxI hn, hxI hn, hxI hn, hxI hn⟩⟩)
    ·have hn : putTo (Gw.ge x) (Gw.ne x) x (l.take (k + 1)) = (putTo (Gw.ge x) (Gw.ne x) x (l.take k)) := by rw [hN]; simp [putStep, h4', show Gw.ge x l[k] = false from h5, show Gw.ne x l[k] = false from h6]
     refine G0 ?_
     (exact ⟨none, trivial, fun gr => ⟨⟨(k + 1, g), by dsimp only; omega⟩, by show l.length - (k + 1) < l.length - k; omega, hxI hn, hxI hn, hxI hn, hxI hn⟩⟩)
  ·have h4' : (putTo (Gw.ge x) (Gw.ne x) x (l.take k)).2 = true := by simpa using h4
   refine G0 ?_
   refine ⟨k, _, rfl, row_map hlt3, ?_⟩
   refine G0 ?_
   (refine bIf_of (fun h6 => ?_) (fun h6 => ?_) <;> rw [h6])
   ·have hn : putTo (Gw.ge x) (Gw.ne x) x (l.take (k + 1)) = ((putTo (Gw.ge x) (Gw.ne x) x (l.take k)).1 ++ [l[k]], (putTo (Gw.ge x) (Gw.ne x) x (l.take k)).2) := by rw [hN]; simp [putStep, h4', show Gw.ne x l[k] = true from h6]
    refine G0 ?_
    refine ⟨k, _, rfl, row_map hlt3, ?_⟩
    refine G1 ?_; intro gg
    refine ⟨lI, lI, ?_⟩
    refine G1 ?_; intro gg
    (exact ⟨none, trivial, fun gr => ⟨⟨(k + 1, gg), by dsimp only; omega⟩, by show l.length - (k + 1) < l.length - k; omega, hxI hn, hxI hn, hxI hn, hxI hn⟩⟩)
   ·have hn : putTo (Gw.ge x) (Gw.ne x) x (l.take (k + 1)) = (putTo (Gw.ge x) (Gw.ne x) x (l.take k)) := by rw [hN]; simp [putStep, h4', show Gw.ne x l[k] = false from h6]
    refine G0 ?_
    (exact ⟨none, trivial, fun gr => ⟨⟨(k + 1, g), by dsimp only; omega⟩, by show l.length - (k + 1) < l.length - k; omega, hxI hn, hxI hn, hxI hn, hxI hn⟩⟩)
 ·have hge : l.length ≤ k := (by have := of_decide_eq_false h3; omega)
  obtain rfl : k = l.length := by omega
  refine G0 ?_
  have hT : putTo (Gw.ge x) (Gw.ne x) x (l.take l.length) = putTo (Gw.ge x) (Gw.ne x) x l := by rw [List.take_length]
  (refine bIf_of (fun h4 => ?_) (fun h4 => ?_) <;> rw [h4])
  ·have h4' : (putTo (Gw.ge x) (Gw.ne x) x l).2 = false := by rw [← hT]; simpa using h4
   refine G1 ?_; intro gg
   refine ⟨lI, lI, ?_⟩
   refine G1 ?_; intro gg
   rw [show putL (Gw.ge x) (Gw.ne x) x l = (putTo (Gw.ge x) (Gw.ne x) x (l.take l.length)).1 ++ [x] by rw [hT]; simp [putL, h4'], List.map_append]
   (exact ⟨[], aI⟩)
  ·have h4' : (putTo (Gw.ge x) (Gw.ne x) x l).2 = true := by rw [← hT]; simpa using h4
   refine G0 ?_
   rw [show putL (Gw.ge x) (Gw.ne x) x l = (putTo (Gw.ge x) (Gw.ne x) x (l.take l.length)).1 by rw [hT]; simp [putL, h4']]
   (exact ⟨[], aI⟩)
theorem rwput_fun (l : List Wh) (x : Wh) (hl : l.length ≤ 100) (hs : sorted Wh.lt l = true) : Fun Tryz.prog 85 [.c (.sl false (l.map Wh.row)), .c (.agg x.row)] [.c (.sl false ((putAt (Wh.kf x) x l).map Wh.row))] := by
 rw [← Wh.putL_put hs x]
 refine fun_x ck_hearsayref_PutWhere rfl ?_
 refine G1 ?_; intro gg
 (refine ⟨[(5, 80, 113, 6)], none, {p : Nat × Nat // p.1 ≤ l.length}, [0, 3], fun ⟨⟨k, g⟩, hk⟩ => [(5, .own 80 g), (6, .v (.bool (putTo (Wh.ge x) (Wh.ne x) x (l.take k)).2)), (7, .v (.int .i64 k))], [48], fun ⟨⟨k, g⟩, hk⟩ => [(80, ⟨g, 113, 6, (putTo (Wh.ge x) (Wh.ne x) x (l.take k)).1.map Wh.row⟩)], fun ⟨⟨k, g⟩, hk⟩ => l.length - k, (by exact ⟨rfl, by decide, (fun _ _ _ _ h => by cases h), trivial⟩), fun gs => ⟨trivial, fun _ => ⟨⟨(0, gs 80), by omega⟩, tI, tI, tI, tI⟩⟩, fun ⟨⟨k, g⟩, hk⟩ => ?_⟩)
 have hk' : k ≤ l.length := hk
 have hlen := putTo_len (ge := Wh.ge x) (ne := Wh.ne x) (g := x) k (l.take k) (by rw [List.length_take]; omega)
 refine G0 ?_
 rw [List.length_map]
 (refine bIf_of (fun h3 => ?_) (fun h3 => ?_) <;> rw [h3])
 ·have hlt3 : k < l.length := (by have := of_decide_eq_true h3; omega)
  have hN := putTo_next (ge := Wh.ge x) (ne := Wh.ne x) (g := x) hlt3
  refine G0 ?_
  (refine bIf_of (fun h4 => ?_) (fun h4 => ?_) <;> rw [h4])
  ·have h4' : (putTo (Wh.ge x) (Wh.ne x) x (l.take k)).2 = false := by simpa using h4
   refine G0 ?_
   refine ⟨k, _, rfl, row_map hlt3, ?_⟩
   refine G0 ?_
   (refine bIf_of (fun h5 => ?_) (fun h5 => ?_) <;> rw [h5])
   ·refine G1 ?_; intro gg
    refine ⟨lI, lI, ?_⟩
    refine G1 ?_; intro gg
    refine ⟨k, _, rfl, row_map hlt3, ?_⟩
    refine G0 ?_
    (refine bIf_of (fun h6 => ?_) (fun h6 => ?_) <;> rw [h6])
    ·have hn : putTo (Wh.ge x) (Wh.ne x) x (l.take (k + 1)) = ((putTo (Wh.ge x) (Wh.ne x) x (l.take k)).1 ++ [x] ++ [l[k]], true) := by rw [hN]; simp [putStep, h4', show Wh.ge x l[k] = true from h5, show Wh.ne x l[k] = true from h6]
     refine G0 ?_
     refine ⟨k, _, rfl, row_map hlt3, ?_⟩
     refine G1 ?_; intro gg
     refine ⟨lI, lI, ?_⟩
     refine G1 ?_; intro gg
     (exact ⟨none, trivial, fun gr => ⟨⟨(k + 1, gg), by dsimp only; omega⟩, by show l.length - (k + 1) < l.length - k; omega, hxI hn, hxI hn, hxI hn, hxI hn⟩⟩)
    ·have hn : putTo (Wh.ge x) (Wh.ne x) x (l.take (k + 1)) = ((putTo (Wh.ge x) (Wh.ne x) x (l.take k)).1 ++ [x], true) := by rw [hN]; simp [putStep, h4', show Wh.ge x l[k] = true from h5, show Wh.ne x l[k] = false from h6]
     refine G0 ?_
     (exact ⟨none, trivial, fun gr => ⟨⟨(k + 1, gg), by dsimp only; omega⟩, by show l.length - (k + 1) < l.length - k; omega, hxI hn, hxI hn, hxI hn, hxI hn⟩⟩)
   ·refine G0 ?_
    refine ⟨k, _, rfl, row_map hlt3, ?_⟩
    refine G0 ?_
    (refine bIf_of (fun h6 => ?_) (fun h6 => ?_) <;> rw [h6])
    ·have hn : putTo (Wh.ge x) (Wh.ne x) x (l.take (k + 1)) = ((putTo (Wh.ge x) (Wh.ne x) x (l.take k)).1 ++ [l[k]], (putTo (Wh.ge x) (Wh.ne x) x (l.take k)).2) := by rw [hN]; simp [putStep, h4', show Wh.ge x l[k] = false from h5, show Wh.ne x l[k] = true from h6]
     refine G0 ?_
     refine ⟨k, _, rfl, row_map hlt3, ?_⟩
     refine G1 ?_; intro gg
     refine ⟨lI, lI, ?_⟩
     refine G1 ?_; intro gg
     (exact ⟨none, trivial, fun gr => ⟨⟨(k + 1, gg), by dsimp only; omega⟩, by show l.length - (k + 1) < l.length - k; omega, hxI hn, hxI hn, hxI hn, hxI hn⟩⟩)
    ·have hn : putTo (Wh.ge x) (Wh.ne x) x (l.take (k + 1)) = (putTo (Wh.ge x) (Wh.ne x) x (l.take k)) := by rw [hN]; simp [putStep, h4', show Wh.ge x l[k] = false from h5, show Wh.ne x l[k] = false from h6]
     refine G0 ?_
     (exact ⟨none, trivial, fun gr => ⟨⟨(k + 1, g), by dsimp only; omega⟩, by show l.length - (k + 1) < l.length - k; omega, hxI hn, hxI hn, hxI hn, hxI hn⟩⟩)
  ·have h4' : (putTo (Wh.ge x) (Wh.ne x) x (l.take k)).2 = true := by simpa using h4
   refine G0 ?_
   refine ⟨k, _, rfl, row_map hlt3, ?_⟩
   refine G0 ?_
   (refine bIf_of (fun h6 => ?_) (fun h6 => ?_) <;> rw [h6])
   ·have hn : putTo (Wh.ge x) (Wh.ne x) x (l.take (k + 1)) = ((putTo (Wh.ge x) (Wh.ne x) x (l.take k)).1 ++ [l[k]], (putTo (Wh.ge x) (Wh.ne x) x (l.take k)).2) := by rw [hN]; simp [putStep, h4', show Wh.ne x l[k] = true from h6]
    refine G0 ?_
    refine ⟨k, _, rfl, row_map hlt3, ?_⟩
    refine G1 ?_; intro gg
    refine ⟨lI, lI, ?_⟩
    refine G1 ?_; intro gg
    (exact ⟨none, trivial, fun gr => ⟨⟨(k + 1, gg), by dsimp only; omega⟩, by show l.length - (k + 1) < l.length - k; omega, hxI hn, hxI hn, hxI hn, hxI hn⟩⟩)
   ·have hn : putTo (Wh.ge x) (Wh.ne x) x (l.take (k + 1)) = (putTo (Wh.ge x) (Wh.ne x) x (l.take k)) := by rw [hN]; simp [putStep, h4', show Wh.ne x l[k] = false from h6]
    refine G0 ?_
    (exact ⟨none, trivial, fun gr => ⟨⟨(k + 1, g), by dsimp only; omega⟩, by show l.length - (k + 1) < l.length - k; omega, hxI hn, hxI hn, hxI hn, hxI hn⟩⟩)
 ·have hge : l.length ≤ k := (by have := of_decide_eq_false h3; omega)
  obtain rfl : k = l.length := by omega
  refine G0 ?_
  have hT : putTo (Wh.ge x) (Wh.ne x) x (l.take l.length) = putTo (Wh.ge x) (Wh.ne x) x l := by rw [List.take_length]
  (refine bIf_of (fun h4 => ?_) (fun h4 => ?_) <;> rw [h4])
  ·have h4' : (putTo (Wh.ge x) (Wh.ne x) x l).2 = false := by rw [← hT]; simpa using h4
   refine G1 ?_; intro gg
   refine ⟨lI, lI, ?_⟩
   refine G1 ?_; intro gg
   rw [show putL (Wh.ge x) (Wh.ne x) x l = (putTo (Wh.ge x) (Wh.ne x) x (l.take l.length)).1 ++ [x] by rw [hT]; simp [putL, h4'], List.map_append]
   (exact ⟨[], aI⟩)
  ·have h4' : (putTo (Wh.ge x) (Wh.ne x) x l).2 = true := by rw [← hT]; simpa using h4
   refine G0 ?_
   rw [show putL (Wh.ge x) (Wh.ne x) x l = (putTo (Wh.ge x) (Wh.ne x) x (l.take l.length)).1 by rw [hT]; simp [putL, h4']]
   (exact ⟨[], aI⟩)
theorem wat_fun (c : Bool) (l : List Wh) (name : ByteArray) (hl : l.length ≤ 9223372036854775807) : Fun Tryz.prog 84 [.c (.sl c (l.map Wh.row)), .c (.v (.string name))] [.c (.v (.int .i64 (at_ (Wh.is name) l)))] := by
 refine fun_x ck_hearsayref_WhereAt rfl ?_
 refine G0 ?_
 (refine ⟨[], none, {k : Nat // k ≤ l.length ∧ ∀ j, (h : j < l.length) → j < k → Wh.is name l[j] = false}, [0, 1], fun ⟨k, hk, h0⟩ => [(5, .v (.int .i64 k))], [], fun ⟨k, hk, h0⟩ => [], fun ⟨k, hk, h0⟩ => l.length - k, trivial, fun _ => ⟨trivial, fun _ => ⟨⟨0, by omega, fun j _ h => by omega⟩, tI, keptE_refl _ _, tI, keptH_refl _ _⟩⟩, fun ⟨k, hk, h0⟩ => ?_⟩)
 refine G0 ?_
 rw [List.length_map]
 (refine bIf_of (fun h => ?_) (fun h => ?_) <;> rw [h])
 ·have hlt : k < l.length := (by have := of_decide_eq_true h; omega)
  refine G0 ?_
  refine ⟨k, _, rfl, row_map hlt, ?_⟩
  refine G0 ?_
  (refine bIf_of (fun h2 => ?_) (fun h2 => ?_) <;> rw [h2])
  ·refine G0 ?_
   rw [at_yes hlt h0 h2]
   (exact ⟨[], aI⟩)
  ·refine G0 ?_
   (exact ⟨none, trivial, fun _ => ⟨⟨k + 1, by omega, up1 (p := fun j h => Wh.is name l[j] = false) h0 (fun _ => h2)⟩, by show l.length - (k + 1) < l.length - k; omega, tI, tI, tI, tI⟩⟩)
 ·have hge : ¬ k < l.length := (by have := of_decide_eq_false h; omega)
  refine G0 ?_
  rw [at_no (p := Wh.is name) (l := l) (fun i hi => h0 i hi (by omega))]
  (exact ⟨[], aI⟩)
theorem wsame_fun (c d : Bool) (a b : List Wh) (ha : a.length ≤ 9223372036854775807) : Fun Tryz.prog 73 [.c (.sl c (a.map Wh.row)), .c (.sl d (b.map Wh.row))] [.c (.v (.bool (sameL Wh.same a b)))] := by
  refine fun_x ck_hearsayref_SameWhere rfl ?_
  refine G0 ?_
  rw [List.length_map, List.length_map]
  (refine bIf_of (fun h => ?_) (fun h => ?_) <;> rw [h])
  · refine G0 ?_
    rw [sameL_no (fun e => by rw [e] at h; simp at h)]
    (exact ⟨[], aI⟩)
  · have hab : a.length = b.length := by have h' : ((a.length : Int) != (b.length : Int)) = false := h
                                         simp at h'; omega
    refine G0 ?_
    (refine ⟨[], none, {k : Nat // k ≤ a.length ∧ ∀ j, (h : j < a.length) → j < k → Wh.same a[j] (b[j]'(by omega)) = true}, [0, 1], fun ⟨k, hk, h0⟩ => [(5, .v (.int .i64 k))], [], fun ⟨k, hk, h0⟩ => [], fun ⟨k, hk, h0⟩ => a.length - k, trivial, fun _ => ⟨trivial, fun _ => ⟨⟨0, by omega, fun j _ h => by omega⟩, tI, keptE_refl _ _, tI, keptH_refl _ _⟩⟩, fun ⟨k, hk, h0⟩ => ?_⟩)
    refine G0 ?_
    rw [List.length_map]
    (refine bIf_of (fun h2 => ?_) (fun h2 => ?_) <;> rw [h2])
    · have hlt : k < a.length := (by have := of_decide_eq_true h2; omega)
      have hlt' : k < b.length := by omega
      refine G0 ?_
      refine ⟨k, _, rfl, row_map hlt, ?_⟩
      refine G0 ?_
      refine ⟨k, _, rfl, row_map hlt', ?_⟩
      refine G0 ?_
      (refine bIf_of (fun h3 => ?_) (fun h3 => ?_) <;> rw [h3])
      · refine G0 ?_
        rw [sameL_at hlt hlt' (not_t (b := Wh.same a[k] b[k]) h3)]
        (exact ⟨[], aI⟩)
      · refine G0 ?_
        (exact ⟨none, trivial, fun _ => ⟨⟨k + 1, by omega, up1 (p := fun j h => Wh.same a[j] (b[j]'(by omega)) = true) h0 (fun _ => not_f (b := Wh.same a[k] b[k]) h3)⟩, by show a.length - (k + 1) < a.length - k; omega, tI, tI, tI, tI⟩⟩)
    · have hge : ¬ k < a.length := (by have := of_decide_eq_false h2; omega)
      refine G0 ?_
      rw [sameL_yes hab (fun i hi _ => h0 i hi (by omega))]
      (exact ⟨[], aI⟩)
theorem rwcheck_fun (c : Bool) (l : List Wh) (hl : l.length ≤ 9223372036854775807) (hw : ∀ x ∈ l, x.ok) : Fun Tryz.prog 56 [.c (.sl c (l.map Wh.row))] [.c (.v (.int .i64 (ckWh l)))] := by
 refine fun_x ck_hearsayref_CheckWhere rfl ?_
 refine G0 ?_
 rw [List.length_map]
 (refine bIf_of (fun h1 => ?_) (fun h1 => ?_) <;> rw [h1])
 ·refine G0 ?_
  have e : ckWh l = 2 := ckL_long (by have := of_decide_eq_true h1; omega)
  rw [e]
  (exact ⟨[], aI⟩)
 ·have h1' : ¬ 20 < l.length := (by have := of_decide_eq_false h1; omega)
  refine G0 ?_
  (refine ⟨[], none, {k : Nat // k ≤ l.length ∧ ∀ j, (h : j < l.length) → j < k → Wh.err l[j] = 0}, [0], fun ⟨k, hk, h0⟩ => [(3, .v (.int .i64 k))], [], fun ⟨k, hk, h0⟩ => [], fun ⟨k, hk, h0⟩ => l.length - k, trivial, fun _ => ⟨trivial, fun _ => ⟨⟨0, Nat.zero_le _, fun j _ h => absurd h (Nat.not_lt_zero _)⟩, tI, keptE_refl _ _, tI, keptH_refl _ _⟩⟩, fun ⟨k, hk, h0⟩ => ?_⟩)
  refine G0 ?_
  rw [List.length_map]
  (refine bIf_of (fun h2 => ?_) (fun h2 => ?_) <;> rw [h2])
  ·have hlt : k < l.length := (by have := of_decide_eq_true h2; omega)
   refine G0 ?_
   refine ⟨k, _, rfl, row_map hlt, ?_⟩
   refine G0 ?_
   have hx := hw _ (List.getElem_mem hlt)
   (refine .inl ⟨_, _, false, [], aI, rlabel_fun (l[k]).nd hx, nobor, nI, ?_⟩)
   refine G1 ?_; intro gg
   have HE := firstErr_at (e := Wh.err) hlt h0
   (refine bIf_of (fun h3 => ?_) (fun h3 => ?_) <;> rw [h3])
   ·have h3' : lab (l[k]).nd.data.toList = false := not_t h3
    refine G0 ?_
    have e1 : Wh.err l[k] = 1 := by unfold Wh.err; rw [h3']; rfl
    have e : ckWh l = 1 := by unfold ckWh; rw [ckL_each h1' (by rw [HE (by rw [e1]; decide), e1]; decide), HE (by rw [e1]; decide), e1]
    rw [e]
    (exact ⟨[], aI⟩)
   ·have h3' : lab (l[k]).nd.data.toList = true := not_f h3
    have e1 : Wh.err l[k] = (l[k]).pl.err := by unfold Wh.err; rw [h3']; rfl
    refine G0 ?_
    refine ⟨k, _, rfl, row_map hlt, ?_⟩
    refine G0 ?_
    (refine .inl ⟨_, _, false, [], aI, rcheckp_fun (l[k]).pl, nobor, nI, ?_⟩)
    refine G1 ?_; intro gg
    (refine bIf_of (fun h4 => ?_) (fun h4 => ?_) <;> rw [h4])
    ·have h4' : (l[k]).pl.err ≠ 0 := by simpa using h4
     refine G0 ?_
     have e : ckWh l = (l[k]).pl.err := by unfold ckWh; rw [ckL_each h1' (by rw [HE (by rw [e1]; exact h4'), e1]; exact h4'), HE (by rw [e1]; exact h4'), e1]
     rw [e]
     (exact ⟨[], aI⟩)
    ·have h4' : (l[k]).pl.err = 0 := by simpa using h4
     refine G0 ?_
     (exact ⟨none, trivial, fun _ => ⟨⟨k + 1, by omega, up1 (p := fun j h => Wh.err l[j] = 0) h0 (fun _ => e1.trans h4')⟩, by show l.length - (k + 1) < l.length - k; omega, tI, tI, tI, tI⟩⟩)
  ·have hge : ¬ k < l.length := (by have := of_decide_eq_false h2; omega)
   have h2' : firstErr Wh.err l = 0 := firstErr_zero fun i hi => h0 i hi (by omega)
   refine G0 ?_
   (refine ⟨[], none, {q : Nat // (q < l.length ∨ q = 0) ∧ ∀ i, (h : i + 1 < l.length) → i < q → Wh.lt l[i] l[i + 1] = true}, [0], fun ⟨q, hq, g0⟩ => [(5, .v (.int .i64 ((q : Int) + 1)))], [], fun ⟨q, hq, g0⟩ => [], fun ⟨q, hq, g0⟩ => l.length - q, trivial, fun _ => ⟨trivial, fun _ => ⟨⟨0, by omega, fun j _ h => by omega⟩, tI, keptE_refl _ _, tI, keptH_refl _ _⟩⟩, fun ⟨q, hq, g0⟩ => ?_⟩)
   refine G0 ?_
   rw [List.length_map]
   (refine bIf_of (fun h3 => ?_) (fun h3 => ?_) <;> rw [h3])
   ·have hlt3 : q + 1 < l.length := (by have := of_decide_eq_true h3; omega)
    refine G0 ?_
    refine ⟨q + 1, _, by omega, row_map hlt3, ?_⟩
    refine G0 ?_
    refine ⟨q, _, by omega, row_map (by omega), ?_⟩
    refine G0 ?_
    rw [sle_eq]
    (refine bIf_of (fun h4 => ?_) (fun h4 => ?_) <;> rw [h4])
    ·refine G0 ?_
     have e : ckWh l = 4 := ckL_no h1' h2' (sorted_not hlt3 (by simpa [Wh.lt] using h4))
     rw [e]
     (exact ⟨[], aI⟩)
    ·refine G0 ?_
     (exact ⟨none, trivial, fun _ => ⟨⟨q + 1, by omega, up2 (p := fun i h => Wh.lt l[i] l[i + 1] = true) g0 (fun _ => by simpa [Wh.lt] using h4)⟩, by show l.length - (q + 1) < l.length - q; omega, tI, tI, tI, tI⟩⟩)
   ·have hge3 : ¬ q + 1 < l.length := (by have := of_decide_eq_false h3; omega)
    refine G0 ?_
    have e : ckWh l = 0 := ckL_yes h1' h2' (sorted_of fun i hi => g0 i hi (by omega))
    rw [e]
    (exact ⟨[], aI⟩)
theorem rgjoin_fun (a b : List Gw) (ha : ckGw a = 0) (hb : ckGw b = 0) : Fun Tryz.prog 83 [.c (.sl false (a.map Gw.row)), .c (.sl false (b.map Gw.row))] [.c (.sl false ((joinL Gw.kf Gw.nw a b).map Gw.row))] := by
 have hia := ckGw_inv ha
 have hib := ckGw_inv hb
 refine fun_x ck_hearsayref_JoinGateways rfl ?_
 refine G0 ?_
 (refine ⟨[], none, {k : Nat // k ≤ b.length}, [1], fun ⟨k, hk⟩ => [(0, .sl false ((joinL Gw.kf Gw.nw a (b.take k)).map Gw.row)), (5, .v (.int .i64 k))], [], fun ⟨k, hk⟩ => [], fun ⟨k, hk⟩ => b.length - k, trivial, fun _ => ⟨trivial, fun _ => ⟨⟨0, by omega⟩, tI, keptE_refl _ _, tI, keptH_refl _ _⟩⟩, fun ⟨k, hk⟩ => ?_⟩)
 refine G0 ?_
 rw [List.length_map]
 (refine bIf_of (fun h2 => ?_) (fun h2 => ?_) <;> rw [h2])
 ·have hlt : k < b.length := (by have := of_decide_eq_true h2; omega)
  have hn := joinL_next (cf := Gw.kf) (nw := Gw.nw) (a := a) hlt
  have hjl := (joinL_len (cf := Gw.kf) Gw.nw (b.take k) a).2
  have hjs := Gw.ord.join Gw.nw (b.take k) hia.2.2
  rw [List.length_take] at hjl
  have hat := Gw.at_eq hjs b[k].c
  have hA := gat_fun false (joinL Gw.kf Gw.nw a (b.take k)) b[k].c (by omega)
  refine G0 ?_
  refine ⟨k, _, rfl, row_map hlt, ?_⟩
  refine G0 ?_
  rcases Bool.eq_false_or_eq_true (hit (Gw.cf b[k].c) (joinL Gw.kf Gw.nw a (b.take k))) with h1 | h1
  ·have h1' : hit (Gw.kf b[k]) (joinL Gw.kf Gw.nw a (b.take k)) = true := h1
   have hlt3 := hit_lt h1
   rw [hat, if_pos h1] at hA
   have hcmp : Gw.nw b[k] (joinL Gw.kf Gw.nw a (b.take k))[low (Gw.cf b[k].c) (joinL Gw.kf Gw.nw a (b.take k))] = true ↔ ((joinL Gw.kf Gw.nw a (b.take k))[low (Gw.cf b[k].c) (joinL Gw.kf Gw.nw a (b.take k))]).v < b[k].v ∨ (b[k].v = ((joinL Gw.kf Gw.nw a (b.take k))[low (Gw.cf b[k].c) (joinL Gw.kf Gw.nw a (b.take k))]).v ∧ ((joinL Gw.kf Gw.nw a (b.take k))[low (Gw.cf b[k].c) (joinL Gw.kf Gw.nw a (b.take k))]).a < b[k].a) := Gw.nw_iff _ _
   have hnew : Gw.nw b[k] (joinL Gw.kf Gw.nw a (b.take k))[low (Gw.cf b[k].c) (joinL Gw.kf Gw.nw a (b.take k))] = true → putAt (Gw.kf b[k]) b[k] (joinL Gw.kf Gw.nw a (b.take k)) = joinL Gw.kf Gw.nw a (b.take (k + 1)) := fun h4 => by rw [hn, upd_newer h1' h4]; unfold putAt; rw [if_pos h1']
   have hold : Gw.nw b[k] (joinL Gw.kf Gw.nw a (b.take k))[low (Gw.cf b[k].c) (joinL Gw.kf Gw.nw a (b.take k))] = false → joinL Gw.kf Gw.nw a (b.take (k + 1)) = joinL Gw.kf Gw.nw a (b.take k) := fun h4 => by rw [hn, upd_older h1' h4]
   (refine .inl ⟨_, _, false, [], aI, hA, nobor, nI, ?_⟩)
   refine G1 ?_; intro gg
   refine ⟨k, _, rfl, row_map hlt, ?_⟩
   refine G0 ?_
   refine ⟨low (Gw.cf b[k].c) (joinL Gw.kf Gw.nw a (b.take k)), _, rfl, row_map hlt3, ?_⟩
   refine G0 ?_
   (refine bIf_of (fun h4 => ?_) (fun h4 => ?_) <;> rw [h4])
   ·have hup := hnew (hcmp.2 (.inl (of_decide_eq_true h4)))
    refine G0 ?_
    refine ⟨k, _, rfl, row_map hlt, ?_⟩
    refine G0 ?_
    (refine .inl ⟨_, _, false, [], aI, rgput_fun (joinL Gw.kf Gw.nw a (b.take k)) b[k] (by omega) hjs, nobor, nI, ?_⟩)
    rw [hup]
    refine G1 ?_; intro gg
    (exact ⟨none, trivial, fun _ => ⟨⟨k + 1, by omega⟩, by show b.length - (k + 1) < b.length - k; omega, tI, tI, tI, tI⟩⟩)
   ·have h4' := of_decide_eq_false h4
    refine G0 ?_
    refine ⟨k, _, rfl, row_map hlt, ?_⟩
    refine G0 ?_
    refine ⟨low (Gw.cf b[k].c) (joinL Gw.kf Gw.nw a (b.take k)), _, rfl, row_map hlt3, ?_⟩
    refine G0 ?_
    (refine bIf_of (fun h5 => ?_) (fun h5 => ?_) <;> rw [h5])
    ·have h5' := eq_of_beq h5
     refine G0 ?_
     refine ⟨k, _, rfl, row_map hlt, ?_⟩
     refine G0 ?_
     refine ⟨low (Gw.cf b[k].c) (joinL Gw.kf Gw.nw a (b.take k)), _, rfl, row_map hlt3, ?_⟩
     refine G0 ?_
     (refine bIf_of (fun h6 => ?_) (fun h6 => ?_) <;> rw [h6])
     ·have hup := hnew (hcmp.2 (.inr ⟨h5', of_decide_eq_true h6⟩))
      refine G0 ?_
      refine ⟨k, _, rfl, row_map hlt, ?_⟩
      refine G0 ?_
      (refine .inl ⟨_, _, false, [], aI, rgput_fun (joinL Gw.kf Gw.nw a (b.take k)) b[k] (by omega) hjs, nobor, nI, ?_⟩)
      rw [hup]
      refine G1 ?_; intro gg
      (exact ⟨none, trivial, fun _ => ⟨⟨k + 1, by omega⟩, by show b.length - (k + 1) < b.length - k; omega, tI, tI, tI, tI⟩⟩)
     ·have h6' := of_decide_eq_false h6
      have hn2 := hold (Bool.eq_false_iff.2 fun q => by rcases hcmp.1 q with e | e; exact h4' e; exact h6' e.2)
      refine G0 ?_
      (exact ⟨none, trivial, fun gr => ⟨⟨k + 1, by omega⟩, by show b.length - (k + 1) < b.length - k; omega, hxI hn2, hxI hn2, hxI hn2, hxI hn2⟩⟩)
    ·have h5' := ne_of_beq_false h5
     have hn2 := hold (Bool.eq_false_iff.2 fun q => by rcases hcmp.1 q with e | e; exact h4' e; exact h5' e.1)
     refine G0 ?_
     (exact ⟨none, trivial, fun gr => ⟨⟨k + 1, by omega⟩, by show b.length - (k + 1) < b.length - k; omega, hxI hn2, hxI hn2, hxI hn2, hxI hn2⟩⟩)
  ·have h1' : hit (Gw.kf b[k]) (joinL Gw.kf Gw.nw a (b.take k)) = false := h1
   have hup : putAt (Gw.kf b[k]) b[k] (joinL Gw.kf Gw.nw a (b.take k)) = joinL Gw.kf Gw.nw a (b.take (k + 1)) := by rw [hn, upd_new h1']
   rw [hat, if_neg (by rw [h1]; decide)] at hA
   (refine .inl ⟨_, _, false, [], aI, hA, nobor, nI, ?_⟩)
   refine G1 ?_; intro gg
   refine ⟨k, _, rfl, row_map hlt, ?_⟩
   refine G0 ?_
   (refine .inl ⟨_, _, false, [], aI, rgput_fun (joinL Gw.kf Gw.nw a (b.take k)) b[k] (by omega) hjs, nobor, nI, ?_⟩)
   rw [hup]
   refine G1 ?_; intro gg
   (exact ⟨none, trivial, fun _ => ⟨⟨k + 1, by omega⟩, by show b.length - (k + 1) < b.length - k; omega, tI, tI, tI, tI⟩⟩)
 ·have hge : b.length ≤ k := (by have := of_decide_eq_false h2; omega)
  obtain rfl : k = b.length := by omega
  refine G0 ?_
  rw [show joinL Gw.kf Gw.nw a b = joinL Gw.kf Gw.nw a (b.take b.length) by rw [List.take_length]]
  (exact ⟨[], aI⟩)
end Go.Proofs.YtkclokmfomnbgaaGreat
namespace Go.Proofs.YtkclokmfomnbgaaGreat
set_option linter.unusedVariables false
def rc_math_bits_Len64 : RCode :=
 .seq (.reg [Rq 2 (.mv (Kq 0))])
 (.seq (.seq (.reg [Rq 3 (.mv 0),Rq 4 (.bin .geq 3 (.const (.int .u64 4294967296)))])
 (.cond 4
 (.seq (.reg [Rq 5 (.mv 0),Rq 6 (.bin .shr 5 (.const (.int .u64 32))),Rq 0 (.mv 6)])
 (.reg [Rq 2 (.mv (Kq 32))]))
 (.skip)))
 (.seq (.seq (.reg [Rq 7 (.mv 0),Rq 8 (.bin .geq 7 (.const (.int .u64 65536)))])
 (.cond 8
 (.seq (.reg [Rq 9 (.mv 0),Rq 10 (.bin .shr 9 (.const (.int .u64 16))),Rq 0 (.mv 10)])
 (.reg [Rq 11 (.mv 2),Rq 12 (.bin .add 11 (Kq 16)),Rq 2 (.mv 12)]))
 (.skip)))
 (.seq (.seq (.reg [Rq 13 (.mv 0),Rq 14 (.bin .geq 13 (.const (.int .u64 256)))])
 (.cond 14
 (.seq (.reg [Rq 15 (.mv 0),Rq 16 (.bin .shr 15 (.const (.int .u64 8))),Rq 0 (.mv 16)])
 (.reg [Rq 17 (.mv 2),Rq 18 (.bin .add 17 (Kq 8)),Rq 2 (.mv 18)]))
 (.skip)))
 (.seq (.reg [Rq 19 (.mv 2),Rq 20 (.mv 0),Rq 21 (.conv .u8 20),Rq 22 (.idxS (.const (.string ⟨#[0, 1, 2, 2, 3, 3, 3, 3, 4, 4, 4, 4, 4, 4, 4, 4, 5, 5, 5, 5, 5, 5, 5, 5, 5, 5, 5, 5, 5, 5, 5, 5, 6, 6, 6, 6, 6, 6, 6, 6, 6, 6, 6, 6, 6, 6, 6, 6, 6, 6, 6, 6, 6, 6, 6, 6, 6, 6, 6, 6, 6, 6, 6, 6, 7, 7, 7, 7, 7, 7, 7, 7, 7, 7, 7, 7, 7, 7, 7, 7, 7, 7, 7, 7, 7, 7, 7, 7, 7, 7, 7, 7, 7, 7, 7, 7, 7, 7, 7, 7, 7, 7, 7, 7, 7, 7, 7, 7, 7, 7, 7, 7, 7, 7, 7, 7, 7, 7, 7, 7, 7, 7, 7, 7, 7, 7, 7, 7, 8, 8, 8, 8, 8, 8, 8, 8, 8, 8, 8, 8, 8, 8, 8, 8, 8, 8, 8, 8, 8, 8, 8, 8, 8, 8, 8, 8, 8, 8, 8, 8, 8, 8, 8, 8, 8, 8, 8, 8, 8, 8, 8, 8, 8, 8, 8, 8, 8, 8, 8, 8, 8, 8, 8, 8, 8, 8, 8, 8, 8, 8, 8, 8, 8, 8, 8, 8, 8, 8, 8, 8, 8, 8, 8, 8, 8, 8, 8, 8, 8, 8, 8, 8, 8, 8, 8, 8, 8, 8, 8, 8, 8, 8, 8, 8, 8, 8, 8, 8, 8, 8, 8, 8, 8, 8, 8, 8, 8, 8, 8, 8, 8, 8, 8, 8, 8, 8, 8, 8, 8, 8, 8, 8, 8, 8, 8, 8]⟩)) 21),Rq 23 (.conv .i64 22),Rq 24 (.bin .add 19 23),Rq 2 (.mv 24)])
 (.ret)))))
theorem ck_math_bits_Len64 : chkFun Tryz.prog 175 1 = some (rc_math_bits_Len64, [2]) := by kernel_rfl
end Go.Proofs.YtkclokmfomnbgaaGreat
namespace Go.Proofs.YtkclokmfomnbgaaGreat
open Go.RowKit Pl
set_option linter.unusedVariables false
namespace Pl
noncomputable def srtN (l : List Mb) : List Mb := joinL Mb.kf Mb.nw [] l
theorem srtN_mem {l : List Mb} {x : Mb} (h : x ∈ srtN l) : x ∈ l := by
 rcases joinL_mem h with q | q
 ·simp at q
 ·exact q
theorem srtN_sorted (l : List Mb) : sorted Mb.lt (srtN l) = true := Mb.ord.join Mb.nw l rfl
theorem srtN_miss {l : List Mb} (hn : (l.map Mb.n).Nodup) {k : Nat} (hk : k < l.length) : hit (Mb.kf l[k]) (srtN (l.take k)) = false := by
 cases h : hit (Mb.kf l[k]) (srtN (l.take k)) with
 | false => rfl
 | true =>
  exfalso
  have hz := hit_zero h
  have hm := srtN_mem (List.getElem_mem (hit_lt h))
  generalize (srtN (l.take k))[low (Mb.kf l[k]) (srtN (l.take k))]'(hit_lt h) = z at *
  have he : z.n = l[k].n := scmp_zero.1 hz
  obtain ⟨j, hj, rfl⟩ := List.mem_iff_getElem.1 hm
  have hjk : j < k := by rw [List.length_take] at hj; omega
  rw [List.getElem_take] at he
  have := (List.pairwise_iff_getElem.1 hn) j k (by simp; omega) (by simpa using hk) hjk
  simp only [List.getElem_map] at this
  exact this he
theorem srtN_next {l : List Mb} (hn : (l.map Mb.n).Nodup) {k : Nat} (hk : k < l.length) : srtN (l.take (k + 1)) = (srtN (l.take k)).take (low (Mb.kf l[k]) (srtN (l.take k))) ++ l[k] :: (srtN (l.take k)).drop (low (Mb.kf l[k]) (srtN (l.take k))) := by
 unfold srtN
 rw [joinL_next hk]
 have := upd_miss (nw := Mb.nw) (srtN_miss hn hk)
 unfold srtN at this
 rw [this]; simp
theorem srtN_len {l : List Mb} (hn : (l.map Mb.n).Nodup) : ∀ {k : Nat}, k ≤ l.length → (srtN (l.take k)).length = k
 | 0, _ => by simp [srtN, joinL]
 | k + 1, hk => by
  rw [srtN_next hn (by omega)]
  have ih := srtN_len hn (k := k) (by omega)
  have hl := low_le (cf := Mb.kf (l[k]'(by omega))) (srtN (l.take k))
  simp only [List.length_append, List.length_take, List.length_cons, List.length_drop]
  omega
def stand (S : List Mb) (x : Mb) (D : List Mb) (j : Nat) : List Mb := S.take j ++ x :: (S.drop j ++ D)
theorem stand_x {S D : List Mb} {x : Mb} {j : Nat} (h : j ≤ S.length) : (stand S x D j)[j]? = some x := by
 unfold stand
 rw [List.getElem?_append_right (by rw [List.length_take]; omega), List.length_take, show j - min j S.length = 0 by omega]; rfl
theorem stand_y {S D : List Mb} {x : Mb} {j : Nat} (h : j < S.length) : (stand S x D (j + 1))[j]? = some S[j] := by
 unfold stand
 rw [List.getElem?_append_left (by rw [List.length_take]; omega), List.getElem?_take_of_lt (by omega), List.getElem?_eq_getElem h]
theorem stand_swap {S D : List Mb} {x : Mb} {j : Nat} (h : j < S.length) : ((stand S x D (j + 1)).set (j + 1) S[j]).set j x = stand S x D j := by
 have e1 : S.take (j + 1) = S.take j ++ [S[j]] := take_snoc_ h
 have e2 : S.drop j = S[j] :: S.drop (j + 1) := List.drop_eq_getElem_cons h
 have hl : (S.take j).length = j := by rw [List.length_take]; omega
 unfold stand
 rw [e1, e2]
 generalize S.take j = A at *
 subst hl
 simp only [List.length_append, List.length_singleton, List.set_append, Nat.lt_irrefl, if_false, Nat.sub_self, List.set_cons_zero, Nat.lt_add_one, if_true]
 simp
 rw [← List.cons_append, List.getElem_cons_drop]
theorem srtN_start {l : List Mb} : l = srtN (l.take (0 + 1)) ++ l.drop (0 + 1) := by
 cases l with
 | nil => rfl
 | cons a l => rfl
theorem stand_start {l : List Mb} (hn : (l.map Mb.n).Nodup) {k : Nat} (hk : k + 1 < l.length) : srtN (l.take (k + 1)) ++ l.drop (k + 1) = stand (srtN (l.take (k + 1))) l[k + 1] (l.drop (k + 2)) (k + 1) := by
 have hl := srtN_len hn (k := k + 1) (by omega)
 unfold stand
 have e1 : (srtN (l.take (k + 1))).take (k + 1) = srtN (l.take (k + 1)) := List.take_of_length_le (by omega)
 have e2 : (srtN (l.take (k + 1))).drop (k + 1) = [] := List.drop_eq_nil_of_le (by omega)
 rw [e1, e2, List.drop_eq_getElem_cons hk]; rfl
theorem srtN_stop {l : List Mb} (hn : (l.map Mb.n).Nodup) {k j : Nat} (hk : k + 1 < l.length) (hj : j ≤ k + 1) (hi : ∀ q, (h : q < (srtN (l.take (k + 1))).length) → j ≤ q → 0 < Mb.kf l[k + 1] (srtN (l.take (k + 1)))[q])
  (hs : j = 0 ∨ ∃ i, ∃ h : i < (srtN (l.take (k + 1))).length, j = i + 1 ∧ ¬ scmp l[k + 1].n ((srtN (l.take (k + 1)))[i]).n < 0) : stand (srtN (l.take (k + 1))) l[k + 1] (l.drop (k + 2)) j = srtN (l.take (k + 2)) ++ l.drop (k + 2) := by
 have hl := srtN_len hn (k := k + 1) (by omega)
 have hss := srtN_sorted (l.take (k + 1))
 have hmiss := srtN_miss hn hk
 rw [srtN_next hn hk]
 have hlow : j = low (Mb.kf l[k + 1]) (srtN (l.take (k + 1))) := by
  refine low_uniq (by omega) (fun q hq hqj => ?_) (fun q hq hqj => Int.le_of_lt (hi q hq hqj))
  rcases hs with rfl | ⟨i, h, rfl, hc⟩
  ·omega
  ·have hm := (Mb.smono hss l[k + 1].n).mono
   refine hm q i hq h (by omega) ?_
   have h0 : Mb.kf l[k + 1] (srtN (l.take (k + 1)))[i] ≠ 0 := fun e => by
    have := hit_of (Mb.smono hss l[k + 1].n) (List.getElem_mem h) e
    have h2 : hit (Mb.kf l[k + 1]) (srtN (l.take (k + 1))) = true := this
    rw [hmiss] at h2; cases h2
   have h1 : ¬ 0 < Mb.kf l[k + 1] (srtN (l.take (k + 1)))[i] := fun e => by
    refine hc (scmp_neg.2 ?_)
    exact (Mb.ord.pos _ _).1 e
   show Mb.kf l[k + 1] (srtN (l.take (k + 1)))[i] < 0
   omega
 rw [← hlow]
 unfold stand
 simp
end Pl
set_option maxRecDepth 100000 in
theorem len64_fun (n : Nat) (h : n ≤ 12) : ∃ r : Int, Fun Tryz.prog 175 [.c (.v (.int .u64 n))] [.c (.v (.int .i64 r))] := by
 rcases (by omega : n = 0 ∨ n = 1 ∨ n = 2 ∨ n = 3 ∨ n = 4 ∨ n = 5 ∨ n = 6 ∨ n = 7 ∨ n = 8 ∨ n = 9 ∨ n = 10 ∨ n = 11 ∨ n = 12) with rfl | rfl | rfl | rfl | rfl | rfl | rfl | rfl | rfl | rfl | rfl | rfl | rfl
 ·refine ⟨0, fun_x ck_math_bits_Len64 rfl ?_⟩
  refine G0 ?_
  refine ⟨((0 : Nat) : Int), by decide, ?_⟩
  refine G0 ?_
  refine ⟨0, 0, rfl, rfl, ?_⟩
  refine G0 ?_
  refine ⟨0, by decide, ?_⟩
  refine G0 ?_
  (exact ⟨[], aI⟩)
 ·refine ⟨1, fun_x ck_math_bits_Len64 rfl ?_⟩
  refine G0 ?_
  refine ⟨((1 : Nat) : Int), by decide, ?_⟩
  refine G0 ?_
  refine ⟨1, 1, rfl, rfl, ?_⟩
  refine G0 ?_
  refine ⟨1, by decide, ?_⟩
  refine G0 ?_
  (exact ⟨[], aI⟩)
 ·refine ⟨2, fun_x ck_math_bits_Len64 rfl ?_⟩
  refine G0 ?_
  refine ⟨((2 : Nat) : Int), by decide, ?_⟩
  refine G0 ?_
  refine ⟨2, 2, rfl, rfl, ?_⟩
  refine G0 ?_
  refine ⟨2, by decide, ?_⟩
  refine G0 ?_
  (exact ⟨[], aI⟩)
 ·refine ⟨2, fun_x ck_math_bits_Len64 rfl ?_⟩
  refine G0 ?_
  refine ⟨((3 : Nat) : Int), by decide, ?_⟩
  refine G0 ?_
  refine ⟨3, 2, rfl, rfl, ?_⟩
  refine G0 ?_
  refine ⟨2, by decide, ?_⟩
  refine G0 ?_
  (exact ⟨[], aI⟩)
 ·refine ⟨3, fun_x ck_math_bits_Len64 rfl ?_⟩
  refine G0 ?_
  refine ⟨((4 : Nat) : Int), by decide, ?_⟩
  refine G0 ?_
  refine ⟨4, 3, rfl, rfl, ?_⟩
  refine G0 ?_
  refine ⟨3, by decide, ?_⟩
  refine G0 ?_
  (exact ⟨[], aI⟩)
 ·refine ⟨3, fun_x ck_math_bits_Len64 rfl ?_⟩
  refine G0 ?_
  refine ⟨((5 : Nat) : Int), by decide, ?_⟩
  refine G0 ?_
  refine ⟨5, 3, rfl, rfl, ?_⟩
  refine G0 ?_
  refine ⟨3, by decide, ?_⟩
  refine G0 ?_
  (exact ⟨[], aI⟩)
 ·refine ⟨3, fun_x ck_math_bits_Len64 rfl ?_⟩
  refine G0 ?_
  refine ⟨((6 : Nat) : Int), by decide, ?_⟩
  refine G0 ?_
  refine ⟨6, 3, rfl, rfl, ?_⟩
  refine G0 ?_
  refine ⟨3, by decide, ?_⟩
  refine G0 ?_
  (exact ⟨[], aI⟩)
 ·refine ⟨3, fun_x ck_math_bits_Len64 rfl ?_⟩
  refine G0 ?_
  refine ⟨((7 : Nat) : Int), by decide, ?_⟩
  refine G0 ?_
  refine ⟨7, 3, rfl, rfl, ?_⟩
  refine G0 ?_
  refine ⟨3, by decide, ?_⟩
  refine G0 ?_
  (exact ⟨[], aI⟩)
 ·refine ⟨4, fun_x ck_math_bits_Len64 rfl ?_⟩
  refine G0 ?_
  refine ⟨((8 : Nat) : Int), by decide, ?_⟩
  refine G0 ?_
  refine ⟨8, 4, rfl, rfl, ?_⟩
  refine G0 ?_
  refine ⟨4, by decide, ?_⟩
  refine G0 ?_
  (exact ⟨[], aI⟩)
 ·refine ⟨4, fun_x ck_math_bits_Len64 rfl ?_⟩
  refine G0 ?_
  refine ⟨((9 : Nat) : Int), by decide, ?_⟩
  refine G0 ?_
  refine ⟨9, 4, rfl, rfl, ?_⟩
  refine G0 ?_
  refine ⟨4, by decide, ?_⟩
  refine G0 ?_
  (exact ⟨[], aI⟩)
 ·refine ⟨4, fun_x ck_math_bits_Len64 rfl ?_⟩
  refine G0 ?_
  refine ⟨((10 : Nat) : Int), by decide, ?_⟩
  refine G0 ?_
  refine ⟨10, 4, rfl, rfl, ?_⟩
  refine G0 ?_
  refine ⟨4, by decide, ?_⟩
  refine G0 ?_
  (exact ⟨[], aI⟩)
 ·refine ⟨4, fun_x ck_math_bits_Len64 rfl ?_⟩
  refine G0 ?_
  refine ⟨((11 : Nat) : Int), by decide, ?_⟩
  refine G0 ?_
  refine ⟨11, 4, rfl, rfl, ?_⟩
  refine G0 ?_
  refine ⟨4, by decide, ?_⟩
  refine G0 ?_
  (exact ⟨[], aI⟩)
 ·refine ⟨4, fun_x ck_math_bits_Len64 rfl ?_⟩
  refine G0 ?_
  refine ⟨((12 : Nat) : Int), by decide, ?_⟩
  refine G0 ?_
  refine ⟨12, 4, rfl, rfl, ?_⟩
  refine G0 ?_
  refine ⟨4, by decide, ?_⟩
  refine G0 ?_
  (exact ⟨[], aI⟩)
theorem tellc_fun (a b : Mb) : Fun Tryz.prog 64 [.c (.agg a.row), .c (.agg b.row)] [.c (.v (.int .i64 (scmp a.n b.n)))] := by
 refine fun_x ck_node_Tell_1 rfl ?_
 (refine goI ?_; repeat (intro gg; refine goI ?_))
 (refine .inl ⟨_, _, false, [], aI, cmps_fun _ _, nobor, nI, ?_⟩)
 refine G1 ?_; intro gg
 (exact ⟨[], aI⟩)
theorem insort_fun (l : List Mb) (hl : l.length ≤ 100) (hnd : (l.map Mb.n).Nodup) : FunM Tryz.prog 166 [.ms 37 5 (l.map Mb.row) ((srtN l).map Mb.row), .p (.c (.v (.int .i64 0))), .p (.c (.v (.int .i64 l.length))), .p (.c (.v (.func (.func 64) #[] #[])))] [] := by
 have e0 : l.map Mb.row = (srtN (l.take (0 + 1)) ++ l.drop (0 + 1)).map Mb.row := congrArg (List.map Mb.row) srtN_start
 rw [e0]
 refine funM_x ck_slices_insertionSortCmpFunc_api_Member rfl rfl (nd_b rfl) ?_
 refine G0 ?_
 (refine ⟨[], none, {k : Nat // k < l.length ∨ k = 0}, [0, 1, 2, 3], fun ⟨k, hk⟩ => [(8, .v (.int .i64 ((k : Int) + 1)))], [], fun ⟨k, hk⟩ => [(0, ⟨0, .t 37, 5, (srtN (l.take (k + 1)) ++ l.drop (k + 1)).map Mb.row⟩)], fun ⟨k, hk⟩ => l.length - k, trivial, fun _ => ⟨trivial, fun _ => ⟨⟨0, .inr rfl⟩, tI, keptE_refl _ _, tI, keptH_refl _ _⟩⟩, fun ⟨k, hk⟩ => ?_⟩)
 refine G0 ?_
 (refine bIf_of (fun h1 => ?_) (fun h1 => ?_) <;> rw [h1])
 ·have hlt : k + 1 < l.length := by have := of_decide_eq_true h1; omega
  have hlS := srtN_len hnd (k := k + 1) (by omega)
  refine G0 ?_
  (refine ⟨[], none, {j : Nat // j ≤ k + 1 ∧ ∀ q, (h : q < (srtN (l.take (k + 1))).length) → j ≤ q → 0 < Mb.kf l[k + 1] (srtN (l.take (k + 1)))[q]}, [0, 1, 2, 3, 8], fun ⟨j, hj, hi⟩ => [(9, .v (.int .i64 j))], [], fun ⟨j, hj, hi⟩ => [(0, ⟨0, .t 37, 5, (stand (srtN (l.take (k + 1))) l[k + 1] (l.drop (k + 2)) j).map Mb.row⟩)], fun ⟨j, hj, hi⟩ => j, trivial, fun _ => ⟨trivial, fun _ => ⟨⟨k + 1, Nat.le_refl _, fun q h hq => by omega⟩, tI, keptE_refl _ _, ?_, keptH_refl _ _⟩⟩, fun ⟨j, hj, hi⟩ => ?_⟩; focus (exact And.intro (congrArg (fun (r : List Mb) => some (Ent.mk 0 (.t 37) 5 (r.map Mb.row))) (stand_start hnd hlt)) trivial))
  cases j with
  | zero =>
   have hfin := srtN_stop hnd hlt hj hi (.inl rfl)
   refine G0 ?_
   (exact ⟨none, trivial, fun gr => ⟨⟨k + 1, .inl hlt⟩, by show l.length - (k + 1) < l.length - k; omega, tI, tI, And.intro (congrArg (fun (r : List Mb) => some (Ent.mk 0 (.t 37) 5 (r.map Mb.row))) hfin) trivial, tI⟩⟩)
  | succ j =>
   have hjl : j < (srtN (l.take (k + 1))).length := by omega
   have hx : ((stand (srtN (l.take (k + 1))) l[k + 1] (l.drop (k + 2)) (j + 1)).map Mb.row)[j + 1]? = some l[k + 1].row := by rw [List.getElem?_map, stand_x (by omega)]; rfl
   have hy : ((stand (srtN (l.take (k + 1))) l[k + 1] (l.drop (k + 2)) (j + 1)).map Mb.row)[j]? = some (srtN (l.take (k + 1)))[j].row := by rw [List.getElem?_map, stand_y hjl]; rfl
   have hset : ∀ (r : List (List V)), r = ((stand (srtN (l.take (k + 1))) l[k + 1] (l.drop (k + 2)) (j + 1)).map Mb.row) → (r.set (j + 1) (srtN (l.take (k + 1)))[j].row).set j l[k + 1].row = (stand (srtN (l.take (k + 1))) l[k + 1] (l.drop (k + 2)) j).map Mb.row := fun r hr => by
    rw [hr, ← stand_swap hjl, List.map_set, List.map_set]
   refine G0 ?_
   (refine bIf_of (fun h2 => ?_) (fun h2 => ?_) <;> rw [h2]; rotate_left; focus (exfalso; have := of_decide_eq_false h2; omega))
   refine G0 ?_
   refine ⟨j + 1, _, rfl, hx, ?_⟩
   refine G0 ?_
   refine ⟨_, hx, ?_⟩
   refine G0 ?_
   refine ⟨j, _, by omega, hy, ?_⟩
   refine G0 ?_
   refine ⟨_, hy, ?_⟩
   refine G0 ?_
   (refine .inl ⟨_, _, false, [], aI, tellc_fun l[k + 1] (srtN (l.take (k + 1)))[j], nobor, nI, ?_⟩)
   refine G1 ?_; intro gg
   (refine bIf_of (fun h3 => ?_) (fun h3 => ?_) <;> rw [h3])
   ·have h3' := of_decide_eq_true h3
    have hy' : ∀ (r : List (List V)) (u : List V), r[j]? = some (srtN (l.take (k + 1)))[j].row → (r.set (j + 1) u)[j]? = some (srtN (l.take (k + 1)))[j].row := fun r u h => by rw [List.getElem?_set_ne (by omega)]; exact h
    have hi' : ∀ q, (h : q < (srtN (l.take (k + 1))).length) → j ≤ q → 0 < Mb.kf l[k + 1] (srtN (l.take (k + 1)))[q] := fun q h hq => by
     by_cases e : q = j
     ·subst e
      exact (Mb.ord.pos _ _).2 (scmp_neg.1 h3')
     ·exact hi q h (by omega)
    refine G0 ?_
    refine ⟨j, _, by omega, hy, ?_⟩
    refine G0 ?_
    refine ⟨_, hy, ?_⟩
    refine G0 ?_
    refine ⟨j + 1, _, rfl, hx, ?_⟩
    refine G0 ?_
    refine ⟨_, hx, ?_⟩
    refine G0 ?_
    refine ⟨j + 1, _, rfl, hx, ?_⟩
    refine G0 ?_
    refine ⟨_, hx, ?_⟩
    refine G0 ?_
    refine ⟨j, _, by omega, hy' _ _ hy, ?_⟩
    refine G0 ?_
    refine ⟨_, hy' _ _ hy, ?_⟩
    refine G0 ?_
    exact ⟨none, trivial, fun gr => ⟨⟨j, by omega, hi'⟩, by show j < j + 1; omega, And.intro (congrArg (fun z => V.v (.int .i64 z)) (show ((j + 1 : Nat) : Int) - 1 = j by omega)) trivial, tI, And.intro (congrArg (fun r => some (Ent.mk 0 (.t 37) 5 r)) (hset _ rfl)) trivial, tI⟩⟩
   ·have h3' := of_decide_eq_false h3
    have hfin := srtN_stop hnd hlt hj hi (.inr ⟨j, hjl, rfl, h3'⟩)
    refine G0 ?_
    (exact ⟨none, trivial, fun gr => ⟨⟨k + 1, .inl hlt⟩, by show l.length - (k + 1) < l.length - k; omega, tI, tI, And.intro (congrArg (fun (r : List Mb) => some (Ent.mk 0 (.t 37) 5 (r.map Mb.row))) hfin) trivial, tI⟩⟩)
 ·have hge : ¬ k + 1 < l.length := by have := of_decide_eq_false h1; omega
  rw [show srtN l = srtN (l.take (k + 1)) ++ l.drop (k + 1) from by rw [List.take_of_length_le (by omega), List.drop_eq_nil_of_le (by omega), List.append_nil]]
  refine G0 ?_
  (exact ⟨[0], aM⟩)
theorem srtN_all {l : List Mb} (hnd : (l.map Mb.n).Nodup) : (srtN l).length = l.length := by
 have := srtN_len hnd (k := l.length) (Nat.le_refl _)
 rwa [List.take_length] at this
theorem pdq_fun (l : List Mb) (hl : l.length ≤ 12) (hnd : (l.map Mb.n).Nodup) (r : Int) : FunM Tryz.prog 126 [.ms 37 5 (l.map Mb.row) ((srtN l).map Mb.row), .p (.c (.v (.int .i64 0))), .p (.c (.v (.int .i64 l.length))), .p (.c (.v (.int .i64 r))), .p (.c (.v (.func (.func 64) #[] #[])))] [] := by
 have hS := insort_fun l (by omega) hnd
 have hlen := srtN_all hnd
 refine funM_x ck_slices_pdqsortCmpFunc_api_Member rfl rfl (nd_b rfl) ?_
 refine G0 ?_
 (refine ⟨[], none, Unit, [0, 4], fun () => [(1, .v (.int .i64 0)), (2, .v (.int .i64 l.length))], [], fun () => [(0, ⟨0, .t 37, 5, l.map Mb.row⟩)], fun () => 0, trivial, fun _ => ⟨trivial, fun _ => ⟨(), tI, keptE_refl _ _, tI, keptH_refl _ _⟩⟩, fun () => ?_⟩)
 refine G0 ?_
 (refine bIf_of (fun h => ?_) (fun h => ?_) <;> rw [h]; rotate_left; focus (exfalso; have := of_decide_eq_false h; omega))
 refine G0 ?_
 refine .inr (.inl ⟨_, _, false, [0], aM_ms rfl cl_rows (by decide) (by decide) (by rw [List.length_map, List.length_map, hlen]) aM, hS, nobor, oI, dI, ?_⟩)
 refine G1 ?_; intro gg
 (exact ⟨[0], aM⟩)
theorem msort_fun (l : List Mb) (hl : l.length ≤ 12) (hnd : (l.map Mb.n).Nodup) : FunM Tryz.prog 63 [.ms 37 5 (l.map Mb.row) ((srtN l).map Mb.row), .p (.c (.v (.func (.func 64) #[] #[])))] [] := by
 obtain ⟨r, hr⟩ := len64_fun l.length hl
 have hP := pdq_fun l hl hnd r
 have hB : Fun Tryz.prog 127 [.c (.v (.int .u64 l.length))] [.c (.v (.int .i64 r))] := by
  refine fun_x ck_math_bits_Len rfl ?_
  refine G0 ?_
  (refine .inl ⟨_, _, false, [], aI, hr, nobor, nI, ?_⟩)
  refine G1 ?_; intro gg
  (exact ⟨[], aI⟩)
 have hml : (l.map Mb.row).length = l.length := List.length_map ..
 have hlen := srtN_all hnd
 rw [← hml] at hP
 refine funM_x ck_slices_SortFunc_api_Member_api_Member rfl rfl (nd_b rfl) ?_
 refine G0 ?_
 refine ⟨(l.length : Int), by show IntKind.u64.wrap (((l.map Mb.row).length : Nat) : Int) = _; rw [hml]; exact wrap_u64 (by omega) (by omega), ?_⟩
 refine G0 ?_
 (refine .inl ⟨_, _, false, [], aI, hB, nobor, nI, ?_⟩)
 refine G1 ?_; intro gg
 refine .inr (.inl ⟨_, _, false, [0], aM_ms rfl cl_rows (by decide) (by decide) (by rw [List.length_map, List.length_map, hlen]) aM, hP, nobor, oI, dI, ?_⟩)
 refine G1 ?_; intro gg
 (exact ⟨[0], aM⟩)
end Go.Proofs.YtkclokmfomnbgaaGreat
namespace Go.Proofs.YtkclokmfomnbgaaGreat.Pl
set_option linter.unusedVariables false
def Known (l : List Mb) (m : Mb) : Prop := ∃ z ∈ l, z.n = m.n ∧ (z = m ∨ Mb.nw z m = true)
def Grows (a b : List Mb) : Prop := ∀ y ∈ a, Known b y
theorem known_self {l : List Mb} {m : Mb} (h : m ∈ l) : Known l m := ⟨m, h, rfl, .inl rfl⟩
theorem Grows.refl (a : List Mb) : Grows a a := fun y hy => known_self hy
theorem Known.grow {a b : List Mb} {m : Mb} (h : Known a m) (g : Grows a b) : Known b m := by
 obtain ⟨z, hz, hn, hc⟩ := h
 obtain ⟨y, hy, hn2, hc2⟩ := g z hz
 refine ⟨y, hy, hn2.trans hn, ?_⟩
 rcases hc with rfl | hc
 ·exact hc2
 ·rcases hc2 with rfl | hc2
  ·exact .inr hc
  ·exact .inr (PlM.newest.trans _ _ _ hc2 hc)
theorem Grows.trans {a b c : List Mb} (h : Grows a b) (g : Grows b c) : Grows a c := fun y hy => (h y hy).grow g
theorem grows_upd {l : List Mb} {m : Mb} (hl : ckMb l = 0) : Grows l (upd Mb.kf Mb.nw l m) := fun y hy => by
 obtain ⟨h, hc⟩ := PlM.grows_at (m := m) hl hy
 exact ⟨_, List.getElem_mem (hit_lt h), scmp_zero.1 (hit_zero h), hc⟩
theorem ruOk_iff {l : List Mb} {r : Ru} (hl : ckMb l = 0) : ruOk l r = true ↔ Known l r.m := by
 have hs := (ckMb_inv hl).2.2
 constructor
 ·intro h
  cases hh : hit (Mb.cf r.m.n) l with
  | false => rw [ruOk_no hh] at h; cases h
  | true =>
   have hx : l[low (Mb.cf r.m.n) l]? = some (l[low (Mb.cf r.m.n) l]'(hit_lt hh)) := List.getElem?_eq_getElem _
   rw [ruOk_at hh hx] at h
   have hz := hit_zero hh
   have hc := of_decide_eq_true h
   generalize hg : l[low (Mb.cf r.m.n) l]'(hit_lt hh) = z at *
   refine ⟨z, by rw [← hg]; exact List.getElem_mem _, scmp_zero.1 hz, ?_⟩
   rcases Bool.eq_false_or_eq_true (Mb.nw z r.m) with q | q
   ·exact .inr q
   ·exact .inl (PlM.newest.tot z r.m (scmp_zero.2 (scmp_zero.1 hz).symm) q (decide_eq_false (by omega)))
 ·rintro ⟨z, hz, hn, hc⟩
  have ha := at_mem hl hz
  rw [hn] at ha
  rw [ruOk_at ha.1 ha.2]
  refine decide_eq_true ?_
  rcases hc with rfl | hc
  ·have := PlM.newest.irr r.m
   have := of_decide_eq_false this
   omega
  ·rcases Bool.eq_false_or_eq_true (Mb.nw r.m z) with q | q
   ·have := PlM.newest.trans _ _ _ hc q
    rw [PlM.newest.irr] at this; cases this
   ·have := of_decide_eq_false q; omega
theorem hit_known {l : List Mb} {m : Mb} (hl : ckMb l = 0) (h : Known l m) : hit (Mb.cf m.n) l = true := by
 obtain ⟨z, hz, hn, _⟩ := h
 have := (at_mem hl hz).1
 rw [hn] at this; exact this
theorem ruOk_all {l : List Ru} (h : RuOk l) : ∀ r ∈ l, r.m.err = 0 ∧ 0 ≤ r.t ∧ r.t ≤ 100 := fun r hr => by
 obtain ⟨i, hi, rfl⟩ := List.mem_iff_getElem.1 hr
 exact ⟨firstErr_get (e := Ru.err) h.each i hi, h.rng i hi⟩
theorem ruOk_of {l : List Ru} (h1 : l.length ≤ 20) (h2 : ∀ r ∈ l, r.m.err = 0 ∧ 0 ≤ r.t ∧ r.t ≤ 100) (h3 : (l.map Ru.nm).Nodup) : RuOk l where
 len := h1
 each := firstErr_zero (e := Ru.err) fun i hi => (h2 _ (List.getElem_mem hi)).1
 rng := fun i hi => (h2 _ (List.getElem_mem hi)).2
 nd := h3
theorem ckRu_of {l : List Ru} (h : RuOk l) : ckRu l = 0 := by
 refine ckRu_ok (by have := h.len; omega) h.each ?_ h.nd
 rw [List.any_eq_false]
 intro r hr
 rw [(Ru.bad_iff _).2 (ruOk_all h r hr).2]; simp
theorem putFin_good {l : List Ru} {m : Mb} (h : RuOk l) (hm : m.err = 0) (hn : ∀ r ∈ l, Ru.is m.n r = false) (he : (putFin l m).1 = 0) : RuOk (putFin l m).2 := by
 unfold putFin at he ⊢
 split at he
 ·cases he
 ·rename_i h20
  rw [if_neg h20]
  have hl := h.len
  refine ruOk_of (by simp; omega) (fun r hr => ?_) ?_
  ·rcases List.mem_append.1 hr with q | q
   ·exact ruOk_all h r q
   ·simp at q; subst q; exact ⟨hm, (by decide : (0 : Int) ≤ 0), (by decide : (0 : Int) ≤ 100)⟩
  ·rw [List.map_append, List.nodup_append]
   refine ⟨h.nd, by simp, fun a ha b hb => ?_⟩
   simp [Ru.nm] at hb; subst hb
   obtain ⟨r, hr, rfl⟩ := List.mem_map.1 ha
   intro e
   have := Ru.is_iff.2 e
   rw [hn r hr] at this; cases this
theorem ruOk_erase {l : List Ru} {i : Nat} (h : RuOk l) : RuOk (l.eraseIdx i) :=
 ruOk_of (by have := h.len; have := List.length_eraseIdx_le l i; omega) (fun r hr => ruOk_all h r (List.mem_of_mem_eraseIdx hr)) (((List.eraseIdx_sublist l i).map Ru.nm).nodup h.nd)
theorem putRu_good {l : List Ru} {m : Mb} (he : (putRu l m).1 = 0) : ckRu (putRu l m).2 = 0 := by
 by_cases h1 : ckRu l = 0
 ·by_cases h2 : m.err = 0
  ·rw [putRu_ok h1 h2] at he ⊢
   have hR := ckRu_inv h1
   rcases at_inv (p := Ru.is m.n) (l := l) with ⟨ha, h0⟩ | ⟨k, hk, ha, h3, h4⟩
   ·have hno : ¬ 0 ≤ at_ (Ru.is m.n) l := by rw [ha]; omega
    rw [putR_no hno] at he ⊢
    refine ckRu_of (putFin_good hR h2 (fun r hr => ?_) he)
    obtain ⟨i, hi, rfl⟩ := List.mem_iff_getElem.1 hr
    exact h0 i hi
   ·have hyes : 0 ≤ at_ (Ru.is m.n) l := by rw [ha]; omega
    have hg : l[(at_ (Ru.is m.n) l).toNat]? = some l[k] := by rw [ha]; simp [hk]
    by_cases hc : Mb.cmp m (l[k]).m ≤ 0
    ·rw [putR_old hyes hg hc]; exact h1
    ·rw [putR_new hyes hg hc] at he ⊢
     rw [ha] at he ⊢
     simp only [Int.toNat_natCast] at he ⊢
     refine ckRu_of (putFin_good (ruOk_erase hR) h2 (fun r hr => ?_) he)
     rw [← others_erase k hk hR.nd h3] at hr
     unfold others at hr
     have := (List.mem_filter.1 hr).2
     simpa using this
  ·rw [putRu_one h1 h2] at he; exact absurd he h2
 ·rw [putRu_ck h1] at he; exact absurd he h1
structure Gd (n : Nd) : Prop where
 nm : lab n.nm.data.toList = true
 ce : lab n.ce.data.toList = true
 ms : ckMb n.ms = 0
 rs : ckRu n.rs = 0
 sv : ckSv n.sv = 0
 gs : ckGw n.gs = 0
 pl : n.pl.okb = true
 wh : ckWh n.wh = 0
 hit : hit (Mb.cf n.nm) n.ms = true
 ru : ∀ r ∈ n.rs, Known n.ms r.m
theorem Nd.Good.gd {n : Nd} (h : n.Good) : Gd n := ⟨h.nm, h.ce, h.ms, h.rs, h.sv, h.gs, h.pl, h.wh, h.hit, fun r hr => (ruOk_iff h.ms).1 (h.ru r hr)⟩
theorem Gd.good {n : Nd} (h : Gd n) (hs : (meOf n.ms n.nm).st ≠ 2 ∧ (meOf n.ms n.nm).st ≠ 3) : n.Good :=
 ⟨h.nm, h.ce, h.ms, h.rs, h.sv, h.gs, h.pl, h.wh, h.hit, fun m hm => by rw [meOf_at hm] at hs; exact hs, fun r hr => (ruOk_iff h.ms).2 (h.ru r hr)⟩
theorem Nd.Good.me {n : Nd} (h : n.Good) : (meOf n.ms n.nm).st ≠ 2 ∧ (meOf n.ms n.nm).st ≠ 3 := by
 have hx : n.ms[low (Mb.cf n.nm) n.ms]? = some (n.ms[low (Mb.cf n.nm) n.ms]'(hit_lt h.hit)) := List.getElem?_eq_getElem _
 rw [meOf_at hx]; exact h.st _ hx
theorem Gd.mine {n : Nd} (h : Gd n) : meOf n.ms n.nm ∈ n.ms ∧ (meOf n.ms n.nm).n = n.nm := by
 have hx : n.ms[low (Mb.cf n.nm) n.ms]? = some (n.ms[low (Mb.cf n.nm) n.ms]'(hit_lt h.hit)) := List.getElem?_eq_getElem _
 rw [meOf_at hx]
 exact ⟨List.getElem_mem _, scmp_zero.1 (hit_zero h.hit)⟩
theorem meOf_mem {l : List Mb} {m : Mb} (hl : ckMb l = 0) (hm : m ∈ l) : meOf l m.n = m := meOf_at (at_mem hl hm).2
theorem Gd.learn {n : Nd} {l : List Mb} (h : Gd n) (hl : ckMb l = 0) (hg : Grows n.ms l) : Gd { n with ms := l } := by
 have hm := h.mine
 refine ⟨h.nm, h.ce, hl, h.rs, h.sv, h.gs, h.pl, h.wh, ?_, fun r hr => (h.ru r hr).grow hg⟩
 have := hit_known hl (hg _ hm.1)
 rw [hm.2] at this; exact this
theorem Gd.put {n : Nd} {m : Mb} (h : Gd n) (hm : Known n.ms m) (he : (putRu n.rs m).1 = 0) : Gd { n with rs := (putRu n.rs m).2 } :=
 ⟨h.nm, h.ce, h.ms, putRu_good he, h.sv, h.gs, h.pl, h.wh, h.hit, fun r hr => (putRu_mem hr).elim (fun e => by rw [e]; exact hm) (fun e => h.ru r e)⟩
structure Kept (a b : Nd) : Prop where
 nm : b.nm = a.nm
 ce : b.ce = a.ce
 sv : b.sv = a.sv
 gs : b.gs = a.gs
 pl : b.pl = a.pl
 wh : b.wh = a.wh
 ms : Grows a.ms b.ms
theorem Kept.refl (a : Nd) : Kept a a := ⟨rfl, rfl, rfl, rfl, rfl, rfl, .refl _⟩
theorem Kept.trans {a b c : Nd} (h : Kept a b) (g : Kept b c) : Kept a c := ⟨g.nm.trans h.nm, g.ce.trans h.ce, g.sv.trans h.sv, g.gs.trans h.gs, g.pl.trans h.pl, g.wh.trans h.wh, h.ms.trans g.ms⟩
theorem ck_up {l : List Mb} {me : ByteArray} (hl : ckMb l = 0) (h : (refM l me).1 = 0) (h2 : (refM l me).2.2 = true) : ckMb (refM l me).2.1 = 0 ∧ Grows l (refM l me).2.1 ∧ (meOf (refM l me).2.1 me).st = 1 ∧ meOf (refM l me).2.1 me ∈ (refM l me).2.1 := by
 obtain ⟨hh, e⟩ := PlM.ref_inv h h2
 have hlab : lab me.data.toList = true := by
  cases hb : lab me.data.toList with
  | true => rfl
  | false => rw [refM_lab hl hb] at h2; cases h2
 have hlf : (l[low (Mb.cf me) l]'(hit_lt hh)).lf ≠ 1000000 := fun q => by
  rw [refM_ok hl hlab, refR_hit hh] at h h2
  split at h2
  ·cases h2
  ·rename_i g1
   rw [if_neg g1] at h
   split at h2
   ·cases h2
   ·rename_i g2
    rw [if_neg g2, if_pos q] at h
    cases h
 rw [e]
 have hmem := List.getElem_mem (hit_lt hh)
 have he := (ckMb_inv hl).2.1 _ (hit_lt hh)
 have hi := Mb.err_inv he
 have hup : (l[low (Mb.cf me) l]'(hit_lt hh)).up.err = 0 := by
  have a1 : wi (l[low (Mb.cf me) l]'(hit_lt hh)).up.st 1 4 = true := rfl
  have a2 : wi (l[low (Mb.cf me) l]'(hit_lt hh)).up.lf 1 1000000 = true := wi_iff.2 (by show 1 ≤ (l[low (Mb.cf me) l]'(hit_lt hh)).lf + 1 ∧ (l[low (Mb.cf me) l]'(hit_lt hh)).lf + 1 ≤ 1000000; omega)
  have a3 : wi (l[low (Mb.cf me) l]'(hit_lt hh)).up.ad 0 4294967295 = true := wi_iff.2 hi.2.2.2
  have a0 : lab (l[low (Mb.cf me) l]'(hit_lt hh)).up.n.data.toList = true := hi.1
  unfold Mb.err
  rw [a0, a1, a2, a3]; rfl
 have hU := Mb.up_upd hh
 have hlen : (upd Mb.kf Mb.nw l (l[low (Mb.cf me) l]'(hit_lt hh)).up).length ≤ 20 := by rw [hU, List.length_set]; exact (ckMb_inv hl).1
 refine ⟨?_, ?_, ?_, ?_⟩
 ·rw [← hU]; exact PlM.ck_upd hl hup hlen
 ·rw [← hU]; exact grows_upd hl
 ·rw [meOf_at (meOf_up hh (PlM.up_cf hh) (ckMb_inv hl).2.2)]; rfl
 ·rw [meOf_at (meOf_up hh (PlM.up_cf hh) (ckMb_inv hl).2.2)]
  exact List.mem_iff_getElem.2 ⟨low (Mb.cf me) l, by rw [List.length_set]; exact hit_lt hh, List.getElem_set_self _⟩
theorem ref_no {l : List Mb} {me : ByteArray} (hl : ckMb l = 0) (hb : lab me.data.toList = true) (hh : hit (Mb.cf me) l = true) (h : (refM l me).1 = 0) (h2 : (refM l me).2.2 = false) : (meOf l me).st = 1 ∨ (meOf l me).st = 4 := by
 have hx : l[low (Mb.cf me) l]? = some (l[low (Mb.cf me) l]'(hit_lt hh)) := List.getElem?_eq_getElem _
 rw [meOf_at hx]
 rw [refM_ok hl hb, refR_hit hh] at h h2
 split at h2
 ·rename_i g1; exact .inl g1
 ·rename_i g1
  rw [if_neg g1] at h
  split at h2
  ·rename_i g2; exact .inr g2
  ·rename_i g2
   rw [if_neg g2] at h
   split at h2
   ·rename_i g3; rw [if_pos g3] at h; cases h
   ·cases h2
theorem back_good {n : Nd} (g : Gd n) (h : (backM n).1 = 0) : (backM n).2.Good ∧ Kept n (backM n).2 := by
 by_cases h1 : (refM n.ms n.nm).1 = 0
 ·cases h2 : (refM n.ms n.nm).2.2 with
  | false =>
   rw [backM_no h1 h2]
   refine ⟨g.good ?_, .refl _⟩
   rcases ref_no g.ms g.nm g.hit h1 h2 with q | q <;> (show (meOf n.ms n.nm).st ≠ 2 ∧ (meOf n.ms n.nm).st ≠ 3) <;> rw [q] <;> decide
  | true =>
   obtain ⟨c1, c2, c3, c4⟩ := ck_up g.ms h1 h2
   rw [backM_yes h1 h2] at h ⊢
   generalize (refM n.ms n.nm).2.1 = L at *
   have h' : (putRu n.rs (meOf L n.nm)).1 = 0 := h
   have e : putN { n with ms := L } (meOf L n.nm) = { n with ms := L, rs := (putRu n.rs (meOf L n.nm)).2 } := putN_ok (n := { n with ms := L }) h'
   show (putN { n with ms := L } (meOf L n.nm)).Good ∧ Kept n (putN { n with ms := L } (meOf L n.nm))
   rw [e]
   have gl := g.learn c1 c2
   have gp := gl.put (m := meOf L n.nm) (known_self c4) h'
   refine ⟨gp.good ?_, ⟨rfl, rfl, rfl, rfl, rfl, rfl, c2⟩⟩
   show (meOf L n.nm).st ≠ 2 ∧ (meOf L n.nm).st ≠ 3
   rw [c3]; decide
 ·rw [backM_e h1] at h; exact absurd h h1
theorem spread_good {n : Nd} {m : Mb} (g : n.Good) (h : (spreadM n m).1 = 0) : (spreadM n m).2.Good ∧ Kept n (spreadM n m).2 := by
 by_cases h1 : (hearM n.ms m).1 = 0
 ·cases h2 : (hearM n.ms m).2.2 with
  | false => rw [spreadM_old h1 h2]; exact ⟨g, .refl _⟩
  | true =>
   obtain ⟨c1, c2, c3, c4⟩ := PlM.hear_inv h1
   rw [spreadM_new h1 h2] at h ⊢
   rw [c4] at h2 h ⊢
   have hF : hearF Mb.kf Mb.nw n.ms m = true := h2
   have hm := upd_has hF
   have hck := PlM.ck_upd c1 c2 (by omega)
   have hgr := grows_upd (m := m) c1
   have hme : m.n ≠ n.nm → meOf (upd Mb.kf Mb.nw n.ms m) n.nm = meOf n.ms n.nm := fun hne => by
    obtain ⟨a1, a2⟩ := g.gd.mine
    obtain ⟨z, z1, z2, z3⟩ := hgr _ a1
    rcases upd_mem z1 with e | e
    ·exact absurd (by rw [← e, z2, a2]) hne
    ·have : z = meOf n.ms n.nm := by
      have := meOf_mem c1 e
      rw [← this, z2, a2]
     rw [← this]
     have := meOf_mem hck z1
     rw [z2, a2] at this; exact this
   show (newsM { n with ms := upd Mb.kf Mb.nw n.ms m } m).2.Good ∧ Kept n (newsM { n with ms := upd Mb.kf Mb.nw n.ms m } m).2
   replace h : (newsM { n with ms := upd Mb.kf Mb.nw n.ms m } m).1 = 0 := h
   generalize upd Mb.kf Mb.nw n.ms m = L at *
   have gl := g.gd.learn hck hgr
   by_cases h3 : (putRu n.rs m).1 = 0
   ·have gp := gl.put (m := m) (known_self hm) h3
    by_cases h4 : m.n = n.nm
    ·rw [newsM_me (n := { n with ms := L }) h3 h4] at h ⊢
     have := back_good gp h
     exact ⟨this.1, Kept.trans (b := { n with ms := L, rs := (putRu n.rs m).2 }) ⟨rfl, rfl, rfl, rfl, rfl, rfl, hgr⟩ this.2⟩
    ·rw [newsM_else (n := { n with ms := L }) h3 h4]
     refine ⟨gp.good ?_, ⟨rfl, rfl, rfl, rfl, rfl, rfl, hgr⟩⟩
     show (meOf L n.nm).st ≠ 2 ∧ (meOf L n.nm).st ≠ 3
     rw [hme h4]; exact g.me
   ·rw [newsM_e (n := { n with ms := L }) h3] at h; exact absurd h h3
 ·rw [spreadM_e h1] at h; exact absurd h h1
theorem lab_ok {s : ByteArray} (h : lab s.data.toList = true) : s.size ≤ 9223372036854775807 := by
 have := (lab_bd h).2
 have e : s.size = s.data.toList.length := rfl
 omega
theorem mayb_ok {s : ByteArray} (h : mayb s = true) : s.size ≤ 9223372036854775807 := by
 unfold mayb emp at h
 rcases (Bool.or_eq_true _ _).mp h with q | q
 ·have := toList_inj (beq_iff_eq.1 q)
  rw [this]; exact Nat.zero_le _
 ·exact lab_ok q
theorem mbs_ok {l : List Mb} (h : ckMb l = 0) : ∀ x ∈ l, x.ok := fun x hx => by
 obtain ⟨i, hi, rfl⟩ := List.mem_iff_getElem.1 hx
 exact lab_ok (Mb.err_inv ((ckMb_inv h).2.1 i hi)).1
theorem rus_ok {l : List Ru} (h : ckRu l = 0) : ∀ x ∈ l, x.m.ok := fun x hx => lab_ok (Mb.err_inv (ruOk_all (ckRu_inv h) x hx).1).1
theorem Sv.err_ok {s : Sv} (h : s.err = 0) : s.ok := by
 unfold Sv.err at h
 split at h
 ·rename_i h1
  split at h
  ·rename_i h2
   split at h
   ·rename_i h3
    split at h
    ·rename_i h4
     exact ⟨lab_ok h1, lab_ok h2, lab_ok h3, mayb_ok h4⟩
    ·cases h
   ·cases h
  ·cases h
 ·cases h
theorem svs_ok {l : List Sv} (h : ckSv l = 0) : ∀ x ∈ l, x.ok := fun x hx => by
 obtain ⟨i, hi, rfl⟩ := List.mem_iff_getElem.1 hx
 exact Sv.err_ok ((ckSv_inv h).2.1 i hi)
theorem gws_ok {l : List Gw} (h : ckGw l = 0) : ∀ x ∈ l, x.ok := fun x hx => by
 obtain ⟨i, hi, rfl⟩ := List.mem_iff_getElem.1 hx
 have he := (ckGw_inv h).2.1 i hi
 unfold Gw.err at he
 split at he
 ·rename_i h1; exact lab_ok h1
 ·cases he
theorem Wh.err_cases (m : Wh) : m.err = 0 ∨ m.err = 1 ∨ m.err = 3 ∨ m.err = 7 := by
 unfold Wh.err
 split
 ·cases q : m.pl.okb with
  | true => exact .inl (Pc.err_ok q)
  | false => exact .inr (.inr (.inl (Pc.err_bad q)))
 ·simp
theorem ckWh_all {l : List Wh} (h : ckWh l = 0) : l.length ≤ 20 ∧ (∀ i, (hi : i < l.length) → (l[i]).err = 0) ∧ sorted Wh.lt l = true := ckL_inv Wh.err_cases h
theorem Wh.err_lab {x : Wh} (h : x.err = 0) : lab x.nd.data.toList = true := by
 unfold Wh.err at h
 split at h
 ·rename_i q; exact q
 ·cases h
theorem whs_ok {l : List Wh} (h : ckWh l = 0) : ∀ x ∈ l, x.ok := fun x hx => by
 obtain ⟨i, hi, rfl⟩ := List.mem_iff_getElem.1 hx
 exact lab_ok (Wh.err_lab ((ckWh_all h).2.1 i hi))
theorem Nd.Good.ok {n : Nd} (g : n.Good) : n.ok where
 nm := lab_ok g.nm
 ce := lab_ok g.ce
 msl := by have := (ckMb_inv g.ms).1; omega
 ms := mbs_ok g.ms
 rsl := by have := (ckRu_inv g.rs).len; omega
 rs := rus_ok g.rs
 svl := by have := (ckSv_inv g.sv).1; omega
 sv := svs_ok g.sv
 gsl := by have := (ckGw_inv g.gs).1; omega
 gs := gws_ok g.gs
 whl := by have := (ckWh_all g.wh).1; omega
 wh := whs_ok g.wh
theorem Nd.Good.err {n : Nd} (g : n.Good) : n.err = 0 := by
 have hz : firstErr (fun e => e) n.cks = 0 := by
  show firstErr (fun e => e) [ckMb n.ms, ckRu n.rs, ckSv n.sv, ckGw n.gs, n.pl.err, ckWh n.wh] = 0
  rw [g.ms, g.rs, g.sv, g.gs, Pc.err_ok g.pl, g.wh]; rfl
 rw [Nd.err_mine g.nm g.ce hz g.hit]
 have hx : n.ms[low (Mb.cf n.nm) n.ms]? = some (n.ms[low (Mb.cf n.nm) n.ms]'(hit_lt g.hit)) := List.getElem?_eq_getElem _
 rw [Nd.mine_at hx, if_neg (fun q => q.elim (g.st _ hx).1 (g.st _ hx).2), if_pos (List.all_eq_true.2 g.ru)]
end Go.Proofs.YtkclokmfomnbgaaGreat.Pl
namespace Go.Proofs.YtkclokmfomnbgaaGreat
open Go.RowKit Pl
set_option linter.unusedVariables false
def tRow (s : ByteArray) : List V := [.v (.string s)]
instance : FlatRow tRow := ⟨fun x u hu => by simp [tRow] at hu; exact ⟨_, hu⟩⟩
theorem liveM_ck {l : List Mb} (h : ckMb l ≠ 0) : liveM l = (ckMb l, []) := by simp [liveM, h]
theorem liveM_ok {l : List Mb} (h : ckMb l = 0) : liveM l = (0, liveS l) := by simp [liveM, h]
theorem mlive_fun (l : List Mb) (hl : l.length ≤ 9223372036854775807) (hw : ∀ m ∈ l, m.ok) : Fun Tryz.prog 60 [.c (.sl false (l.map Mb.row))] [.c (.sl false ((liveM l).2.map tRow)), .c (.v (.int .i64 (liveM l).1))] := by
 refine fun_x ck_member_Live rfl ?_
 refine G1 ?_; intro gg
 (refine .inl ⟨_, _, true, [], aI, mcheck_fun false [l] (by simp) (by simpa using hl) (by simpa using hw), (fun _ => fI), nI, ?_⟩)
 rw [firstErr_one]
 refine G1 ?_; intro gg
 (refine bIf_of (fun h1 => ?_) (fun h1 => ?_) <;> rw [h1])
 ·refine G0 ?_
  rw [liveM_ck (by simpa using h1)]
  (exact ⟨[], aI⟩)
 ·have h1' : ckMb l = 0 := by simpa using h1
  have hi := ckMb_inv h1'
  refine G0 ?_
  rw [List.length_map]
  (refine ⟨[(5, 80, 9, 1)], none, {p : Nat × Nat // p.1 ≤ l.length}, [14, 15], fun ⟨⟨k, g⟩, hk⟩ => [(5, .own 80 g), (16, .v (.int .i64 k))], [], fun ⟨⟨k, g⟩, hk⟩ => [(80, ⟨g, 9, 1, (liveS (l.take k)).map tRow⟩)], fun ⟨⟨k, g⟩, hk⟩ => l.length - k, (by exact ⟨rfl, by decide, (fun _ _ _ _ h => by cases h), trivial⟩), fun gs => ⟨trivial, fun _ => ⟨⟨(0, gs 80), by omega⟩, tI, tI, tI, tI⟩⟩, fun ⟨⟨k, g⟩, hk⟩ => ?_⟩)
  have hk' : k ≤ l.length := hk
  have hlen := liveS_len (l.take k)
  rw [List.length_take] at hlen
  refine G0 ?_
  (refine bIf_of (fun h2 => ?_) (fun h2 => ?_) <;> rw [h2])
  ·have hlt : k < l.length := (by have := of_decide_eq_true h2; omega)
   have hn := liveS_next hlt
   refine G0 ?_
   refine ⟨k, _, rfl, row_map hlt, ?_⟩
   refine G1 ?_; intro gg
   (refine bIf_of (fun h3 => ?_) (fun h3 => ?_) <;> rw [h3])
   ·rw [if_pos (of_decide_eq_true h3)] at hn
    refine G1 ?_; intro gg
    refine ⟨lI, lI, ?_⟩
    refine G1 ?_; intro gg
    (exact ⟨none, trivial, fun gr => ⟨⟨(k + 1, gg), by dsimp only; omega⟩, by show l.length - (k + 1) < l.length - k; omega, hxI hn, hxI hn, hxI hn, hxI hn⟩⟩)
   ·rw [if_neg (of_decide_eq_false h3)] at hn
    refine G0 ?_
    (exact ⟨none, trivial, fun gr => ⟨⟨(k + 1, g), by dsimp only; omega⟩, by show l.length - (k + 1) < l.length - k; omega, hxI hn, hxI hn, hxI hn, hxI hn⟩⟩)
  ·have hge : l.length ≤ k := (by have := of_decide_eq_false h2; omega)
   obtain rfl : k = l.length := by omega
   refine G0 ?_
   rw [liveM_ok h1', show liveS l = liveS (l.take l.length) by rw [List.take_length]]
   (exact ⟨[], aI⟩)
theorem rrefute_fun (l : List Mb) (me : ByteArray) (h : ckMb l = 0) : Fun Tryz.prog 144 [.c (.sl false (l.map Mb.row)), .c (.v (.string me))] [.c (.sl false ((refR l me).2.1.map Mb.row)), .c (.v (.bool (refR l me).2.2)), .c (.v (.int .i64 (refR l me).1))] := by
 have hi := ckMb_inv h
 have hat := Mb.at_eq hi.2.2 me
 have hA := at_fun false l me (by omega)
 refine fun_x ck_hearsayref_RefuteOf rfl ?_
 rcases Bool.eq_false_or_eq_true (hit (Mb.cf me) l) with h1 | h1
 ·have hlt := hit_lt h1
  have hR := refR_hit h1
  have hl1 : (l[low (Mb.cf me) l]).err = 0 := hi.2.1 _ hlt
  have hb := (Mb.err_inv hl1).2.2.1
  rw [hat, if_pos h1] at hA
  refine G0 ?_
  (refine .inl ⟨_, _, false, [], aI, hA, nobor, nI, ?_⟩)
  refine G1 ?_; intro gg
  refine ⟨low (Mb.cf me) l, _, rfl, row_map hlt, ?_⟩
  refine G0 ?_
  (refine bIf_of (fun h4 => ?_) (fun h4 => ?_) <;> rw [h4])
  ·refine G0 ?_
   rw [hR, if_pos (by simpa using h4)]
   (exact ⟨[], aI⟩)
  ·rw [if_neg (by simpa using h4)] at hR
   refine G0 ?_
   refine ⟨low (Mb.cf me) l, _, rfl, row_map hlt, ?_⟩
   refine G0 ?_
   (refine bIf_of (fun h5 => ?_) (fun h5 => ?_) <;> rw [h5])
   ·refine G0 ?_
    rw [hR, if_pos (by simpa using h5)]
    (exact ⟨[], aI⟩)
   ·rw [if_neg (by simpa using h5)] at hR
    refine G0 ?_
    refine ⟨low (Mb.cf me) l, _, rfl, row_map hlt, ?_⟩
    refine G1 ?_; intro gg
    (refine bIf_of (fun h6 => ?_) (fun h6 => ?_) <;> rw [h6])
    ·refine G0 ?_
     rw [hR, if_pos (by simpa using h6)]
     (exact ⟨[], aI⟩)
    ·rw [if_neg (by simpa using h6)] at hR
     refine G0 ?_
     (refine .inl ⟨_, _, false, [], aI, rhear_fun l (l[low (Mb.cf me) l].up) (by omega) hi.2.2, nobor, nI, ?_⟩)
     rw [Mb.up_upd h1]
     refine G1 ?_; intro gg
     rw [hR]
     (exact ⟨[], aI⟩)
 ·rw [hat, if_neg (by rw [h1]; decide)] at hA
  refine G0 ?_
  (refine .inl ⟨_, _, false, [], aI, hA, nobor, nI, ?_⟩)
  refine G1 ?_; intro gg
  rw [refR_miss h1]
  (exact ⟨[], aI⟩)
end Go.Proofs.YtkclokmfomnbgaaGreat
namespace Go.Proofs.YtkclokmfomnbgaaGreat
open Go.RowKit Go.Sort Go.Shelf
set_option linter.unusedVariables false
theorem callable_enters {P : Program} {f : FuncId} (h : Callable P f) : ∀ args w, (callFunc f args).run P w = .ok (.enter f args) w := fun args w => by
 obtain ⟨fn, h1, h2, h3⟩ := h
 have h2' : fn.name ≠ "runtime.NumGoroutine" := by simpa using h2
 have h3' : ¬ fn.body = none := by intro q; rw [q] at h3; simp at h3
 simp [callFunc, h1, h2', h3']
theorem world_of_fr {L : Nat → Prop} {w w' : World} (h : Fr L w w') (hL : ∀ b, ¬ L b) : ∃ q os, w' = Go.Sort.grow (w.drewN q) os := by
 refine ⟨w'.drawn - w.drawn, w'.heap.extract w.heap.size w'.heap.size, ?_⟩
 obtain ⟨hp, tp, dr, os, out⟩ := w
 obtain ⟨hp', tp', dr', os', out'⟩ := w'
 obtain ⟨rfl, rfl, rfl, h4, h5, h6⟩ := h
 have h4 : hp.size ≤ hp'.size := h4
 have h6 : dr ≤ dr' := h6
 have e : hp' = hp ++ hp'.extract hp.size hp'.size := by
  apply Array.ext_getElem?
  intro i
  by_cases hi : i < hp.size
  ·rw [Array.getElem?_append_left hi]; exact h5 i hi (hL i)
  ·rw [Array.getElem?_append_right (by omega), Array.getElem?_extract]
   by_cases hi' : i < hp'.size
   ·rw [if_pos (by omega)]; congr 1; omega
   ·rw [if_neg (by omega), Array.getElem?_eq_none (by omega)]
 have e2 : dr' = dr + (dr' - dr) := by omega
 unfold Go.Sort.grow World.drewN
 simp only [World.mk.injEq, true_and, and_true]
 exact ⟨e, e2⟩
section
variable {α : Type} [Inhabited α] {enc : α → Value}
theorem holds_blk {w : World} {g : Nat} {cur : Array Value} {e : TypeId} {ss : List α} (hb : w.heap[g]? = some (.cells cur e (0, 0))) (ht : cur.toList.take ss.length = ss.map enc) : Holds enc w g 0 ss.toArray := by
 intro j hj
 have hj' : j < ss.length := by simpa using hj
 refine ⟨?_, by simp [World.frozen?, hb]⟩
 have h1 : (cur.toList.take ss.length)[j]? = (ss.map enc)[j]? := by rw [ht]
 rw [List.getElem?_take_of_lt hj'] at h1
 simp only [World.cell?, hb, Nat.zero_add]
 simp only [Option.isSome_none, Bool.false_eq_true, if_false]
 rw [← Array.getElem?_toList, h1]
 simp [hj']
theorem heap_srt {w : World} {g n : Nat} {os : Array Obj} {cur : Array Value} {e : TypeId} {fr : Nat × Nat} (d : Array α) (hb : w.heap[g]? = some (.cells cur e fr)) :
  (sortWorld enc w g 0 n d os).heap[g]? = some (.cells (putCells enc 0 d cur) e fr) := by
 have hg : g < w.heap.size := (Array.getElem?_eq_some_iff.1 hb).1
 unfold sortWorld
 rw [heap_grow_old _ _ (by simpa using hg)]
 simp [putRow, mapBlock, Sort.ahead, Array.getElem?_modify, hb, onCells]
theorem heap_else {w : World} {g n k : Nat} {os : Array Obj} (d : Array α) (hk : k < w.heap.size) (hne : k ≠ g) : (sortWorld enc w g 0 n d os).heap[k]? = w.heap[k]? := by
 unfold sortWorld
 rw [heap_grow_old _ _ (by simpa using hk)]
 have : g ≠ k := fun e => hne e.symm
 simp [putRow, mapBlock, Sort.ahead, Array.getElem?_modify, this]
theorem srt_size {w : World} {g n : Nat} {os : Array Obj} (d : Array α) : w.heap.size ≤ (sortWorld enc w g 0 n d os).heap.size := by
 unfold sortWorld Go.Sort.grow; simp
theorem take_cells (cur : Array Value) (ts : List α) (h : ts.length ≤ cur.size) : (putCells enc 0 ts.toArray cur).toList.take ts.length = ts.map enc := by
 apply List.ext_getElem?
 intro j
 by_cases hj : j < ts.length
 ·rw [List.getElem?_take_of_lt hj, Array.getElem?_toList]
  simp [putCells, hj, show j < cur.size by omega]
 ·rw [List.getElem?_take_eq_none (by omega), List.getElem?_eq_none (by simp; omega)]
def oneRow (enc : α → Value) (x : α) : List V := [.v (enc x)]
def srtL (cf : α → α → Int) (d : List α) : List α := d.mergeSort fun x y => !(ltOf cf) y x
omit [Inhabited α] in
theorem rows_one {w : World} {R : Nat → Prop} {G : Nat → Option Loc} {d : List α} {vs : List Value} (hl : vs.length = d.length * 1) (h : RowsR w R G vs 1 (d.map (oneRow enc))) : vs = d.map enc := by
 apply List.ext_getElem?
 intro i
 by_cases hi : i < d.length
 ·obtain ⟨x, h1, _, h2⟩ := h.2 i 0 (oneRow enc d[i]) (.v (enc d[i])) (by simp [hi]) rfl
  rw [Nat.mul_one, Nat.add_zero] at h1
  rw [h1, rv_v h2]; simp [hi]
 ·rw [List.getElem?_eq_none (by omega), List.getElem?_eq_none (by simp; omega)]
omit [Inhabited α] in
theorem one_rows (h1 : OneCell enc) {w : World} {R : Nat → Prop} {G : Nat → Option Loc} (d : List α) : RowsR w R G (d.map enc) 1 (d.map (oneRow enc)) := by
 refine ⟨fun row hr => ?_, fun i j row u hi hj => ?_⟩
 ·obtain ⟨x, _, rfl⟩ := List.mem_map.1 hr; rfl
 ·have hi' : i < d.length := by have := (List.getElem?_eq_some_iff.1 hi).1; simpa using this
  have e : row = oneRow enc d[i] := by rw [List.getElem?_map, List.getElem?_eq_getElem hi'] at hi; simpa using hi.symm
  subst e
  cases j with
  | succ j => simp [oneRow] at hj
  | zero =>
   have e2 : u = .v (enc d[i]) := by simpa [oneRow] using hj.symm
   subst e2
   exact ⟨enc d[i], by simp [hi'], h1 _, .v _⟩
theorem sort_funM {P : Program} {ρ : Ren} (L : SlLaysF.n6 P ρ) (hcall : Callable P (ρ.f 6)) (T : TypeId) (h1 : OneCell enc) (cf : α → α → Int) (hO : SWO (ltOf cf)) (hT : ∀ x y, ltOf cf x y = false → ltOf cf y x = false → x = y) (f : FuncId) (caps : List V) (hfc : Callable P f) (d : List α) (hsz : d.length < 4611686018427387904)
  (hf : d ≠ [] → ∀ x y, Fun P f (.c (.v (enc x)) :: .c (.v (enc y)) :: caps.map .c) [.c (.v (.int .i64 (cf x y)))]) :
  FunM P (ρ.f 6) [.ms T 1 (d.map (oneRow enc)) ((srtL cf d).map (oneRow enc)), .p (.c (.clo f caps))] [] := by
 refine ⟨hcall, fun w R xs F hlt hp => ?_⟩
 match xs, hp with
 | [x0, x1], hp =>
  obtain ⟨F1, F2, ⟨⟨hpos, vs, hown, hrows⟩, hF1⟩, ⟨F3, F4, ⟨hx1, hF3⟩, hnil, hd34, hF2⟩, hd12, hF⟩ := hp
  have hx1 : RV w R noG (.clo f caps) x1 := hx1
  have hF3' : ∀ k, ¬ F3 k := fun k hk => by
   obtain ⟨i, T', sz, rows, x, q1, _⟩ := (hF3 k).1 hk
   cases i with
   | zero => simp at q1
   | succ i => simp at q1
  have hFF : ∀ b, F b ↔ F1 b := fun b => by
   rw [hF b, hF2 b]
   constructor
   ·rintro (q | q | q)
    ·exact q
    ·exact absurd q (hF3' b)
    ·exact absurd q (hnil b)
   ·exact .inl
  cases hx1 with
  | clo f cs xs' hl hcs =>
   have hvs := rows_one (by simpa using hown.1) hrows
   subst hvs
   have hlen : (d.map (oneRow enc)).length = d.length := by simp
   have hslen : (srtL cf d).length = d.length := List.length_mergeSort d
   have fin : ∀ w', Fr F w w' → (∀ b, R b → w'.heap[b]? = w.heap[b]?) → w'.ownsRow 0 T 1 x0 (srtL cf d).length ((srtL cf d).map enc) →
     ∃ (ys : List Value) (R' F' : Nat → Prop), Ending.returned (Value.tuple #[]) = .returned (packV ys) ∧ ([] : List ParM).length = ys.length ∧ Fr F w w' ∧ (∀ b, R b → R' b) ∧ (∀ b, R' b → R b ∨ (b < w'.heap.size ∧ (F b ∨ w.heap.size ≤ b))) ∧
      ParsM w' R' (([] : List ParM) ++ exitsP [.ms T 1 (d.map (oneRow enc)) ((srtL cf d).map (oneRow enc)), .p (.c (.clo f caps))]) (ys ++ exitsX [.ms T 1 (d.map (oneRow enc)) ((srtL cf d).map (oneRow enc)), .p (.c (.clo f caps))] [x0, .func (.func f) #[] xs'.toArray]) F' ∧ (∀ b, F' b → F b ∨ w.heap.size ≤ b) := fun w' hfr hR ho => by
    refine ⟨[], R, F1, rfl, rfl, hfr, fun b hb => hb, fun b hb => .inl hb, ?_, fun b hb => .inl ((hFF b).2 hb)⟩
    refine ⟨F1, fun _ => False, ⟨⟨hpos, (srtL cf d).map enc, by rw [List.length_map]; exact ho, one_rows h1 _⟩, fun k => ?_⟩, fun b hb => hb, fun b hb => ⟨fun q => q, (hd12 b hb).2⟩, fun b => by simp⟩
    rw [hF1 k]
    constructor
    ·rintro ⟨i, T', sz, rows, x, q1, q2, q3⟩
     cases i with
     | zero => simp at q1 q2; exact ⟨0, T, 1, _, x, rfl, by simpa using q2, q3⟩
     | succ i => simp at q1
    ·rintro ⟨i, T', sz, rows, x, q1, q2, q3⟩
     cases i with
     | zero => simp at q1 q2; exact ⟨0, T, 1, _, x, rfl, by simpa using q2, q3⟩
     | succ i => simp at q1
   have hnone : ∀ (p : Option Addr) (cap : Nat), d = [] → x0 = .slice p 0 cap → Calls P (ρ.f 6) [x0, .func (.func f) #[] xs'.toArray].toArray w fun e w' => ∃ (ys : List Value) (R' F' : Nat → Prop), e = .returned (packV ys) ∧ ([] : List ParM).length = ys.length ∧ Fr F w w' ∧ (∀ b, R b → R' b) ∧ (∀ b, R' b → R b ∨ (b < w'.heap.size ∧ (F b ∨ w.heap.size ≤ b))) ∧
      ParsM w' R' (([] : List ParM) ++ exitsP [.ms T 1 (d.map (oneRow enc)) ((srtL cf d).map (oneRow enc)), .p (.c (.clo f caps))]) (ys ++ exitsX [.ms T 1 (d.map (oneRow enc)) ((srtL cf d).map (oneRow enc)), .p (.c (.clo f caps))] [x0, .func (.func f) #[] xs'.toArray]) F' ∧ (∀ b, F' b → F b ∨ w.heap.size ≤ b) := fun p cap hd0 hx => by
    have hs0 : srtL cf d = [] := List.eq_nil_of_length_eq_zero (by rw [hslen, hd0]; rfl)
    have h := AnyF.slices_SortFunc_none (P := P) (ρ := ρ) { L with } p cap (.func (.func f) #[] xs'.toArray) w
    rw [← hx] at h
    refine h.mono ?_
    rintro e w' ⟨rfl, rfl⟩
    refine fin w' (Fr.refl _ _) (fun _ _ => rfl) ?_
    rw [hs0]; rw [hd0] at hown; exact hown
   rcases hown.2 with ⟨hx, hz⟩ | ⟨g, cap, cur, hx, hbase, hb, hnc, hcm, hcs2, htake⟩
   ·exact hnone none 0 (List.eq_nil_of_length_eq_zero (by omega)) hx
   ·by_cases hd0 : d = []
    ·exact hnone _ cap hd0 (by rw [hx, hd0]; rfl)
    ·have hgR : ∀ b, R b → b ≠ g := fun b hb e => by
      have : F1 g := (hF1 g).2 ⟨0, T, 1, _, x0, rfl, rfl, by rw [hx]; rfl⟩
      exact (hd12 g this).2 (e ▸ hb)
     have hgF : F g := (hFF g).2 ((hF1 g).2 ⟨0, T, 1, _, x0, rfl, rfl, by rw [hx]; rfl⟩)
     have hgs : g < w.heap.size := (Array.getElem?_eq_some_iff.1 hb).1
     have hH : Holds enc w g 0 d.toArray := holds_blk hb (by simpa using htake)
     have hcmp : CmpLays1 P f xs'.toArray enc cf g 0 d.toArray.size w := fun m os dk hs x y => by
      have hW : ∀ b, R b → (sortWorld enc w g 0 m dk os).heap[b]? = w.heap[b]? := fun b hb => heap_else dk (hlt b hb) (hgR b hb)
      have hlt' : ∀ b, R b → b < (sortWorld enc w g 0 m dk os).heap.size := fun b hb => Nat.lt_of_lt_of_le (hlt b hb) (srt_size dk)
      have hpars : Pars (sortWorld enc w g 0 m dk os) R (.c (.v (enc x)) :: .c (.v (enc y)) :: caps.map .c) (enc x :: enc y :: xs') := by
       have hc : ∀ p ∈ (.c (.v (enc x)) :: .c (.v (enc y)) :: caps.map .c : List Par), ∃ u, p = .c u := fun p hp => by
        simp only [List.mem_cons, List.mem_map] at hp
        rcases hp with rfl | rfl | ⟨u, _, rfl⟩ <;> exact ⟨_, rfl⟩
       refine ⟨by simp [hl], fun i p z q1 q2 => ?_, fun i j T1 s1 r1 T2 s2 r2 z1 z2 b _ q1 => ?_, fun b hb => absurd hb (no_blk hc)⟩
       ·match i with
        | 0 => simp at q1 q2; subst q1 q2; exact .v _
        | 1 => simp at q1 q2; subst q1 q2; exact .v _
        | i + 2 =>
         simp only [List.getElem?_cons_succ, List.getElem?_map] at q1 q2
         cases hu : caps[i]? with
         | none => rw [hu] at q1; cases q1
         | some u =>
          rw [hu] at q1; injection q1 with q1; subst q1
          exact (hcs i u z hu q2).mono (fun b hb => ⟨hb, hW b hb⟩) (Gle.refl _)
       ·obtain ⟨u, hu⟩ := hc _ (List.mem_of_getElem? q1)
        cases hu
      have := (hf hd0 x y).2 _ R _ hlt' hpars
      have e0 : (#[enc x, enc y] ++ xs'.toArray : Array Value) = (enc x :: enc y :: xs').toArray := by simp
      rw [e0]
      refine this.mono fun e w' ⟨ys, R', he, hfr, _, _, hr, _⟩ => ?_
      have hy : ys = [.int .i64 (cf x y)] := pars_v (xs := [.int .i64 (cf x y)]) hr
      subst hy
      refine ⟨he, world_of_fr hfr fun b hb => no_blk (fun p hp => ?_) hb⟩
      simp only [List.mem_cons, List.mem_map] at hp
      rcases hp with rfl | rfl | ⟨u, _, rfl⟩ <;> exact ⟨_, rfl⟩
     have h := Any.slices_SortFunc_total L enc h1 cf hO f xs'.toArray g 0 cap d.toArray w (callable_enters hfc) hcmp hH hgs (by simpa using hsz) hT
     have e1 : x0 = .slice (some ⟨g, 0, none⟩) d.toArray.size cap := by rw [hx]; simp
     rw [← e1] at h
     refine h.mono ?_
     rintro e w' ⟨rfl, n, os, rfl⟩
     have hto : d.toArray.toList = d := by simp
     rw [hto]
     refine fin _ ⟨rfl, rfl, rfl, srt_size _, fun k hk hn => heap_else _ hk (fun e => hn (e ▸ hgF)), Nat.le_add_right _ _⟩ (fun b hb => heap_else _ (hlt b hb) (hgR b hb)) ?_
     rw [hx, hlen, ← hslen]
     refine ⟨by simp, .inr ⟨g, cap, _, rfl, Nat.zero_le _, heap_srt _ hb, by rw [hslen]; rw [hlen] at hnc; exact hnc, hcm, by simp [putCells, hcs2], ?_⟩⟩
     rw [Nat.mul_one]
     exact take_cells cur _ (by rw [hslen, hcs2]; rw [hlen] at hnc; omega)
end
end Go.Proofs.YtkclokmfomnbgaaGreat
namespace Go.Proofs.YtkclokmfomnbgaaGreat
open Go.Shelf
def Tryz.sortI_ren : Go.Shelf.Ren := ⟨fun | 6 => 120 | 15 => 127 | 14 => 164 | 28 => 174 | 29 => 175 | 20 => 193 | 21 => 194 | 22 => 195 | 23 => 196 | 24 => 197 | 25 => 198 | 26 => 199 | 27 => 200 | 46 => 212 | 47 => 202 | 48 => 203 | 49 => 213 | 50 => 214 | 57 => 220 | n => n, fun | 22 => 150 | 24 => 3 | 25 => 153 | 3 => 3 | 39 => 157 | 0 => 0 | 53 => 195 | 55 => 197 | 4 => 4 | 46 => 189 | 45 => 188 | 50 => 76 | 5 => 5 | 9 => 9 | 66 => 209 | 70 => 213 | 76 => 220 | 77 => 221 | n => n, fun | n => n⟩
theorem Tryz.sortI : Go.Proofs.SlLaysF.n6 Tryz.prog Tryz.sortI_ren := {
 mixed := by kernel_rfl
 f6 := ⟨Tryz.f120.name, by decide, Tryz.func120.trans (congrArg some (by kernel_rfl))⟩
 f14 := ⟨Tryz.f164.name, by decide, Tryz.func164.trans (congrArg some (by kernel_rfl))⟩
 f15 := Tryz.func127.trans (congrArg some (by kernel_rfl))
 f20 := ⟨Tryz.f193.name, by decide, Tryz.func193.trans (congrArg some (by kernel_rfl))⟩
 f21 := ⟨Tryz.f194.name, by decide, Tryz.func194.trans (congrArg some (by kernel_rfl))⟩
 f22 := ⟨Tryz.f195.name, by decide, Tryz.func195.trans (congrArg some (by kernel_rfl))⟩
 f23 := ⟨Tryz.f196.name, by decide, Tryz.func196.trans (congrArg some (by kernel_rfl))⟩
 f24 := ⟨Tryz.f197.name, by decide, Tryz.func197.trans (congrArg some (by kernel_rfl))⟩
 f25 := ⟨Tryz.f198.name, by decide, Tryz.func198.trans (congrArg some (by kernel_rfl))⟩
 f26 := ⟨Tryz.f199.name, by decide, Tryz.func199.trans (congrArg some (by kernel_rfl))⟩
 f27 := ⟨Tryz.f200.name, by decide, Tryz.func200.trans (congrArg some (by kernel_rfl))⟩
 f28 := Tryz.func174.trans (congrArg some (by kernel_rfl))
 f29 := Tryz.func175.trans (congrArg some (by kernel_rfl))
 f46 := ⟨Tryz.f212.name, by decide, Tryz.func212.trans (congrArg some (by kernel_rfl))⟩
 f47 := Tryz.func202.trans (congrArg some (by kernel_rfl))
 f48 := Tryz.func203.trans (congrArg some (by kernel_rfl))
 f49 := ⟨Tryz.f213.name, by decide, Tryz.func213.trans (congrArg some (by kernel_rfl))⟩
 f50 := ⟨Tryz.f214.name, by decide, Tryz.func214.trans (congrArg some (by kernel_rfl))⟩
 f57 := ⟨Tryz.f220.name, by decide, Tryz.func220.trans (congrArg some (by kernel_rfl))⟩
 t0 := Tryz.underlying0
 a0 := Tryz.isAgg0
 z0 := Tryz.sizeOf0
 v0 := Tryz.zeroValue0
 t3 := Tryz.underlying3
 a3 := Tryz.isAgg3
 z3 := Tryz.sizeOf3
 v3 := Tryz.zeroValue3
 t4 := Tryz.underlying4
 a4 := Tryz.isAgg4
 z4 := Tryz.sizeOf4
 v4 := Tryz.zeroValue4
 t5 := Tryz.underlying5
 a5 := Tryz.isAgg5
 z5 := Tryz.sizeOf5
 v5 := Tryz.zeroValue5
 t9 := Tryz.underlying9
 a9 := Tryz.isAgg9
 z9 := Tryz.sizeOf9
 v9 := Tryz.zeroValue9
 t22 := Tryz.underlying150
 a22 := Tryz.isAgg150
 z22 := Tryz.sizeOf150
 v22 := Tryz.zeroValue150
 a24 := Tryz.isAgg3
 z24 := Tryz.sizeOf3
 t25 := Tryz.underlying153
 a25 := Tryz.isAgg153
 z25 := Tryz.sizeOf153
 v25 := Tryz.zeroValue153
 t39 := Tryz.underlying157
 a39 := Tryz.isAgg157
 z39 := Tryz.sizeOf157
 v39 := Tryz.zeroValue157
 t45 := Tryz.underlying188
 a45 := Tryz.isAgg188
 z45 := Tryz.sizeOf188
 v45 := Tryz.zeroValue188
 t46 := Tryz.underlying189
 a46 := Tryz.isAgg189
 z46 := Tryz.sizeOf189
 v46 := Tryz.zeroValue189
 t50 := Tryz.underlying76
 a50 := Tryz.isAgg76
 z50 := Tryz.sizeOf76
 v50 := Tryz.zeroValue76
 t53 := Tryz.underlying195
 a53 := Tryz.isAgg195
 z53 := Tryz.sizeOf195
 v53 := Tryz.zeroValue195
 t55 := Tryz.underlying197
 a55 := Tryz.isAgg197
 z55 := Tryz.sizeOf197
 v55 := Tryz.zeroValue197
 t66 := Tryz.underlying209
 a66 := Tryz.isAgg209
 z66 := Tryz.sizeOf209
 v66 := Tryz.zeroValue209
 t70 := Tryz.underlying213
 a70 := Tryz.isAgg213
 z70 := Tryz.sizeOf213
 v70 := Tryz.zeroValue213
 t76 := Tryz.underlying220
 a76 := Tryz.isAgg220
 z76 := Tryz.sizeOf220
 v76 := Tryz.zeroValue220
 t77 := Tryz.underlying221
 a77 := Tryz.isAgg221
 z77 := Tryz.sizeOf221
 v77 := Tryz.zeroValue221 }
end Go.Proofs.YtkclokmfomnbgaaGreat
namespace Go.Proofs.YtkclokmfomnbgaaGreat
open Go.RowKit Go.Sort Go.Shelf Pl
set_option linter.unusedVariables false
abbrev Ix (l : List Ru) := Fin (l.length - 1 + 1)
def ixE (l : List Ru) (x : Ix l) : Value := .int .i64 (x.val : Int)
def ixC (l : List Ru) (x y : Ix l) : Int := firstNZ [icmp (tt l x.val) (tt l y.val), icmp y.val x.val]
def ixD (l : List Ru) : List (Ix l) := (List.range l.length).map fun i => Fin.ofNat _ i
theorem ixC_neg {l : List Ru} {x y : Ix l} : ixC l x y < 0 ↔ tt l x.val < tt l y.val ∨ (tt l x.val = tt l y.val ∧ y.val < x.val) := by
 unfold ixC firstNZ icmp
 simp only [firstNZ]
 split <;> split <;> (try split) <;> (try split) <;> (try split) <;> omega
theorem ix_lt {l : List Ru} (x y : Ix l) : ltOf (ixC l) x y = befB l x.val y.val := by
 unfold ltOf
 rw [Bool.eq_iff_iff, befB_iff, decide_eq_true_iff, ixC_neg]
theorem ix_swo (l : List Ru) : SWO (ltOf (ixC l)) where
 irrefl x := by rw [ix_lt, Bool.eq_false_iff]; intro h; rw [befB_iff] at h; omega
 trans x y z h1 h2 := by rw [ix_lt, befB_iff] at *; omega
 ntrans x y z h1 h2 := by
  rw [ix_lt, Bool.eq_false_iff] at *
  intro h
  have h1 := mt befB_iff.2 h1
  have h2 := mt befB_iff.2 h2
  rw [befB_iff] at h
  omega
theorem ix_tot (l : List Ru) : ∀ x y : Ix l, ltOf (ixC l) x y = false → ltOf (ixC l) y x = false → x = y := fun x y h1 h2 => by
 rw [ix_lt, Bool.eq_false_iff] at *
 have h1 := mt befB_iff.2 h1
 have h2 := mt befB_iff.2 h2
 exact Fin.ext (by omega)
def ordL (l : List Ru) : List Nat := (srtL (ixC l) (ixD l)).map (·.val)
theorem ixD_val (l : List Ru) : (ixD l).map (·.val) = List.range l.length := by
 unfold ixD
 rw [List.map_map]
 apply List.ext_getElem?
 intro i
 simp only [List.getElem?_map, List.getElem?_range]
 by_cases hi : i < l.length
 ·rw [List.getElem?_eq_getElem (by simpa using hi)]
  simp [Fin.ofNat, Nat.mod_eq_of_lt (by omega : i < l.length - 1 + 1)]
 ·rw [List.getElem?_eq_none (by simpa using hi)]; rfl
theorem ordL_perm (l : List Ru) : (ordL l).Perm (List.range l.length) := by
 rw [← ixD_val]
 exact (List.mergeSort_perm _ _).map _
theorem ordL_ok (l : List Ru) : Ordd l (ordL l) := by
 have hp := ordL_perm l
 have hnd : (ordL l).Nodup := hp.nodup_iff.2 List.nodup_range
 refine ⟨by simpa using hp.length_eq, hnd, fun i => by rw [hp.mem_iff, List.mem_range], fun i j hi hj hij => ?_⟩
 have hs : (srtL (ixC l) (ixD l)).Pairwise fun x y => (!(ltOf (ixC l)) y x) = true := by
  refine List.pairwise_mergeSort (fun a b c h1 h2 => ?_) (fun a b => ?_) _
  ·have h1' : ltOf (ixC l) b a = false := by simpa using h1
   have h2' : ltOf (ixC l) c b = false := by simpa using h2
   simpa using (ix_swo l).ntrans c b a h2' h1'
  ·cases q : ltOf (ixC l) b a with
   | false => rfl
   | true =>
    have : ltOf (ixC l) a b = false := by
     cases q2 : ltOf (ixC l) a b with
     | false => rfl
     | true => have := (ix_swo l).trans a b a q2 q; rw [(ix_swo l).irrefl a] at this; cases this
    simp [this]
 have hi' : i < (srtL (ixC l) (ixD l)).length := by simpa [ordL] using hi
 have hj' : j < (srtL (ixC l) (ixD l)).length := by simpa [ordL] using hj
 have h := List.pairwise_iff_getElem.1 hs i j hi' hj' hij
 have h' : ltOf (ixC l) (srtL (ixC l) (ixD l))[j] (srtL (ixC l) (ixD l))[i] = false := by simpa using h
 rw [ix_lt, Bool.eq_false_iff] at h'
 have h' := mt befB_iff.2 h'
 have e1 : (ordL l)[i] = ((srtL (ixC l) (ixD l))[i]).val := by simp [ordL]
 have e2 : (ordL l)[j] = ((srtL (ixC l) (ixD l))[j]).val := by simp [ordL]
 have hne : (ordL l)[i] ≠ (ordL l)[j] := fun e => by have := nd_inj hnd hi hj e; omega
 rw [befB_iff]
 rw [e1, e2] at hne ⊢
 omega
theorem takeC_fun (c : Bool) (l : List Ru) (i k : Nat) (hi : i < l.length) (hk : k < l.length) (hl : l.length ≤ 20) : Fun Tryz.prog 121 [.c (.v (.int .i64 i)), .c (.v (.int .i64 k)), .c (.rptr [.sl c (l.map Ru.row)] 0)] [.c (.v (.int .i64 (firstNZ [icmp (tt l i) (tt l k), icmp k i])))] := by
 rw [tt_at hi, tt_at hk]
 refine fun_x ck_rumor_Take_1 rfl ?_
 refine G0 ?_
 refine ⟨i, _, rfl, row_map hi, ?_⟩
 refine G0 ?_
 refine ⟨k, _, rfl, row_map hk, ?_⟩
 refine G0 ?_
 (refine ⟨_, _, false, aI, cmpi_fun _ _, nobor, nI, ?_⟩)
 refine G1 ?_; intro gg
 (refine .inl ⟨_, _, false, [], aI, cmpi_fun _ _, nobor, nI, ?_⟩)
 (refine goI ?_; repeat (intro gg; refine goI ?_))
 (refine .inl ⟨_, _, true, [], aI, or_fun false [icmp l[i].t l[k].t, icmp k i] (by simp), (fun _ => fI), nI, ?_⟩)
 refine G1 ?_; intro gg
 (exact ⟨[], aI⟩)
theorem takeD_fun (x : Ru) (times : Int) : Fun Tryz.prog 125 [.c (.agg x.row), .c (.rptr [.v (.int .i64 times)] 0)] [.c (.v (.bool (decide (times ≤ x.t))))] := by
 refine fun_x ck_rumor_Take_2 rfl ?_
 refine G1 ?_; intro gg
 (exact ⟨[], aI⟩)
theorem takeSort_fun (c : Bool) (l : List Ru) (hl : l.length ≤ 20) : FunM Tryz.prog 120 [.ms 3 1 ((List.range l.length).map fun (i : Nat) => [.v (.int .i64 (i : Int))]) ((ordL l).map fun (i : Nat) => [.v (.int .i64 (i : Int))]), .p (.c (.clo 121 [.rptr [.sl c (l.map Ru.row)] 0]))] [] := by
 have h := sort_funM (enc := ixE l) Tryz.sortI (callable Tryz.func120 (by kernel_rfl) (by kernel_rfl)) 3 (fun _ => rfl) (ixC l) (ix_swo l) (ix_tot l) 121 [.rptr [.sl c (l.map Ru.row)] 0]
  (callable Tryz.func121 (by kernel_rfl) (by kernel_rfl)) (ixD l) (by simp [ixD]; omega) (fun hd x y => by
   have hn : l.length ≠ 0 := fun e => hd (List.eq_nil_of_length_eq_zero (by simp [ixD, e]))
   have hx := x.isLt
   have hy := y.isLt
   exact takeC_fun c l x.val y.val (by omega) (by omega) hl)
 have e1 : (ixD l).map (oneRow (ixE l)) = (List.range l.length).map fun (i : Nat) => [V.v (.int .i64 (i : Int))] := by
  rw [← ixD_val, List.map_map]; rfl
 have e2 : (srtL (ixC l) (ixD l)).map (oneRow (ixE l)) = (ordL l).map fun (i : Nat) => [V.v (.int .i64 (i : Int))] := by
  unfold ordL; rw [List.map_map]; rfl
 rw [e1, e2] at h
 exact h
end Go.Proofs.YtkclokmfomnbgaaGreat
namespace Go.Proofs.YtkclokmfomnbgaaGreat
open Go.RowKit Pl
set_option linter.unusedVariables false
def iRow (i : Nat) : List V := [.v (.int .i64 (i : Int))]
instance : FlatRow iRow := ⟨fun x u hu => by simp [iRow] at hu; exact ⟨_, hu⟩⟩
noncomputable def takeRu (l : List Ru) (most times : Int) : Int × List Mb × List Ru :=
 if ckRu l ≠ 0 then (ckRu l, [], []) else if most < 1 ∨ 20 < most ∨ times < 1 ∨ 100 < times then (3, [], []) else (0, takeR l (ordL l) most times)
theorem takeRu_ck {l : List Ru} {most times : Int} (h : ckRu l ≠ 0) : takeRu l most times = (ckRu l, [], []) := by simp [takeRu, h]
theorem takeRu_rng {l : List Ru} {most times : Int} (h : ckRu l = 0) (h2 : most < 1 ∨ 20 < most ∨ times < 1 ∨ 100 < times) : takeRu l most times = (3, [], []) := by simp [takeRu, h, h2]
theorem takeRu_ok {l : List Ru} {most times : Int} (h : ckRu l = 0) (h2 : ¬ (most < 1 ∨ 20 < most ∨ times < 1 ∨ 100 < times)) : takeRu l most times = (0, takeR l (ordL l) most times) := by simp [takeRu, h, h2]
def upTo (n k : Nat) : List Nat := List.range k ++ List.replicate (n - k) 0
theorem upTo_full (n : Nat) : upTo n n = List.range n := by simp [upTo]
theorem upTo_len {n k : Nat} (h : k ≤ n) : (upTo n k).length = n := by simp [upTo]; omega
theorem upTo_set {n k : Nat} (h : k < n) : (upTo n k).set k k = upTo n (k + 1) := by
 unfold upTo
 rw [List.set_append_right _ _ (by simp), List.length_range, Nat.sub_self, List.range_succ, List.append_assoc]
 congr 1
 rw [show n - k = (n - (k + 1)) + 1 by omega, List.replicate_succ]; rfl
theorem ruTake_fun (l : List Ru) (most times : Int) (hl : l.length ≤ 9223372036854775807) (hw : ∀ r ∈ l, r.m.ok) : Fun Tryz.prog 62 [.c (.sl false (l.map Ru.row)), .c (.v (.int .i64 most)), .c (.v (.int .i64 times))]
  [.o 37 5 ((takeRu l most times).2.1.map Mb.row), .o 80 6 ((takeRu l most times).2.2.map Ru.row), .c (.v (.int .i64 (takeRu l most times).1))] := by
 have key := takeSort_fun false l
 refine fun_x ck_rumor_Take rfl ?_
 (refine goI ?_; repeat (intro gg; refine goI ?_))
 (refine .inl ⟨_, _, false, [], aI, ruCheck_fun false l hl hw, nobor, nI, ?_⟩)
 refine G1 ?_; intro gg
 (refine bIf_of (fun h1 => ?_) (fun h1 => ?_) <;> rw [h1])
 ·have h1' : ckRu l ≠ 0 := by simpa using h1
  rw [takeRu_ck h1']
  refine G0 ?_
  (exact ⟨[], aI⟩)
 ·have h1' : ckRu l = 0 := by simpa using h1
  have hi := ckRu_inv h1'
  have hlen := hi.len
  refine G0 ?_
  (refine bIf_of (fun q1 => ?_) (fun q1 => ?_) <;> rw [q1])
  ·rw [takeRu_rng h1' (by have := of_decide_eq_true q1; omega)]
   refine G0 ?_
   (exact ⟨[], aI⟩)
  ·have q1' : ¬ most < 1 := of_decide_eq_false q1
   refine G0 ?_
   (refine bIf_of (fun q2 => ?_) (fun q2 => ?_) <;> rw [q2])
   ·rw [takeRu_rng h1' (by have := of_decide_eq_true q2; omega)]
    refine G0 ?_
    (exact ⟨[], aI⟩)
   ·have q2' : ¬ 20 < most := of_decide_eq_false q2
    refine G0 ?_
    (refine bIf_of (fun q3 => ?_) (fun q3 => ?_) <;> rw [q3])
    ·rw [takeRu_rng h1' (by have := of_decide_eq_true q3; omega)]
     refine G0 ?_
     (exact ⟨[], aI⟩)
    ·have q3' : ¬ times < 1 := of_decide_eq_false q3
     refine G0 ?_
     (refine bIf_of (fun q4 => ?_) (fun q4 => ?_) <;> rw [q4])
     ·rw [takeRu_rng h1' (by have := of_decide_eq_true q4; omega)]
      refine G0 ?_
      (exact ⟨[], aI⟩)
     ·have q4' : ¬ 100 < times := of_decide_eq_false q4
      rw [takeRu_ok h1' (by omega)]
      have ho := ordL_ok l
      have hol := ho.len
      refine G0 ?_
      refine ⟨l.length, by simp, by simp, by simp only [maxLen]; omega, by omega, ?_⟩
      have e0 : List.replicate l.length ([Value.int .i64 0].map V.v) = (upTo l.length 0).map iRow := by simp [upTo, iRow]
      rw [e0]
      refine G1 ?_; intro gg
      rename Nat => g0
      (refine ⟨[], none, {k : Nat // k ≤ l.length}, [1, 3, 5, 10, 38], fun ⟨k, hk⟩ => [(39, .v (.int .i64 k))], [48, 80], fun ⟨k, hk⟩ => [(576, ⟨g0, 3, 1, (upTo l.length k).map iRow⟩)], fun ⟨k, hk⟩ => l.length - k, trivial, fun _ => ⟨trivial, fun _ => ⟨⟨0, Nat.zero_le _⟩, tI, keptE_refl _ _, tI, keptH_refl _ _⟩⟩, fun ⟨k, hk⟩ => ?_⟩)
      refine G0 ?_
      have hul : ((upTo l.length 0).map iRow).length = l.length := by rw [List.length_map, upTo_len (Nat.zero_le _)]
      (refine bIf_of (fun h2 => ?_) (fun h2 => ?_) <;> rw [h2])
      ·have hlt : k < l.length := by have := of_decide_eq_true h2; rw [hul] at this; omega
       refine G0 ?_
       have hku : k < (upTo l.length k).length := by rw [upTo_len hk]; exact hlt
       refine ⟨k, _, rfl, row_map hku, ?_⟩
       refine G0 ?_
       have e : ((upTo l.length k).map iRow).set k (iRow k) = (upTo l.length (k + 1)).map iRow := by rw [← upTo_set hlt, List.map_set]
       (exact ⟨none, trivial, fun gr => ⟨⟨k + 1, by omega⟩, by show l.length - (k + 1) < l.length - k; omega, tI, tI, ⟨congrArg (fun r => some (Ent.mk g0 (.t 3) 1 r)) e, trivial⟩, tI⟩⟩)
      ·have hge : ¬ k < l.length := by have := of_decide_eq_false h2; rw [hul] at this; omega
       obtain rfl : k = l.length := by omega
       have key' : FunM Tryz.prog 120 [.ms 3 1 ((upTo l.length l.length).map iRow) ((ordL l).map iRow), .p (.c (.clo 121 [.rptr [.sl false (l.map Ru.row)] 0]))] [] := by
        rw [upTo_full]; exact key hlen
       have hc : Fun Tryz.prog 116 [.c (.sl false (l.map Ru.row))] [.o 80 6 ((bumpS l ((ordL l).take 0)).map Ru.row)] := by
        rw [List.take_zero, bumpS_nil]; exact cloneRu_fun false l (by omega)
       refine G0 ?_
       refine .inr (.inl ⟨_, _, true, [576], aM_ms rfl cl_rows (by decide) (by decide) (by rw [List.length_map, List.length_map, hol, upTo_len (Nat.le_refl _)]) (aM_borc (cap_p rfl rfl rfl cl_r1b (by decide) cap_n) (.nil _)), key', (fun _ => mfI), oI, (by exact (by decide : ([576] : List Nat).Nodup)), ?_⟩)
       refine G1 ?_; intro gg
       (refine .inl ⟨_, _, false, [], aI, hc, nobor, nI, ?_⟩)
       refine G1 ?_; intro gg
       rename Nat → Nat => g8
       have hbl : ((bumpS l ((ordL l).take 0)).map Ru.row).length = l.length := by rw [List.length_map, bumpS_len]
       have em : min most ((((bumpS l ((ordL l).take 0)).map Ru.row).length : Nat) : Int) = ((min most.toNat l.length : Nat) : Int) := by rw [hbl]; omega
       have hN1 : min most.toNat l.length ≤ l.length := Nat.min_le_right _ _
       unfold takeR
       generalize hN : min most.toNat l.length = N at *
       refine ⟨0, 0, N, rfl, rfl, ⟨.i64, congrArg (fun x => V.v (.int .i64 x)) em⟩, Nat.zero_le _, by show N ≤ ((ordL l).map iRow).length; rw [List.length_map, hol]; exact hN1, rfl, rfl, fun g => ?_⟩
       refine G0 ?_
       have hNl : (((ordL l).map iRow).take N).length = N := by rw [List.length_take, List.length_map, hol]; omega
       have hcg : ∀ k, (hk : k < (ordL l).length) → (ordL l)[k] < l.length := fun k hk => (ho.mem _).1 (List.getElem_mem hk)
       (refine ⟨[(12, 192, 37, 5)], none, {p : Nat × Nat // p.1 ≤ N}, [3, 5, 57, 58], fun ⟨⟨k, g2⟩, hk⟩ => [(12, .own 192 g2), (59, .v (.int .i64 k))], [48, 80, 576], fun ⟨⟨k, g2⟩, hk⟩ => [(192, ⟨g2, 37, 5, (toldL l ((ordL l).take k)).map Mb.row⟩), (816, ⟨g8 816, 80, 6, (bumpS l ((ordL l).take k)).map Ru.row⟩)], fun ⟨⟨k, g2⟩, hk⟩ => N - k, (by exact ⟨rfl, by decide, (fun _ _ _ _ h => by cases h), trivial⟩), fun gs => ⟨trivial, fun _ => ⟨⟨(0, gs 192), Nat.zero_le _⟩, tI, tI, tI, tI⟩⟩, fun ⟨⟨k, g2⟩, hk⟩ => ?_⟩)
       refine G0 ?_
       (refine bIf_of (fun h2 => ?_) (fun h2 => ?_) <;> rw [h2])
       ·have hlt : k < N := by have := of_decide_eq_true h2; simp only [hNl] at this; omega
        have hko : k < (ordL l).length := by omega
        have hi' := hcg k hko
        have hb : (bumpS l ((ordL l).take k))[(ordL l)[k]]'(by rw [bumpS_len]; exact hi') = l[(ordL l)[k]] := by rw [bumpS_at hi', if_neg (not_took ho.nd hko)]
        have hrow : (((ordL l).map iRow).take N)[k]? = some (iRow (ordL l)[k]) := by rw [List.getElem?_take_of_lt hlt]; exact row_map hko
        have hrow2 : ((bumpS l ((ordL l).take k)).map Ru.row)[(ordL l)[k]]? = some (Ru.row l[(ordL l)[k]]) := by rw [row_map (by rw [bumpS_len]; exact hi'), hb]
        have ht := hi.rng _ hi'
        have htl : (toldL l ((ordL l).take k)).length ≤ 20 := Nat.le_trans (List.length_filterMap_le _ _) (by rw [List.length_take]; omega)
        have e1 : (toldL l ((ordL l).take k)).map Mb.row ++ [Mb.row (l[(ordL l)[k]]).m] = (toldL l ((ordL l).take (k + 1))).map Mb.row := by
         rw [take_snoc hko, toldL_snoc hi', List.map_append]; rfl
        have e2 : ((bumpS l ((ordL l).take k)).map Ru.row).set (ordL l)[k] (Ru.row ⟨(l[(ordL l)[k]]).m, (l[(ordL l)[k]]).t + 1⟩) = (bumpS l ((ordL l).take (k + 1))).map Ru.row := by
         rw [take_snoc hko, ← bumpS_set hi', List.map_set]
        refine G0 ?_
        refine ⟨k, _, rfl, hrow, ?_⟩
        refine G0 ?_
        refine ⟨_, hrow, ?_⟩
        refine G0 ?_
        refine ⟨(ordL l)[k], _, rfl, hrow2, ?_⟩
        refine G0 ?_
        refine ⟨_, hrow2, ?_⟩
        refine G1 ?_; intro gg
        refine ⟨lI, lI, ?_⟩
        refine G1 ?_; intro gg
        refine ⟨(ordL l)[k], _, rfl, hrow2, ?_⟩
        refine G0 ?_
        refine ⟨_, hrow2, ?_⟩
        refine G0 ?_
        refine ⟨(ordL l)[k], _, rfl, hrow2, ?_⟩
        refine G0 ?_
        refine ⟨_, hrow2, ?_⟩
        refine G0 ?_
        exact ⟨none, trivial, fun gr => ⟨⟨(k + 1, gg), by dsimp only; omega⟩, by show N - (k + 1) < N - k; omega, tI, tI, ⟨congrArg (fun r => some (Ent.mk gg (.t 37) 5 r)) e1, congrArg (fun r => some (Ent.mk (g8 816) (.t 80) 6 r)) e2, trivial⟩, tI⟩⟩
       ·have hge : ¬ k < N := by have := of_decide_eq_false h2; simp only [hNl] at this; omega
        obtain rfl : k = N := by dsimp only at hk; omega
        have hd := deleteFRu_fun (bumpS l ((ordL l).take k)) 125 [.rptr [.v (.int .i64 times)] 0] (fun u hu => by simp only [List.mem_cons, List.not_mem_nil, or_false] at hu; subst hu; exact cl_rptr (cl_row rfl)) (fun r => decide (times ≤ r.t)) (by rw [bumpS_len]; omega) (fun x _ => takeD_fun x times)
        refine G0 ?_
        have ek : keep (fun r => decide (times ≤ r.t)) (bumpS l ((ordL l).take k)) = restL (bumpS l ((ordL l).take k)) times := by
         unfold keep restL
         congr 1
         funext r
         show (!(decide (times ≤ r.t))) = decide (r.t < times)
         by_cases q : r.t < times
         ·simp [q]
         ·simp [q, show times ≤ r.t by omega]
        rw [ek] at hd
        (refine .inl ⟨_, _, true, [816], aI, hd, (fun _ => fI), nI, ?_⟩)
        refine G1 ?_; intro gg
        (exact ⟨[192, 1328], aI⟩)
end Go.Proofs.YtkclokmfomnbgaaGreat
namespace Go.Proofs.YtkclokmfomnbgaaGreat
open Go.RowKit Pl
set_option linter.unusedVariables false
theorem toldL_len {l : List Ru} {o : List Nat} (h : Ordd l o) {k : Nat} (hk : k ≤ o.length) : (toldL l (o.take k)).length = k := by
 induction k with
 | zero => rfl
 | succ k ih =>
  have hi := (h.mem _).1 (List.getElem_mem (show k < o.length by omega))
  rw [take_snoc (by omega), toldL_snoc hi, List.length_append, ih (by omega)]; rfl
end Go.Proofs.YtkclokmfomnbgaaGreat
namespace Go.Proofs.YtkclokmfomnbgaaGreat
open Go.RowKit Pl
set_option linter.unusedVariables false
namespace Pl
theorem toldL_cons {l : List Ru} {s : List Nat} {i : Nat} (h : i < l.length) : toldL l (i :: s) = l[i].m :: toldL l s := by simp [toldL, h]
theorem toldL_mem {l : List Ru} : ∀ {s : List Nat} {m : Mb}, m ∈ toldL l s → ∃ i, i ∈ s ∧ ∃ h : i < l.length, m = l[i].m := fun {s m} h => by
 unfold toldL at h
 obtain ⟨i, hi, hm⟩ := List.mem_filterMap.1 h
 cases hq : l[i]? with
 | none => rw [hq] at hm; cases hm
 | some r =>
  rw [hq] at hm
  obtain ⟨hl, e⟩ := List.getElem?_eq_some_iff.1 hq
  exact ⟨i, hi, hl, by rw [e]; exact (Option.some.inj hm).symm⟩
theorem toldL_nd {l : List Ru} (hn : (l.map Ru.nm).Nodup) : ∀ {s : List Nat}, s.Nodup → (∀ i ∈ s, i < l.length) → ((toldL l s).map Mb.n).Nodup
 | [], _, _ => by simp [toldL]
 | i :: s, hs, hb => by
  have hi := hb i (by simp)
  rw [toldL_cons hi, List.map_cons, List.nodup_cons]
  rw [List.nodup_cons] at hs
  refine ⟨fun hm => ?_, toldL_nd hn hs.2 fun j hj => hb j (by simp [hj])⟩
  obtain ⟨m, h1, h2⟩ := List.mem_map.1 hm
  obtain ⟨j, h3, h4, rfl⟩ := toldL_mem h1
  have := nd_get hn h4 hi h2
  exact hs.1 (this ▸ h3)
def timesN (n : Nd) : Int := max 1 (timesL (liveS n.ms).length)
noncomputable def toldN (n : Nd) : List Mb := (takeR n.rs (ordL n.rs) 5 (timesN n)).1
noncomputable def restN (n : Nd) : List Ru := (takeR n.rs (ordL n.rs) 5 (timesN n)).2
noncomputable def tellN (n : Nd) : Nd := { n with rs := restN n }
noncomputable def tellP (n : Nd) : Pk := ⟨n.nm, false, srtN (toldN n), [], [], []⟩
noncomputable def tellM (n : Nd) : Nd × Pk := if n.err ≠ 0 then (nd0, pk0) else (tellN n, tellP n)
theorem tellM_e {n : Nd} (h : n.err ≠ 0) : tellM n = (nd0, pk0) := if_pos h
theorem tellM_ok {n : Nd} (h : n.err = 0) : tellM n = (tellN n, tellP n) := if_neg (by simp [h])
theorem timesN_bd (n : Nd) : 1 ≤ timesN n ∧ timesN n ≤ 100 := by
 unfold timesN timesL
 constructor
 ·omega
 ·split <;> (try split) <;> (try split) <;> (try split) <;> (try split) <;> omega
theorem told_facts {n : Nd} (h : RuOk n.rs) : (toldN n).length ≤ 5 ∧ ((toldN n).map Mb.n).Nodup ∧ ∀ m ∈ toldN n, ∃ r ∈ n.rs, m = r.m := by
 have ho := ordL_ok n.rs
 have e : toldN n = toldL n.rs ((ordL n.rs).take (min 5 n.rs.length)) := rfl
 rw [e]
 refine ⟨?_, toldL_nd h.nd (ho.nd.sublist (List.take_sublist _ _)) fun i hi => (ho.mem i).1 (List.mem_of_mem_take hi), fun m hm => ?_⟩
 ·rw [toldL_len ho (by have := ho.len; omega)]; omega
 ·obtain ⟨i, _, h2, h3⟩ := toldL_mem hm
  exact ⟨_, List.getElem_mem h2, h3⟩
theorem take_ok {n : Nd} (h : ckRu n.rs = 0) : takeRu n.rs 5 (timesN n) = (0, toldN n, restN n) := by
 have := timesN_bd n
 rw [takeRu_ok h (by omega)]; rfl
end Pl
theorem retn3 {env : Nat → V} {H : Nat → Option Ent} {ts : List RT} {cs cs' ds ds' : List V} {v : V} {all : List Nat} (hG : GetR env H ts [.agg cs, .agg ds, v]) (hc : CellsB H [] cs cs') (hd : CellsB H [] ds ds') (hv : Cl v) :
  ∃ us gone, GetR env H ts us ∧ ArgsOk H gone true gone us [.c (.agg cs'), .c (.agg ds'), .c v] := ⟨_, [], hG, .bora hc (.bora hd (.same hv (.nil _)))⟩
theorem tell_fun (n : Nd) (h : n.ok) : Fun Tryz.prog 19 [.c (.agg n.row)] [.c (.agg (tellM n).1.row), .c (.agg (tellM n).2.row), .c (.v (.int .i64 n.err))] := by
 by_cases he : n.err = 0
 ·have g := Nd.good he
  have hi := ckMb_inv g.ms
  have hL := mlive_fun n.ms h.msl h.ms
  rw [liveM_ok g.ms] at hL
  have hll := liveS_len n.ms
  have hT := ruTimes_fun ((liveS n.ms).length : Int)
  rw [if_neg (by omega), if_neg (by omega)] at hT
  have hK := ruTake_fun n.rs 5 (timesN n) h.rsl h.rs
  rw [take_ok g.rs] at hK
  obtain ⟨f1, f2, f3⟩ := told_facts (ckRu_inv g.rs)
  have hS := msort_fun (toldN n) (by omega) f2
  have hlen := srtN_all f2
  have hml : ((liveS n.ms).map tRow).length = (liveS n.ms).length := List.length_map ..
  rw [← hml] at hT
  have et : timesN n = max 1 (timesL ((((liveS n.ms).map tRow).length : Nat) : Int)) := by rw [hml]; rfl
  rw [et] at hK
  rw [tellM_ok he, he]
  refine fun_xc ck_node_Tell rfl ?_
  (refine goI ?_; repeat (intro gg; refine goI ?_))
  (refine .inr (.inl ⟨_, _, false, [], aM, open_F n h g he, nobor, oI, dI, ?_⟩))
  refine G1 ?_; intro gg
  (refine .inl ⟨_, _, false, [], aI, hL, nobor, nI, ?_⟩)
  refine G1 ?_; intro gg
  (refine .inl ⟨_, _, false, [], aI, hT, nobor, nI, ?_⟩)
  refine G1 ?_; intro gg
  (refine .inl ⟨_, _, false, [], aI, hK, nobor, nI, ?_⟩)
  refine G1 ?_; intro gg
  refine .inr (.inl ⟨_, _, false, [736], aM_ms rfl cl_rows (by decide) (by decide) (by rw [List.length_map, List.length_map, hlen]) aM, hS, nobor, oI, dI, ?_⟩)
  refine G1 ?_; intro gg
  exact retn3 (all := []) (.cell1 rfl rfl rfl rfl rfl rfl (.cell1 rfl rfl rfl rfl rfl rfl (.tmp1 rfl .nil))) cBI cBI (cl_b rfl)
 ·rw [tellM_e he]
  refine fun_xc ck_node_Tell rfl ?_
  (refine goI ?_; repeat (intro gg; refine goI ?_))
  (refine .inl ⟨_, _, false, [], aI, open_err n h he, nobor, nI, ?_⟩)
  refine G1 ?_; intro gg
  rw [show (n.err != 0) = true from bne_iff_ne.2 he]
  refine G0 ?_
  exact retn3 (all := []) (.cell1 rfl rfl rfl rfl rfl rfl (.cell1 rfl rfl rfl rfl rfl rfl (.tmp1 rfl .nil))) cBI cBI (cl_b rfl)
end Go.Proofs.YtkclokmfomnbgaaGreat
namespace Go.Proofs.YtkclokmfomnbgaaGreat
open Go.RowKit Pl
set_option linter.unusedVariables false
theorem rcheckN_fun (n : Nd) (h : n.ok) : Fun Tryz.prog 18 [.c (.agg n.row)] [.c (.v (.int .i64 n.err))] := by
 refine fun_x ck_hearsayref_CheckNode rfl ?_
 refine G1 ?_; intro gg
 (refine .inl ⟨_, _, false, [], aI, rlabel_fun n.nm h.nm, nobor, nI, ?_⟩)
 refine G1 ?_; intro gg
 (refine bIf_of (fun h1 => ?_) (fun h1 => ?_) <;> rw [h1])
 ·refine G0 ?_
  rw [Nd.err_form (.inl (not_t h1))]
  (exact ⟨[], aI⟩)
 ·have h1' := not_f h1
  refine G0 ?_
  (refine .inl ⟨_, _, false, [], aI, rlabel_fun n.ce h.ce, nobor, nI, ?_⟩)
  refine G1 ?_; intro gg
  (refine bIf_of (fun h2 => ?_) (fun h2 => ?_) <;> rw [h2])
  ·refine G0 ?_
   rw [Nd.err_form (.inr (not_t h2))]
   (exact ⟨[], aI⟩)
  ·have h2' := not_f h2
   refine G0 ?_
   (refine .inl ⟨_, _, false, [], aI, rcheck_fun false n.ms h.msl h.ms, nobor, nI, ?_⟩)
   refine G1 ?_; intro gg
   (refine bIf_of (fun e1 => ?_) (fun e1 => ?_) <;> rw [e1])
   ·have z1 : ckMb n.ms = 0 := by simpa using e1
    refine G0 ?_
    (refine .inl ⟨_, _, false, [], aI, rruCheck_fun false n.rs h.rsl h.rs, nobor, nI, ?_⟩)
    refine G1 ?_; intro gg
    (refine bIf_of (fun e2 => ?_) (fun e2 => ?_) <;> rw [e2])
    ·have z2 : ckRu n.rs = 0 := by simpa using e2
     refine G0 ?_
     (refine .inl ⟨_, _, false, [], aI, rscheck_fun false n.sv h.svl h.sv, nobor, nI, ?_⟩)
     refine G1 ?_; intro gg
     (refine bIf_of (fun e3 => ?_) (fun e3 => ?_) <;> rw [e3])
     ·have z3 : ckSv n.sv = 0 := by simpa using e3
      refine G0 ?_
      (refine .inl ⟨_, _, false, [], aI, grcheck_fun false n.gs h.gsl h.gs, nobor, nI, ?_⟩)
      refine G1 ?_; intro gg
      (refine bIf_of (fun e4 => ?_) (fun e4 => ?_) <;> rw [e4])
      ·have z4 : ckGw n.gs = 0 := by simpa using e4
       refine G0 ?_
       (refine .inl ⟨_, _, false, [], aI, rcheckp_fun n.pl, nobor, nI, ?_⟩)
       refine G1 ?_; intro gg
       (refine bIf_of (fun e5 => ?_) (fun e5 => ?_) <;> rw [e5])
       ·have z5 : n.pl.err = 0 := by simpa using e5
        refine G0 ?_
        (refine .inl ⟨_, _, false, [], aI, rwcheck_fun false n.wh h.whl h.wh, nobor, nI, ?_⟩)
        refine G1 ?_; intro gg
        (refine bIf_of (fun e6 => ?_) (fun e6 => ?_) <;> rw [e6])
        ·have y6 : ckWh n.wh ≠ 0 := by simpa using e6
         have E : firstErr (fun e => e) n.cks = ckWh n.wh := by simp [Nd.cks, firstErr, z1, z2, z3, z4, z5, y6]
         rw [Nd.err_ck h1' h2' (by rw [E]; exact y6), E]
         refine G0 ?_
         (exact ⟨[], aI⟩)
        ·have z6 : ckWh n.wh = 0 := by simpa using e6
         have hz : firstErr (fun e => e) n.cks = 0 := by simp [Nd.cks, firstErr, z1, z2, z3, z4, z5, z6]
         have hi := ckMb_inv z1
         have hat := Mb.at_eq hi.2.2 n.nm
         have hA := at_fun false n.ms n.nm (by omega)
         have hrl := h.rsl
         rcases Bool.eq_false_or_eq_true (hit (Mb.cf n.nm) n.ms) with h5 | h5
         ·have hlt := hit_lt h5
          have hm : n.ms[low (Mb.cf n.nm) n.ms]? = some n.ms[low (Mb.cf n.nm) n.ms] := List.getElem?_eq_getElem hlt
          rw [hat, if_pos h5] at hA
          rw [Nd.err_mine h1' h2' hz h5, Nd.mine_at hm]
          refine G0 ?_
          (refine .inl ⟨_, _, false, [], aI, hA, nobor, nI, ?_⟩)
          refine G1 ?_; intro gg
          refine ⟨low (Mb.cf n.nm) n.ms, _, rfl, row_map hlt, ?_⟩
          refine G0 ?_
          (refine bIf_of (fun h6 => ?_) (fun h6 => ?_) <;> rw [h6])
          ·rw [if_pos (.inl (by simpa using h6))]
           refine G0 ?_
           (exact ⟨[], aI⟩)
          ·have h6' : (n.ms[low (Mb.cf n.nm) n.ms]).st ≠ 2 := by simpa using h6
           refine G0 ?_
           refine ⟨low (Mb.cf n.nm) n.ms, _, rfl, row_map hlt, ?_⟩
           refine G0 ?_
           (refine bIf_of (fun h7 => ?_) (fun h7 => ?_) <;> rw [h7])
           ·rw [if_pos (.inr (by simpa using h7))]
            refine G0 ?_
            (exact ⟨[], aI⟩)
           ·have h7' : (n.ms[low (Mb.cf n.nm) n.ms]).st ≠ 3 := by simpa using h7
            rw [if_neg (fun q => q.elim h6' h7')]
            refine G0 ?_
            (refine ⟨[], none, {k : Nat // k ≤ n.rs.length ∧ ∀ j, (h : j < n.rs.length) → j < k → ruOk n.ms n.rs[j] = true}, [1], fun ⟨k, hk, h0⟩ => [(5, .v (.int .i64 k))], [16], fun ⟨k, hk, h0⟩ => [], fun ⟨k, hk, h0⟩ => n.rs.length - k, trivial, fun _ => ⟨trivial, fun _ => ⟨⟨0, Nat.zero_le _, fun j _ h => absurd h (Nat.not_lt_zero _)⟩, tI, keptE_refl _ _, tI, keptH_refl _ _⟩⟩, fun ⟨k, hk, h0⟩ => ?_⟩)
            refine G0 ?_
            rw [List.length_map]
            (refine bIf_of (fun g1 => ?_) (fun g1 => ?_) <;> rw [g1])
            ·have hlt3 : k < n.rs.length := (by have := of_decide_eq_true g1; omega)
             have hat3 := Mb.at_eq hi.2.2 (n.rs[k]).m.n
             have hA3 := at_fun false n.ms (n.rs[k]).m.n (by omega)
             refine G0 ?_
             refine ⟨k, _, rfl, row_map hlt3, ?_⟩
             refine G1 ?_; intro gg
             rcases Bool.eq_false_or_eq_true (hit (Mb.cf (n.rs[k]).m.n) n.ms) with g5 | g5
             ·have hl3 := hit_lt g5
              have hro := ruOk_at g5 (List.getElem?_eq_getElem hl3)
              rw [hat3, if_pos g5] at hA3
              (refine .inl ⟨_, _, false, [], aI, hA3, nobor, nI, ?_⟩)
              refine G1 ?_; intro gg
              refine ⟨low (Mb.cf (n.rs[k]).m.n) n.ms, _, rfl, row_map hl3, ?_⟩
              refine G0 ?_
              (refine .inl ⟨_, _, false, [], aI, rnewer_fun _ _, nobor, nI, ?_⟩)
              refine G1 ?_; intro gg
              (refine bIf_of (fun g6 => ?_) (fun g6 => ?_) <;> rw [g6])
              ·have g6' : 0 < Mb.cmp (n.rs[k]).m (n.ms[low (Mb.cf (n.rs[k]).m.n) n.ms]) := of_decide_eq_true g6
               rw [if_neg (by rw [all_no hlt3 (by rw [hro]; exact decide_eq_false (by omega))]; simp)]
               refine G0 ?_
               (exact ⟨[], aI⟩)
              ·have g6' : ¬ 0 < Mb.cmp (n.rs[k]).m (n.ms[low (Mb.cf (n.rs[k]).m.n) n.ms]) := of_decide_eq_false g6
               refine G0 ?_
               (exact ⟨none, trivial, fun _ => ⟨⟨k + 1, by omega, up1 (p := fun j h => ruOk n.ms n.rs[j] = true) h0 (fun _ => by rw [hro]; exact decide_eq_true (by omega))⟩, by show n.rs.length - (k + 1) < n.rs.length - k; omega, tI, tI, tI, tI⟩⟩)
             ·rw [hat3, if_neg (by rw [g5]; decide)] at hA3
              rw [if_neg (by rw [all_no hlt3 (ruOk_no g5)]; simp)]
              (refine .inl ⟨_, _, false, [], aI, hA3, nobor, nI, ?_⟩)
              refine G1 ?_; intro gg
              (exact ⟨[], aI⟩)
            ·have hge : ¬ k < n.rs.length := (by have := of_decide_eq_false g1; omega)
             rw [if_pos (List.all_eq_true.2 fun r hr => by obtain ⟨j, hj, rfl⟩ := List.mem_iff_getElem.1 hr; exact h0 j hj (by omega))]
             refine G0 ?_
             (exact ⟨[], aI⟩)
         ·rw [hat, if_neg (by rw [h5]; decide)] at hA
          rw [Nd.err_none h1' h2' hz h5]
          refine G0 ?_
          (refine .inl ⟨_, _, false, [], aI, hA, nobor, nI, ?_⟩)
          refine G1 ?_; intro gg
          (exact ⟨[], aI⟩)
       ·have y5 : n.pl.err ≠ 0 := by simpa using e5
        have E : firstErr (fun e => e) n.cks = n.pl.err := by simp [Nd.cks, firstErr, z1, z2, z3, z4, y5]
        rw [Nd.err_ck h1' h2' (by rw [E]; exact y5), E]
        refine G0 ?_
        rw [show (n.pl.err != 0) = true from bne_iff_ne.2 y5]
        refine G0 ?_
        (exact ⟨[], aI⟩)
      ·have y4 : ckGw n.gs ≠ 0 := by simpa using e4
       have E : firstErr (fun e => e) n.cks = ckGw n.gs := by simp [Nd.cks, firstErr, z1, z2, z3, y4]
       rw [Nd.err_ck h1' h2' (by rw [E]; exact y4), E]
       refine G0 ?_
       rw [e4]
       refine G0 ?_
       rw [show (ckGw n.gs != 0) = true from bne_iff_ne.2 y4]
       refine G0 ?_
       (exact ⟨[], aI⟩)
     ·have y3 : ckSv n.sv ≠ 0 := by simpa using e3
      have E : firstErr (fun e => e) n.cks = ckSv n.sv := by simp [Nd.cks, firstErr, z1, z2, y3]
      rw [Nd.err_ck h1' h2' (by rw [E]; exact y3), E]
      refine G0 ?_
      rw [e3]
      refine G0 ?_
      rw [e3]
      refine G0 ?_
      rw [show (ckSv n.sv != 0) = true from bne_iff_ne.2 y3]
      refine G0 ?_
      (exact ⟨[], aI⟩)
    ·have y2 : ckRu n.rs ≠ 0 := by simpa using e2
     have E : firstErr (fun e => e) n.cks = ckRu n.rs := by simp [Nd.cks, firstErr, z1, y2]
     rw [Nd.err_ck h1' h2' (by rw [E]; exact y2), E]
     refine G0 ?_
     rw [e2]
     refine G0 ?_
     rw [e2]
     refine G0 ?_
     rw [e2]
     refine G0 ?_
     rw [show (ckRu n.rs != 0) = true from bne_iff_ne.2 y2]
     refine G0 ?_
     (exact ⟨[], aI⟩)
   ·have y1 : ckMb n.ms ≠ 0 := by simpa using e1
    have E : firstErr (fun e => e) n.cks = ckMb n.ms := by simp [Nd.cks, firstErr, y1]
    rw [Nd.err_ck h1' h2' (by rw [E]; exact y1), E]
    refine G0 ?_
    rw [e1]
    refine G0 ?_
    rw [e1]
    refine G0 ?_
    rw [e1]
    refine G0 ?_
    rw [e1]
    refine G0 ?_
    rw [show (ckMb n.ms != 0) = true from bne_iff_ne.2 y1]
    refine G0 ?_
    (exact ⟨[], aI⟩)
structure Nd.sh (n : Nd) : Prop where
 msl : n.ms.length ≤ 9223372036854775807
 rsl : n.rs.length ≤ 9223372036854775807
 svl : n.sv.length ≤ 9223372036854775807
 gsl : n.gs.length ≤ 9223372036854775807
 whl : n.wh.length ≤ 9223372036854775807
theorem Nd_sh {n : Nd} (h : n.ok) : Nd.sh n := ⟨h.msl, h.rsl, h.svl, h.gsl, h.whl⟩
theorem nd0_sh : Nd.sh nd0 := ⟨Nat.zero_le _, Nat.zero_le _, Nat.zero_le _, Nat.zero_le _, Nat.zero_le _⟩
theorem sameN_fun (n : Nd) (h : Nd.sh n) : Fun Tryz.prog 27 [.c (.agg n.row), .c (.agg n.row)] [.c (.v (.bool true))] := by
 have s1 := same_fun false false n.ms n.ms h.msl
 have s2 := ruSame_fun false false n.rs n.rs h.rsl
 have s3 := ssame_fun false false n.sv n.sv h.svl
 have s4 := gsame_fun false false n.gs n.gs h.gsl
 have s5 := wsame_fun false false n.wh n.wh h.whl
 rw [sameL_refl (fun x => Mb.same_iff.2 rfl) n.ms] at s1
 rw [sameL_refl (fun x => Ru.same_iff.2 rfl) n.rs] at s2
 rw [sameL_refl (fun x => Sv.same_iff.2 rfl) n.sv] at s3
 rw [sameL_refl (fun x => Gw.same_iff.2 rfl) n.gs] at s4
 rw [sameL_refl (fun x => Wh.same_iff.2 rfl) n.wh] at s5
 refine fun_x ck_hearsayref_SameNode rfl ?_
 (refine goI ?_; repeat (intro gg; refine goI ?_))
 (refine bIf_of (fun q1 => ?_) (fun q1 => ?_) <;> rw [q1]; rotate_left; focus (exfalso; simp at q1))
 refine G0 ?_
 (refine bIf_of (fun q2 => ?_) (fun q2 => ?_) <;> rw [q2]; rotate_left; focus (exfalso; simp at q2))
 refine G0 ?_
 (refine .inl ⟨_, _, false, [], aI, s1, nobor, nI, ?_⟩)
 refine G1 ?_; intro gg
 (refine .inl ⟨_, _, false, [], aI, s2, nobor, nI, ?_⟩)
 refine G1 ?_; intro gg
 (refine .inl ⟨_, _, false, [], aI, s3, nobor, nI, ?_⟩)
 refine G1 ?_; intro gg
 (refine .inl ⟨_, _, false, [], aI, s4, nobor, nI, ?_⟩)
 refine G1 ?_; intro gg
 (refine bIf_of (fun q3 => ?_) (fun q3 => ?_) <;> rw [q3]; rotate_left; focus (exfalso; simp at q3))
 refine G0 ?_
 (refine .inl ⟨_, _, false, [], aI, s5, nobor, nI, ?_⟩)
 refine G1 ?_; intro gg
 (exact ⟨[], aI⟩)
theorem nodeIs_fun (n want : Nd) (e : Int) (hn : Nd.sh n) (h0 : e = 0 → want = n) (h1 : e ≠ 0 → n = nd0) : Fun Tryz.prog 16 [.c (.agg n.row), .c (.v (.int .i64 e)), .c (.v (.int .i64 e)), .c (.agg want.row)] [.c (.v (.bool true))] := by
 refine fun_x ck_hearsaylaw_nodeIs rfl ?_
 (refine goI ?_; repeat (intro gg; refine goI ?_))
 (refine bIf_of (fun q => ?_) (fun q => ?_) <;> rw [q])
 ·have hN := sameN_fun n hn
  have hq := h1 (by simpa using q)
  subst hq
  refine G0 ?_
  (refine bIf_of (fun q1 => ?_) (fun q1 => ?_) <;> rw [q1]; rotate_left; focus (exfalso; simp at q1))
  refine G0 ?_
  (refine .inl ⟨_, _, true, [], aI, hN, (fun _ => fI), nI, ?_⟩)
  refine G1 ?_; intro gg
  (exact ⟨[], aI⟩)
 ·have hN := sameN_fun n hn
  have hq := h0 (by simpa using q)
  subst hq
  refine G0 ?_
  (refine bIf_of (fun q1 => ?_) (fun q1 => ?_) <;> rw [q1]; rotate_left; focus (exfalso; simp at q1))
  refine G0 ?_
  (refine .inl ⟨_, _, false, [], aI, hN, nobor, nI, ?_⟩)
  refine G1 ?_; intro gg
  (exact ⟨[], aI⟩)
end Go.Proofs.YtkclokmfomnbgaaGreat
namespace Go.Proofs.YtkclokmfomnbgaaGreat
open Go.RowKit Pl
set_option linter.unusedVariables false
theorem spreadR_fun (n : Nd) (m : Mb) (g : Gd n) (hm : m.err = 0) : ∃ x : Nd, ((spreadM n m).1 = 0 → x = (spreadM n m).2) ∧ Fun Tryz.prog 81 [.c (.agg n.row), .c (.agg m.row)] [.c (.agg x.row), .c (.v (.int .i64 (spreadM n m).1))] := by
 have hi := ckMb_inv g.ms
 have hR := rhear_fun n.ms m (by omega) hi.2.2
 have hul := upd_len (cf := Mb.kf) (l := n.ms) Mb.nw m
 by_cases h1 : 20 < (Pl.upd Mb.kf Mb.nw n.ms m).length
 ·have hH := hearM_many g.ms hm h1
  rw [spreadM_e (by rw [hH]; decide), hH]
  refine ⟨n, fun e => (by cases e), ?_⟩
  refine fun_xc ck_hearsayref_SpreadOf rfl ?_
  (refine goI ?_; repeat (intro gg; refine goI ?_))
  (refine .inl ⟨_, _, false, [], aI, hR, nobor, nI, ?_⟩)
  refine G1 ?_; intro gg
  rw [List.length_map]
  (refine bIf_of (fun q => ?_) (fun q => ?_) <;> rw [q]; rotate_left; focus (exfalso; have := of_decide_eq_false q; omega))
  refine G0 ?_
  exact retn2 (.cell1 rfl rfl rfl rfl rfl rfl (.tmp1 rfl .nil)) cBI (cl_b rfl)
 ·have hH := hearM_ok g.ms hm h1
  have hF : (hearM n.ms m).2.2 = hearF Mb.kf Mb.nw n.ms m := by rw [hH]
  have hH1 : (hearM n.ms m).1 = 0 := by rw [hH]
  cases h2 : hearF Mb.kf Mb.nw n.ms m with
  | false =>
   rw [spreadM_old hH1 (hF.trans h2)]
   rw [h2] at hR
   refine ⟨n, fun _ => rfl, ?_⟩
   refine fun_xc ck_hearsayref_SpreadOf rfl ?_
   (refine goI ?_; repeat (intro gg; refine goI ?_))
   (refine .inl ⟨_, _, false, [], aI, hR, nobor, nI, ?_⟩)
   refine G1 ?_; intro gg
   rw [List.length_map]
   (refine bIf_of (fun q => ?_) (fun q => ?_) <;> rw [q]; focus (exfalso; have := of_decide_eq_true q; omega))
   refine G0 ?_
   exact retn2 (.cell1 rfl rfl rfl rfl rfl rfl (.tmp1 rfl .nil)) cBI (cl_b rfl)
  | true =>
   rw [spreadM_new hH1 (hF.trans h2)]
   have hL : (hearM n.ms m).2.1 = Pl.upd Mb.kf Mb.nw n.ms m := by rw [hH]
   rw [hL]
   rw [h2] at hR
   have hmem := upd_has h2
   have hck := PlM.ck_upd g.ms hm (by omega)
   have hgr := grows_upd (m := m) g.ms
   generalize Pl.upd Mb.kf Mb.nw n.ms m = L at *
   have gl := g.learn hck hgr
   have hP := rputRu_fun n.rs m (ckRu_inv g.rs)
   have hPe := putRu_ok g.rs hm
   have hrul := (ckRu_inv g.rs).len
   by_cases h3 : (putRu n.rs m).1 = 0
   ·have gp := gl.put (m := m) (known_self hmem) h3
    have h3' : (putR n.rs m).1 = 0 := by rw [← hPe]; exact h3
    by_cases h4 : m.n = n.nm
    ·rw [newsM_me (n := { n with ms := L }) h3 h4]
     have hRR := rrefute_fun L n.nm hck
     have hRe := refM_ok hck g.nm
     by_cases h5 : (refM L n.nm).1 = 0
     ·have h5' : (refR L n.nm).1 = 0 := by rw [← hRe]; exact h5
      cases h6 : (refM L n.nm).2.2 with
      | false =>
       have h6' : (refR L n.nm).2.2 = false := by rw [← hRe]; exact h6
       rw [backM_no (n := { n with ms := L, rs := (putRu n.rs m).2 }) h5 h6]
       refine ⟨{ n with ms := L, rs := (putRu n.rs m).2 }, fun _ => rfl, ?_⟩
       rw [hPe]
       rw [h3'] at hP
       rw [h5', h6'] at hRR
       refine fun_xc ck_hearsayref_SpreadOf rfl ?_
       (refine goI ?_; repeat (intro gg; refine goI ?_))
       (refine .inl ⟨_, _, false, [], aI, hR, nobor, nI, ?_⟩)
       refine G1 ?_; intro gg
       rw [List.length_map]
       (refine bIf_of (fun q => ?_) (fun q => ?_) <;> rw [q]; focus (exfalso; have := of_decide_eq_true q; omega))
       refine G0 ?_
       (refine .inl ⟨_, _, false, [], aI, hP, nobor, nI, ?_⟩)
       refine G1 ?_; intro gg
       rw [h4]
       (refine bIf_of (fun q1 => ?_) (fun q1 => ?_) <;> rw [q1]; focus (exfalso; simp at q1))
       refine G0 ?_
       (refine .inl ⟨_, _, false, [], aI, hRR, nobor, nI, ?_⟩)
       refine G1 ?_; intro gg
       exact retn2 (.cell1 rfl rfl rfl rfl rfl rfl (.tmp1 rfl .nil)) cBI (cl_b rfl)
      | true =>
       have h6' : (refR L n.nm).2.2 = true := by rw [← hRe]; exact h6
       obtain ⟨c1, c2, c3, c4⟩ := ck_up hck h5 h6
       rw [backM_yes (n := { n with ms := L, rs := (putRu n.rs m).2 }) h5 h6]
       rw [h5', h6', ← hRe] at hRR
       generalize (refM L n.nm).2.1 = L2 at *
       have gl2 := gp.learn c1 c2
       have hlt := hit_lt gl2.hit
       have hx : L2[low (Mb.cf n.nm) L2]? = some (L2[low (Mb.cf n.nm) L2]'hlt) := List.getElem?_eq_getElem _
       have hme := meOf_at hx
       have hrow : (L2.map Mb.row)[low (Mb.cf n.nm) L2]? = some (meOf L2 n.nm).row := by rw [List.getElem?_map, hx, hme]; rfl
       have hat := Mb.at_eq (ckMb_inv c1).2.2 n.nm
       have hl2 := (ckMb_inv c1).1
       have hA := at_fun false L2 n.nm (by omega)
       rw [hat, if_pos gl2.hit] at hA
       have hR2 : RuOk (putRu n.rs m).2 := ckRu_inv gp.rs
       have he2 : (meOf L2 n.nm).err = 0 := by
        rw [hme]; exact (ckMb_inv c1).2.1 _ hlt
       have hP2 := rputRu_fun (putRu n.rs m).2 (meOf L2 n.nm) hR2
       have hPe2 := putRu_ok gp.rs he2
       refine ⟨{ n with ms := L2, rs := (putR (putRu n.rs m).2 (meOf L2 n.nm)).2 }, fun e => ?_, ?_⟩
       ·have e' : (putRu (putRu n.rs m).2 (meOf L2 n.nm)).1 = 0 := e
        show _ = putN { n with ms := L2, rs := (putRu n.rs m).2 } (meOf L2 n.nm)
        rw [putN_ok (n := { n with ms := L2, rs := (putRu n.rs m).2 }) e']
        show _ = { n with ms := L2, rs := (putRu (putRu n.rs m).2 (meOf L2 n.nm)).2 }
        rw [show putRu (putRu n.rs m).2 (meOf L2 n.nm) = putR (putRu n.rs m).2 (meOf L2 n.nm) from hPe2]
       ·show Fun _ _ _ [_, .c (.v (.int .i64 (putRu (putRu n.rs m).2 (meOf L2 n.nm)).1))]
        rw [show putRu (putRu n.rs m).2 (meOf L2 n.nm) = putR (putRu n.rs m).2 (meOf L2 n.nm) from hPe2]
        rw [hPe] at hP2 ⊢
        rw [h3'] at hP
        generalize (putR n.rs m).2 = R at *
        refine fun_xc ck_hearsayref_SpreadOf rfl ?_
        (refine goI ?_; repeat (intro gg; refine goI ?_))
        (refine .inl ⟨_, _, false, [], aI, hR, nobor, nI, ?_⟩)
        refine G1 ?_; intro gg
        rw [List.length_map]
        (refine bIf_of (fun q => ?_) (fun q => ?_) <;> rw [q]; focus (exfalso; have := of_decide_eq_true q; omega))
        refine G0 ?_
        (refine .inl ⟨_, _, false, [], aI, hP, nobor, nI, ?_⟩)
        refine G1 ?_; intro gg
        rw [h4]
        (refine bIf_of (fun q1 => ?_) (fun q1 => ?_) <;> rw [q1]; focus (exfalso; simp at q1))
        refine G0 ?_
        (refine .inl ⟨_, _, false, [], aI, hRR, nobor, nI, ?_⟩)
        refine G1 ?_; intro gg
        (refine ⟨_, _, false, aI, hA, nobor, nI, ?_⟩)
        refine G1 ?_; intro gg
        refine ⟨low (Mb.cf n.nm) L2, _, rfl, hrow, ?_⟩
        refine G0 ?_
        (refine .inl ⟨_, _, false, [], aI, hP2, nobor, nI, ?_⟩)
        refine G1 ?_; intro gg
        exact retn2 (.cell1 rfl rfl rfl rfl rfl rfl (.tmp1 rfl .nil)) cBI (cl_b rfl)
     ·have h5' : (refR L n.nm).1 ≠ 0 := by rw [← hRe]; exact h5
      rw [backM_e (n := { n with ms := L, rs := (putRu n.rs m).2 }) h5]
      refine ⟨{ n with ms := L, rs := (putRu n.rs m).2 }, fun e => absurd e h5, ?_⟩
      show Fun _ _ _ [_, .c (.v (.int .i64 (refM L n.nm).1))]
      rw [hPe, hRe]
      rw [h3'] at hP
      refine fun_xc ck_hearsayref_SpreadOf rfl ?_
      (refine goI ?_; repeat (intro gg; refine goI ?_))
      (refine .inl ⟨_, _, false, [], aI, hR, nobor, nI, ?_⟩)
      refine G1 ?_; intro gg
      rw [List.length_map]
      (refine bIf_of (fun q => ?_) (fun q => ?_) <;> rw [q]; focus (exfalso; have := of_decide_eq_true q; omega))
      refine G0 ?_
      (refine .inl ⟨_, _, false, [], aI, hP, nobor, nI, ?_⟩)
      refine G1 ?_; intro gg
      rw [h4]
      (refine bIf_of (fun q1 => ?_) (fun q1 => ?_) <;> rw [q1]; focus (exfalso; simp at q1))
      refine G0 ?_
      (refine .inl ⟨_, _, false, [], aI, hRR, nobor, nI, ?_⟩)
      refine G1 ?_; intro gg
      rw [show ((refR L n.nm).1 != 0) = true from bne_iff_ne.2 h5']
      refine G0 ?_
      exact retn2 (.cell1 rfl rfl rfl rfl rfl rfl (.tmp1 rfl .nil)) cBI (cl_b rfl)
    ·rw [newsM_else (n := { n with ms := L }) h3 h4]
     refine ⟨{ n with ms := L, rs := (putRu n.rs m).2 }, fun _ => rfl, ?_⟩
     rw [hPe]
     rw [h3'] at hP
     refine fun_xc ck_hearsayref_SpreadOf rfl ?_
     (refine goI ?_; repeat (intro gg; refine goI ?_))
     (refine .inl ⟨_, _, false, [], aI, hR, nobor, nI, ?_⟩)
     refine G1 ?_; intro gg
     rw [List.length_map]
     (refine bIf_of (fun q => ?_) (fun q => ?_) <;> rw [q]; focus (exfalso; have := of_decide_eq_true q; omega))
     refine G0 ?_
     (refine .inl ⟨_, _, false, [], aI, hP, nobor, nI, ?_⟩)
     refine G1 ?_; intro gg
     (refine bIf_of (fun q1 => ?_) (fun q1 => ?_) <;> rw [q1]; rotate_left; focus (exfalso; exact h4 (toList_inj (by simpa using q1))))
     refine G0 ?_
     exact retn2 (.cell1 rfl rfl rfl rfl rfl rfl (.tmp1 rfl .nil)) cBI (cl_b rfl)
   ·have h3' : (putR n.rs m).1 ≠ 0 := by rw [← hPe]; exact h3
    rw [newsM_e (n := { n with ms := L }) h3]
    refine ⟨n, fun e => absurd e h3, ?_⟩
    show Fun _ _ _ [_, .c (.v (.int .i64 (putRu n.rs m).1))]
    rw [hPe]
    refine fun_xc ck_hearsayref_SpreadOf rfl ?_
    (refine goI ?_; repeat (intro gg; refine goI ?_))
    (refine .inl ⟨_, _, false, [], aI, hR, nobor, nI, ?_⟩)
    refine G1 ?_; intro gg
    rw [List.length_map]
    (refine bIf_of (fun q => ?_) (fun q => ?_) <;> rw [q]; focus (exfalso; have := of_decide_eq_true q; omega))
    refine G0 ?_
    (refine .inl ⟨_, _, false, [], aI, hP, nobor, nI, ?_⟩)
    refine G1 ?_; intro gg
    rw [show ((putR n.rs m).1 != 0) = true from bne_iff_ne.2 h3']
    refine G0 ?_
    exact retn2 (.cell1 rfl rfl rfl rfl rfl rfl (.tmp1 rfl .nil)) cBI (cl_b rfl)
end Go.Proofs.YtkclokmfomnbgaaGreat
namespace Go.Proofs.YtkclokmfomnbgaaGreat
open Go.RowKit Pl
set_option linter.unusedVariables false
theorem putO_fun (n : Nd) (name : ByteArray) (x : Mb) (hml : n.ms.length ≤ 1000) (hs : sorted Mb.lt n.ms = true) (hx : n.ms[low (Mb.cf name) n.ms]? = some x) (hr : n.rs.length ≤ 9223372036854775807) (hrw : ∀ r ∈ n.rs, r.m.ok) (hxo : x.ok) :
  FunM Tryz.prog 132 [.mn 89 (wcO n) (wcO (putN n x)), .p (.c (.v (.string name)))] [.p (.c (.v (.int .i64 (putRu n.rs x).1)))] := by
 have hl : low (Mb.cf name) n.ms < n.ms.length := (List.getElem?_eq_some_iff.1 hx).1
 have hrow : (n.ms.map Mb.row)[low (Mb.cf name) n.ms]? = some x.row := by rw [List.getElem?_map, hx]; rfl
 have hp := (ruPut_fun false n.rs x hr hrw hxo).frz
 simp only [List.map_cons, List.map_nil, Go.Proofs.YtkclokmfomnbgaaGreat.frz] at hp
 refine funM_x ck_node_worker_put rfl rfl (nd_b rfl) ?_
 refine G0 ?_
 (refine .inl ⟨_, _, false, [], aI, mfind_fun false n.ms name (by omega) (Mb.smono hs _).mono, nobor, nI, ?_⟩)
 refine G1 ?_; intro gg
 refine ⟨low (Mb.cf name) n.ms, _, rfl, hrow, ?_⟩
 refine G0 ?_
 (refine .inl ⟨_, _, false, [], aI, hp, nobor, nI, ?_⟩)
 refine G1 ?_; intro gg
 (refine bIf_of (fun h1 => ?_) (fun h1 => ?_) <;> rw [h1])
 ·have h1' : (putRu n.rs x).1 = 0 := by simpa using h1
  rw [putN_ok h1']
  refine G0 ?_
  (exact ⟨0 :: ([100000000] ++ []), aM_same (by first | exact cl_b rfl | assumption) (aM_pn (gone := []) (gone1 := [100000000]) rfl aI (by decide) (by decide) (by decide) (.nil _))⟩)
 ·have h1' : (putRu n.rs x).1 ≠ 0 := by simpa using h1
  rw [putN_no h1']
  refine G0 ?_
  (exact ⟨0 :: ([100000000] ++ []), aM_same (by first | exact cl_b rfl | assumption) (aM_pn (gone := []) (gone1 := [100000000]) rfl aI (by decide) (by decide) (by decide) (.nil _))⟩)
end Go.Proofs.YtkclokmfomnbgaaGreat
namespace Go.Proofs.YtkclokmfomnbgaaGreat
open Go.RowKit Pl
set_option linter.unusedVariables false
theorem spreadO_fun (n : Nd) (m : Mb) (hc : ckMb n.ms = 0) (hw : ∀ x ∈ n.ms, x.ok) (hr : n.rs.length ≤ 1000) (hrw : ∀ r ∈ n.rs, r.m.ok) (hm : m.ok) (hnm : n.nm.size ≤ 9223372036854775807) :
  FunM Tryz.prog 75 [.mn 89 (wcO n) (wcO (spreadM n m).2), .p (.c (.agg m.row))] [.p (.c (.v (.int .i64 (spreadM n m).1)))] := by
 have hi := ckMb_inv hc
 have hH := mHear_fun n.ms m (by omega) hw hm
 refine funM_x ck_node_worker_spread rfl rfl (nd_b rfl) ?_
 refine G1 ?_; intro gg
 (refine .inl ⟨_, _, false, [], aI, hH, nobor, nI, ?_⟩)
 refine G1 ?_; intro gg
 (refine bIf_of (fun h1 => ?_) (fun h1 => ?_) <;> rw [h1])
 ·rw [spreadM_e (by simpa using h1)]
  refine G0 ?_
  (exact ⟨0 :: ([100000000] ++ []), aM_same (by first | exact cl_b rfl | assumption) (aM_pn (gone := []) (gone1 := [100000000]) rfl aI (by decide) (by decide) (by decide) (.nil _))⟩)
 ·have h1' : (hearM n.ms m).1 = 0 := by simpa using h1
  obtain ⟨_, hm0, hn20, hh⟩ := PlM.hear_inv h1'
  refine G0 ?_
  (refine bIf_of (fun h2 => ?_) (fun h2 => ?_) <;> rw [h2])
  ·rw [spreadM_old h1' (not_t h2), h1']
   refine G0 ?_
   (exact ⟨0 :: ([100000000] ++ []), aM_same (by first | exact cl_b rfl | assumption) (aM_pn (gone := []) (gone1 := [100000000]) rfl aI (by decide) (by decide) (by decide) (.nil _))⟩)
  ·have h2' := not_f h2
   have hwl : ∀ x ∈ (hearM n.ms m).2.1, x.ok := fun x hx => by rcases PlM.hear_mem hx with rfl | h; exact hm; exact hw x h
   have hcl : ckMb (hearM n.ms m).2.1 = 0 := by rw [hh]; exact PlM.ck_upd hc hm0 (by omega)
   have hml : m ∈ (hearM n.ms m).2.1 := by
    rw [hh] at h2' ⊢
    exact upd_has h2'
   rw [spreadM_new h1' h2']
   generalize (hearM n.ms m).2.1 = L at *
   have hat := at_mem hcl hml
   have hil := ckMb_inv hcl
   have hP := putO_fun { n with ms := L } m.n m (by show L.length ≤ _; omega) hil.2.2 hat.2 (by show n.rs.length ≤ _; omega) hrw hm
   by_cases hp1 : (putRu n.rs m).1 = 0
   ·rw [putN_ok (n := { n with ms := L }) hp1, show (putRu ({ n with ms := L } : Nd).rs m).1 = 0 from hp1] at hP
    have hpl := putRu_len (l := n.rs) (m := m) hr
    have hpw := fun r (h : r ∈ (putRu n.rs m).2) => (putRu_mem h).elim (fun e => (by rw [e]; exact hm : r.m.ok)) (fun e => hrw r e)
    refine G0 ?_
    (refine .inr (.inl ⟨_, _, false, 0 :: ([100000000] ++ []), ?_, hP, nobor, oI, dI, ?_⟩); focus (exact aM_mn (gone := []) (gone1 := [100000000]) rfl aI (by decide) (by decide) (by decide) rfl aM))
    refine G1 ?_; intro gg
    (refine bIf_of (fun h3 => ?_) (fun h3 => ?_) <;> rw [h3])
    ·have h3' : m.n ≠ n.nm := fun e => by
      have := not_t h3
      rw [e] at this; simp at this
     rw [newsM_else (n := { n with ms := L }) hp1 h3']
     refine G0 ?_
     (exact ⟨0 :: ([100000000] ++ []), aM_same (by first | exact cl_b rfl | assumption) (aM_pn (gone := []) (gone1 := [100000000]) rfl aI (by decide) (by decide) (by decide) (.nil _))⟩)
    ·have h3' : m.n = n.nm := toList_inj (beq_iff_eq.1 (not_f h3))
     rw [newsM_me (n := { n with ms := L }) hp1 h3']
     have hR := mrefute_fun L n.nm (by omega) hwl hnm
     refine G0 ?_
     (refine .inl ⟨_, _, false, [], aI, hR, nobor, nI, ?_⟩)
     refine G1 ?_; intro gg
     (refine bIf_of (fun h4 => ?_) (fun h4 => ?_) <;> rw [h4])
     ·have h4' : (refM L n.nm).1 ≠ 0 := by simpa using h4
      rw [backM_e (n := { n with ms := L, rs := (putRu n.rs m).2 }) h4']
      refine G0 ?_
      (exact ⟨0 :: ([100000000] ++ []), aM_same (by first | exact cl_b rfl | assumption) (aM_pn (gone := []) (gone1 := [100000000]) rfl aI (by decide) (by decide) (by decide) (.nil _))⟩)
     ·have h4' : (refM L n.nm).1 = 0 := by simpa using h4
      refine G0 ?_
      (refine bIf_of (fun h5 => ?_) (fun h5 => ?_) <;> rw [h5])
      ·rw [backM_no (n := { n with ms := L, rs := (putRu n.rs m).2 }) h4' (not_t h5), h4']
       refine G0 ?_
       (exact ⟨0 :: ([100000000] ++ []), aM_same (by first | exact cl_b rfl | assumption) (aM_pn (gone := []) (gone1 := [100000000]) rfl aI (by decide) (by decide) (by decide) (.nil _))⟩)
      ·have h5' := not_f h5
       rw [backM_yes (n := { n with ms := L, rs := (putRu n.rs m).2 }) h4' h5']
       obtain ⟨h6, h7⟩ := PlM.ref_inv h4' h5'
       have hmo := meOf_up h6 (PlM.up_cf h6) hil.2.2
       rw [← h7] at hmo
       have hs2 : sorted Mb.lt (refM L n.nm).2.1 = true := by rw [h7]; exact PlM.up_sorted hil.2.2 h6
       have hl2 : (refM L n.nm).2.1.length ≤ 1000 := by rw [h7, List.length_set]; omega
       have hok2 : (meOf (refM L n.nm).2.1 n.nm).ok := by
        rw [meOf_at hmo]; exact (show (L[low (Mb.cf n.nm) L]'(hit_lt h6)).ok from hwl _ (List.getElem_mem _))
       have hP2 := putO_fun { n with ms := (refM L n.nm).2.1, rs := (putRu n.rs m).2 } n.nm (meOf (refM L n.nm).2.1 n.nm) hl2 hs2 (by rw [meOf_at hmo]; exact hmo) (by show (putRu n.rs m).2.length ≤ _; omega) hpw hok2
       refine G0 ?_
       (refine .inr (.inl ⟨_, _, false, 0 :: ([100000000] ++ []), ?_, hP2, nobor, oI, dI, ?_⟩); focus (exact aM_mn (gone := []) (gone1 := [100000000]) rfl aI (by decide) (by decide) (by decide) rfl aM))
       refine G1 ?_; intro gg
       (exact ⟨0 :: ([100000000] ++ []), aM_same (by first | exact cl_b rfl | assumption) (aM_pn (gone := []) (gone1 := [100000000]) rfl aI (by decide) (by decide) (by decide) (.nil _))⟩)
   ·rw [putN_no (n := { n with ms := L }) hp1] at hP
    rw [newsM_e (n := { n with ms := L }) hp1]
    have hp1' : ((putRu ({ n with ms := L } : Nd).rs m).1 != 0) = true := bne_iff_ne.2 hp1
    refine G0 ?_
    (refine .inr (.inl ⟨_, _, false, 0 :: ([100000000] ++ []), ?_, hP, nobor, oI, dI, ?_⟩); focus (exact aM_mn (gone := []) (gone1 := [100000000]) rfl aI (by decide) (by decide) (by decide) rfl aM))
    refine G1 ?_; intro gg
    rw [hp1']
    refine G0 ?_
    (exact ⟨0 :: ([100000000] ++ []), aM_same (by first | exact cl_b rfl | assumption) (aM_pn (gone := []) (gone1 := [100000000]) rfl aI (by decide) (by decide) (by decide) (.nil _))⟩)
end Go.Proofs.YtkclokmfomnbgaaGreat
