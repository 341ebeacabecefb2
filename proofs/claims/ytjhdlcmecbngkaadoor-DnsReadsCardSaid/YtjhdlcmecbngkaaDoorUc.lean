/- Texts of this claim, joined. -/
import Derived.Test.YtjhdlcmecbngkaaDoorXAbsS
import Derived.WalkKit
import Derived.Defers
import Derived.Recover
import Derived.Laws.Pointers
import Derived.Test.YtjhdlcmecbngkaaDoorUa
import Derived.Test.YtjhdlcmecbngkaaDoorUb
set_option linter.unusedSimpArgs false
namespace Go.Proofs.YtjhdlcmecbngkaaDoor
open Go Go.RowKit Pl
set_option linter.unusedVariables false
theorem nameR_bd {s : ByteArray} : ∀ {f a : Nat} {l : List ByteArray} {e : Option Nat} {fr : Nat} {ls : List ByteArray} {a' : Nat}, nameR s f a l e fr = some (ls, a') → (∀ x ∈ l, lab x.data.toList = true) → (∀ n, e = some n → n ≤ s.size) →
  a' ≤ s.size ∧ (∀ x ∈ ls, lab x.data.toList = true) ∧ ls.length ≤ 8 := by
 intro f
 induction f with
 | zero => intro a l e fr ls a' h; cases h
 | succ f ih =>
  intro a l e fr ls a' h hl he
  rw [nameR] at h
  by_cases c1 : l.length ≤ 8
  ·rw [if_pos c1] at h
   rcases e1 : byteP s a with _ | ⟨n, k1⟩
   ·rw [e1] at h; cases h
   have b1 := byteP_bd e1
   rw [e1, Option.bind_some] at h
   simp only at h
   by_cases c2 : n = 0
   ·rw [if_pos c2] at h
    obtain ⟨rfl, rfl⟩ : l = ls ∧ e.getD k1 = a' := by simpa using h
    refine ⟨?_, hl, c1⟩
    cases e with
    | none => exact b1.2.2
    | some m => exact he m rfl
   rw [if_neg c2] at h
   by_cases c3 : 192 ≤ n
   ·rw [if_pos c3] at h
    rcases e2 : byteP s k1 with _ | ⟨q, k2⟩
    ·rw [e2] at h; cases h
    have b2 := byteP_bd e2
    rw [e2, Option.bind_some] at h
    simp only at h
    split at h
    ·exact ih h hl (e_set he b2.2.2)
    ·cases h
   ·rw [if_neg c3] at h
    rcases e3 : bytesP s k1 n with _ | ⟨x, k2⟩
    ·rw [e3] at h; cases h
    rw [e3, Option.bind_some] at h
    simp only at h
    split at h
    ·rename_i c4
     exact ih h (fun y hy => by
      rcases List.mem_append.1 hy with hy | hy
      ·exact hl y hy
      ·simp at hy; subst hy; exact c4) he
    ·cases h
  ·rw [if_neg c1] at h; cases h
theorem nameP_bd {s : ByteArray} {a a' : Nat} {v : ByteArray} (h : nameP s a = some (v, a')) : a' ≤ s.size ∧ v.size ≤ 1000 := by
 obtain ⟨⟨ls, a2⟩, hr, hv⟩ := Option.map_eq_some_iff.1 h
 simp only [Prod.mk.injEq] at hv
 obtain ⟨rfl, rfl⟩ := hv
 have b := nameR_bd hr (by simp) (by simp)
 exact ⟨b.1, joinB_size (fun x hx => lab_size' (b.2.1 x hx)) (by omega)⟩
theorem bodyP_1 {s : ByteArray} {a : Nat} : bodyP s 1 a = (fourP s a).bind fun p => some ((p.1, ⟨#[]⟩, 0, ⟨#[]⟩), p.2) := rfl
theorem bodyP_16 {s : ByteArray} {a : Nat} : bodyP s 16 a = (byteP s a).bind fun p => (bytesP s p.2 p.1).bind fun q => some ((0, q.1, 0, ⟨#[]⟩), q.2) := rfl
theorem bodyP_33 {s : ByteArray} {a : Nat} : bodyP s 33 a = (twoP s a).bind fun p => if p.1 = 0 then (twoP s p.2).bind fun q => if q.1 = 0 then (twoP s q.2).bind fun r => (nameP s r.2).bind fun n => some ((0, ⟨#[]⟩, r.1, n.1), n.2) else none else none := rfl
theorem bodyP_no {s : ByteArray} {t a : Nat} (h1 : t ≠ 1) (h2 : t ≠ 16) (h3 : t ≠ 33) : bodyP s t a = none := by
 unfold bodyP; rw [if_neg h1, if_neg h2, if_neg h3]
set_option maxHeartbeats 4000000 in
theorem rrecord_fun {s : ByteArray} {a a' : Nat} {v : Rr} (h : recP s a = some (v, a')) (hs : s.size ≤ 1000000) (ha : a ≤ s.size) : FunM Tryd.prog 72 [.mn rdT (rdC s a) (rdC s a')] [.p (.c (.agg v.row))] := by
 unfold recP at h
 refine funM_xc ck_dns_reader_record rfl (nd_b rfl) ?_
 (refine goI ?_; repeat (intro gg; refine goI ?_))
 rcases e1 : nameP s a with _ | ⟨nm, a1⟩
 ·rw [e1] at h; cases h
 rw [e1, Option.bind_some] at h
 simp only at h
 have be1 := nameP_bd e1
 (refine .inr (.inl ⟨_, _, false, 0 :: ([] ++ []), ?_, rname_fun e1 hs (by omega), nobor, oI, dI, ?_⟩); focus (exact aM_mn (gone := []) (gone1 := []) rfl aI (by decide) (by decide) (by decide) rfl aM))
 (refine goI ?_; repeat (intro gg; refine goI ?_))
 rcases e2 : twoP s a1 with _ | ⟨t, a2⟩
 ·rw [e2] at h; cases h
 rw [e2, Option.bind_some] at h
 simp only at h
 have be2 := twoP_bd e2
 (refine .inr (.inl ⟨_, _, false, 0 :: ([] ++ []), ?_, rtwo_fun e2 hs, nobor, oI, dI, ?_⟩); focus (exact aM_mn (gone := []) (gone1 := []) rfl aI (by decide) (by decide) (by decide) rfl aM))
 (refine goI ?_; repeat (intro gg; refine goI ?_))
 rcases e3 : twoP s a2 with _ | ⟨one, a3⟩
 ·rw [e3] at h; cases h
 rw [e3, Option.bind_some] at h
 simp only at h
 have be3 := twoP_bd e3
 (refine .inr (.inl ⟨_, _, false, 0 :: ([] ++ []), ?_, rtwo_fun e3 hs, nobor, oI, dI, ?_⟩); focus (exact aM_mn (gone := []) (gone1 := []) rfl aI (by decide) (by decide) (by decide) rfl aM))
 (refine goI ?_; repeat (intro gg; refine goI ?_))
 by_cases c3 : one = 1
 ·rw [if_pos c3] at h
  (refine .inl ⟨_, _, true, [], aI, must_fun _ (beq_iff_eq.2 (by omega)), (fun _ => fI), nI, ?_⟩)
  (refine goI ?_; repeat (intro gg; refine goI ?_))
  rcases e4 : fourP s a3 with _ | ⟨ls, a4⟩
  ·rw [e4] at h; cases h
  rw [e4, Option.bind_some] at h
  simp only at h
  have be4 := fourP_bd e4
  (refine .inr (.inl ⟨_, _, false, 0 :: ([] ++ []), ?_, four_fun e4 hs, nobor, oI, dI, ?_⟩); focus (exact aM_mn (gone := []) (gone1 := []) rfl aI (by decide) (by decide) (by decide) rfl aM))
  (refine goI ?_; repeat (intro gg; refine goI ?_))
  rcases e5 : twoP s a4 with _ | ⟨n, a5⟩
  ·rw [e5] at h; cases h
  rw [e5, Option.bind_some] at h
  simp only at h
  have be5 := twoP_bd e5
  (refine .inr (.inl ⟨_, _, false, 0 :: ([] ++ []), ?_, rtwo_fun e5 hs, nobor, oI, dI, ?_⟩); focus (exact aM_mn (gone := []) (gone1 := []) rfl aI (by decide) (by decide) (by decide) rfl aM))
  (refine goI ?_; repeat (intro gg; refine goI ?_))
  by_cases c5 : a5 + n ≤ s.size
  ·rw [if_pos c5] at h
   (refine .inl ⟨_, _, true, [], aI, must_fun _ (decide_eq_true (by omega)), (fun _ => fI), nI, ?_⟩)
   (refine goI ?_; repeat (intro gg; refine goI ?_))
   by_cases t1 : t = 1
   ·subst t1
    rw [bodyP_1] at h
    rw [show (((1 : Nat) : Int) == 1) = true from rfl]
    (refine goI ?_; repeat (intro gg; refine goI ?_))
    rcases e6 : fourP s a5 with _ | ⟨ad, a6⟩
    ·rw [e6] at h; cases h
    rw [e6, Option.bind_some] at h
    simp only at h
    have be6 := fourP_bd e6
    (refine .inr (.inl ⟨_, _, false, 0 :: ([] ++ []), ?_, four_fun e6 hs, nobor, oI, dI, ?_⟩); focus (exact aM_mn (gone := []) (gone1 := []) rfl aI (by decide) (by decide) (by decide) rfl aM))
    (refine goI ?_; repeat (intro gg; refine goI ?_))
    rw [Option.bind_some] at h
    simp only at h
    by_cases c9 : a6 = a5 + n
    ·rw [if_pos c9] at h
     (refine .inl ⟨_, _, true, [], aI, must_fun _ (beq_iff_eq.2 (by omega)), (fun _ => fI), nI, ?_⟩)
     (refine goI ?_; repeat (intro gg; refine goI ?_))
     obtain ⟨ev, ea⟩ : _ = v ∧ _ = a' := by simpa using h
     subst ev ea
     (exact ⟨_, 0 :: ([] ++ []), .cell1 rfl rfl rfl rfl rfl rfl .nil, aM_same (cl_b rfl) (aM_pn (gone := []) (gone1 := []) rfl aI (by decide) (by decide) (by decide) (.nil _))⟩)
    ·rw [if_neg c9] at h; cases h
   by_cases t2 : t = 16
   ·subst t2
    rw [bodyP_16] at h
    rw [show (((16 : Nat) : Int) == 1) = false from rfl]
    (refine goI ?_; repeat (intro gg; refine goI ?_))
    rw [show (((16 : Nat) : Int) == 16) = true from rfl]
    (refine goI ?_; repeat (intro gg; refine goI ?_))
    rcases e6 : byteP s a5 with _ | ⟨k, a6⟩
    ·rw [e6] at h; cases h
    rw [e6, Option.bind_some] at h
    simp only at h
    have be6 := byteP_bd e6
    (refine .inr (.inl ⟨_, _, false, 0 :: ([] ++ []), ?_, byte_fun e6 hs, nobor, oI, dI, ?_⟩); focus (exact aM_mn (gone := []) (gone1 := []) rfl aI (by decide) (by decide) (by decide) rfl aM))
    (refine goI ?_; repeat (intro gg; refine goI ?_))
    rcases e7 : bytesP s a6 k with _ | ⟨tx, a7⟩
    ·rw [e7] at h; cases h
    rw [e7, Option.bind_some] at h
    simp only at h
    have be7 := bytesP_bd e7
    (refine .inr (.inl ⟨_, _, false, 0 :: ([] ++ []), ?_, bytes_fun e7 hs (by omega) (by omega), nobor, oI, dI, ?_⟩); focus (exact aM_mn (gone := []) (gone1 := []) rfl aI (by decide) (by decide) (by decide) rfl aM))
    (refine goI ?_; repeat (intro gg; refine goI ?_))
    rw [Option.bind_some] at h
    simp only at h
    by_cases c9 : a7 = a5 + n
    ·rw [if_pos c9] at h
     (refine .inl ⟨_, _, true, [], aI, must_fun _ (beq_iff_eq.2 (by omega)), (fun _ => fI), nI, ?_⟩)
     (refine goI ?_; repeat (intro gg; refine goI ?_))
     obtain ⟨ev, ea⟩ : _ = v ∧ _ = a' := by simpa using h
     subst ev ea
     (exact ⟨_, 0 :: ([] ++ []), .cell1 rfl rfl rfl rfl rfl rfl .nil, aM_same (cl_b rfl) (aM_pn (gone := []) (gone1 := []) rfl aI (by decide) (by decide) (by decide) (.nil _))⟩)
    ·rw [if_neg c9] at h; cases h
   by_cases t3 : t = 33
   ·subst t3
    rw [bodyP_33] at h
    rw [show (((33 : Nat) : Int) == 1) = false from rfl]
    (refine goI ?_; repeat (intro gg; refine goI ?_))
    rw [show (((33 : Nat) : Int) == 16) = false from rfl]
    (refine goI ?_; repeat (intro gg; refine goI ?_))
    rw [show (((33 : Nat) : Int) == 33) = true from rfl]
    (refine goI ?_; repeat (intro gg; refine goI ?_))
    rcases e6 : twoP s a5 with _ | ⟨z, a6⟩
    ·rw [e6] at h; cases h
    rw [e6, Option.bind_some] at h
    simp only at h
    have be6 := twoP_bd e6
    (refine .inr (.inl ⟨_, _, false, 0 :: ([] ++ []), ?_, rtwo_fun e6 hs, nobor, oI, dI, ?_⟩); focus (exact aM_mn (gone := []) (gone1 := []) rfl aI (by decide) (by decide) (by decide) rfl aM))
    (refine goI ?_; repeat (intro gg; refine goI ?_))
    by_cases c6 : z = 0
    ·rw [if_pos c6] at h
     rw [show ((z : Int) == 0) = true from beq_iff_eq.2 (by omega)]
     (refine goI ?_; repeat (intro gg; refine goI ?_))
     rcases e7 : twoP s a6 with _ | ⟨y, a7⟩
     ·rw [e7] at h; cases h
     rw [e7, Option.bind_some] at h
     simp only at h
     have be7 := twoP_bd e7
     (refine .inr (.inl ⟨_, _, false, 0 :: ([] ++ []), ?_, rtwo_fun e7 hs, nobor, oI, dI, ?_⟩); focus (exact aM_mn (gone := []) (gone1 := []) rfl aI (by decide) (by decide) (by decide) rfl aM))
     (refine goI ?_; repeat (intro gg; refine goI ?_))
     by_cases c7 : y = 0
     ·rw [if_pos c7] at h
      (refine .inl ⟨_, _, true, [], aI, must_fun _ (beq_iff_eq.2 (by omega)), (fun _ => fI), nI, ?_⟩)
      (refine goI ?_; repeat (intro gg; refine goI ?_))
      rcases e8 : twoP s a7 with _ | ⟨pt, a8⟩
      ·rw [e8] at h; cases h
      rw [e8, Option.bind_some] at h
      simp only at h
      have be8 := twoP_bd e8
      (refine .inr (.inl ⟨_, _, false, 0 :: ([] ++ []), ?_, rtwo_fun e8 hs, nobor, oI, dI, ?_⟩); focus (exact aM_mn (gone := []) (gone1 := []) rfl aI (by decide) (by decide) (by decide) rfl aM))
      (refine goI ?_; repeat (intro gg; refine goI ?_))
      rcases e9 : nameP s a8 with _ | ⟨tg, a9⟩
      ·rw [e9] at h; cases h
      rw [e9, Option.bind_some] at h
      simp only at h
      have be9 := nameP_bd e9
      (refine .inr (.inl ⟨_, _, false, 0 :: ([] ++ []), ?_, rname_fun e9 hs (by omega), nobor, oI, dI, ?_⟩); focus (exact aM_mn (gone := []) (gone1 := []) rfl aI (by decide) (by decide) (by decide) rfl aM))
      (refine goI ?_; repeat (intro gg; refine goI ?_))
      rw [Option.bind_some] at h
      simp only at h
      by_cases c9 : a9 = a5 + n
      ·rw [if_pos c9] at h
       (refine .inl ⟨_, _, true, [], aI, must_fun _ (beq_iff_eq.2 (by omega)), (fun _ => fI), nI, ?_⟩)
       (refine goI ?_; repeat (intro gg; refine goI ?_))
       obtain ⟨ev, ea⟩ : _ = v ∧ _ = a' := by simpa using h
       subst ev ea
       (exact ⟨_, 0 :: ([] ++ []), .cell1 rfl rfl rfl rfl rfl rfl .nil, aM_same (cl_b rfl) (aM_pn (gone := []) (gone1 := []) rfl aI (by decide) (by decide) (by decide) (.nil _))⟩)
      ·rw [if_neg c9] at h; cases h
     ·rw [if_neg c7] at h; cases h
    ·rw [if_neg c6] at h; cases h
   rw [show ((t : Int) == 1) = false from beq_eq_false_iff_ne.2 (by omega)]
   (refine goI ?_; repeat (intro gg; refine goI ?_))
   rw [show ((t : Int) == 16) = false from beq_eq_false_iff_ne.2 (by omega)]
   (refine goI ?_; repeat (intro gg; refine goI ?_))
   rw [show ((t : Int) == 33) = false from beq_eq_false_iff_ne.2 (by omega)]
   (refine goI ?_; repeat (intro gg; refine goI ?_))
   rw [bodyP_no t1 t2 t3] at h; cases h
  ·rw [if_neg c5] at h; cases h
 ·rw [if_neg c3] at h; cases h
set_option maxHeartbeats 4000000 in
theorem rrecord_die {s : ByteArray} {a : Nat} {R : List Par} (h : recP s a = none) (hs : s.size ≤ 1000000) (ha : a ≤ s.size) : FunDie Tryd.prog 72 [.mn rdT (rdC s a) R] wrongV := by
 unfold recP at h
 refine funDie_xc ck_dns_reader_record rfl (nd_b rfl) ?_
 (refine goI ?_; repeat (intro gg; refine goI ?_))
 rcases e1 : nameP s a with _ | ⟨nm, a1⟩
 ·(refine .inr (.inr ⟨_, false, 0 :: ([] ++ []), _, ?_, rname_die (R := rdC s 0) e1 hs (by omega), rfl⟩); focus (exact aM_mn (gone := []) (gone1 := []) rfl aI (by decide) (by decide) (by decide) rfl aM))
 rw [e1, Option.bind_some] at h
 simp only at h
 have be1 := nameP_bd e1
 (refine .inr (.inl ⟨_, _, false, 0 :: ([] ++ []), ?_, rname_fun e1 hs (by omega), nobor, oI, dI, ?_⟩); focus (exact aM_mn (gone := []) (gone1 := []) rfl aI (by decide) (by decide) (by decide) rfl aM))
 (refine goI ?_; repeat (intro gg; refine goI ?_))
 rcases e2 : twoP s a1 with _ | ⟨t, a2⟩
 ·(refine .inr (.inr ⟨_, false, 0 :: ([] ++ []), _, ?_, rtwo_die (R := rdC s 0) e2 hs, rfl⟩); focus (exact aM_mn (gone := []) (gone1 := []) rfl aI (by decide) (by decide) (by decide) rfl aM))
 rw [e2, Option.bind_some] at h
 simp only at h
 have be2 := twoP_bd e2
 (refine .inr (.inl ⟨_, _, false, 0 :: ([] ++ []), ?_, rtwo_fun e2 hs, nobor, oI, dI, ?_⟩); focus (exact aM_mn (gone := []) (gone1 := []) rfl aI (by decide) (by decide) (by decide) rfl aM))
 (refine goI ?_; repeat (intro gg; refine goI ?_))
 rcases e3 : twoP s a2 with _ | ⟨one, a3⟩
 ·(refine .inr (.inr ⟨_, false, 0 :: ([] ++ []), _, ?_, rtwo_die (R := rdC s 0) e3 hs, rfl⟩); focus (exact aM_mn (gone := []) (gone1 := []) rfl aI (by decide) (by decide) (by decide) rfl aM))
 rw [e3, Option.bind_some] at h
 simp only at h
 have be3 := twoP_bd e3
 (refine .inr (.inl ⟨_, _, false, 0 :: ([] ++ []), ?_, rtwo_fun e3 hs, nobor, oI, dI, ?_⟩); focus (exact aM_mn (gone := []) (gone1 := []) rfl aI (by decide) (by decide) (by decide) rfl aM))
 (refine goI ?_; repeat (intro gg; refine goI ?_))
 by_cases c3 : one = 1
 ·rw [if_pos c3] at h
  (refine .inl ⟨_, _, true, [], aI, must_fun _ (beq_iff_eq.2 (by omega)), (fun _ => fI), nI, ?_⟩)
  (refine goI ?_; repeat (intro gg; refine goI ?_))
  rcases e4 : fourP s a3 with _ | ⟨ls, a4⟩
  ·(refine .inr (.inr ⟨_, false, 0 :: ([] ++ []), _, ?_, four_die (R := rdC s 0) e4 hs, rfl⟩); focus (exact aM_mn (gone := []) (gone1 := []) rfl aI (by decide) (by decide) (by decide) rfl aM))
  rw [e4, Option.bind_some] at h
  simp only at h
  have be4 := fourP_bd e4
  (refine .inr (.inl ⟨_, _, false, 0 :: ([] ++ []), ?_, four_fun e4 hs, nobor, oI, dI, ?_⟩); focus (exact aM_mn (gone := []) (gone1 := []) rfl aI (by decide) (by decide) (by decide) rfl aM))
  (refine goI ?_; repeat (intro gg; refine goI ?_))
  rcases e5 : twoP s a4 with _ | ⟨n, a5⟩
  ·(refine .inr (.inr ⟨_, false, 0 :: ([] ++ []), _, ?_, rtwo_die (R := rdC s 0) e5 hs, rfl⟩); focus (exact aM_mn (gone := []) (gone1 := []) rfl aI (by decide) (by decide) (by decide) rfl aM))
  rw [e5, Option.bind_some] at h
  simp only at h
  have be5 := twoP_bd e5
  (refine .inr (.inl ⟨_, _, false, 0 :: ([] ++ []), ?_, rtwo_fun e5 hs, nobor, oI, dI, ?_⟩); focus (exact aM_mn (gone := []) (gone1 := []) rfl aI (by decide) (by decide) (by decide) rfl aM))
  (refine goI ?_; repeat (intro gg; refine goI ?_))
  by_cases c5 : a5 + n ≤ s.size
  ·rw [if_pos c5] at h
   (refine .inl ⟨_, _, true, [], aI, must_fun _ (decide_eq_true (by omega)), (fun _ => fI), nI, ?_⟩)
   (refine goI ?_; repeat (intro gg; refine goI ?_))
   by_cases t1 : t = 1
   ·subst t1
    rw [bodyP_1] at h
    rw [show (((1 : Nat) : Int) == 1) = true from rfl]
    (refine goI ?_; repeat (intro gg; refine goI ?_))
    rcases e6 : fourP s a5 with _ | ⟨ad, a6⟩
    ·(refine .inr (.inr ⟨_, false, 0 :: ([] ++ []), _, ?_, four_die (R := rdC s 0) e6 hs, rfl⟩); focus (exact aM_mn (gone := []) (gone1 := []) rfl aI (by decide) (by decide) (by decide) rfl aM))
    rw [e6, Option.bind_some] at h
    simp only at h
    have be6 := fourP_bd e6
    (refine .inr (.inl ⟨_, _, false, 0 :: ([] ++ []), ?_, four_fun e6 hs, nobor, oI, dI, ?_⟩); focus (exact aM_mn (gone := []) (gone1 := []) rfl aI (by decide) (by decide) (by decide) rfl aM))
    (refine goI ?_; repeat (intro gg; refine goI ?_))
    rw [Option.bind_some] at h
    simp only at h
    by_cases c9 : a6 = a5 + n
    ·rw [if_pos c9] at h
     (refine .inl ⟨_, _, true, [], aI, must_fun _ (beq_iff_eq.2 (by omega)), (fun _ => fI), nI, ?_⟩)
     (refine goI ?_; repeat (intro gg; refine goI ?_))
     cases h
    ·(exact .inr (.inr ⟨_, true, [], _, aM, must_die _ (beq_eq_false_iff_ne.2 (by omega)), rfl⟩))
   by_cases t2 : t = 16
   ·subst t2
    rw [bodyP_16] at h
    rw [show (((16 : Nat) : Int) == 1) = false from rfl]
    (refine goI ?_; repeat (intro gg; refine goI ?_))
    rw [show (((16 : Nat) : Int) == 16) = true from rfl]
    (refine goI ?_; repeat (intro gg; refine goI ?_))
    rcases e6 : byteP s a5 with _ | ⟨k, a6⟩
    ·(refine .inr (.inr ⟨_, false, 0 :: ([] ++ []), _, ?_, byte_die (R := rdC s 0) e6 hs, rfl⟩); focus (exact aM_mn (gone := []) (gone1 := []) rfl aI (by decide) (by decide) (by decide) rfl aM))
    rw [e6, Option.bind_some] at h
    simp only at h
    have be6 := byteP_bd e6
    (refine .inr (.inl ⟨_, _, false, 0 :: ([] ++ []), ?_, byte_fun e6 hs, nobor, oI, dI, ?_⟩); focus (exact aM_mn (gone := []) (gone1 := []) rfl aI (by decide) (by decide) (by decide) rfl aM))
    (refine goI ?_; repeat (intro gg; refine goI ?_))
    rcases e7 : bytesP s a6 k with _ | ⟨tx, a7⟩
    ·(refine .inr (.inr ⟨_, false, 0 :: ([] ++ []), _, ?_, bytes_die (R := rdC s 0) e7 hs (by omega) (by omega), rfl⟩); focus (exact aM_mn (gone := []) (gone1 := []) rfl aI (by decide) (by decide) (by decide) rfl aM))
    rw [e7, Option.bind_some] at h
    simp only at h
    have be7 := bytesP_bd e7
    (refine .inr (.inl ⟨_, _, false, 0 :: ([] ++ []), ?_, bytes_fun e7 hs (by omega) (by omega), nobor, oI, dI, ?_⟩); focus (exact aM_mn (gone := []) (gone1 := []) rfl aI (by decide) (by decide) (by decide) rfl aM))
    (refine goI ?_; repeat (intro gg; refine goI ?_))
    rw [Option.bind_some] at h
    simp only at h
    by_cases c9 : a7 = a5 + n
    ·rw [if_pos c9] at h
     (refine .inl ⟨_, _, true, [], aI, must_fun _ (beq_iff_eq.2 (by omega)), (fun _ => fI), nI, ?_⟩)
     (refine goI ?_; repeat (intro gg; refine goI ?_))
     cases h
    ·(exact .inr (.inr ⟨_, true, [], _, aM, must_die _ (beq_eq_false_iff_ne.2 (by omega)), rfl⟩))
   by_cases t3 : t = 33
   ·subst t3
    rw [bodyP_33] at h
    rw [show (((33 : Nat) : Int) == 1) = false from rfl]
    (refine goI ?_; repeat (intro gg; refine goI ?_))
    rw [show (((33 : Nat) : Int) == 16) = false from rfl]
    (refine goI ?_; repeat (intro gg; refine goI ?_))
    rw [show (((33 : Nat) : Int) == 33) = true from rfl]
    (refine goI ?_; repeat (intro gg; refine goI ?_))
    rcases e6 : twoP s a5 with _ | ⟨z, a6⟩
    ·(refine .inr (.inr ⟨_, false, 0 :: ([] ++ []), _, ?_, rtwo_die (R := rdC s 0) e6 hs, rfl⟩); focus (exact aM_mn (gone := []) (gone1 := []) rfl aI (by decide) (by decide) (by decide) rfl aM))
    rw [e6, Option.bind_some] at h
    simp only at h
    have be6 := twoP_bd e6
    (refine .inr (.inl ⟨_, _, false, 0 :: ([] ++ []), ?_, rtwo_fun e6 hs, nobor, oI, dI, ?_⟩); focus (exact aM_mn (gone := []) (gone1 := []) rfl aI (by decide) (by decide) (by decide) rfl aM))
    (refine goI ?_; repeat (intro gg; refine goI ?_))
    by_cases c6 : z = 0
    ·rw [if_pos c6] at h
     rw [show ((z : Int) == 0) = true from beq_iff_eq.2 (by omega)]
     (refine goI ?_; repeat (intro gg; refine goI ?_))
     rcases e7 : twoP s a6 with _ | ⟨y, a7⟩
     ·(refine .inr (.inr ⟨_, false, 0 :: ([] ++ []), _, ?_, rtwo_die (R := rdC s 0) e7 hs, rfl⟩); focus (exact aM_mn (gone := []) (gone1 := []) rfl aI (by decide) (by decide) (by decide) rfl aM))
     rw [e7, Option.bind_some] at h
     simp only at h
     have be7 := twoP_bd e7
     (refine .inr (.inl ⟨_, _, false, 0 :: ([] ++ []), ?_, rtwo_fun e7 hs, nobor, oI, dI, ?_⟩); focus (exact aM_mn (gone := []) (gone1 := []) rfl aI (by decide) (by decide) (by decide) rfl aM))
     (refine goI ?_; repeat (intro gg; refine goI ?_))
     by_cases c7 : y = 0
     ·rw [if_pos c7] at h
      (refine .inl ⟨_, _, true, [], aI, must_fun _ (beq_iff_eq.2 (by omega)), (fun _ => fI), nI, ?_⟩)
      (refine goI ?_; repeat (intro gg; refine goI ?_))
      rcases e8 : twoP s a7 with _ | ⟨pt, a8⟩
      ·(refine .inr (.inr ⟨_, false, 0 :: ([] ++ []), _, ?_, rtwo_die (R := rdC s 0) e8 hs, rfl⟩); focus (exact aM_mn (gone := []) (gone1 := []) rfl aI (by decide) (by decide) (by decide) rfl aM))
      rw [e8, Option.bind_some] at h
      simp only at h
      have be8 := twoP_bd e8
      (refine .inr (.inl ⟨_, _, false, 0 :: ([] ++ []), ?_, rtwo_fun e8 hs, nobor, oI, dI, ?_⟩); focus (exact aM_mn (gone := []) (gone1 := []) rfl aI (by decide) (by decide) (by decide) rfl aM))
      (refine goI ?_; repeat (intro gg; refine goI ?_))
      rcases e9 : nameP s a8 with _ | ⟨tg, a9⟩
      ·(refine .inr (.inr ⟨_, false, 0 :: ([] ++ []), _, ?_, rname_die (R := rdC s 0) e9 hs (by omega), rfl⟩); focus (exact aM_mn (gone := []) (gone1 := []) rfl aI (by decide) (by decide) (by decide) rfl aM))
      rw [e9, Option.bind_some] at h
      simp only at h
      have be9 := nameP_bd e9
      (refine .inr (.inl ⟨_, _, false, 0 :: ([] ++ []), ?_, rname_fun e9 hs (by omega), nobor, oI, dI, ?_⟩); focus (exact aM_mn (gone := []) (gone1 := []) rfl aI (by decide) (by decide) (by decide) rfl aM))
      (refine goI ?_; repeat (intro gg; refine goI ?_))
      rw [Option.bind_some] at h
      simp only at h
      by_cases c9 : a9 = a5 + n
      ·rw [if_pos c9] at h
       (refine .inl ⟨_, _, true, [], aI, must_fun _ (beq_iff_eq.2 (by omega)), (fun _ => fI), nI, ?_⟩)
       (refine goI ?_; repeat (intro gg; refine goI ?_))
       cases h
      ·(exact .inr (.inr ⟨_, true, [], _, aM, must_die _ (beq_eq_false_iff_ne.2 (by omega)), rfl⟩))
     ·(exact .inr (.inr ⟨_, true, [], _, aM, must_die _ (beq_eq_false_iff_ne.2 (by omega)), rfl⟩))
    ·rw [show ((z : Int) == 0) = false from beq_eq_false_iff_ne.2 (by omega)]
     (refine goI ?_; repeat (intro gg; refine goI ?_))
     (exact .inr (.inr ⟨_, true, [], _, aM, must_die _ rfl, rfl⟩))
   rw [show ((t : Int) == 1) = false from beq_eq_false_iff_ne.2 (by omega)]
   (refine goI ?_; repeat (intro gg; refine goI ?_))
   rw [show ((t : Int) == 16) = false from beq_eq_false_iff_ne.2 (by omega)]
   (refine goI ?_; repeat (intro gg; refine goI ?_))
   rw [show ((t : Int) == 33) = false from beq_eq_false_iff_ne.2 (by omega)]
   (refine goI ?_; repeat (intro gg; refine goI ?_))
   (exact .inr (.inr ⟨_, true, [], _, aM, must_die _ rfl, rfl⟩))
  ·(exact .inr (.inr ⟨_, true, [], _, aM, must_die _ (decide_eq_false (by omega)), rfl⟩))
 ·(exact .inr (.inr ⟨_, true, [], _, aM, must_die _ (beq_eq_false_iff_ne.2 (by omega)), rfl⟩))
end Go.Proofs.YtjhdlcmecbngkaaDoor
namespace Go.Proofs.YtjhdlcmecbngkaaDoor
open Go Go.RowKit Pl
set_option linter.unusedVariables false
theorem recP_bd {s : ByteArray} {a a' : Nat} {v : Rr} (h : recP s a = some (v, a')) : a' ≤ s.size ∧ v.nm.size ≤ 1000 ∧ v.tx.size ≤ s.size ∧ v.tg.size ≤ 1000 := by
 unfold recP at h
 rcases e1 : nameP s a with _ | ⟨nm, a1⟩
 ·rw [e1] at h; cases h
 rw [e1, Option.bind_some] at h
 simp only at h
 rcases e2 : twoP s a1 with _ | ⟨t, a2⟩
 ·rw [e2] at h; cases h
 rw [e2, Option.bind_some] at h
 simp only at h
 rcases e3 : twoP s a2 with _ | ⟨one, a3⟩
 ·rw [e3] at h; cases h
 rw [e3, Option.bind_some] at h
 simp only at h
 split at h
 ·rcases e4 : fourP s a3 with _ | ⟨ls, a4⟩
  ·rw [e4] at h; cases h
  rw [e4, Option.bind_some] at h
  simp only at h
  rcases e5 : twoP s a4 with _ | ⟨n, a5⟩
  ·rw [e5] at h; cases h
  rw [e5, Option.bind_some] at h
  simp only at h
  split at h
  ·rename_i c5
   rcases e6 : bodyP s t a5 with _ | ⟨⟨ad, tx, pt, tg⟩, a6⟩
   ·rw [e6] at h; cases h
   rw [e6, Option.bind_some] at h
   simp only at h
   split at h
   ·rename_i c6
    cases h
    have b1 := (nameP_bd e1).2
    have key : tx.size ≤ s.size ∧ tg.size ≤ 1000 := by
     unfold bodyP at e6
     split at e6
     ·rcases f1 : fourP s a5 with _ | ⟨x1, y1⟩ <;> rw [f1] at e6 <;> cases e6
      exact ⟨Nat.zero_le _, Nat.zero_le _⟩
     ·split at e6
      ·rcases f1 : byteP s a5 with _ | ⟨x1, y1⟩
       ·rw [f1] at e6; cases e6
       rw [f1, Option.bind_some] at e6
       simp only at e6
       rcases f2 : bytesP s y1 x1 with _ | ⟨x2, y2⟩ <;> rw [f2] at e6 <;> cases e6
       have := bytesP_bd f2
       exact ⟨show x2.size ≤ s.size by omega, Nat.zero_le _⟩
      ·split at e6
       ·rcases f1 : twoP s a5 with _ | ⟨x1, y1⟩
        ·rw [f1] at e6; cases e6
        rw [f1, Option.bind_some] at e6
        simp only at e6
        split at e6
        ·rcases f2 : twoP s y1 with _ | ⟨x2, y2⟩
         ·rw [f2] at e6; cases e6
         rw [f2, Option.bind_some] at e6
         simp only at e6
         split at e6
         ·rcases f3 : twoP s y2 with _ | ⟨x3, y3⟩
          ·rw [f3] at e6; cases e6
          rw [f3, Option.bind_some] at e6
          simp only at e6
          rcases f4 : nameP s y3 with _ | ⟨x4, y4⟩ <;> rw [f4] at e6 <;> cases e6
          exact ⟨Nat.zero_le _, (nameP_bd f4).2⟩
         ·cases e6
        ·cases e6
       ·cases e6
    exact ⟨by omega, b1, key.1, key.2⟩
   ·cases h
  ·cases h
 ·cases h
def msgR (id : Int) (an ct : Bool) (co : Int) (qn : ByteArray) (qt : Int) (v : V) : List V := [.v (.int .i64 id), .v (.bool an), .v (.bool ct), .v (.int .i64 co), .v (.string qn), .v (.int .i64 qt), v]
def msgO (s : ByteArray) (gz gb : Nat) (id : Int) (an ct : Bool) (co : Int) (qn : ByteArray) (qt : Int) (a : Nat) (L : List Rr) (g : Nat) : List (Nat × Ent) :=
 match L with
 | [] => [(32, ⟨gz, .b 40, 7, [msgR 0 false false 0 ⟨#[]⟩ 0 (.v (.slice none 0 0))]⟩), (48, ⟨gb, .b 40, 7, [msgR id an ct co qn qt (.v (.slice none 0 0))]⟩), (0, ⟨0, .b rdT, 2, [[.v (.string s), .v (.int .i64 (a : Int))]]⟩)]
 | r :: L => [(32, ⟨gz, .b 40, 7, [msgR 0 false false 0 ⟨#[]⟩ 0 (.v (.slice none 0 0))]⟩), (48, ⟨gb, .b 40, 7, [msgR id an ct co qn qt (.own 1168 g)]⟩), (1168, ⟨g, .t 64, 7, (r :: L).map Rr.row⟩), (0, ⟨0, .b rdT, 2, [[.v (.string s), .v (.int .i64 (a : Int))]]⟩)]
theorem hdE_nil (env : Env) (lv : List (Nat × V)) : hdE env [] lv = hdE (fun _ => .any) [] lv := rfl
theorem hdH_nil (H : Hp) (ho : List (Nat × Ent)) : hdH H [] ho = hdH noH [] ho := rfl
theorem keptE_nil (env env' : Env) : keptE env env' [] = True := rfl
theorem keptH_nil (H H' : Hp) : keptH H H' [] = True := rfl
structure RcI (s : ByteArray) (n : Nat) (R : Option (List Rr × Nat)) (k a : Nat) (L : List Rr) : Prop where
 hr : (recsP s (n - k) a).map (fun p => (L ++ p.1, p.2)) = R
 hk : k ≤ n
 hl : L.length = k
 ha : a ≤ s.size
 hz : ∀ r ∈ L, r.nm.size ≤ 1000 ∧ r.tx.size ≤ s.size ∧ r.tg.size ≤ 1000
theorem fl_ok {a : Nat} (h : a < 256) : (IntKind.i64.wrap ((BitVec.ofInt IntKind.i64.bits (a : Int) &&& ~~~ BitVec.ofInt IntKind.i64.bits 130).toNat) == 0) = okFl a := by
 have key : ∀ k : Fin 256, (IntKind.i64.wrap ((BitVec.ofInt IntKind.i64.bits (k.val : Int) &&& ~~~ BitVec.ofInt IntKind.i64.bits 130).toNat) == 0) = okFl k.val := by decide +kernel
 exact key ⟨a, h⟩
theorem fl_an {a : Nat} (h : a < 256) : decide (0 < IntKind.i64.wrap ((BitVec.ofInt IntKind.i64.bits (a : Int) &&& BitVec.ofInt IntKind.i64.bits 128).toNat)) = decide (128 ≤ a) := by
 have key : ∀ k : Fin 256, decide (0 < IntKind.i64.wrap ((BitVec.ofInt IntKind.i64.bits (k.val : Int) &&& BitVec.ofInt IntKind.i64.bits 128).toNat)) = decide (128 ≤ k.val) := by decide +kernel
 exact key ⟨a, h⟩
theorem fl_ct {a : Nat} (h : a < 256) : decide (0 < IntKind.i64.wrap ((BitVec.ofInt IntKind.i64.bits (a : Int) &&& BitVec.ofInt IntKind.i64.bits 2).toNat)) = decide (a % 4 ≥ 2) := by
 have key : ∀ k : Fin 256, decide (0 < IntKind.i64.wrap ((BitVec.ofInt IntKind.i64.bits (k.val : Int) &&& BitVec.ofInt IntKind.i64.bits 2).toNat)) = decide (k.val % 4 ≥ 2) := by decide +kernel
 exact key ⟨a, h⟩
theorem RcI.start {s : ByteArray} {n a : Nat} (ha : a ≤ s.size) : RcI s n (recsP s n a) 0 a [] := ⟨by simp, by omega, rfl, ha, by simp⟩
theorem RcI.next {s : ByteArray} {n k a a2 : Nat} {R : Option (List Rr × Nat)} {L : List Rr} {r : Rr} (h : RcI s n R k a L) (hk : k < n) (e : recP s a = some (r, a2)) : RcI s n R (k + 1) a2 (L ++ [r]) := by
 have hb := recP_bd e
 refine ⟨?_, by omega, by simp [h.hl], hb.1, fun x hx => ?_⟩
 ·rw [← h.hr, show n - k = (n - (k + 1)) + 1 by omega]
  rw [recsP, e, Option.bind_some]
  simp only
  cases recsP s (n - (k + 1)) a2 with
  | none => rfl
  | some p => simp
 ·rcases List.mem_append.1 hx with hx | hx
  ·exact h.hz x hx
  ·simp at hx; subst hx; exact ⟨hb.2.1, hb.2.2.1, hb.2.2.2⟩
theorem RcI.none {s : ByteArray} {n k a : Nat} {R : Option (List Rr × Nat)} {L : List Rr} (h : RcI s n R k a L) (hk : k < n) (e : recP s a = none) : R = none := by
 rw [← h.hr, show n - k = (n - (k + 1)) + 1 by omega, recsP, e]
 rfl
theorem RcI.end_ {s : ByteArray} {n k a : Nat} {R : Option (List Rr × Nat)} {L : List Rr} (h : RcI s n R k a L) (hk : ¬ k < n) : R = some (L, a) := by
 have := h.hk
 rw [← h.hr, show n - k = 0 by omega, recsP]
 simp
end Go.Proofs.YtjhdlcmecbngkaaDoor
namespace Go.Proofs.YtjhdlcmecbngkaaDoor
open Go Go.RowKit Pl
set_option linter.unusedVariables false
set_option maxHeartbeats 4000000 in
theorem rmessage_fun {s : ByteArray} {v : Ms} (h : msgP s = some v) (hs : s.size ≤ 1000000) : FunM Tryd.prog 51 [.mn rdT (rdC s 0) (rdC s s.size)] [.p (.c (.agg v.row))] := by
 unfold msgP at h
 refine funM_xc ck_dns_reader_message rfl (nd_b rfl) ?_
 (refine goI ?_; repeat (intro gg; refine goI ?_))
 revert gg; intro gz
 rcases e1 : twoP s 0 with _ | ⟨i, a1⟩
 ·rw [e1] at h; cases h
 rw [e1, Option.bind_some] at h
 simp only at h
 have be1 := twoP_bd e1
 (refine .inr (.inl ⟨_, _, false, 0 :: ([] ++ []), ?_, rtwo_fun e1 hs, nobor, oI, dI, ?_⟩); focus (exact aM_mn (gone := []) (gone1 := []) rfl aI (by decide) (by decide) (by decide) rfl aM))
 (refine goI ?_; repeat (intro gg; refine goI ?_))
 revert gg; intro gb
 rcases e2 : byteP s a1 with _ | ⟨fl, a2⟩
 ·rw [e2] at h; cases h
 rw [e2, Option.bind_some] at h
 simp only at h
 have be2 := byteP_bd e2
 (refine .inr (.inl ⟨_, _, false, 0 :: ([] ++ []), ?_, byte_fun e2 hs, nobor, oI, dI, ?_⟩); focus (exact aM_mn (gone := []) (gone1 := []) rfl aI (by decide) (by decide) (by decide) rfl aM))
 (refine goI ?_; repeat (intro gg; refine goI ?_))
 rcases e3 : byteP s a2 with _ | ⟨co, a3⟩
 ·rw [e3] at h; cases h
 rw [e3, Option.bind_some] at h
 simp only at h
 have be3 := byteP_bd e3
 (refine .inr (.inl ⟨_, _, false, 0 :: ([] ++ []), ?_, byte_fun e3 hs, nobor, oI, dI, ?_⟩); focus (exact aM_mn (gone := []) (gone1 := []) rfl aI (by decide) (by decide) (by decide) rfl aM))
 (refine goI ?_; repeat (intro gg; refine goI ?_))
 refine ⟨_, rfl, ?_⟩
 (refine goI ?_; repeat (intro gg; refine goI ?_))
 rw [fl_ok be2.1]
 by_cases q1 : okFl fl = true
 rotate_left
 ·rw [if_neg (by simp [q1])] at h; cases h
 rw [q1] at h ⊢
 (refine goI ?_; repeat (intro gg; refine goI ?_))
 by_cases q2 : co < 16
 rotate_left
 ·rw [if_neg (by simp [q2])] at h; cases h
 rw [if_pos (by simp [q2])] at h
 (refine .inl ⟨_, _, true, [], aI, must_fun _ (decide_eq_true (by omega)), (fun _ => fI), nI, ?_⟩)
 (refine goI ?_; repeat (intro gg; refine goI ?_))
 refine ⟨_, rfl, ?_⟩
 (refine goI ?_; repeat (intro gg; refine goI ?_))
 refine ⟨_, rfl, ?_⟩
 (refine goI ?_; repeat (intro gg; refine goI ?_))
 rw [fl_an be2.1, fl_ct be2.1]
 obtain ⟨an, han⟩ : ∃ x, x = decide (128 ≤ fl) := ⟨_, rfl⟩
 obtain ⟨ct, hct⟩ : ∃ x, x = decide (fl % 4 ≥ 2) := ⟨_, rfl⟩
 rw [← han, ← hct] at h ⊢
 rcases e4 : twoP s a3 with _ | ⟨one, a4⟩
 ·rw [e4] at h; cases h
 rw [e4, Option.bind_some] at h
 simp only at h
 have be4 := twoP_bd e4
 (refine .inr (.inl ⟨_, _, false, 0 :: ([] ++ []), ?_, rtwo_fun e4 hs, nobor, oI, dI, ?_⟩); focus (exact aM_mn (gone := []) (gone1 := []) rfl aI (by decide) (by decide) (by decide) rfl aM))
 (refine goI ?_; repeat (intro gg; refine goI ?_))
 by_cases c4 : one = 1
 rotate_left
 ·rw [if_neg c4] at h; cases h
 rw [if_pos c4] at h
 (refine .inl ⟨_, _, true, [], aI, must_fun _ (beq_iff_eq.2 (by omega)), (fun _ => fI), nI, ?_⟩)
 (refine goI ?_; repeat (intro gg; refine goI ?_))
 rcases e5 : twoP s a4 with _ | ⟨n, a5⟩
 ·rw [e5] at h; cases h
 rw [e5, Option.bind_some] at h
 simp only at h
 have be5 := twoP_bd e5
 (refine .inr (.inl ⟨_, _, false, 0 :: ([] ++ []), ?_, rtwo_fun e5 hs, nobor, oI, dI, ?_⟩); focus (exact aM_mn (gone := []) (gone1 := []) rfl aI (by decide) (by decide) (by decide) rfl aM))
 (refine goI ?_; repeat (intro gg; refine goI ?_))
 by_cases c5 : n ≤ 20
 rotate_left
 ·rw [if_neg c5] at h; cases h
 rw [if_pos c5] at h
 rw [show (decide ((n : Int) ≤ 20)) = true from decide_eq_true (by omega)]
 (refine goI ?_; repeat (intro gg; refine goI ?_))
 rcases e6 : twoP s a5 with _ | ⟨z, a6⟩
 ·rw [e6] at h; cases h
 rw [e6, Option.bind_some] at h
 simp only at h
 have be6 := twoP_bd e6
 (refine .inr (.inl ⟨_, _, false, 0 :: ([] ++ []), ?_, rtwo_fun e6 hs, nobor, oI, dI, ?_⟩); focus (exact aM_mn (gone := []) (gone1 := []) rfl aI (by decide) (by decide) (by decide) rfl aM))
 (refine goI ?_; repeat (intro gg; refine goI ?_))
 by_cases c6 : z = 0
 rotate_left
 ·rw [if_neg c6] at h; cases h
 rw [if_pos c6] at h
 rw [show ((z : Int) == 0) = true from beq_iff_eq.2 (by omega)]
 (refine goI ?_; repeat (intro gg; refine goI ?_))
 rcases e7 : twoP s a6 with _ | ⟨y, a7⟩
 ·rw [e7] at h; cases h
 rw [e7, Option.bind_some] at h
 simp only at h
 have be7 := twoP_bd e7
 (refine .inr (.inl ⟨_, _, false, 0 :: ([] ++ []), ?_, rtwo_fun e7 hs, nobor, oI, dI, ?_⟩); focus (exact aM_mn (gone := []) (gone1 := []) rfl aI (by decide) (by decide) (by decide) rfl aM))
 (refine goI ?_; repeat (intro gg; refine goI ?_))
 by_cases c7 : y = 0
 rotate_left
 ·rw [if_neg c7] at h; cases h
 rw [if_pos c7] at h
 (refine .inl ⟨_, _, true, [], aI, must_fun _ (beq_iff_eq.2 (by omega)), (fun _ => fI), nI, ?_⟩)
 (refine goI ?_; repeat (intro gg; refine goI ?_))
 rcases e8 : nameP s a7 with _ | ⟨qn, a8⟩
 ·rw [e8] at h; cases h
 rw [e8, Option.bind_some] at h
 simp only at h
 have be8 := nameP_bd e8
 (refine .inr (.inl ⟨_, _, false, 0 :: ([] ++ []), ?_, rname_fun e8 hs (by omega), nobor, oI, dI, ?_⟩); focus (exact aM_mn (gone := []) (gone1 := []) rfl aI (by decide) (by decide) (by decide) rfl aM))
 (refine goI ?_; repeat (intro gg; refine goI ?_))
 rcases e9 : twoP s a8 with _ | ⟨qt, a9⟩
 ·rw [e9] at h; cases h
 rw [e9, Option.bind_some] at h
 simp only at h
 have be9 := twoP_bd e9
 (refine .inr (.inl ⟨_, _, false, 0 :: ([] ++ []), ?_, rtwo_fun e9 hs, nobor, oI, dI, ?_⟩); focus (exact aM_mn (gone := []) (gone1 := []) rfl aI (by decide) (by decide) (by decide) rfl aM))
 (refine goI ?_; repeat (intro gg; refine goI ?_))
 rcases e10 : twoP s a9 with _ | ⟨d, a10⟩
 ·rw [e10] at h; cases h
 rw [e10, Option.bind_some] at h
 simp only at h
 have be10 := twoP_bd e10
 (refine .inr (.inl ⟨_, _, false, 0 :: ([] ++ []), ?_, rtwo_fun e10 hs, nobor, oI, dI, ?_⟩); focus (exact aM_mn (gone := []) (gone1 := []) rfl aI (by decide) (by decide) (by decide) rfl aM))
 (refine goI ?_; repeat (intro gg; refine goI ?_))
 by_cases c10 : d = 1
 rotate_left
 ·rw [if_neg c10] at h; cases h
 rw [if_pos c10] at h
 (refine .inl ⟨_, _, true, [], aI, must_fun _ (beq_iff_eq.2 (by omega)), (fun _ => fI), nI, ?_⟩)
 (refine goI ?_; repeat (intro gg; refine goI ?_))
 have hT := be10.2.2
 clear e1 e2 e3 e4 e5 e6 e7 e8 e9 e10 be1 be2 be3 be4 be6 be7 be9 be10
 (refine ⟨[], none, {p : Nat × Nat × List Rr × Nat // RcI s n (recsP s n a10) p.1 p.2.1 p.2.2.1}, [], fun ⟨⟨k, a, L, g⟩, hp⟩ => [(0, .ptr 0 0 0 0), (2, .ptr 32 gz 0 0), (3, .ptr 48 gb 0 0), (65, .v (.int .i64 (n : Int))), (66, .v (.int .i64 (k : Int)))], [], fun ⟨⟨k, a, L, g⟩, hp⟩ => msgO s gz gb i an ct co qn qt a L g, fun ⟨⟨k, a, L, g⟩, hp⟩ => n - k, trivial, fun _ => ⟨trivial, fun _ => ⟨⟨(0, a10, [], 0), RcI.start hT⟩, tI, keptE_refl _ _, tI, keptH_refl _ _⟩⟩, fun ⟨⟨k, a, L, g⟩, hp⟩ => ?_⟩)
 simp only at hp
 simp only [hdE_nil, hdH_nil, keptE_nil, keptH_nil]
 have hk := hp.hk
 have hl := hp.hl
 by_cases c11 : k < n
 ·rcases e : recP s a with _ | ⟨r, a2⟩
  ·have hn := hp.none c11 e
   rw [hn] at h; cases h
  ·have hnx := RcI.next hp c11 e
   have b := recP_bd e
   have hr7 : (([r].map Rr.row) : List (List V)) = [r.row] := rfl
   have hn20 : L.length ≤ 20 := by omega
   rcases L with _ | ⟨r0, L⟩
   ·(refine goI ?_; repeat (intro gg; refine goI ?_))
    (refine bIf_true ?_ ?_; focus (exact decide_eq_true (by omega)))
    (refine goI ?_; repeat (intro gg; refine goI ?_))
    refine ⟨?_, ?_⟩
    ·(refine goI ?_; repeat (intro gg; refine goI ?_))
     refine ⟨?_, ?_⟩
     ·(refine goI ?_; repeat (intro gg; refine goI ?_))
      (refine .inr (.inl ⟨_, _, false, 0 :: ([] ++ []), ?_, rrecord_fun e hs hp.ha, nobor, oI, dI, ?_⟩); focus (exact aM_mn (gone := []) (gone1 := []) rfl aI (by decide) (by decide) (by decide) rfl aM))
      (refine goI ?_; repeat (intro gg; refine goI ?_))
      refine ⟨lI, lI, ?_⟩
      (refine goI ?_; repeat (intro gg; refine goI ?_))
      (exact ⟨none, trivial, fun gr => ⟨⟨(k + 1, a2, [r], gg), hnx⟩, by show n - (k + 1) < n - k; omega, tI, tI, ⟨rfl, ⟨rfl, ⟨rfl, ⟨rfl, trivial⟩⟩⟩⟩, tI⟩⟩)
     ·(refine goI ?_; repeat (intro gg; refine goI ?_))
      refine ⟨?_, ?_⟩
      ·(refine goI ?_; repeat (intro gg; refine goI ?_))
       (refine .inr (.inl ⟨_, _, false, 0 :: ([] ++ []), ?_, rrecord_fun e hs hp.ha, nobor, oI, dI, ?_⟩); focus (exact aM_mn (gone := []) (gone1 := []) rfl aI (by decide) (by decide) (by decide) rfl aM))
       (refine goI ?_; repeat (intro gg; refine goI ?_))
       refine ⟨lI, lI, ?_⟩
       (refine goI ?_; repeat (intro gg; refine goI ?_))
       (exact ⟨none, trivial, fun gr => ⟨⟨(k + 1, a2, [r], gg), hnx⟩, by show n - (k + 1) < n - k; omega, tI, tI, ⟨rfl, ⟨rfl, ⟨rfl, ⟨rfl, trivial⟩⟩⟩⟩, tI⟩⟩)
      ·(refine goI ?_; repeat (intro gg; refine goI ?_))
       (refine .inr (.inl ⟨_, _, false, 0 :: ([] ++ []), ?_, rrecord_fun e hs hp.ha, nobor, oI, dI, ?_⟩); focus (exact aM_mn (gone := []) (gone1 := []) rfl aI (by decide) (by decide) (by decide) rfl aM))
       (refine goI ?_; repeat (intro gg; refine goI ?_))
       refine ⟨?_, ?_⟩
       ·(refine goI ?_; repeat (intro gg; refine goI ?_))
        refine ⟨lI, lI, ?_⟩
        (refine goI ?_; repeat (intro gg; refine goI ?_))
        (exact ⟨none, trivial, fun gr => ⟨⟨(k + 1, a2, [r], gg), hnx⟩, by show n - (k + 1) < n - k; omega, tI, tI, ⟨rfl, ⟨rfl, ⟨rfl, ⟨rfl, trivial⟩⟩⟩⟩, tI⟩⟩)
       ·(refine goI ?_; repeat (intro gg; refine goI ?_))
        refine ⟨lI, lI, ?_⟩
        (refine goI ?_; repeat (intro gg; refine goI ?_))
        (exact ⟨none, trivial, fun gr => ⟨⟨(k + 1, a2, [r], gg), hnx⟩, by show n - (k + 1) < n - k; omega, tI, tI, ⟨rfl, ⟨rfl, ⟨rfl, ⟨rfl, trivial⟩⟩⟩⟩, tI⟩⟩)
    ·(refine goI ?_; repeat (intro gg; refine goI ?_))
     refine ⟨?_, ?_⟩
     ·(refine goI ?_; repeat (intro gg; refine goI ?_))
      refine ⟨?_, ?_⟩
      ·(refine goI ?_; repeat (intro gg; refine goI ?_))
       (refine .inr (.inl ⟨_, _, false, 0 :: ([] ++ []), ?_, rrecord_fun e hs hp.ha, nobor, oI, dI, ?_⟩); focus (exact aM_mn (gone := []) (gone1 := []) rfl aI (by decide) (by decide) (by decide) rfl aM))
       (refine goI ?_; repeat (intro gg; refine goI ?_))
       refine ⟨lI, lI, ?_⟩
       (refine goI ?_; repeat (intro gg; refine goI ?_))
       (exact ⟨none, trivial, fun gr => ⟨⟨(k + 1, a2, [r], gg), hnx⟩, by show n - (k + 1) < n - k; omega, tI, tI, ⟨rfl, ⟨rfl, ⟨rfl, ⟨rfl, trivial⟩⟩⟩⟩, tI⟩⟩)
      ·(refine goI ?_; repeat (intro gg; refine goI ?_))
       (refine .inr (.inl ⟨_, _, false, 0 :: ([] ++ []), ?_, rrecord_fun e hs hp.ha, nobor, oI, dI, ?_⟩); focus (exact aM_mn (gone := []) (gone1 := []) rfl aI (by decide) (by decide) (by decide) rfl aM))
       (refine goI ?_; repeat (intro gg; refine goI ?_))
       refine ⟨?_, ?_⟩
       ·(refine goI ?_; repeat (intro gg; refine goI ?_))
        refine ⟨lI, lI, ?_⟩
        (refine goI ?_; repeat (intro gg; refine goI ?_))
        (exact ⟨none, trivial, fun gr => ⟨⟨(k + 1, a2, [r], gg), hnx⟩, by show n - (k + 1) < n - k; omega, tI, tI, ⟨rfl, ⟨rfl, ⟨rfl, ⟨rfl, trivial⟩⟩⟩⟩, tI⟩⟩)
       ·(refine goI ?_; repeat (intro gg; refine goI ?_))
        refine ⟨lI, lI, ?_⟩
        (refine goI ?_; repeat (intro gg; refine goI ?_))
        (exact ⟨none, trivial, fun gr => ⟨⟨(k + 1, a2, [r], gg), hnx⟩, by show n - (k + 1) < n - k; omega, tI, tI, ⟨rfl, ⟨rfl, ⟨rfl, ⟨rfl, trivial⟩⟩⟩⟩, tI⟩⟩)
     ·(refine goI ?_; repeat (intro gg; refine goI ?_))
      (refine .inr (.inl ⟨_, _, false, 0 :: ([] ++ []), ?_, rrecord_fun e hs hp.ha, nobor, oI, dI, ?_⟩); focus (exact aM_mn (gone := []) (gone1 := []) rfl aI (by decide) (by decide) (by decide) rfl aM))
      (refine goI ?_; repeat (intro gg; refine goI ?_))
      refine ⟨?_, ?_⟩
      ·(refine goI ?_; repeat (intro gg; refine goI ?_))
       refine ⟨?_, ?_⟩
       ·(refine goI ?_; repeat (intro gg; refine goI ?_))
        refine ⟨lI, lI, ?_⟩
        (refine goI ?_; repeat (intro gg; refine goI ?_))
        (exact ⟨none, trivial, fun gr => ⟨⟨(k + 1, a2, [r], gg), hnx⟩, by show n - (k + 1) < n - k; omega, tI, tI, ⟨rfl, ⟨rfl, ⟨rfl, ⟨rfl, trivial⟩⟩⟩⟩, tI⟩⟩)
       ·(refine goI ?_; repeat (intro gg; refine goI ?_))
        refine ⟨lI, lI, ?_⟩
        (refine goI ?_; repeat (intro gg; refine goI ?_))
        (exact ⟨none, trivial, fun gr => ⟨⟨(k + 1, a2, [r], gg), hnx⟩, by show n - (k + 1) < n - k; omega, tI, tI, ⟨rfl, ⟨rfl, ⟨rfl, ⟨rfl, trivial⟩⟩⟩⟩, tI⟩⟩)
      ·(refine goI ?_; repeat (intro gg; refine goI ?_))
       refine ⟨lI, lI, ?_⟩
       (refine goI ?_; repeat (intro gg; refine goI ?_))
       (exact ⟨none, trivial, fun gr => ⟨⟨(k + 1, a2, [r], gg), hnx⟩, by show n - (k + 1) < n - k; omega, tI, tI, ⟨rfl, ⟨rfl, ⟨rfl, ⟨rfl, trivial⟩⟩⟩⟩, tI⟩⟩)
   ·have hn21 : L.length ≤ 20 := by simp only [List.length_cons] at hn20; omega
    (refine goI ?_; repeat (intro gg; refine goI ?_))
    (refine bIf_true ?_ ?_; focus (exact decide_eq_true (by omega)))
    (refine goI ?_; repeat (intro gg; refine goI ?_))
    refine ⟨?_, ?_⟩
    ·(refine goI ?_; repeat (intro gg; refine goI ?_))
     refine ⟨?_, ?_⟩
     ·(refine goI ?_; repeat (intro gg; refine goI ?_))
      (refine .inr (.inl ⟨_, _, false, 0 :: ([] ++ []), ?_, rrecord_fun e hs hp.ha, nobor, oI, dI, ?_⟩); focus (exact aM_mn (gone := []) (gone1 := []) rfl aI (by decide) (by decide) (by decide) rfl aM))
      (refine goI ?_; repeat (intro gg; refine goI ?_))
      refine ⟨lI, lI, ?_⟩
      (refine goI ?_; repeat (intro gg; refine goI ?_))
      (exact ⟨none, trivial, fun gr => ⟨⟨(k + 1, a2, (r0 :: L) ++ [r], gg), hnx⟩, by show n - (k + 1) < n - k; omega, tI, tI, ⟨rfl, ⟨rfl, ⟨congrArg (fun x => some (Ent.mk gg (.t 64) 7 x)) (show (r0 :: L).map Rr.row ++ [r.row] = ((r0 :: L) ++ [r]).map Rr.row by rw [List.map_append]; rfl), ⟨rfl, trivial⟩⟩⟩⟩, tI⟩⟩)
     ·(refine goI ?_; repeat (intro gg; refine goI ?_))
      refine ⟨?_, ?_⟩
      ·(refine goI ?_; repeat (intro gg; refine goI ?_))
       (refine .inr (.inl ⟨_, _, false, 0 :: ([] ++ []), ?_, rrecord_fun e hs hp.ha, nobor, oI, dI, ?_⟩); focus (exact aM_mn (gone := []) (gone1 := []) rfl aI (by decide) (by decide) (by decide) rfl aM))
       (refine goI ?_; repeat (intro gg; refine goI ?_))
       refine ⟨lI, lI, ?_⟩
       (refine goI ?_; repeat (intro gg; refine goI ?_))
       (exact ⟨none, trivial, fun gr => ⟨⟨(k + 1, a2, (r0 :: L) ++ [r], gg), hnx⟩, by show n - (k + 1) < n - k; omega, tI, tI, ⟨rfl, ⟨rfl, ⟨congrArg (fun x => some (Ent.mk gg (.t 64) 7 x)) (show (r0 :: L).map Rr.row ++ [r.row] = ((r0 :: L) ++ [r]).map Rr.row by rw [List.map_append]; rfl), ⟨rfl, trivial⟩⟩⟩⟩, tI⟩⟩)
      ·(refine goI ?_; repeat (intro gg; refine goI ?_))
       (refine .inr (.inl ⟨_, _, false, 0 :: ([] ++ []), ?_, rrecord_fun e hs hp.ha, nobor, oI, dI, ?_⟩); focus (exact aM_mn (gone := []) (gone1 := []) rfl aI (by decide) (by decide) (by decide) rfl aM))
       (refine goI ?_; repeat (intro gg; refine goI ?_))
       refine ⟨?_, ?_⟩
       ·(refine goI ?_; repeat (intro gg; refine goI ?_))
        refine ⟨lI, lI, ?_⟩
        (refine goI ?_; repeat (intro gg; refine goI ?_))
        (exact ⟨none, trivial, fun gr => ⟨⟨(k + 1, a2, (r0 :: L) ++ [r], gg), hnx⟩, by show n - (k + 1) < n - k; omega, tI, tI, ⟨rfl, ⟨rfl, ⟨congrArg (fun x => some (Ent.mk gg (.t 64) 7 x)) (show (r0 :: L).map Rr.row ++ [r.row] = ((r0 :: L) ++ [r]).map Rr.row by rw [List.map_append]; rfl), ⟨rfl, trivial⟩⟩⟩⟩, tI⟩⟩)
       ·(refine goI ?_; repeat (intro gg; refine goI ?_))
        refine ⟨lI, lI, ?_⟩
        (refine goI ?_; repeat (intro gg; refine goI ?_))
        (exact ⟨none, trivial, fun gr => ⟨⟨(k + 1, a2, (r0 :: L) ++ [r], gg), hnx⟩, by show n - (k + 1) < n - k; omega, tI, tI, ⟨rfl, ⟨rfl, ⟨congrArg (fun x => some (Ent.mk gg (.t 64) 7 x)) (show (r0 :: L).map Rr.row ++ [r.row] = ((r0 :: L) ++ [r]).map Rr.row by rw [List.map_append]; rfl), ⟨rfl, trivial⟩⟩⟩⟩, tI⟩⟩)
    ·(refine goI ?_; repeat (intro gg; refine goI ?_))
     refine ⟨?_, ?_⟩
     ·(refine goI ?_; repeat (intro gg; refine goI ?_))
      refine ⟨?_, ?_⟩
      ·(refine goI ?_; repeat (intro gg; refine goI ?_))
       (refine .inr (.inl ⟨_, _, false, 0 :: ([] ++ []), ?_, rrecord_fun e hs hp.ha, nobor, oI, dI, ?_⟩); focus (exact aM_mn (gone := []) (gone1 := []) rfl aI (by decide) (by decide) (by decide) rfl aM))
       (refine goI ?_; repeat (intro gg; refine goI ?_))
       refine ⟨lI, lI, ?_⟩
       (refine goI ?_; repeat (intro gg; refine goI ?_))
       (exact ⟨none, trivial, fun gr => ⟨⟨(k + 1, a2, (r0 :: L) ++ [r], gg), hnx⟩, by show n - (k + 1) < n - k; omega, tI, tI, ⟨rfl, ⟨rfl, ⟨congrArg (fun x => some (Ent.mk gg (.t 64) 7 x)) (show (r0 :: L).map Rr.row ++ [r.row] = ((r0 :: L) ++ [r]).map Rr.row by rw [List.map_append]; rfl), ⟨rfl, trivial⟩⟩⟩⟩, tI⟩⟩)
      ·(refine goI ?_; repeat (intro gg; refine goI ?_))
       (refine .inr (.inl ⟨_, _, false, 0 :: ([] ++ []), ?_, rrecord_fun e hs hp.ha, nobor, oI, dI, ?_⟩); focus (exact aM_mn (gone := []) (gone1 := []) rfl aI (by decide) (by decide) (by decide) rfl aM))
       (refine goI ?_; repeat (intro gg; refine goI ?_))
       refine ⟨?_, ?_⟩
       ·(refine goI ?_; repeat (intro gg; refine goI ?_))
        refine ⟨lI, lI, ?_⟩
        (refine goI ?_; repeat (intro gg; refine goI ?_))
        (exact ⟨none, trivial, fun gr => ⟨⟨(k + 1, a2, (r0 :: L) ++ [r], gg), hnx⟩, by show n - (k + 1) < n - k; omega, tI, tI, ⟨rfl, ⟨rfl, ⟨congrArg (fun x => some (Ent.mk gg (.t 64) 7 x)) (show (r0 :: L).map Rr.row ++ [r.row] = ((r0 :: L) ++ [r]).map Rr.row by rw [List.map_append]; rfl), ⟨rfl, trivial⟩⟩⟩⟩, tI⟩⟩)
       ·(refine goI ?_; repeat (intro gg; refine goI ?_))
        refine ⟨lI, lI, ?_⟩
        (refine goI ?_; repeat (intro gg; refine goI ?_))
        (exact ⟨none, trivial, fun gr => ⟨⟨(k + 1, a2, (r0 :: L) ++ [r], gg), hnx⟩, by show n - (k + 1) < n - k; omega, tI, tI, ⟨rfl, ⟨rfl, ⟨congrArg (fun x => some (Ent.mk gg (.t 64) 7 x)) (show (r0 :: L).map Rr.row ++ [r.row] = ((r0 :: L) ++ [r]).map Rr.row by rw [List.map_append]; rfl), ⟨rfl, trivial⟩⟩⟩⟩, tI⟩⟩)
     ·(refine goI ?_; repeat (intro gg; refine goI ?_))
      (refine .inr (.inl ⟨_, _, false, 0 :: ([] ++ []), ?_, rrecord_fun e hs hp.ha, nobor, oI, dI, ?_⟩); focus (exact aM_mn (gone := []) (gone1 := []) rfl aI (by decide) (by decide) (by decide) rfl aM))
      (refine goI ?_; repeat (intro gg; refine goI ?_))
      refine ⟨?_, ?_⟩
      ·(refine goI ?_; repeat (intro gg; refine goI ?_))
       refine ⟨?_, ?_⟩
       ·(refine goI ?_; repeat (intro gg; refine goI ?_))
        refine ⟨lI, lI, ?_⟩
        (refine goI ?_; repeat (intro gg; refine goI ?_))
        (exact ⟨none, trivial, fun gr => ⟨⟨(k + 1, a2, (r0 :: L) ++ [r], gg), hnx⟩, by show n - (k + 1) < n - k; omega, tI, tI, ⟨rfl, ⟨rfl, ⟨congrArg (fun x => some (Ent.mk gg (.t 64) 7 x)) (show (r0 :: L).map Rr.row ++ [r.row] = ((r0 :: L) ++ [r]).map Rr.row by rw [List.map_append]; rfl), ⟨rfl, trivial⟩⟩⟩⟩, tI⟩⟩)
       ·(refine goI ?_; repeat (intro gg; refine goI ?_))
        refine ⟨lI, lI, ?_⟩
        (refine goI ?_; repeat (intro gg; refine goI ?_))
        (exact ⟨none, trivial, fun gr => ⟨⟨(k + 1, a2, (r0 :: L) ++ [r], gg), hnx⟩, by show n - (k + 1) < n - k; omega, tI, tI, ⟨rfl, ⟨rfl, ⟨congrArg (fun x => some (Ent.mk gg (.t 64) 7 x)) (show (r0 :: L).map Rr.row ++ [r.row] = ((r0 :: L) ++ [r]).map Rr.row by rw [List.map_append]; rfl), ⟨rfl, trivial⟩⟩⟩⟩, tI⟩⟩)
      ·(refine goI ?_; repeat (intro gg; refine goI ?_))
       refine ⟨lI, lI, ?_⟩
       (refine goI ?_; repeat (intro gg; refine goI ?_))
       (exact ⟨none, trivial, fun gr => ⟨⟨(k + 1, a2, (r0 :: L) ++ [r], gg), hnx⟩, by show n - (k + 1) < n - k; omega, tI, tI, ⟨rfl, ⟨rfl, ⟨congrArg (fun x => some (Ent.mk gg (.t 64) 7 x)) (show (r0 :: L).map Rr.row ++ [r.row] = ((r0 :: L) ++ [r]).map Rr.row by rw [List.map_append]; rfl), ⟨rfl, trivial⟩⟩⟩⟩, tI⟩⟩)
 ·have he := hp.end_ c11
  rw [he, Option.bind_some] at h
  simp only at h
  rcases L with _ | ⟨r0, L⟩
  ·(refine goI ?_; repeat (intro gg; refine goI ?_))
   (refine bIf_false ?_ ?_; focus (exact decide_eq_false (by omega)))
   (refine goI ?_; repeat (intro gg; refine goI ?_))
   by_cases c12 : a = s.size
   ·rw [if_pos c12] at h
    cases h
    subst c12
    (refine .inl ⟨_, _, true, [], aI, must_fun _ (beq_self_eq_true _), (fun _ => fI), nI, ?_⟩)
    (refine goI ?_; repeat (intro gg; refine goI ?_))
    (exact ⟨_, 0 :: ([] ++ []), .cell1 rfl rfl rfl rfl rfl rfl .nil, aM_bora cBI (aM_pn (gone := []) (gone1 := []) rfl aI (by decide) (by decide) (by decide) (.nil _))⟩)
   ·rw [if_neg c12] at h; cases h
  ·(refine goI ?_; repeat (intro gg; refine goI ?_))
   (refine bIf_false ?_ ?_; focus (exact decide_eq_false (by omega)))
   (refine goI ?_; repeat (intro gg; refine goI ?_))
   by_cases c12 : a = s.size
   ·rw [if_pos c12] at h
    cases h
    subst c12
    (refine .inl ⟨_, _, true, [], aI, must_fun _ (beq_self_eq_true _), (fun _ => fI), nI, ?_⟩)
    (refine goI ?_; repeat (intro gg; refine goI ?_))
    (exact ⟨_, 0 :: ([] ++ []), .cell1 rfl rfl rfl rfl rfl rfl .nil, aM_bora cBI (aM_pn (gone := []) (gone1 := []) rfl aI (by decide) (by decide) (by decide) (.nil _))⟩)
   ·rw [if_neg c12] at h; cases h
end Go.Proofs.YtjhdlcmecbngkaaDoor
namespace Go.Proofs.YtjhdlcmecbngkaaDoor
open Go Go.RowKit Pl
set_option linter.unusedVariables false
set_option maxHeartbeats 4000000 in
theorem rmessage_die {s : ByteArray} {R : List Par} (h : msgP s = none) (hs : s.size ≤ 1000000) : FunDie Tryd.prog 51 [.mn rdT (rdC s 0) R] wrongV := by
 unfold msgP at h
 refine funDie_xc ck_dns_reader_message rfl (nd_b rfl) ?_
 (refine goI ?_; repeat (intro gg; refine goI ?_))
 revert gg; intro gz
 rcases e1 : twoP s 0 with _ | ⟨i, a1⟩
 ·(refine .inr (.inr ⟨_, false, 0 :: ([] ++ []), _, ?_, rtwo_die (R := rdC s 0) e1 hs, rfl⟩); focus (exact aM_mn (gone := []) (gone1 := []) rfl aI (by decide) (by decide) (by decide) rfl aM))
 rw [e1, Option.bind_some] at h
 simp only at h
 have be1 := twoP_bd e1
 (refine .inr (.inl ⟨_, _, false, 0 :: ([] ++ []), ?_, rtwo_fun e1 hs, nobor, oI, dI, ?_⟩); focus (exact aM_mn (gone := []) (gone1 := []) rfl aI (by decide) (by decide) (by decide) rfl aM))
 (refine goI ?_; repeat (intro gg; refine goI ?_))
 revert gg; intro gb
 rcases e2 : byteP s a1 with _ | ⟨fl, a2⟩
 ·(refine .inr (.inr ⟨_, false, 0 :: ([] ++ []), _, ?_, byte_die (R := rdC s 0) e2 hs, rfl⟩); focus (exact aM_mn (gone := []) (gone1 := []) rfl aI (by decide) (by decide) (by decide) rfl aM))
 rw [e2, Option.bind_some] at h
 simp only at h
 have be2 := byteP_bd e2
 (refine .inr (.inl ⟨_, _, false, 0 :: ([] ++ []), ?_, byte_fun e2 hs, nobor, oI, dI, ?_⟩); focus (exact aM_mn (gone := []) (gone1 := []) rfl aI (by decide) (by decide) (by decide) rfl aM))
 (refine goI ?_; repeat (intro gg; refine goI ?_))
 rcases e3 : byteP s a2 with _ | ⟨co, a3⟩
 ·(refine .inr (.inr ⟨_, false, 0 :: ([] ++ []), _, ?_, byte_die (R := rdC s 0) e3 hs, rfl⟩); focus (exact aM_mn (gone := []) (gone1 := []) rfl aI (by decide) (by decide) (by decide) rfl aM))
 rw [e3, Option.bind_some] at h
 simp only at h
 have be3 := byteP_bd e3
 (refine .inr (.inl ⟨_, _, false, 0 :: ([] ++ []), ?_, byte_fun e3 hs, nobor, oI, dI, ?_⟩); focus (exact aM_mn (gone := []) (gone1 := []) rfl aI (by decide) (by decide) (by decide) rfl aM))
 (refine goI ?_; repeat (intro gg; refine goI ?_))
 refine ⟨_, rfl, ?_⟩
 (refine goI ?_; repeat (intro gg; refine goI ?_))
 rw [fl_ok be2.1]
 by_cases q1 : okFl fl = true
 rotate_left
 ·rw [Bool.eq_false_iff.2 q1]
  (refine goI ?_; repeat (intro gg; refine goI ?_))
  (exact .inr (.inr ⟨_, true, [], _, aM, must_die _ rfl, rfl⟩))
 rw [q1] at h ⊢
 (refine goI ?_; repeat (intro gg; refine goI ?_))
 by_cases q2 : co < 16
 rotate_left
 ·(exact .inr (.inr ⟨_, true, [], _, aM, must_die _ (decide_eq_false (by omega)), rfl⟩))
 rw [if_pos (by simp [q2])] at h
 (refine .inl ⟨_, _, true, [], aI, must_fun _ (decide_eq_true (by omega)), (fun _ => fI), nI, ?_⟩)
 (refine goI ?_; repeat (intro gg; refine goI ?_))
 refine ⟨_, rfl, ?_⟩
 (refine goI ?_; repeat (intro gg; refine goI ?_))
 refine ⟨_, rfl, ?_⟩
 (refine goI ?_; repeat (intro gg; refine goI ?_))
 rw [fl_an be2.1, fl_ct be2.1]
 obtain ⟨an, han⟩ : ∃ x, x = decide (128 ≤ fl) := ⟨_, rfl⟩
 obtain ⟨ct, hct⟩ : ∃ x, x = decide (fl % 4 ≥ 2) := ⟨_, rfl⟩
 rw [← han, ← hct] at h ⊢
 rcases e4 : twoP s a3 with _ | ⟨one, a4⟩
 ·(refine .inr (.inr ⟨_, false, 0 :: ([] ++ []), _, ?_, rtwo_die (R := rdC s 0) e4 hs, rfl⟩); focus (exact aM_mn (gone := []) (gone1 := []) rfl aI (by decide) (by decide) (by decide) rfl aM))
 rw [e4, Option.bind_some] at h
 simp only at h
 have be4 := twoP_bd e4
 (refine .inr (.inl ⟨_, _, false, 0 :: ([] ++ []), ?_, rtwo_fun e4 hs, nobor, oI, dI, ?_⟩); focus (exact aM_mn (gone := []) (gone1 := []) rfl aI (by decide) (by decide) (by decide) rfl aM))
 (refine goI ?_; repeat (intro gg; refine goI ?_))
 by_cases c4 : one = 1
 rotate_left
 ·(exact .inr (.inr ⟨_, true, [], _, aM, must_die _ (beq_eq_false_iff_ne.2 (by omega)), rfl⟩))
 rw [if_pos c4] at h
 (refine .inl ⟨_, _, true, [], aI, must_fun _ (beq_iff_eq.2 (by omega)), (fun _ => fI), nI, ?_⟩)
 (refine goI ?_; repeat (intro gg; refine goI ?_))
 rcases e5 : twoP s a4 with _ | ⟨n, a5⟩
 ·(refine .inr (.inr ⟨_, false, 0 :: ([] ++ []), _, ?_, rtwo_die (R := rdC s 0) e5 hs, rfl⟩); focus (exact aM_mn (gone := []) (gone1 := []) rfl aI (by decide) (by decide) (by decide) rfl aM))
 rw [e5, Option.bind_some] at h
 simp only at h
 have be5 := twoP_bd e5
 (refine .inr (.inl ⟨_, _, false, 0 :: ([] ++ []), ?_, rtwo_fun e5 hs, nobor, oI, dI, ?_⟩); focus (exact aM_mn (gone := []) (gone1 := []) rfl aI (by decide) (by decide) (by decide) rfl aM))
 (refine goI ?_; repeat (intro gg; refine goI ?_))
 by_cases c5 : n ≤ 20
 rotate_left
 ·rw [show (decide ((n : Int) ≤ 20)) = false from decide_eq_false (by omega)]
  (refine goI ?_; repeat (intro gg; refine goI ?_))
  (exact .inr (.inr ⟨_, true, [], _, aM, must_die _ rfl, rfl⟩))
 rw [if_pos c5] at h
 rw [show (decide ((n : Int) ≤ 20)) = true from decide_eq_true (by omega)]
 (refine goI ?_; repeat (intro gg; refine goI ?_))
 rcases e6 : twoP s a5 with _ | ⟨z, a6⟩
 ·(refine .inr (.inr ⟨_, false, 0 :: ([] ++ []), _, ?_, rtwo_die (R := rdC s 0) e6 hs, rfl⟩); focus (exact aM_mn (gone := []) (gone1 := []) rfl aI (by decide) (by decide) (by decide) rfl aM))
 rw [e6, Option.bind_some] at h
 simp only at h
 have be6 := twoP_bd e6
 (refine .inr (.inl ⟨_, _, false, 0 :: ([] ++ []), ?_, rtwo_fun e6 hs, nobor, oI, dI, ?_⟩); focus (exact aM_mn (gone := []) (gone1 := []) rfl aI (by decide) (by decide) (by decide) rfl aM))
 (refine goI ?_; repeat (intro gg; refine goI ?_))
 by_cases c6 : z = 0
 rotate_left
 ·rw [show ((z : Int) == 0) = false from beq_eq_false_iff_ne.2 (by omega)]
  (refine goI ?_; repeat (intro gg; refine goI ?_))
  (exact .inr (.inr ⟨_, true, [], _, aM, must_die _ rfl, rfl⟩))
 rw [if_pos c6] at h
 rw [show ((z : Int) == 0) = true from beq_iff_eq.2 (by omega)]
 (refine goI ?_; repeat (intro gg; refine goI ?_))
 rcases e7 : twoP s a6 with _ | ⟨y, a7⟩
 ·(refine .inr (.inr ⟨_, false, 0 :: ([] ++ []), _, ?_, rtwo_die (R := rdC s 0) e7 hs, rfl⟩); focus (exact aM_mn (gone := []) (gone1 := []) rfl aI (by decide) (by decide) (by decide) rfl aM))
 rw [e7, Option.bind_some] at h
 simp only at h
 have be7 := twoP_bd e7
 (refine .inr (.inl ⟨_, _, false, 0 :: ([] ++ []), ?_, rtwo_fun e7 hs, nobor, oI, dI, ?_⟩); focus (exact aM_mn (gone := []) (gone1 := []) rfl aI (by decide) (by decide) (by decide) rfl aM))
 (refine goI ?_; repeat (intro gg; refine goI ?_))
 by_cases c7 : y = 0
 rotate_left
 ·(exact .inr (.inr ⟨_, true, [], _, aM, must_die _ (beq_eq_false_iff_ne.2 (by omega)), rfl⟩))
 rw [if_pos c7] at h
 (refine .inl ⟨_, _, true, [], aI, must_fun _ (beq_iff_eq.2 (by omega)), (fun _ => fI), nI, ?_⟩)
 (refine goI ?_; repeat (intro gg; refine goI ?_))
 rcases e8 : nameP s a7 with _ | ⟨qn, a8⟩
 ·(refine .inr (.inr ⟨_, false, 0 :: ([] ++ []), _, ?_, rname_die (R := rdC s 0) e8 hs (by omega), rfl⟩); focus (exact aM_mn (gone := []) (gone1 := []) rfl aI (by decide) (by decide) (by decide) rfl aM))
 rw [e8, Option.bind_some] at h
 simp only at h
 have be8 := nameP_bd e8
 (refine .inr (.inl ⟨_, _, false, 0 :: ([] ++ []), ?_, rname_fun e8 hs (by omega), nobor, oI, dI, ?_⟩); focus (exact aM_mn (gone := []) (gone1 := []) rfl aI (by decide) (by decide) (by decide) rfl aM))
 (refine goI ?_; repeat (intro gg; refine goI ?_))
 rcases e9 : twoP s a8 with _ | ⟨qt, a9⟩
 ·(refine .inr (.inr ⟨_, false, 0 :: ([] ++ []), _, ?_, rtwo_die (R := rdC s 0) e9 hs, rfl⟩); focus (exact aM_mn (gone := []) (gone1 := []) rfl aI (by decide) (by decide) (by decide) rfl aM))
 rw [e9, Option.bind_some] at h
 simp only at h
 have be9 := twoP_bd e9
 (refine .inr (.inl ⟨_, _, false, 0 :: ([] ++ []), ?_, rtwo_fun e9 hs, nobor, oI, dI, ?_⟩); focus (exact aM_mn (gone := []) (gone1 := []) rfl aI (by decide) (by decide) (by decide) rfl aM))
 (refine goI ?_; repeat (intro gg; refine goI ?_))
 rcases e10 : twoP s a9 with _ | ⟨d, a10⟩
 ·(refine .inr (.inr ⟨_, false, 0 :: ([] ++ []), _, ?_, rtwo_die (R := rdC s 0) e10 hs, rfl⟩); focus (exact aM_mn (gone := []) (gone1 := []) rfl aI (by decide) (by decide) (by decide) rfl aM))
 rw [e10, Option.bind_some] at h
 simp only at h
 have be10 := twoP_bd e10
 (refine .inr (.inl ⟨_, _, false, 0 :: ([] ++ []), ?_, rtwo_fun e10 hs, nobor, oI, dI, ?_⟩); focus (exact aM_mn (gone := []) (gone1 := []) rfl aI (by decide) (by decide) (by decide) rfl aM))
 (refine goI ?_; repeat (intro gg; refine goI ?_))
 by_cases c10 : d = 1
 rotate_left
 ·(exact .inr (.inr ⟨_, true, [], _, aM, must_die _ (beq_eq_false_iff_ne.2 (by omega)), rfl⟩))
 rw [if_pos c10] at h
 (refine .inl ⟨_, _, true, [], aI, must_fun _ (beq_iff_eq.2 (by omega)), (fun _ => fI), nI, ?_⟩)
 (refine goI ?_; repeat (intro gg; refine goI ?_))
 have hT := be10.2.2
 clear e1 e2 e3 e4 e5 e6 e7 e8 e9 e10 be1 be2 be3 be4 be6 be7 be9 be10
 (refine ⟨[], none, {p : Nat × Nat × List Rr × Nat // RcI s n (recsP s n a10) p.1 p.2.1 p.2.2.1}, [], fun ⟨⟨k, a, L, g⟩, hp⟩ => [(0, .ptr 0 0 0 0), (2, .ptr 32 gz 0 0), (3, .ptr 48 gb 0 0), (65, .v (.int .i64 (n : Int))), (66, .v (.int .i64 (k : Int)))], [], fun ⟨⟨k, a, L, g⟩, hp⟩ => msgO s gz gb i an ct co qn qt a L g, fun ⟨⟨k, a, L, g⟩, hp⟩ => n - k, trivial, fun _ => ⟨trivial, fun _ => ⟨⟨(0, a10, [], 0), RcI.start hT⟩, tI, keptE_refl _ _, tI, keptH_refl _ _⟩⟩, fun ⟨⟨k, a, L, g⟩, hp⟩ => ?_⟩)
 simp only at hp
 simp only [hdE_nil, hdH_nil, keptE_nil, keptH_nil]
 have hk := hp.hk
 have hl := hp.hl
 by_cases c11 : k < n
 ·rcases e : recP s a with _ | ⟨r, a2⟩
  ·have hn := hp.none c11 e
   rcases L with _ | ⟨r0, L⟩
   ·(refine goI ?_; repeat (intro gg; refine goI ?_))
    (refine bIf_true ?_ ?_; focus (exact decide_eq_true (by omega)))
    (refine goI ?_; repeat (intro gg; refine goI ?_))
    refine ⟨?_, ?_⟩
    ·(refine goI ?_; repeat (intro gg; refine goI ?_))
     refine ⟨?_, ?_⟩
     ·(refine goI ?_; repeat (intro gg; refine goI ?_))
      (refine .inr (.inr ⟨_, false, 0 :: ([] ++ []), _, ?_, rrecord_die (R := rdC s 0) e hs hp.ha, rfl⟩); focus (exact aM_mn (gone := []) (gone1 := []) rfl aI (by decide) (by decide) (by decide) rfl aM))
     ·(refine goI ?_; repeat (intro gg; refine goI ?_))
      refine ⟨?_, ?_⟩
      ·(refine goI ?_; repeat (intro gg; refine goI ?_))
       (refine .inr (.inr ⟨_, false, 0 :: ([] ++ []), _, ?_, rrecord_die (R := rdC s 0) e hs hp.ha, rfl⟩); focus (exact aM_mn (gone := []) (gone1 := []) rfl aI (by decide) (by decide) (by decide) rfl aM))
      ·(refine goI ?_; repeat (intro gg; refine goI ?_))
       (refine .inr (.inr ⟨_, false, 0 :: ([] ++ []), _, ?_, rrecord_die (R := rdC s 0) e hs hp.ha, rfl⟩); focus (exact aM_mn (gone := []) (gone1 := []) rfl aI (by decide) (by decide) (by decide) rfl aM))
    ·(refine goI ?_; repeat (intro gg; refine goI ?_))
     refine ⟨?_, ?_⟩
     ·(refine goI ?_; repeat (intro gg; refine goI ?_))
      refine ⟨?_, ?_⟩
      ·(refine goI ?_; repeat (intro gg; refine goI ?_))
       (refine .inr (.inr ⟨_, false, 0 :: ([] ++ []), _, ?_, rrecord_die (R := rdC s 0) e hs hp.ha, rfl⟩); focus (exact aM_mn (gone := []) (gone1 := []) rfl aI (by decide) (by decide) (by decide) rfl aM))
      ·(refine goI ?_; repeat (intro gg; refine goI ?_))
       (refine .inr (.inr ⟨_, false, 0 :: ([] ++ []), _, ?_, rrecord_die (R := rdC s 0) e hs hp.ha, rfl⟩); focus (exact aM_mn (gone := []) (gone1 := []) rfl aI (by decide) (by decide) (by decide) rfl aM))
     ·(refine goI ?_; repeat (intro gg; refine goI ?_))
      (refine .inr (.inr ⟨_, false, 0 :: ([] ++ []), _, ?_, rrecord_die (R := rdC s 0) e hs hp.ha, rfl⟩); focus (exact aM_mn (gone := []) (gone1 := []) rfl aI (by decide) (by decide) (by decide) rfl aM))
   ·(refine goI ?_; repeat (intro gg; refine goI ?_))
    (refine bIf_true ?_ ?_; focus (exact decide_eq_true (by omega)))
    (refine goI ?_; repeat (intro gg; refine goI ?_))
    refine ⟨?_, ?_⟩
    ·(refine goI ?_; repeat (intro gg; refine goI ?_))
     refine ⟨?_, ?_⟩
     ·(refine goI ?_; repeat (intro gg; refine goI ?_))
      (refine .inr (.inr ⟨_, false, 0 :: ([] ++ []), _, ?_, rrecord_die (R := rdC s 0) e hs hp.ha, rfl⟩); focus (exact aM_mn (gone := []) (gone1 := []) rfl aI (by decide) (by decide) (by decide) rfl aM))
     ·(refine goI ?_; repeat (intro gg; refine goI ?_))
      refine ⟨?_, ?_⟩
      ·(refine goI ?_; repeat (intro gg; refine goI ?_))
       (refine .inr (.inr ⟨_, false, 0 :: ([] ++ []), _, ?_, rrecord_die (R := rdC s 0) e hs hp.ha, rfl⟩); focus (exact aM_mn (gone := []) (gone1 := []) rfl aI (by decide) (by decide) (by decide) rfl aM))
      ·(refine goI ?_; repeat (intro gg; refine goI ?_))
       (refine .inr (.inr ⟨_, false, 0 :: ([] ++ []), _, ?_, rrecord_die (R := rdC s 0) e hs hp.ha, rfl⟩); focus (exact aM_mn (gone := []) (gone1 := []) rfl aI (by decide) (by decide) (by decide) rfl aM))
    ·(refine goI ?_; repeat (intro gg; refine goI ?_))
     refine ⟨?_, ?_⟩
     ·(refine goI ?_; repeat (intro gg; refine goI ?_))
      refine ⟨?_, ?_⟩
      ·(refine goI ?_; repeat (intro gg; refine goI ?_))
       (refine .inr (.inr ⟨_, false, 0 :: ([] ++ []), _, ?_, rrecord_die (R := rdC s 0) e hs hp.ha, rfl⟩); focus (exact aM_mn (gone := []) (gone1 := []) rfl aI (by decide) (by decide) (by decide) rfl aM))
      ·(refine goI ?_; repeat (intro gg; refine goI ?_))
       (refine .inr (.inr ⟨_, false, 0 :: ([] ++ []), _, ?_, rrecord_die (R := rdC s 0) e hs hp.ha, rfl⟩); focus (exact aM_mn (gone := []) (gone1 := []) rfl aI (by decide) (by decide) (by decide) rfl aM))
     ·(refine goI ?_; repeat (intro gg; refine goI ?_))
      (refine .inr (.inr ⟨_, false, 0 :: ([] ++ []), _, ?_, rrecord_die (R := rdC s 0) e hs hp.ha, rfl⟩); focus (exact aM_mn (gone := []) (gone1 := []) rfl aI (by decide) (by decide) (by decide) rfl aM))
  ·have hnx := RcI.next hp c11 e
   have b := recP_bd e
   have hr7 : (([r].map Rr.row) : List (List V)) = [r.row] := rfl
   have hn20 : L.length ≤ 20 := by omega
   rcases L with _ | ⟨r0, L⟩
   ·(refine goI ?_; repeat (intro gg; refine goI ?_))
    (refine bIf_true ?_ ?_; focus (exact decide_eq_true (by omega)))
    (refine goI ?_; repeat (intro gg; refine goI ?_))
    refine ⟨?_, ?_⟩
    ·(refine goI ?_; repeat (intro gg; refine goI ?_))
     refine ⟨?_, ?_⟩
     ·(refine goI ?_; repeat (intro gg; refine goI ?_))
      (refine .inr (.inl ⟨_, _, false, 0 :: ([] ++ []), ?_, rrecord_fun e hs hp.ha, nobor, oI, dI, ?_⟩); focus (exact aM_mn (gone := []) (gone1 := []) rfl aI (by decide) (by decide) (by decide) rfl aM))
      (refine goI ?_; repeat (intro gg; refine goI ?_))
      refine ⟨lI, lI, ?_⟩
      (refine goI ?_; repeat (intro gg; refine goI ?_))
      (exact ⟨none, trivial, fun gr => ⟨⟨(k + 1, a2, [r], gg), hnx⟩, by show n - (k + 1) < n - k; omega, tI, tI, ⟨rfl, ⟨rfl, ⟨rfl, ⟨rfl, trivial⟩⟩⟩⟩, tI⟩⟩)
     ·(refine goI ?_; repeat (intro gg; refine goI ?_))
      refine ⟨?_, ?_⟩
      ·(refine goI ?_; repeat (intro gg; refine goI ?_))
       (refine .inr (.inl ⟨_, _, false, 0 :: ([] ++ []), ?_, rrecord_fun e hs hp.ha, nobor, oI, dI, ?_⟩); focus (exact aM_mn (gone := []) (gone1 := []) rfl aI (by decide) (by decide) (by decide) rfl aM))
       (refine goI ?_; repeat (intro gg; refine goI ?_))
       refine ⟨lI, lI, ?_⟩
       (refine goI ?_; repeat (intro gg; refine goI ?_))
       (exact ⟨none, trivial, fun gr => ⟨⟨(k + 1, a2, [r], gg), hnx⟩, by show n - (k + 1) < n - k; omega, tI, tI, ⟨rfl, ⟨rfl, ⟨rfl, ⟨rfl, trivial⟩⟩⟩⟩, tI⟩⟩)
      ·(refine goI ?_; repeat (intro gg; refine goI ?_))
       (refine .inr (.inl ⟨_, _, false, 0 :: ([] ++ []), ?_, rrecord_fun e hs hp.ha, nobor, oI, dI, ?_⟩); focus (exact aM_mn (gone := []) (gone1 := []) rfl aI (by decide) (by decide) (by decide) rfl aM))
       (refine goI ?_; repeat (intro gg; refine goI ?_))
       refine ⟨?_, ?_⟩
       ·(refine goI ?_; repeat (intro gg; refine goI ?_))
        refine ⟨lI, lI, ?_⟩
        (refine goI ?_; repeat (intro gg; refine goI ?_))
        (exact ⟨none, trivial, fun gr => ⟨⟨(k + 1, a2, [r], gg), hnx⟩, by show n - (k + 1) < n - k; omega, tI, tI, ⟨rfl, ⟨rfl, ⟨rfl, ⟨rfl, trivial⟩⟩⟩⟩, tI⟩⟩)
       ·(refine goI ?_; repeat (intro gg; refine goI ?_))
        refine ⟨lI, lI, ?_⟩
        (refine goI ?_; repeat (intro gg; refine goI ?_))
        (exact ⟨none, trivial, fun gr => ⟨⟨(k + 1, a2, [r], gg), hnx⟩, by show n - (k + 1) < n - k; omega, tI, tI, ⟨rfl, ⟨rfl, ⟨rfl, ⟨rfl, trivial⟩⟩⟩⟩, tI⟩⟩)
    ·(refine goI ?_; repeat (intro gg; refine goI ?_))
     refine ⟨?_, ?_⟩
     ·(refine goI ?_; repeat (intro gg; refine goI ?_))
      refine ⟨?_, ?_⟩
      ·(refine goI ?_; repeat (intro gg; refine goI ?_))
       (refine .inr (.inl ⟨_, _, false, 0 :: ([] ++ []), ?_, rrecord_fun e hs hp.ha, nobor, oI, dI, ?_⟩); focus (exact aM_mn (gone := []) (gone1 := []) rfl aI (by decide) (by decide) (by decide) rfl aM))
       (refine goI ?_; repeat (intro gg; refine goI ?_))
       refine ⟨lI, lI, ?_⟩
       (refine goI ?_; repeat (intro gg; refine goI ?_))
       (exact ⟨none, trivial, fun gr => ⟨⟨(k + 1, a2, [r], gg), hnx⟩, by show n - (k + 1) < n - k; omega, tI, tI, ⟨rfl, ⟨rfl, ⟨rfl, ⟨rfl, trivial⟩⟩⟩⟩, tI⟩⟩)
      ·(refine goI ?_; repeat (intro gg; refine goI ?_))
       (refine .inr (.inl ⟨_, _, false, 0 :: ([] ++ []), ?_, rrecord_fun e hs hp.ha, nobor, oI, dI, ?_⟩); focus (exact aM_mn (gone := []) (gone1 := []) rfl aI (by decide) (by decide) (by decide) rfl aM))
       (refine goI ?_; repeat (intro gg; refine goI ?_))
       refine ⟨?_, ?_⟩
       ·(refine goI ?_; repeat (intro gg; refine goI ?_))
        refine ⟨lI, lI, ?_⟩
        (refine goI ?_; repeat (intro gg; refine goI ?_))
        (exact ⟨none, trivial, fun gr => ⟨⟨(k + 1, a2, [r], gg), hnx⟩, by show n - (k + 1) < n - k; omega, tI, tI, ⟨rfl, ⟨rfl, ⟨rfl, ⟨rfl, trivial⟩⟩⟩⟩, tI⟩⟩)
       ·(refine goI ?_; repeat (intro gg; refine goI ?_))
        refine ⟨lI, lI, ?_⟩
        (refine goI ?_; repeat (intro gg; refine goI ?_))
        (exact ⟨none, trivial, fun gr => ⟨⟨(k + 1, a2, [r], gg), hnx⟩, by show n - (k + 1) < n - k; omega, tI, tI, ⟨rfl, ⟨rfl, ⟨rfl, ⟨rfl, trivial⟩⟩⟩⟩, tI⟩⟩)
     ·(refine goI ?_; repeat (intro gg; refine goI ?_))
      (refine .inr (.inl ⟨_, _, false, 0 :: ([] ++ []), ?_, rrecord_fun e hs hp.ha, nobor, oI, dI, ?_⟩); focus (exact aM_mn (gone := []) (gone1 := []) rfl aI (by decide) (by decide) (by decide) rfl aM))
      (refine goI ?_; repeat (intro gg; refine goI ?_))
      refine ⟨?_, ?_⟩
      ·(refine goI ?_; repeat (intro gg; refine goI ?_))
       refine ⟨?_, ?_⟩
       ·(refine goI ?_; repeat (intro gg; refine goI ?_))
        refine ⟨lI, lI, ?_⟩
        (refine goI ?_; repeat (intro gg; refine goI ?_))
        (exact ⟨none, trivial, fun gr => ⟨⟨(k + 1, a2, [r], gg), hnx⟩, by show n - (k + 1) < n - k; omega, tI, tI, ⟨rfl, ⟨rfl, ⟨rfl, ⟨rfl, trivial⟩⟩⟩⟩, tI⟩⟩)
       ·(refine goI ?_; repeat (intro gg; refine goI ?_))
        refine ⟨lI, lI, ?_⟩
        (refine goI ?_; repeat (intro gg; refine goI ?_))
        (exact ⟨none, trivial, fun gr => ⟨⟨(k + 1, a2, [r], gg), hnx⟩, by show n - (k + 1) < n - k; omega, tI, tI, ⟨rfl, ⟨rfl, ⟨rfl, ⟨rfl, trivial⟩⟩⟩⟩, tI⟩⟩)
      ·(refine goI ?_; repeat (intro gg; refine goI ?_))
       refine ⟨lI, lI, ?_⟩
       (refine goI ?_; repeat (intro gg; refine goI ?_))
       (exact ⟨none, trivial, fun gr => ⟨⟨(k + 1, a2, [r], gg), hnx⟩, by show n - (k + 1) < n - k; omega, tI, tI, ⟨rfl, ⟨rfl, ⟨rfl, ⟨rfl, trivial⟩⟩⟩⟩, tI⟩⟩)
   ·have hn21 : L.length ≤ 20 := by simp only [List.length_cons] at hn20; omega
    (refine goI ?_; repeat (intro gg; refine goI ?_))
    (refine bIf_true ?_ ?_; focus (exact decide_eq_true (by omega)))
    (refine goI ?_; repeat (intro gg; refine goI ?_))
    refine ⟨?_, ?_⟩
    ·(refine goI ?_; repeat (intro gg; refine goI ?_))
     refine ⟨?_, ?_⟩
     ·(refine goI ?_; repeat (intro gg; refine goI ?_))
      (refine .inr (.inl ⟨_, _, false, 0 :: ([] ++ []), ?_, rrecord_fun e hs hp.ha, nobor, oI, dI, ?_⟩); focus (exact aM_mn (gone := []) (gone1 := []) rfl aI (by decide) (by decide) (by decide) rfl aM))
      (refine goI ?_; repeat (intro gg; refine goI ?_))
      refine ⟨lI, lI, ?_⟩
      (refine goI ?_; repeat (intro gg; refine goI ?_))
      (exact ⟨none, trivial, fun gr => ⟨⟨(k + 1, a2, (r0 :: L) ++ [r], gg), hnx⟩, by show n - (k + 1) < n - k; omega, tI, tI, ⟨rfl, ⟨rfl, ⟨congrArg (fun x => some (Ent.mk gg (.t 64) 7 x)) (show (r0 :: L).map Rr.row ++ [r.row] = ((r0 :: L) ++ [r]).map Rr.row by rw [List.map_append]; rfl), ⟨rfl, trivial⟩⟩⟩⟩, tI⟩⟩)
     ·(refine goI ?_; repeat (intro gg; refine goI ?_))
      refine ⟨?_, ?_⟩
      ·(refine goI ?_; repeat (intro gg; refine goI ?_))
       (refine .inr (.inl ⟨_, _, false, 0 :: ([] ++ []), ?_, rrecord_fun e hs hp.ha, nobor, oI, dI, ?_⟩); focus (exact aM_mn (gone := []) (gone1 := []) rfl aI (by decide) (by decide) (by decide) rfl aM))
       (refine goI ?_; repeat (intro gg; refine goI ?_))
       refine ⟨lI, lI, ?_⟩
       (refine goI ?_; repeat (intro gg; refine goI ?_))
       (exact ⟨none, trivial, fun gr => ⟨⟨(k + 1, a2, (r0 :: L) ++ [r], gg), hnx⟩, by show n - (k + 1) < n - k; omega, tI, tI, ⟨rfl, ⟨rfl, ⟨congrArg (fun x => some (Ent.mk gg (.t 64) 7 x)) (show (r0 :: L).map Rr.row ++ [r.row] = ((r0 :: L) ++ [r]).map Rr.row by rw [List.map_append]; rfl), ⟨rfl, trivial⟩⟩⟩⟩, tI⟩⟩)
      ·(refine goI ?_; repeat (intro gg; refine goI ?_))
       (refine .inr (.inl ⟨_, _, false, 0 :: ([] ++ []), ?_, rrecord_fun e hs hp.ha, nobor, oI, dI, ?_⟩); focus (exact aM_mn (gone := []) (gone1 := []) rfl aI (by decide) (by decide) (by decide) rfl aM))
       (refine goI ?_; repeat (intro gg; refine goI ?_))
       refine ⟨?_, ?_⟩
       ·(refine goI ?_; repeat (intro gg; refine goI ?_))
        refine ⟨lI, lI, ?_⟩
        (refine goI ?_; repeat (intro gg; refine goI ?_))
        (exact ⟨none, trivial, fun gr => ⟨⟨(k + 1, a2, (r0 :: L) ++ [r], gg), hnx⟩, by show n - (k + 1) < n - k; omega, tI, tI, ⟨rfl, ⟨rfl, ⟨congrArg (fun x => some (Ent.mk gg (.t 64) 7 x)) (show (r0 :: L).map Rr.row ++ [r.row] = ((r0 :: L) ++ [r]).map Rr.row by rw [List.map_append]; rfl), ⟨rfl, trivial⟩⟩⟩⟩, tI⟩⟩)
       ·(refine goI ?_; repeat (intro gg; refine goI ?_))
        refine ⟨lI, lI, ?_⟩
        (refine goI ?_; repeat (intro gg; refine goI ?_))
        (exact ⟨none, trivial, fun gr => ⟨⟨(k + 1, a2, (r0 :: L) ++ [r], gg), hnx⟩, by show n - (k + 1) < n - k; omega, tI, tI, ⟨rfl, ⟨rfl, ⟨congrArg (fun x => some (Ent.mk gg (.t 64) 7 x)) (show (r0 :: L).map Rr.row ++ [r.row] = ((r0 :: L) ++ [r]).map Rr.row by rw [List.map_append]; rfl), ⟨rfl, trivial⟩⟩⟩⟩, tI⟩⟩)
    ·(refine goI ?_; repeat (intro gg; refine goI ?_))
     refine ⟨?_, ?_⟩
     ·(refine goI ?_; repeat (intro gg; refine goI ?_))
      refine ⟨?_, ?_⟩
      ·(refine goI ?_; repeat (intro gg; refine goI ?_))
       (refine .inr (.inl ⟨_, _, false, 0 :: ([] ++ []), ?_, rrecord_fun e hs hp.ha, nobor, oI, dI, ?_⟩); focus (exact aM_mn (gone := []) (gone1 := []) rfl aI (by decide) (by decide) (by decide) rfl aM))
       (refine goI ?_; repeat (intro gg; refine goI ?_))
       refine ⟨lI, lI, ?_⟩
       (refine goI ?_; repeat (intro gg; refine goI ?_))
       (exact ⟨none, trivial, fun gr => ⟨⟨(k + 1, a2, (r0 :: L) ++ [r], gg), hnx⟩, by show n - (k + 1) < n - k; omega, tI, tI, ⟨rfl, ⟨rfl, ⟨congrArg (fun x => some (Ent.mk gg (.t 64) 7 x)) (show (r0 :: L).map Rr.row ++ [r.row] = ((r0 :: L) ++ [r]).map Rr.row by rw [List.map_append]; rfl), ⟨rfl, trivial⟩⟩⟩⟩, tI⟩⟩)
      ·(refine goI ?_; repeat (intro gg; refine goI ?_))
       (refine .inr (.inl ⟨_, _, false, 0 :: ([] ++ []), ?_, rrecord_fun e hs hp.ha, nobor, oI, dI, ?_⟩); focus (exact aM_mn (gone := []) (gone1 := []) rfl aI (by decide) (by decide) (by decide) rfl aM))
       (refine goI ?_; repeat (intro gg; refine goI ?_))
       refine ⟨?_, ?_⟩
       ·(refine goI ?_; repeat (intro gg; refine goI ?_))
        refine ⟨lI, lI, ?_⟩
        (refine goI ?_; repeat (intro gg; refine goI ?_))
        (exact ⟨none, trivial, fun gr => ⟨⟨(k + 1, a2, (r0 :: L) ++ [r], gg), hnx⟩, by show n - (k + 1) < n - k; omega, tI, tI, ⟨rfl, ⟨rfl, ⟨congrArg (fun x => some (Ent.mk gg (.t 64) 7 x)) (show (r0 :: L).map Rr.row ++ [r.row] = ((r0 :: L) ++ [r]).map Rr.row by rw [List.map_append]; rfl), ⟨rfl, trivial⟩⟩⟩⟩, tI⟩⟩)
       ·(refine goI ?_; repeat (intro gg; refine goI ?_))
        refine ⟨lI, lI, ?_⟩
        (refine goI ?_; repeat (intro gg; refine goI ?_))
        (exact ⟨none, trivial, fun gr => ⟨⟨(k + 1, a2, (r0 :: L) ++ [r], gg), hnx⟩, by show n - (k + 1) < n - k; omega, tI, tI, ⟨rfl, ⟨rfl, ⟨congrArg (fun x => some (Ent.mk gg (.t 64) 7 x)) (show (r0 :: L).map Rr.row ++ [r.row] = ((r0 :: L) ++ [r]).map Rr.row by rw [List.map_append]; rfl), ⟨rfl, trivial⟩⟩⟩⟩, tI⟩⟩)
     ·(refine goI ?_; repeat (intro gg; refine goI ?_))
      (refine .inr (.inl ⟨_, _, false, 0 :: ([] ++ []), ?_, rrecord_fun e hs hp.ha, nobor, oI, dI, ?_⟩); focus (exact aM_mn (gone := []) (gone1 := []) rfl aI (by decide) (by decide) (by decide) rfl aM))
      (refine goI ?_; repeat (intro gg; refine goI ?_))
      refine ⟨?_, ?_⟩
      ·(refine goI ?_; repeat (intro gg; refine goI ?_))
       refine ⟨?_, ?_⟩
       ·(refine goI ?_; repeat (intro gg; refine goI ?_))
        refine ⟨lI, lI, ?_⟩
        (refine goI ?_; repeat (intro gg; refine goI ?_))
        (exact ⟨none, trivial, fun gr => ⟨⟨(k + 1, a2, (r0 :: L) ++ [r], gg), hnx⟩, by show n - (k + 1) < n - k; omega, tI, tI, ⟨rfl, ⟨rfl, ⟨congrArg (fun x => some (Ent.mk gg (.t 64) 7 x)) (show (r0 :: L).map Rr.row ++ [r.row] = ((r0 :: L) ++ [r]).map Rr.row by rw [List.map_append]; rfl), ⟨rfl, trivial⟩⟩⟩⟩, tI⟩⟩)
       ·(refine goI ?_; repeat (intro gg; refine goI ?_))
        refine ⟨lI, lI, ?_⟩
        (refine goI ?_; repeat (intro gg; refine goI ?_))
        (exact ⟨none, trivial, fun gr => ⟨⟨(k + 1, a2, (r0 :: L) ++ [r], gg), hnx⟩, by show n - (k + 1) < n - k; omega, tI, tI, ⟨rfl, ⟨rfl, ⟨congrArg (fun x => some (Ent.mk gg (.t 64) 7 x)) (show (r0 :: L).map Rr.row ++ [r.row] = ((r0 :: L) ++ [r]).map Rr.row by rw [List.map_append]; rfl), ⟨rfl, trivial⟩⟩⟩⟩, tI⟩⟩)
      ·(refine goI ?_; repeat (intro gg; refine goI ?_))
       refine ⟨lI, lI, ?_⟩
       (refine goI ?_; repeat (intro gg; refine goI ?_))
       (exact ⟨none, trivial, fun gr => ⟨⟨(k + 1, a2, (r0 :: L) ++ [r], gg), hnx⟩, by show n - (k + 1) < n - k; omega, tI, tI, ⟨rfl, ⟨rfl, ⟨congrArg (fun x => some (Ent.mk gg (.t 64) 7 x)) (show (r0 :: L).map Rr.row ++ [r.row] = ((r0 :: L) ++ [r]).map Rr.row by rw [List.map_append]; rfl), ⟨rfl, trivial⟩⟩⟩⟩, tI⟩⟩)
 ·have he := hp.end_ c11
  rw [he, Option.bind_some] at h
  simp only at h
  rcases L with _ | ⟨r0, L⟩
  ·(refine goI ?_; repeat (intro gg; refine goI ?_))
   (refine bIf_false ?_ ?_; focus (exact decide_eq_false (by omega)))
   (refine goI ?_; repeat (intro gg; refine goI ?_))
   by_cases c12 : a = s.size
   ·rw [if_pos c12] at h; cases h
   ·(exact .inr (.inr ⟨_, true, [], _, aM, must_die _ (beq_eq_false_iff_ne.2 (by omega)), rfl⟩))
  ·(refine goI ?_; repeat (intro gg; refine goI ?_))
   (refine bIf_false ?_ ?_; focus (exact decide_eq_false (by omega)))
   (refine goI ?_; repeat (intro gg; refine goI ?_))
   by_cases c12 : a = s.size
   ·rw [if_pos c12] at h; cases h
   ·(exact .inr (.inr ⟨_, true, [], _, aM, must_die _ (beq_eq_false_iff_ne.2 (by omega)), rfl⟩))
end Go.Proofs.YtjhdlcmecbngkaaDoor
namespace Go.Proofs.YtjhdlcmecbngkaaDoor
open Go Go.RowKit Pl
set_option linter.unusedVariables false
section
variable {P : Program} {ops : Array Oper} {Q : Exit → Act → List Frame → World → Prop} {a : Act} {cs : List Frame} {w w' : World} {i : Nat} {rest : List Nat} {o : Oper} {v : Value}
end
theorem assert_yes (T : TypeId) (w : World) : (Instr.typeAssert wrongV T 68 true).run Tryd.prog w = .ok (.tuple #[.agg #[], .bool true]) w := by
 have hu := Tryd.underlying68
 simp [Instr.typeAssert, wrongV, run_underlying hu]
theorem assert_no (T : TypeId) (w : World) : (Instr.typeAssert .nilIface T 68 true).run Tryd.prog w = .ok (.tuple #[.agg #[], .bool false]) w := by
 have hu := Tryd.underlying68
 have h : (Tryd.prog.info? 68).map (·.zero) = some (some (.agg #[])) := by kernel_rfl
 obtain ⟨i, hi, hz⟩ := Option.map_eq_some_iff.1 h
 simp [Instr.typeAssert, run_underlying hu, zeroValue, typeInfo, hi, hz]
def zeroM : Array Value := #[.int .i64 0, .bool false, .bool false, .int .i64 0, .string ⟨#[]⟩, .int .i64 0, .slice none 0 0]
structure Caught (w : World) (p q : Nat) (w' : World) : Prop where
 m : Blk w' p 40 zeroM
 e : Blk w' q 24 #[.int .i64 1]
 fr : Fr (fun k => k = p ∨ k = q) w w'
theorem Fr.set_ {F : Nat → Prop} {w w' : World} (h : Fr F w w') {b : Nat} (hb : F b) (i : Nat) (v : Value) : Fr F w (w'.setCell ⟨b, i, none⟩ v) := by
 have hs := h.size
 refine ⟨h.os, h.tape, h.output, by simp [World.setCell]; omega, fun k hk hF => ?_⟩
 rw [← h.block k hk hF]
 have : k ≠ b := fun e => hF (e ▸ hb)
 exact Below.heap_setCell w' ⟨b, i, none⟩ v k this
theorem Fr.alloc_ {F : Nat → Prop} {w w' : World} (h : Fr F w w') (o : Obj) : Fr F w (w'.alloc o) := by
 have hs := h.size
 refine ⟨h.os, h.tape, h.output, by rw [show (w'.alloc o).heap.size = w'.heap.size + 1 from by simp [World.alloc, -World.alloc_eq]]; omega, fun k hk hF => ?_⟩
 rw [← h.block k hk hF]
 exact Below.heap_alloc w' o k (by omega)
set_option maxRecDepth 100000 in
set_option maxHeartbeats 2000000 in
theorem catch_dead (p q : Nat) (c0 c1 c2 c3 c4 c5 c6 x : Value) (w : World) (hp : Blk w p 40 #[c0, c1, c2, c3, c4, c5, c6]) (hq : Blk w q 24 #[x]) (hpq : p ≠ q) :
  CallsD Tryd.prog 50 #[.pointer (some ⟨p, 0, none⟩), .pointer (some ⟨q, 0, none⟩)] (.panicking [{ v := wrongV, recovered := false }]) w fun e u' w' => e = .returned (.tuple #[]) ∧ u' = .panicking [{ v := wrongV, recovered := true }] ∧ Caught w p q w' := by
 have hlp := hp.lt
 have hlq := hq.lt
 refine callsD_of_wpS Tryd.func50 rfl fun c₀ cs hu => ?_
 apply wpS_seq
 apply wpS_region
 have hrec : recoverD (c₀ :: cs) = some (wrongV, { c₀ with mode := .panicking ({ v := wrongV, recovered := true } :: []) } :: cs) := by simp [recoverD, hu]
 simp [wpOpsS, go_sem, hrec, Tryd.ntmps50, Exit.thenS, assert_yes]
 have e0 : w.cell? ⟨p, 0, none⟩ = some c0 := hp.cell 0
 have e1 : w.cell? ⟨p, 1, none⟩ = some c1 := hp.cell 1
 have e2 : w.cell? ⟨p, 2, none⟩ = some c2 := hp.cell 2
 have e3 : w.cell? ⟨p, 3, none⟩ = some c3 := hp.cell 3
 have e4 : w.cell? ⟨p, 4, none⟩ = some c4 := hp.cell 4
 have e5 : w.cell? ⟨p, 5, none⟩ = some c5 := hp.cell 5
 have e6 : w.cell? ⟨p, 6, none⟩ = some c6 := hp.cell 6
 have f0 := fun i => hp.frozen i
 have g0 : w.cell? ⟨q, 0, none⟩ = some x := hq.cell 0
 have h0 := hq.frozen 0
 refine wpS_of_wp ?_
 go_wp2
 have key : Caught w p q (((((((((w.setCell ⟨p, 0, none⟩ (.int .i64 0)).setCell ⟨p, 1, none⟩ (.bool false)).setCell ⟨p, 2, none⟩ (.bool false)).setCell ⟨p, 3, none⟩ (.int .i64 0)).setCell ⟨p, 4, none⟩ (.string ⟨#[]⟩)).setCell ⟨p, 5, none⟩ (.int .i64 0)).setCell ⟨p, 6, none⟩ (.slice none 0 0)).setCell ⟨q, 0, none⟩ (.int .i64 1)).alloc (Obj.cells #[] 68)) := by
  refine ⟨?_, ?_, ?_⟩
  ·exact (((((((((hp.set_ 0 _).set_ 1 _).set_ 2 _).set_ 3 _).set_ 4 _).set_ 5 _).set_ 6 _).far hpq _).alloc _)
  ·exact (((((((((hq.far (Ne.symm hpq) _).far (Ne.symm hpq) _).far (Ne.symm hpq) _).far (Ne.symm hpq) _).far (Ne.symm hpq) _).far (Ne.symm hpq) _).far (Ne.symm hpq) _).set_ 0 _).alloc _)
  ·exact (((((((((Fr.refl _ w).set_ (.inl rfl) 0 _).set_ (.inl rfl) 1 _).set_ (.inl rfl) 2 _).set_ (.inl rfl) 3 _).set_ (.inl rfl) 4 _).set_ (.inl rfl) 5 _).set_ (.inl rfl) 6 _).set_ (.inr rfl) 0 _).alloc_ _
 simp [bodyPostS, results, Tryd.results50]
 exact key
set_option maxRecDepth 100000 in
set_option maxHeartbeats 2000000 in
theorem catch_idle (p q : Nat) (w : World) :
  CallsD Tryd.prog 50 #[.pointer (some ⟨p, 0, none⟩), .pointer (some ⟨q, 0, none⟩)] .returning w fun e u' w' => e = .returned (.tuple #[]) ∧ u' = .returning ∧ w' = w.alloc (.cells #[] 68) := by
 refine callsD_of_wpS Tryd.func50 rfl fun c₀ cs hu => ?_
 apply wpS_seq
 apply wpS_region
 have hrec : recoverD (c₀ :: cs) = none := by simp [recoverD, hu]
 simp [wpOpsS, go_sem, hrec, Tryd.ntmps50, Exit.thenS, assert_no]
 refine wpS_of_wp ?_
 go_wp2
 simp [bodyPostS, results, Tryd.results50, hu]
 cases c₀
 simp_all
end Go.Proofs.YtjhdlcmecbngkaaDoor
namespace Go.Proofs.YtjhdlcmecbngkaaDoor
open Go Go.RowKit Pl
set_option linter.unusedVariables false
theorem or_an {n : Int} (h0 : 0 ≤ n) (h1 : n ≤ 15) : IntKind.i64.wrap ((BitVec.ofInt IntKind.i64.bits n ||| BitVec.ofInt IntKind.i64.bits 32768).toNat) = n + 32768 := by
 have key : ∀ k : Fin 16, IntKind.i64.wrap ((BitVec.ofInt IntKind.i64.bits (k.val : Int) ||| BitVec.ofInt IntKind.i64.bits 32768).toNat) = (k.val : Int) + 32768 := by decide
 obtain ⟨k, rfl⟩ := Int.eq_ofNat_of_zero_le h0
 exact key ⟨k, by omega⟩
theorem or_ct {n : Int} (h0 : 0 ≤ n) (h1 : n ≤ 15) : IntKind.i64.wrap ((BitVec.ofInt IntKind.i64.bits n ||| BitVec.ofInt IntKind.i64.bits 512).toNat) = n + 512 := by
 have key : ∀ k : Fin 16, IntKind.i64.wrap ((BitVec.ofInt IntKind.i64.bits (k.val : Int) ||| BitVec.ofInt IntKind.i64.bits 512).toNat) = (k.val : Int) + 512 := by decide
 obtain ⟨k, rfl⟩ := Int.eq_ofNat_of_zero_le h0
 exact key ⟨k, by omega⟩
theorem or_ct2 {n : Int} (h0 : 0 ≤ n) (h1 : n ≤ 15) : IntKind.i64.wrap ((BitVec.ofInt IntKind.i64.bits (n + 32768) ||| BitVec.ofInt IntKind.i64.bits 512).toNat) = n + 32768 + 512 := by
 have key : ∀ k : Fin 16, IntKind.i64.wrap ((BitVec.ofInt IntKind.i64.bits ((k.val : Int) + 32768) ||| BitVec.ofInt IntKind.i64.bits 512).toNat) = (k.val : Int) + 32768 + 512 := by decide
 obtain ⟨k, rfl⟩ := Int.eq_ofNat_of_zero_le h0
 exact key ⟨k, by omega⟩
def headB (id fl n : Int) (qn : ByteArray) (qt : Int) : List UInt8 := twosB [id, fl, 1, n, 0, 0] ++ nameB qn ++ twosB [qt, 1]
theorem headB_len {id fl n qt : Int} {qn : ByteArray} (h : qn.size ≤ 120) : 0 < (headB id fl n qn qt).length ∧ (headB id fl n qn qt).length ≤ 15100 := by
 have := nameB_len h
 unfold headB
 rw [List.length_append, List.length_append, twosB_len, twosB_len]
 simp only [List.length_cons, List.length_nil]
 omega
theorem msgB_eq (m : Ms) : msgB m = headB m.id (flagsM m) (m.rs.length : Int) m.qn m.qt ++ recsB m.rs := rfl
set_option maxHeartbeats 2000000 in
theorem writeFF_fun (m : Ms) (hm : m.Good) (ha : m.an = false) (hc : m.ct = false) : Fun Tryd.prog 44 [.c (.agg m.row)] [.c (.v (.string ⟨(msgB m).toArray⟩))] := by
 obtain ⟨id, an, ct, co, qn, qt, rs⟩ := m
 obtain ⟨h1, h2, h3, h4, h5, h6, h7⟩ := hm
 simp only at h1 h2 h3 h4 h5 h6 h7 ha hc
 subst ha hc
 have eF : flagsM ⟨id, false, false, co, qn, qt, rs⟩ = co := by simp [flagsM]
 rw [msgB_eq, eF]
 have hh := headB_len (id := id) (fl := co) (n := (rs.length : Int)) (qt := qt) h4
 have hR := recsB_len h7
 refine fun_x ck_dns_write rfl ?_
 (refine goI ?_; repeat (intro gg; refine goI ?_))
 rename_i gw
 rw [List.length_map]
 (refine .inr (.inl ⟨_, _, true, [128], aM_fo rfl (cl_row rfl) bld_fold (by decide) (by decide) aM, two_fun [] false [id, co, 1, (rs.length : Int), 0, 0] (by simp only [List.mem_cons, List.not_mem_nil, or_false, forall_eq_or_imp, forall_eq]; omega) (by simp) (by simp), (fun _ => flat_w), oI, dI, ?_⟩))
 (refine goI ?_; repeat (intro gg; refine goI ?_))
 (refine .inr (.inl ⟨_, _, false, [128], aM, name_fun ([] ++ twosB [id, co, 1, (rs.length : Int), 0, 0]) qn h3 h4 (by simp only [List.length_append, twosB_len, List.length_cons, List.length_nil]; omega), nobor, oI, dI, ?_⟩))
 (refine goI ?_; repeat (intro gg; refine goI ?_))
 (refine .inr (.inl ⟨_, _, true, [128], aM, two_fun ([] ++ twosB [id, co, 1, (rs.length : Int), 0, 0] ++ nameB qn) false [qt, 1] (by simp only [List.mem_cons, List.not_mem_nil, or_false, forall_eq_or_imp, forall_eq]; omega) (by simp) (by have := nameB_len h4; simp only [List.length_append, twosB_len, List.length_cons, List.length_nil]; omega), (fun _ => flat_w), oI, dI, ?_⟩))
 (refine goI ?_; repeat (intro gg; refine goI ?_))
 rw [List.length_map]
 (refine ⟨[], none, {k : Nat // k ≤ rs.length}, [3, 40, 41], fun ⟨k, hk⟩ => [(42, .v (.int .i64 k))], [], fun ⟨k, hk⟩ => [(128, ⟨gw, .q (bldI wT (headB id (co) (rs.length : Int) qn qt ++ recsB (rs.take k))), 0, []⟩)], fun ⟨k, hk⟩ => rs.length - k, trivial, fun _ => ⟨trivial, fun _ => ⟨⟨0, by omega⟩, tI, keptE_refl _ _, ?_, keptH_refl _ _⟩⟩, fun ⟨k, hk⟩ => ?_⟩; focus (exact ⟨congrArg (fun r => some (Ent.mk gw (.q (bldI wT r)) 0 [])) (show headB id (co) (rs.length : Int) qn qt = headB id (co) (rs.length : Int) qn qt ++ recsB (rs.take 0) by simp [recsB]), trivial⟩))
 (refine goI ?_; repeat (intro gg; refine goI ?_))
 (refine bIf_of (fun q1 => ?_) (fun q1 => ?_) <;> rw [q1])
 ·have hlt : k < rs.length := by have := of_decide_eq_true (show decide ((k : Int) < (rs.length : Int)) = true from q1); omega
  have hl1 := recsB_len (l := rs.take k) fun r hr => h7 r (List.mem_of_mem_take hr)
  rw [List.length_take] at hl1
  have e : headB id (co) (rs.length : Int) qn qt ++ recsB (rs.take k) ++ recB rs[k] = headB id (co) (rs.length : Int) qn qt ++ recsB (rs.take (k + 1)) := by rw [recsB_next hlt, List.append_assoc]
  (refine goI ?_; repeat (intro gg; refine goI ?_))
  refine ⟨k, _, rfl, row_map hlt, ?_⟩
  (refine goI ?_; repeat (intro gg; refine goI ?_))
  (refine .inr (.inl ⟨_, _, false, [128], aM, record_fun (headB id (co) (rs.length : Int) qn qt ++ recsB (rs.take k)) rs[k] (h7 _ (List.getElem_mem hlt)) (by rw [List.length_append]; omega), nobor, oI, dI, ?_⟩))
  (refine goI ?_; repeat (intro gg; refine goI ?_))
  (exact ⟨none, trivial, fun gr => ⟨⟨k + 1, by omega⟩, by show rs.length - (k + 1) < rs.length - k; omega, tI, tI, ⟨congrArg (fun r => some (Ent.mk gw (.q (bldI wT r)) 0 [])) e, trivial⟩, tI⟩⟩)
 ·have hge : ¬ k < rs.length := by have := of_decide_eq_false (show decide ((k : Int) < (rs.length : Int)) = false from q1); omega
  obtain rfl : k = rs.length := by omega
  have hne : headB id (co) (rs.length : Int) qn qt ++ recsB (rs.take rs.length) ≠ [] := fun q => by
   have := congrArg List.length q
   rw [List.length_append, List.length_nil] at this
   omega
  rw [show recsB rs = recsB (rs.take rs.length) by rw [List.take_length]]
  (refine goI ?_; repeat (intro gg; refine goI ?_))
  (refine .inr (.inl ⟨_, _, false, [128], aM, bString_fun (T := wT) (headB id (co) (rs.length : Int) qn qt ++ recsB (rs.take rs.length)) hne, nobor, oI, dI, ?_⟩))
  (refine goI ?_; repeat (intro gg; refine goI ?_))
  (exact ⟨[], aI⟩)
set_option maxHeartbeats 2000000 in
theorem writeTF_fun (m : Ms) (hm : m.Good) (ha : m.an = true) (hc : m.ct = false) : Fun Tryd.prog 44 [.c (.agg m.row)] [.c (.v (.string ⟨(msgB m).toArray⟩))] := by
 obtain ⟨id, an, ct, co, qn, qt, rs⟩ := m
 obtain ⟨h1, h2, h3, h4, h5, h6, h7⟩ := hm
 simp only at h1 h2 h3 h4 h5 h6 h7 ha hc
 subst ha hc
 have eF : flagsM ⟨id, true, false, co, qn, qt, rs⟩ = co + 32768 := by simp [flagsM]
 rw [msgB_eq, eF]
 have hh := headB_len (id := id) (fl := co + 32768) (n := (rs.length : Int)) (qt := qt) h4
 have hR := recsB_len h7
 refine fun_x ck_dns_write rfl ?_
 (refine goI ?_; repeat (intro gg; refine goI ?_))
 rename Nat => gw
 refine ⟨_, or_an h2.1 h2.2, ?_⟩
 (refine goI ?_; repeat (intro gg; refine goI ?_))
 rw [List.length_map]
 (refine .inr (.inl ⟨_, _, true, [128], aM_fo rfl (cl_row rfl) bld_fold (by decide) (by decide) aM, two_fun [] false [id, co + 32768, 1, (rs.length : Int), 0, 0] (by simp only [List.mem_cons, List.not_mem_nil, or_false, forall_eq_or_imp, forall_eq]; omega) (by simp) (by simp), (fun _ => flat_w), oI, dI, ?_⟩))
 (refine goI ?_; repeat (intro gg; refine goI ?_))
 (refine .inr (.inl ⟨_, _, false, [128], aM, name_fun ([] ++ twosB [id, co + 32768, 1, (rs.length : Int), 0, 0]) qn h3 h4 (by simp only [List.length_append, twosB_len, List.length_cons, List.length_nil]; omega), nobor, oI, dI, ?_⟩))
 (refine goI ?_; repeat (intro gg; refine goI ?_))
 (refine .inr (.inl ⟨_, _, true, [128], aM, two_fun ([] ++ twosB [id, co + 32768, 1, (rs.length : Int), 0, 0] ++ nameB qn) false [qt, 1] (by simp only [List.mem_cons, List.not_mem_nil, or_false, forall_eq_or_imp, forall_eq]; omega) (by simp) (by have := nameB_len h4; simp only [List.length_append, twosB_len, List.length_cons, List.length_nil]; omega), (fun _ => flat_w), oI, dI, ?_⟩))
 (refine goI ?_; repeat (intro gg; refine goI ?_))
 rw [List.length_map]
 (refine ⟨[], none, {k : Nat // k ≤ rs.length}, [3, 40, 41], fun ⟨k, hk⟩ => [(42, .v (.int .i64 k))], [], fun ⟨k, hk⟩ => [(128, ⟨gw, .q (bldI wT (headB id (co + 32768) (rs.length : Int) qn qt ++ recsB (rs.take k))), 0, []⟩)], fun ⟨k, hk⟩ => rs.length - k, trivial, fun _ => ⟨trivial, fun _ => ⟨⟨0, by omega⟩, tI, keptE_refl _ _, ?_, keptH_refl _ _⟩⟩, fun ⟨k, hk⟩ => ?_⟩; focus (exact ⟨congrArg (fun r => some (Ent.mk gw (.q (bldI wT r)) 0 [])) (show headB id (co + 32768) (rs.length : Int) qn qt = headB id (co + 32768) (rs.length : Int) qn qt ++ recsB (rs.take 0) by simp [recsB]), trivial⟩))
 (refine goI ?_; repeat (intro gg; refine goI ?_))
 (refine bIf_of (fun q1 => ?_) (fun q1 => ?_) <;> rw [q1])
 ·have hlt : k < rs.length := by have := of_decide_eq_true (show decide ((k : Int) < (rs.length : Int)) = true from q1); omega
  have hl1 := recsB_len (l := rs.take k) fun r hr => h7 r (List.mem_of_mem_take hr)
  rw [List.length_take] at hl1
  have e : headB id (co + 32768) (rs.length : Int) qn qt ++ recsB (rs.take k) ++ recB rs[k] = headB id (co + 32768) (rs.length : Int) qn qt ++ recsB (rs.take (k + 1)) := by rw [recsB_next hlt, List.append_assoc]
  (refine goI ?_; repeat (intro gg; refine goI ?_))
  refine ⟨k, _, rfl, row_map hlt, ?_⟩
  (refine goI ?_; repeat (intro gg; refine goI ?_))
  (refine .inr (.inl ⟨_, _, false, [128], aM, record_fun (headB id (co + 32768) (rs.length : Int) qn qt ++ recsB (rs.take k)) rs[k] (h7 _ (List.getElem_mem hlt)) (by rw [List.length_append]; omega), nobor, oI, dI, ?_⟩))
  (refine goI ?_; repeat (intro gg; refine goI ?_))
  (exact ⟨none, trivial, fun gr => ⟨⟨k + 1, by omega⟩, by show rs.length - (k + 1) < rs.length - k; omega, tI, tI, ⟨congrArg (fun r => some (Ent.mk gw (.q (bldI wT r)) 0 [])) e, trivial⟩, tI⟩⟩)
 ·have hge : ¬ k < rs.length := by have := of_decide_eq_false (show decide ((k : Int) < (rs.length : Int)) = false from q1); omega
  obtain rfl : k = rs.length := by omega
  have hne : headB id (co + 32768) (rs.length : Int) qn qt ++ recsB (rs.take rs.length) ≠ [] := fun q => by
   have := congrArg List.length q
   rw [List.length_append, List.length_nil] at this
   omega
  rw [show recsB rs = recsB (rs.take rs.length) by rw [List.take_length]]
  (refine goI ?_; repeat (intro gg; refine goI ?_))
  (refine .inr (.inl ⟨_, _, false, [128], aM, bString_fun (T := wT) (headB id (co + 32768) (rs.length : Int) qn qt ++ recsB (rs.take rs.length)) hne, nobor, oI, dI, ?_⟩))
  (refine goI ?_; repeat (intro gg; refine goI ?_))
  (exact ⟨[], aI⟩)
set_option maxHeartbeats 2000000 in
theorem writeFT_fun (m : Ms) (hm : m.Good) (ha : m.an = false) (hc : m.ct = true) : Fun Tryd.prog 44 [.c (.agg m.row)] [.c (.v (.string ⟨(msgB m).toArray⟩))] := by
 obtain ⟨id, an, ct, co, qn, qt, rs⟩ := m
 obtain ⟨h1, h2, h3, h4, h5, h6, h7⟩ := hm
 simp only at h1 h2 h3 h4 h5 h6 h7 ha hc
 subst ha hc
 have eF : flagsM ⟨id, false, true, co, qn, qt, rs⟩ = co + 512 := by simp [flagsM]
 rw [msgB_eq, eF]
 have hh := headB_len (id := id) (fl := co + 512) (n := (rs.length : Int)) (qt := qt) h4
 have hR := recsB_len h7
 refine fun_x ck_dns_write rfl ?_
 (refine goI ?_; repeat (intro gg; refine goI ?_))
 rename Nat => gw
 refine ⟨_, or_ct h2.1 h2.2, ?_⟩
 (refine goI ?_; repeat (intro gg; refine goI ?_))
 rw [List.length_map]
 (refine .inr (.inl ⟨_, _, true, [128], aM_fo rfl (cl_row rfl) bld_fold (by decide) (by decide) aM, two_fun [] false [id, co + 512, 1, (rs.length : Int), 0, 0] (by simp only [List.mem_cons, List.not_mem_nil, or_false, forall_eq_or_imp, forall_eq]; omega) (by simp) (by simp), (fun _ => flat_w), oI, dI, ?_⟩))
 (refine goI ?_; repeat (intro gg; refine goI ?_))
 (refine .inr (.inl ⟨_, _, false, [128], aM, name_fun ([] ++ twosB [id, co + 512, 1, (rs.length : Int), 0, 0]) qn h3 h4 (by simp only [List.length_append, twosB_len, List.length_cons, List.length_nil]; omega), nobor, oI, dI, ?_⟩))
 (refine goI ?_; repeat (intro gg; refine goI ?_))
 (refine .inr (.inl ⟨_, _, true, [128], aM, two_fun ([] ++ twosB [id, co + 512, 1, (rs.length : Int), 0, 0] ++ nameB qn) false [qt, 1] (by simp only [List.mem_cons, List.not_mem_nil, or_false, forall_eq_or_imp, forall_eq]; omega) (by simp) (by have := nameB_len h4; simp only [List.length_append, twosB_len, List.length_cons, List.length_nil]; omega), (fun _ => flat_w), oI, dI, ?_⟩))
 (refine goI ?_; repeat (intro gg; refine goI ?_))
 rw [List.length_map]
 (refine ⟨[], none, {k : Nat // k ≤ rs.length}, [3, 40, 41], fun ⟨k, hk⟩ => [(42, .v (.int .i64 k))], [], fun ⟨k, hk⟩ => [(128, ⟨gw, .q (bldI wT (headB id (co + 512) (rs.length : Int) qn qt ++ recsB (rs.take k))), 0, []⟩)], fun ⟨k, hk⟩ => rs.length - k, trivial, fun _ => ⟨trivial, fun _ => ⟨⟨0, by omega⟩, tI, keptE_refl _ _, ?_, keptH_refl _ _⟩⟩, fun ⟨k, hk⟩ => ?_⟩; focus (exact ⟨congrArg (fun r => some (Ent.mk gw (.q (bldI wT r)) 0 [])) (show headB id (co + 512) (rs.length : Int) qn qt = headB id (co + 512) (rs.length : Int) qn qt ++ recsB (rs.take 0) by simp [recsB]), trivial⟩))
 (refine goI ?_; repeat (intro gg; refine goI ?_))
 (refine bIf_of (fun q1 => ?_) (fun q1 => ?_) <;> rw [q1])
 ·have hlt : k < rs.length := by have := of_decide_eq_true (show decide ((k : Int) < (rs.length : Int)) = true from q1); omega
  have hl1 := recsB_len (l := rs.take k) fun r hr => h7 r (List.mem_of_mem_take hr)
  rw [List.length_take] at hl1
  have e : headB id (co + 512) (rs.length : Int) qn qt ++ recsB (rs.take k) ++ recB rs[k] = headB id (co + 512) (rs.length : Int) qn qt ++ recsB (rs.take (k + 1)) := by rw [recsB_next hlt, List.append_assoc]
  (refine goI ?_; repeat (intro gg; refine goI ?_))
  refine ⟨k, _, rfl, row_map hlt, ?_⟩
  (refine goI ?_; repeat (intro gg; refine goI ?_))
  (refine .inr (.inl ⟨_, _, false, [128], aM, record_fun (headB id (co + 512) (rs.length : Int) qn qt ++ recsB (rs.take k)) rs[k] (h7 _ (List.getElem_mem hlt)) (by rw [List.length_append]; omega), nobor, oI, dI, ?_⟩))
  (refine goI ?_; repeat (intro gg; refine goI ?_))
  (exact ⟨none, trivial, fun gr => ⟨⟨k + 1, by omega⟩, by show rs.length - (k + 1) < rs.length - k; omega, tI, tI, ⟨congrArg (fun r => some (Ent.mk gw (.q (bldI wT r)) 0 [])) e, trivial⟩, tI⟩⟩)
 ·have hge : ¬ k < rs.length := by have := of_decide_eq_false (show decide ((k : Int) < (rs.length : Int)) = false from q1); omega
  obtain rfl : k = rs.length := by omega
  have hne : headB id (co + 512) (rs.length : Int) qn qt ++ recsB (rs.take rs.length) ≠ [] := fun q => by
   have := congrArg List.length q
   rw [List.length_append, List.length_nil] at this
   omega
  rw [show recsB rs = recsB (rs.take rs.length) by rw [List.take_length]]
  (refine goI ?_; repeat (intro gg; refine goI ?_))
  (refine .inr (.inl ⟨_, _, false, [128], aM, bString_fun (T := wT) (headB id (co + 512) (rs.length : Int) qn qt ++ recsB (rs.take rs.length)) hne, nobor, oI, dI, ?_⟩))
  (refine goI ?_; repeat (intro gg; refine goI ?_))
  (exact ⟨[], aI⟩)
set_option maxHeartbeats 2000000 in
theorem writeTT_fun (m : Ms) (hm : m.Good) (ha : m.an = true) (hc : m.ct = true) : Fun Tryd.prog 44 [.c (.agg m.row)] [.c (.v (.string ⟨(msgB m).toArray⟩))] := by
 obtain ⟨id, an, ct, co, qn, qt, rs⟩ := m
 obtain ⟨h1, h2, h3, h4, h5, h6, h7⟩ := hm
 simp only at h1 h2 h3 h4 h5 h6 h7 ha hc
 subst ha hc
 have eF : flagsM ⟨id, true, true, co, qn, qt, rs⟩ = co + 32768 + 512 := by simp [flagsM]
 rw [msgB_eq, eF]
 have hh := headB_len (id := id) (fl := co + 32768 + 512) (n := (rs.length : Int)) (qt := qt) h4
 have hR := recsB_len h7
 refine fun_x ck_dns_write rfl ?_
 (refine goI ?_; repeat (intro gg; refine goI ?_))
 rename Nat => gw
 refine ⟨_, or_an h2.1 h2.2, ?_⟩
 (refine goI ?_; repeat (intro gg; refine goI ?_))
 refine ⟨_, or_ct2 h2.1 h2.2, ?_⟩
 (refine goI ?_; repeat (intro gg; refine goI ?_))
 rw [List.length_map]
 (refine .inr (.inl ⟨_, _, true, [128], aM_fo rfl (cl_row rfl) bld_fold (by decide) (by decide) aM, two_fun [] false [id, co + 32768 + 512, 1, (rs.length : Int), 0, 0] (by simp only [List.mem_cons, List.not_mem_nil, or_false, forall_eq_or_imp, forall_eq]; omega) (by simp) (by simp), (fun _ => flat_w), oI, dI, ?_⟩))
 (refine goI ?_; repeat (intro gg; refine goI ?_))
 (refine .inr (.inl ⟨_, _, false, [128], aM, name_fun ([] ++ twosB [id, co + 32768 + 512, 1, (rs.length : Int), 0, 0]) qn h3 h4 (by simp only [List.length_append, twosB_len, List.length_cons, List.length_nil]; omega), nobor, oI, dI, ?_⟩))
 (refine goI ?_; repeat (intro gg; refine goI ?_))
 (refine .inr (.inl ⟨_, _, true, [128], aM, two_fun ([] ++ twosB [id, co + 32768 + 512, 1, (rs.length : Int), 0, 0] ++ nameB qn) false [qt, 1] (by simp only [List.mem_cons, List.not_mem_nil, or_false, forall_eq_or_imp, forall_eq]; omega) (by simp) (by have := nameB_len h4; simp only [List.length_append, twosB_len, List.length_cons, List.length_nil]; omega), (fun _ => flat_w), oI, dI, ?_⟩))
 (refine goI ?_; repeat (intro gg; refine goI ?_))
 rw [List.length_map]
 (refine ⟨[], none, {k : Nat // k ≤ rs.length}, [3, 40, 41], fun ⟨k, hk⟩ => [(42, .v (.int .i64 k))], [], fun ⟨k, hk⟩ => [(128, ⟨gw, .q (bldI wT (headB id (co + 32768 + 512) (rs.length : Int) qn qt ++ recsB (rs.take k))), 0, []⟩)], fun ⟨k, hk⟩ => rs.length - k, trivial, fun _ => ⟨trivial, fun _ => ⟨⟨0, by omega⟩, tI, keptE_refl _ _, ?_, keptH_refl _ _⟩⟩, fun ⟨k, hk⟩ => ?_⟩; focus (exact ⟨congrArg (fun r => some (Ent.mk gw (.q (bldI wT r)) 0 [])) (show headB id (co + 32768 + 512) (rs.length : Int) qn qt = headB id (co + 32768 + 512) (rs.length : Int) qn qt ++ recsB (rs.take 0) by simp [recsB]), trivial⟩))
 (refine goI ?_; repeat (intro gg; refine goI ?_))
 (refine bIf_of (fun q1 => ?_) (fun q1 => ?_) <;> rw [q1])
 ·have hlt : k < rs.length := by have := of_decide_eq_true (show decide ((k : Int) < (rs.length : Int)) = true from q1); omega
  have hl1 := recsB_len (l := rs.take k) fun r hr => h7 r (List.mem_of_mem_take hr)
  rw [List.length_take] at hl1
  have e : headB id (co + 32768 + 512) (rs.length : Int) qn qt ++ recsB (rs.take k) ++ recB rs[k] = headB id (co + 32768 + 512) (rs.length : Int) qn qt ++ recsB (rs.take (k + 1)) := by rw [recsB_next hlt, List.append_assoc]
  (refine goI ?_; repeat (intro gg; refine goI ?_))
  refine ⟨k, _, rfl, row_map hlt, ?_⟩
  (refine goI ?_; repeat (intro gg; refine goI ?_))
  (refine .inr (.inl ⟨_, _, false, [128], aM, record_fun (headB id (co + 32768 + 512) (rs.length : Int) qn qt ++ recsB (rs.take k)) rs[k] (h7 _ (List.getElem_mem hlt)) (by rw [List.length_append]; omega), nobor, oI, dI, ?_⟩))
  (refine goI ?_; repeat (intro gg; refine goI ?_))
  (exact ⟨none, trivial, fun gr => ⟨⟨k + 1, by omega⟩, by show rs.length - (k + 1) < rs.length - k; omega, tI, tI, ⟨congrArg (fun r => some (Ent.mk gw (.q (bldI wT r)) 0 [])) e, trivial⟩, tI⟩⟩)
 ·have hge : ¬ k < rs.length := by have := of_decide_eq_false (show decide ((k : Int) < (rs.length : Int)) = false from q1); omega
  obtain rfl : k = rs.length := by omega
  have hne : headB id (co + 32768 + 512) (rs.length : Int) qn qt ++ recsB (rs.take rs.length) ≠ [] := fun q => by
   have := congrArg List.length q
   rw [List.length_append, List.length_nil] at this
   omega
  rw [show recsB rs = recsB (rs.take rs.length) by rw [List.take_length]]
  (refine goI ?_; repeat (intro gg; refine goI ?_))
  (refine .inr (.inl ⟨_, _, false, [128], aM, bString_fun (T := wT) (headB id (co + 32768 + 512) (rs.length : Int) qn qt ++ recsB (rs.take rs.length)) hne, nobor, oI, dI, ?_⟩))
  (refine goI ?_; repeat (intro gg; refine goI ?_))
  (exact ⟨[], aI⟩)
theorem write_fun (m : Ms) (hm : m.Good) : Fun Tryd.prog 44 [.c (.agg m.row)] [.c (.v (.string ⟨(msgB m).toArray⟩))] := by
 rcases Bool.eq_false_or_eq_true m.an with ha | ha <;> rcases Bool.eq_false_or_eq_true m.ct with hc | hc
 ·exact writeTT_fun m hm ha hc
 ·exact writeTF_fun m hm ha hc
 ·exact writeFT_fun m hm ha hc
 ·exact writeFF_fun m hm ha hc
end Go.Proofs.YtjhdlcmecbngkaaDoor
namespace Go.Proofs.YtjhdlcmecbngkaaDoor
open Go Go.RowKit Pl
set_option linter.unusedVariables false
namespace Pl
theorem wIn_iff {n a b : Int} (h : (!wIn n a b) = false) : a ≤ n ∧ n ≤ b := by
 unfold wIn at h
 cases h1 : decide (a ≤ n) with
 | true => rw [h1] at h; exact ⟨of_decide_eq_true h1, by simpa using h⟩
 | false => rw [h1] at h; cases h
theorem nameErr_size {nm : ByteArray} (h : nameErr nm = 0) : nm.size ≤ 120 := by
 unfold nameErr at h
 split at h
 ·cases h
 ·split at h
  ·cases h
  ·split at h
   ·cases h
   ·omega
theorem good_of {r : Rr} (h : recErr r = 0) : r.Good ∧ r.un = true := by
 unfold recErr at h
 split at h
 ·rename_i h0; exact absurd h h0
 ·rename_i h0
  have h0 : nameErr r.nm = 0 := by simpa using h0
  cases h1 : (!isTy r.ty) with
  | true => rw [h1] at h; cases h
  | false =>
   rw [h1] at h
   cases h2 : (!wIn r.ls 0 2147483647) with
   | true => rw [h2] at h; cases h
   | false =>
    rw [h2] at h
    cases h3 : (!r.un) with
    | true => rw [h3] at h; cases h
    | false =>
     rw [h3] at h
     cases h4 : (!wIn r.ad 0 4294967295) with
     | true => rw [h4] at h; cases h
     | false =>
      rw [h4] at h
      cases h5 : (!wIn r.pt 0 65535) with
      | true => rw [h5] at h; cases h
      | false =>
       rw [h5] at h
       simp only [cond_false] at h
       split at h
       ·cases h
       ·rename_i h6
        exact ⟨⟨h0, nameErr_size h0, isTy_cases h1, wIn_iff h2, wIn_iff h4, wIn_iff h5, by omega, h, nameErr_size h⟩, by simpa using h3⟩
theorem firstE_zero {l : List Int} (h : firstE l = 0) : ∀ e ∈ l, e = 0 := by
 induction l with
 | nil => intro e he; cases he
 | cons a l ih =>
  have h : (if a ≠ 0 then a else firstE l) = 0 := h
  split at h
  ·rename_i ha; exact absurd h ha
  ·rename_i ha
   intro e he
   rcases List.mem_cons.1 he with rfl | he
   ·simpa using ha
   ·exact ih h e he
theorem goodM_of {m : Ms} (h : msgErr m = 0) : m.Good ∧ ∀ r ∈ m.rs, r.un = true := by
 unfold msgErr at h
 cases h1 : (!wIn m.id 0 65535) with
 | true => rw [h1] at h; cases h
 | false =>
  rw [h1] at h
  cases h2 : (!wIn m.co 0 15) with
  | true => rw [h2] at h; cases h
  | false =>
   rw [h2] at h
   simp only [cond_false] at h
   split at h
   ·cases h
   ·rename_i h3
    split at h
    ·rename_i h4; exact absurd h h4
    ·rename_i h4
     have h4 : nameErr m.qn = 0 := by simpa using h4
     cases h5 : (!isTy m.qt) with
     | true => rw [h5] at h; cases h
     | false =>
      rw [h5] at h
      have h6 := firstE_zero h
      have h7 : ∀ r ∈ m.rs, recErr r = 0 := fun r hr => h6 _ (List.mem_map_of_mem hr)
      exact ⟨⟨wIn_iff h1, wIn_iff h2, h4, nameErr_size h4, isTy_cases h5, by omega, fun r hr => (good_of (h7 r hr)).1⟩, fun r hr => (good_of (h7 r hr)).2⟩
def wrE (m : Ms) : Int := if msgErr m ≠ 0 then msgErr m else if 512 < (msgB m).length then 2 else 0
def wrS (m : Ms) : ByteArray := if wrE m = 0 then ⟨(msgB m).toArray⟩ else ⟨#[]⟩
theorem wr_bad {m : Ms} (h : msgErr m ≠ 0) : wrE m = msgErr m ∧ wrS m = ⟨#[]⟩ := by
 have e : wrE m = msgErr m := if_pos h
 refine ⟨e, ?_⟩
 unfold wrS; rw [e, if_neg h]
theorem wr_long {m : Ms} (h : msgErr m = 0) (h2 : 512 < (msgB m).length) : wrE m = 2 ∧ wrS m = ⟨#[]⟩ := by
 have e : wrE m = 2 := by unfold wrE; rw [if_neg (by simpa using h), if_pos h2]
 refine ⟨e, ?_⟩
 unfold wrS; rw [e]; rfl
theorem wr_ok {m : Ms} (h : msgErr m = 0) (h2 : ¬ 512 < (msgB m).length) : wrE m = 0 ∧ wrS m = ⟨(msgB m).toArray⟩ := by
 have e : wrE m = 0 := by unfold wrE; rw [if_neg (by simpa using h), if_neg h2]
 refine ⟨e, ?_⟩
 unfold wrS; rw [e]; rfl
end Pl
theorem Write_fun (m : Ms) (hm : m.Sized) (hl : m.rs.length ≤ 9223372036854775807) : Fun Tryd.prog 23 [.c (.agg m.row)] [.c (.v (.string (wrS m))), .c (.v (.int .i64 (wrE m)))] := by
 have hC := check_fun m hm hl
 by_cases he : msgErr m = 0
 ·have hW := write_fun m (goodM_of he).1
  have hs : (⟨(msgB m).toArray⟩ : ByteArray).size = (msgB m).length := by show (msgB m).toArray.size = _; simp
  rw [he] at hC
  refine fun_x ck_dns_Write rfl ?_
  (refine goI ?_; repeat (intro gg; refine goI ?_))
  (refine .inl ⟨_, _, false, [], aI, hC, nobor, nI, ?_⟩)
  (refine goI ?_; repeat (intro gg; refine goI ?_))
  (refine .inl ⟨_, _, false, [], aI, hW, nobor, nI, ?_⟩)
  (refine goI ?_; repeat (intro gg; refine goI ?_))
  refine bIf_of (fun k0 => ?_) (fun k0 => ?_) <;> rw [k0]
  ·have k1 := of_decide_eq_true k0
   rw [hs] at k1
   have h2 : 512 < (msgB m).length := by omega
   rw [(wr_long he h2).1, (wr_long he h2).2]
   (refine goI ?_; repeat (intro gg; refine goI ?_))
   (exact ⟨[], aI⟩)
  ·have k1 := of_decide_eq_false k0
   rw [hs] at k1
   have h2 : ¬ 512 < (msgB m).length := by omega
   rw [(wr_ok he h2).1, (wr_ok he h2).2]
   (refine goI ?_; repeat (intro gg; refine goI ?_))
   (exact ⟨[], aI⟩)
 ·refine fun_x ck_dns_Write rfl ?_
  (refine goI ?_; repeat (intro gg; refine goI ?_))
  (refine .inl ⟨_, _, false, [], aI, hC, nobor, nI, ?_⟩)
  (refine goI ?_; repeat (intro gg; refine goI ?_))
  rw [show (msgErr m != 0) = true from bne_iff_ne.2 he]
  rw [(wr_bad he).1, (wr_bad he).2]
  (refine goI ?_; repeat (intro gg; refine goI ?_))
  (exact ⟨[], aI⟩)
end Go.Proofs.YtjhdlcmecbngkaaDoor
namespace Go.Proofs.YtjhdlcmecbngkaaDoor
open Go Go.RowKit Pl
set_option linter.unusedVariables false
namespace Pl
theorem bext {a b : ByteArray} (h : a.data.toList = b.data.toList) : a = b := by
 obtain ⟨a⟩ := a
 obtain ⟨b⟩ := b
 congr 1
 exact Array.ext' h
theorem ix_get {l : List UInt8} {c : UInt8} {m : Nat} (h : Lib.indexByte l c = (m : Int)) : l[m]? = some c := by
 induction l generalizing m with
 | nil => simp [Lib.indexByte] at h
 | cons b l ih =>
  unfold Lib.indexByte at h
  by_cases hb : (b == c) = true
  ·rw [if_pos hb] at h
   have : b = c := by simpa using hb
   obtain rfl : m = 0 := by omega
   simp [this]
  ·rw [if_neg hb] at h
   have hg := Lib.indexByte_ge l c
   split at h
   ·omega
   ·rename_i h1
    have h1' : ¬ Lib.indexByte l c = -1 := by simpa using h1
    obtain ⟨k, hk⟩ : ∃ k : Nat, Lib.indexByte l c = (k : Int) := ⟨(Lib.indexByte l c).toNat, by omega⟩
    obtain rfl : m = k + 1 := by omega
    simpa using ih hk
theorem rest_split (c : UInt8) (s : ByteArray) {k : Nat} (h : k < cnb s c) : (rest c s k).data.toList = (piece c s k).data.toList ++ [c] ++ (rest c s (k + 1)).data.toList := by
 obtain ⟨m, h1, h2, h3, h4⟩ := rest_at c s h
 have hm := ix_get (l := (rest c s k).data.toList) (c := c) (m := m) h1
 have hlen : (rest c s k).data.toList.length = (rest c s k).size := by simp
 rw [h3, h4, extract_list, extract_list, List.drop_zero]
 rw [List.take_of_length_le (i := (rest c s k).size) (by omega)]
 have hd : (rest c s k).data.toList.drop m = c :: (rest c s k).data.toList.drop (m + 1) := by
  rw [List.drop_eq_getElem_cons (by omega)]
  congr 1
  rw [List.getElem?_eq_getElem (by omega)] at hm
  exact Option.some.inj hm
 rw [List.append_assoc]
 show _ = List.take m _ ++ (c :: List.drop (m + 1) _)
 rw [← hd, List.take_append_drop]
theorem join_from (s : ByteArray) (c : UInt8) : ∀ (j k : Nat), k + j = cnb s c → Lib.join ((((List.range' k j).map (piece c s)) ++ [rest c s (cnb s c)]).map (·.data.toList)) [c] = (rest c s k).data.toList := by
 intro j
 induction j with
 | zero =>
  intro k hk
  have hk : k = cnb s c := by omega
  rw [hk]; simp [Lib.join]
 | succ j ih =>
  intro k hk
  have h1 := ih (k + 1) (by omega)
  rw [List.range'_succ, List.map_cons, List.cons_append, List.map_cons]
  rw [rest_split c s (k := k) (by omega), ← h1]
  obtain ⟨x, xs, hx⟩ : ∃ x xs, (((List.range' (k + 1) j).map (piece c s)) ++ [rest c s (cnb s c)]).map (·.data.toList) = x :: xs := by
   cases j <;> simp [List.range'_succ]
  rw [hx]
  simp [Lib.join]
theorem join_labels (s : ByteArray) : joinB ⟨#[46]⟩ (labelsP s) = s := by
 apply bext
 unfold labelsP
 split
 ·rename_i h
  have := toList_inj (beq_iff_eq.1 h)
  subst this
  rfl
 ·have h := join_from s 46 (cnb s 46) 0 (by omega)
  rw [← List.range_eq_range'] at h
  exact h
def At (s : ByteArray) (a : Nat) (l : List UInt8) : Prop := ∃ pre post, s.data.toList = pre ++ l ++ post ∧ pre.length = a
theorem At.app {s : ByteArray} {a : Nat} {l l' : List UInt8} (h : At s a (l ++ l')) : At s a l ∧ At s (a + l.length) l' := by
 obtain ⟨pre, post, h1, h2⟩ := h
 exact ⟨⟨pre, l' ++ post, by rw [h1]; simp, h2⟩, ⟨pre ++ l, post, by rw [h1]; simp, by simp [h2]⟩⟩
theorem At.le {s : ByteArray} {a : Nat} {l : List UInt8} (h : At s a l) : a + l.length ≤ s.size := by
 obtain ⟨pre, post, h1, h2⟩ := h
 have := congrArg List.length h1
 simp at this; omega
theorem At.byte {s : ByteArray} {a : Nat} {c : UInt8} (h : At s a [c]) : byteP s a = some (c.toNat, a + 1) := by
 obtain ⟨pre, post, h1, h2⟩ := h
 unfold byteP
 have : s.data.toList[a]? = some c := by rw [h1]; subst h2; simp
 have hlt : a < s.size := by
  have := (List.getElem?_eq_some_iff.1 this).1
  simpa using this
 have e : s[a]? = some c := by
  rw [getElem?_pos s a hlt]
  congr 1
  have := (List.getElem?_eq_some_iff.1 this).2
  rw [Array.getElem_toList] at this
  exact this
 rw [e]; rfl
theorem At.two {s : ByteArray} {a : Nat} {n : Int} (h : At s a (twosB [n])) (h0 : 0 ≤ n) (h1 : n ≤ 65535) : twoP s a = some (n.toNat, a + 2) := by
 have e : twosB [n] = [UInt8.ofNat (n / 256).toNat] ++ [UInt8.ofNat (n % 256).toNat] := rfl
 rw [e] at h
 have b1 := h.app.1.byte
 have b2 := h.app.2.byte
 unfold twoP
 rw [b1, Option.bind_some]
 simp only [List.length_cons, List.length_nil] at b2 ⊢
 rw [b2, Option.bind_some]
 have e1 : (UInt8.ofNat (n / 256).toNat).toNat = (n / 256).toNat := by rw [UInt8.toNat_ofNat']; exact Nat.mod_eq_of_lt (by omega)
 have e2 : (UInt8.ofNat (n % 256).toNat).toNat = (n % 256).toNat := by rw [UInt8.toNat_ofNat']; exact Nat.mod_eq_of_lt (by omega)
 rw [e1, e2]
 congr 2
 omega
theorem twosB_cons (n : Int) (ns : List Int) : twosB (n :: ns) = twosB [n] ++ twosB ns := by simp [twosB]
theorem At.four {s : ByteArray} {a : Nat} {n : Int} (h : At s a (twosB [n / 65536, n % 65536])) (h0 : 0 ≤ n) (h1 : n ≤ 4294967295) : fourP s a = some (n.toNat, a + 4) := by
 rw [twosB_cons] at h
 have b1 := h.app.1.two (by omega) (by omega)
 have b2 := h.app.2.two (by omega) (by omega)
 rw [twosB_len] at b2
 unfold fourP
 rw [b1, Option.bind_some]
 simp only [List.length_cons, List.length_nil] at b2 ⊢
 rw [b2, Option.bind_some]
 congr 2
 omega
theorem At.bytes {s : ByteArray} {a : Nat} {x : ByteArray} (h : At s a x.data.toList) : bytesP s a x.size = some (x, a + x.size) := by
 have hx : x.data.toList.length = x.size := by simp
 have := h.le
 unfold bytesP
 rw [if_pos (by omega)]
 congr 2
 apply bext
 rw [extract_list]
 obtain ⟨pre, post, h1, h2⟩ := h
 rw [h1, ← hx, List.append_assoc]
 subst h2
 rw [List.take_append, List.drop_append]
 simp
theorem okB_small {c : UInt8} (h : okB c.toNat = true) : smallU c = c := by
 unfold smallU
 rw [if_neg]
 intro ⟨h1, h2⟩
 unfold okB at h
 simp at h
 omega
theorem lab_small {x : ByteArray} (h : lab x.data.toList = true) : smallB x = x := by
 apply bext
 unfold smallB
 show x.data.toList.map smallU = x.data.toList
 have h2 : ∀ c ∈ x.data.toList, okB c.toNat = true := by
  unfold lab at h
  exact fun c hc => List.all_eq_true.1 (Bool.and_eq_true_iff.1 h).1 c hc
 have : x.data.toList.map smallU = x.data.toList.map id := List.map_congr_left fun c hc => okB_small (h2 c hc)
 rw [this, List.map_id]
theorem lab_sz {x : ByteArray} (h : lab x.data.toList = true) : 1 ≤ x.size ∧ x.size ≤ 30 := by
 unfold lab at h
 have := of_decide_eq_true (Bool.and_eq_true_iff.1 h).2
 have e : x.data.toList.length = x.size := by simp
 omega
theorem At.nameR {s : ByteArray} : ∀ (ls l0 : List ByteArray) (a f fr : Nat), At s a (labsB ls ++ [0]) → (∀ x ∈ ls, lab x.data.toList = true) → l0.length + ls.length ≤ 8 → ls.length < f →
  nameR s f a l0 none fr = some (l0 ++ ls, a + (labsB ls).length + 1) := by
 intro ls
 induction ls with
 | nil =>
  intro l0 a f fr h hl h8 hf
  obtain ⟨f, rfl⟩ : ∃ f', f = f' + 1 := ⟨f - 1, by simp at hf; omega⟩
  have b := At.byte (c := 0) h
  rw [Pl.nameR, if_pos (by simpa using h8), b, Option.bind_some]
  simp only [List.append_nil]
  rw [if_pos (by decide)]
  rfl
 | cons x ls ih =>
  intro l0 a f fr h hl h8 hf
  obtain ⟨f, rfl⟩ : ∃ f', f = f' + 1 := ⟨f - 1, by omega⟩
  have hx := hl x (by simp)
  have hz := lab_sz hx
  have e : labsB (x :: ls) ++ [0] = [UInt8.ofNat x.size] ++ (x.data.toList ++ (labsB ls ++ [0])) := by simp [labsB, labB]
  rw [e] at h
  have b1 := h.app.1.byte
  have h2 := h.app.2
  rw [show [UInt8.ofNat x.size].length = 1 from rfl] at h2
  have b2 := h2.app.1.bytes
  have h3 := h2.app.2
  have el : x.data.toList.length = x.size := by simp
  rw [el] at h3
  have ez : (UInt8.ofNat x.size).toNat = x.size := by rw [UInt8.toNat_ofNat']; exact Nat.mod_eq_of_lt (by omega)
  rw [ez] at b1
  simp only [List.length_cons] at h8 hf
  rw [Pl.nameR, if_pos (by omega), b1, Option.bind_some]
  simp only
  rw [if_neg (by omega), if_neg (by omega), b2, Option.bind_some]
  simp only
  rw [lab_small hx, if_pos hx, ih (l0 ++ [x]) (a + 1 + x.size) f fr h3 (fun y hy => hl y (by simp [hy])) (by simp; omega) (by omega)]
  have : (labsB (x :: ls)).length = 1 + x.size + (labsB ls).length := by simp [labsB, labB]; omega
  rw [this]
  simp only [List.append_assoc, List.cons_append, List.nil_append]
  congr 2
  omega
theorem nameErr_ok {nm : ByteArray} (h : nameErr nm = 0) : (∀ x ∈ labelsP nm, lab x.data.toList = true) ∧ (labelsP nm).length ≤ 8 ∧ nm.size ≤ 120 := by
 unfold nameErr at h
 split at h
 ·cases h
 ·rename_i h1
  split at h
  ·cases h
  ·split at h
   ·cases h
   ·refine ⟨fun x hx => ?_, by omega, by omega⟩
    have h2 : (labelsP nm).any (fun x => !lab x.data.toList) = false := by simpa using h1
    have := List.any_eq_false.1 h2 x hx
    simpa using this
theorem At.name {s : ByteArray} {a : Nat} {nm : ByteArray} (h : At s a (nameB nm)) (hn : nameErr nm = 0) : nameP s a = some (nm, a + (nameB nm).length) := by
 obtain ⟨h1, h2, h3⟩ := nameErr_ok hn
 unfold nameP
 rw [At.nameR (labelsP nm) [] a (a + 10) a h h1 (by simpa using h2) (by omega)]
 show some (joinB ⟨#[46]⟩ ([] ++ labelsP nm), _) = _
 rw [List.nil_append, join_labels]
 simp [nameB]
 omega
theorem At.byteN {s : ByteArray} {a n : Nat} {l : List UInt8} (h : At s a (UInt8.ofNat n :: l)) (hn : n < 256) : byteP s a = some (n, a + 1) ∧ At s (a + 1) l := by
 have h' : At s a ([UInt8.ofNat n] ++ l) := h
 refine ⟨?_, h'.app.2⟩
 rw [h'.app.1.byte, UInt8.toNat_ofNat', Nat.mod_eq_of_lt (by omega)]
theorem em_eq {x : ByteArray} (h : em x = true) : x = ⟨#[]⟩ := toList_inj (beq_iff_eq.1 h)
theorem un_1 {nm tx tg : ByteArray} {ls ad pt : Int} (h : Rr.un ⟨nm, 1, ls, ad, tx, pt, tg⟩ = true) : tx = ⟨#[]⟩ ∧ pt = 0 ∧ tg = ⟨#[]⟩ := by
 unfold Rr.un at h
 simp at h
 exact ⟨em_eq h.1, h.2.1, em_eq h.2.2⟩
theorem un_16 {nm tx tg : ByteArray} {ls ad pt : Int} (h : Rr.un ⟨nm, 16, ls, ad, tx, pt, tg⟩ = true) : ad = 0 ∧ pt = 0 ∧ tg = ⟨#[]⟩ := by
 unfold Rr.un at h
 simp at h
 exact ⟨h.1, h.2.1, em_eq h.2.2⟩
theorem un_33 {nm tx tg : ByteArray} {ls ad pt : Int} (h : Rr.un ⟨nm, 33, ls, ad, tx, pt, tg⟩ = true) : ad = 0 ∧ tx = ⟨#[]⟩ := by
 unfold Rr.un at h
 simp at h
 exact ⟨h.1, em_eq h.2⟩
theorem At.body {s : ByteArray} {a : Nat} {r : Rr} (h : At s a (inB r)) (hg : r.Good) (hu : r.un = true) : bodyP s r.ty.toNat a = some ((r.ad.toNat, r.tx, r.pt.toNat, r.tg), a + (inB r).length) := by
 obtain ⟨nm, ty, ls, ad, tx, pt, tg⟩ := r
 obtain ⟨h1, h2, h3, h4, h5, h6, h7, h8, h9⟩ := hg
 simp only at h1 h2 h3 h4 h5 h6 h7 h8 h9
 rcases h3 with rfl | rfl | rfl
 ·obtain ⟨rfl, rfl, rfl⟩ := un_1 hu
  have e : inB ⟨nm, 1, ls, ad, ⟨#[]⟩, 0, ⟨#[]⟩⟩ = twosB [ad / 65536, ad % 65536] := rfl
  rw [e] at h ⊢
  have b := h.four h5.1 h5.2
  show bodyP s 1 a = some ((ad.toNat, ⟨#[]⟩, 0, ⟨#[]⟩), _)
  unfold bodyP
  rw [if_pos rfl, b, twosB_len]
  rfl
 ·obtain ⟨rfl, rfl, rfl⟩ := un_16 hu
  have e : inB ⟨nm, 16, ls, 0, tx, 0, ⟨#[]⟩⟩ = UInt8.ofNat tx.size :: tx.data.toList := rfl
  rw [e] at h ⊢
  obtain ⟨b1, g1⟩ := h.byteN (by omega)
  have b2 := g1.bytes
  have hx : tx.data.toList.length = tx.size := by simp
  show bodyP s 16 a = some ((0, tx, 0, ⟨#[]⟩), _)
  unfold bodyP
  rw [if_neg (by decide), if_pos rfl, b1, Option.bind_some]
  simp only
  rw [b2, Option.bind_some]
  simp only [List.length_cons, hx]
  congr 2
  omega
 ·obtain ⟨rfl, rfl⟩ := un_33 hu
  have e : inB ⟨nm, 33, ls, 0, ⟨#[]⟩, pt, tg⟩ = twosB [0] ++ (twosB [0] ++ (twosB [pt] ++ nameB tg)) := by
   show twosB [0, 0, pt] ++ nameB tg = _
   simp [twosB]
  rw [e] at h ⊢
  have b1 := h.app.1.two (by omega) (by omega)
  have g1 := h.app.2
  rw [twosB_len] at g1
  have b2 := g1.app.1.two (by omega) (by omega)
  have g2 := g1.app.2
  rw [twosB_len] at g2
  have b3 := g2.app.1.two h6.1 h6.2
  have g3 := g2.app.2
  rw [twosB_len] at g3
  have b4 := g3.name h8
  simp only [List.length_cons, List.length_nil] at b2 b3 b4
  show bodyP s 33 a = some ((0, ⟨#[]⟩, pt.toNat, tg), _)
  unfold bodyP
  rw [if_neg (by decide), if_neg (by decide), if_pos rfl, b1, Option.bind_some]
  simp only
  rw [if_pos (by decide), b2, Option.bind_some]
  simp only
  rw [if_pos (by decide), b3, Option.bind_some]
  simp only
  rw [b4, Option.bind_some]
  simp only [List.length_append, twosB_len, List.length_cons, List.length_nil]
  congr 2
  omega
theorem recB_eq (r : Rr) : recB r = nameB r.nm ++ (twosB [r.ty] ++ (twosB [1] ++ (twosB [r.ls / 65536, r.ls % 65536] ++ (twosB [((inB r).length : Int)] ++ inB r)))) := by
 unfold recB
 rw [twosB_cons r.ty, twosB_cons 1]
 simp only [List.append_assoc]
theorem At.rec_ {s : ByteArray} {a : Nat} {r : Rr} (h : At s a (recB r)) (hg : r.Good) (hu : r.un = true) : recP s a = some (r, a + (recB r).length) := by
 have hin := inB_len hg
 have hle := h.le
 rw [recB_eq] at h hle ⊢
 have b1 := h.app.1.name hg.nm
 have g1 := h.app.2
 have hty : 0 ≤ r.ty ∧ r.ty ≤ 65535 := by rcases hg.ty with q | q | q <;> omega
 have b2 := g1.app.1.two hty.1 hty.2
 have g2 := g1.app.2
 rw [twosB_len] at g2
 have b3 := g2.app.1.two (by omega) (by omega)
 have g3 := g2.app.2
 rw [twosB_len] at g3
 have b4 := g3.app.1.four hg.ls.1 (by have := hg.ls.2; omega)
 have g4 := g3.app.2
 rw [twosB_len] at g4
 have b5 := g4.app.1.two (by omega) (by omega)
 have g5 := g4.app.2
 rw [twosB_len] at g5
 have b6 := g5.body hg hu
 simp only [List.length_append, twosB_len, List.length_cons, List.length_nil] at b2 b3 b4 b5 b6 hle ⊢
 unfold recP
 rw [b1, Option.bind_some]
 simp only
 rw [b2, Option.bind_some]
 simp only
 rw [b3, Option.bind_some]
 simp only
 rw [if_pos (by decide)]
 have e4 : a + (nameB r.nm).length + 2 * 1 + 2 = a + (nameB r.nm).length + 2 * (0 + 1) + 2 * (0 + 1) := by omega
 simp only [Nat.zero_add, Nat.mul_one] at *
 rw [b4, Option.bind_some]
 simp only
 rw [show a + (nameB r.nm).length + 2 + 2 + 4 = a + (nameB r.nm).length + 2 + 2 + 2 * (1 + 1) by omega, b5, Option.bind_some]
 simp only
 rw [if_pos (by omega), b6, Option.bind_some]
 simp only
 rw [if_pos (by omega)]
 obtain ⟨nm, ty, ls, ad, tx, pt, tg⟩ := r
 have q1 := hg.ls.1
 have q2 := hg.ad.1
 have q3 := hg.pt.1
 simp only at q1 q2 q3 hty
 simp only [Option.some.injEq, Prod.mk.injEq, Rr.mk.injEq, true_and, and_true]
 omega
theorem At.recs {s : ByteArray} : ∀ (l : List Rr) (a : Nat), At s a (recsB l) → (∀ r ∈ l, r.Good ∧ r.un = true) → recsP s l.length a = some (l, a + (recsB l).length)
 | [], a, _, _ => rfl
 | r :: l, a, h, hg => by
  have e : recsB (r :: l) = recB r ++ recsB l := rfl
  rw [e] at h ⊢
  have b1 := h.app.1.rec_ (hg r (by simp)).1 (hg r (by simp)).2
  have b2 := At.recs l _ h.app.2 fun x hx => hg x (by simp [hx])
  show recsP s (l.length + 1) a = _
  rw [recsP, b1, Option.bind_some]
  simp only
  rw [b2, Option.bind_some]
  simp only [List.length_append]
  congr 2
  omega
theorem fl_good (m : Ms) (h : 0 ≤ m.co ∧ m.co ≤ 15) : (flagsM m / 256).toNat = (if m.an then 128 else 0) + (if m.ct then 2 else 0) ∧ (flagsM m % 256).toNat = m.co.toNat := by
 unfold flagsM
 cases m.an <;> cases m.ct <;> simp <;> omega
theorem msgB_split (m : Ms) : msgB m = twosB [m.id] ++ (UInt8.ofNat (flagsM m / 256).toNat :: UInt8.ofNat (flagsM m % 256).toNat :: (twosB [1] ++ (twosB [(m.rs.length : Int)] ++ (twosB [0] ++ (twosB [0] ++ (nameB m.qn ++ (twosB [m.qt] ++ (twosB [1] ++ recsB m.rs)))))))) := by
 unfold msgB
 rw [twosB_cons m.id, twosB_cons (flagsM m), twosB_cons 1, twosB_cons (m.rs.length : Int), twosB_cons 0, twosB_cons m.qt]
 rw [show twosB [flagsM m] = [UInt8.ofNat (flagsM m / 256).toNat, UInt8.ofNat (flagsM m % 256).toNat] from rfl]
 simp only [List.append_assoc, List.cons_append, List.nil_append]
theorem msg_back {m : Ms} (hm : m.Good) (hu : ∀ r ∈ m.rs, r.un = true) : msgP ⟨(msgB m).toArray⟩ = some m := by
 have h : At ⟨(msgB m).toArray⟩ 0 (msgB m) := ⟨[], [], by simp, rfl⟩
 have hs : (⟨(msgB m).toArray⟩ : ByteArray).size = (msgB m).length := by show (msgB m).toArray.size = _; simp
 obtain ⟨f1, f2⟩ := fl_good m hm.co
 generalize hS : (⟨(msgB m).toArray⟩ : ByteArray) = s at *
 have hlen : (msgB m).length = 12 + (nameB m.qn).length + 4 + (recsB m.rs).length := by
  rw [msgB_split]
  simp only [List.length_append, List.length_cons, twosB_len, List.length_nil]
  omega
 rw [hlen] at hs
 rw [msgB_split] at h
 have hty : 0 ≤ m.qt ∧ m.qt ≤ 65535 := by rcases hm.qt with q | q | q <;> omega
 have hln := hm.len
 have hco := hm.co
 have b1 := h.app.1.two hm.id.1 hm.id.2
 have g1 := h.app.2
 rw [twosB_len] at g1
 have hA : (flagsM m / 256).toNat < 256 := by rw [f1]; cases m.an <;> cases m.ct <;> decide
 obtain ⟨b2, g2⟩ := g1.byteN hA
 obtain ⟨b3, g3⟩ := g2.byteN (by rw [f2]; omega)
 have b4 := g3.app.1.two (by omega) (by omega)
 have g4 := g3.app.2
 rw [twosB_len] at g4
 have b5 := g4.app.1.two (by omega) (by omega)
 have g5 := g4.app.2
 rw [twosB_len] at g5
 have b6 := g5.app.1.two (by omega) (by omega)
 have g6 := g5.app.2
 rw [twosB_len] at g6
 have b7 := g6.app.1.two (by omega) (by omega)
 have g7 := g6.app.2
 rw [twosB_len] at g7
 have b8 := g7.app.1.name hm.qn
 have g8 := g7.app.2
 have b9 := g8.app.1.two hty.1 hty.2
 have g9 := g8.app.2
 rw [twosB_len] at g9
 have b10 := g9.app.1.two (by omega) (by omega)
 have g10 := g9.app.2
 rw [twosB_len] at g10
 have b11 := At.recs m.rs _ g10 fun r hr => ⟨hm.rs r hr, hu r hr⟩
 simp only [List.length_cons, List.length_nil, Nat.zero_add, Nat.mul_one] at b1 b2 b3 b4 b5 b6 b7 b8 b9 b10 b11
 unfold msgP
 rw [b1, Option.bind_some]
 simp only [Nat.zero_add]
 rw [b2, Option.bind_some]
 simp only
 rw [b3, Option.bind_some]
 simp only
 rw [f1, f2, if_pos (by cases m.an <;> cases m.ct <;> simp [okFl] <;> omega), b4, Option.bind_some]
 simp only
 rw [if_pos (by decide), b5, Option.bind_some]
 simp only
 rw [if_pos (by omega), b6, Option.bind_some]
 simp only
 rw [if_pos (by decide), b7, Option.bind_some]
 simp only
 rw [if_pos (by decide), b8, Option.bind_some]
 simp only
 rw [b9, Option.bind_some]
 simp only
 rw [b10, Option.bind_some]
 simp only
 rw [if_pos (by decide), Int.toNat_natCast, b11, Option.bind_some]
 simp only
 rw [if_pos (by omega)]
 obtain ⟨id, an, ct, co, qn, qt, rs⟩ := m
 have q1 := hm.id.1
 simp only at q1 hco hty
 simp only [Option.some.injEq, Ms.mk.injEq, and_true, true_and]
 refine ⟨by omega, ?_, ?_, by omega, by omega⟩
 ·cases an <;> cases ct <;> simp
 ·cases an <;> cases ct <;> simp
end Pl
end Go.Proofs.YtjhdlcmecbngkaaDoor
