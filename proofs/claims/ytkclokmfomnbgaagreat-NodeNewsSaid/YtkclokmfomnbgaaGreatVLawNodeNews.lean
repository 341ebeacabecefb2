/- NodeNews: whatever comes in, New answers what the document says; no condition. -/
import Derived.Test.YtkclokmfomnbgaaGreatVa
import Derived.Test.YtkclokmfomnbgaaGreatVb
import Derived.Test.YtkclokmfomnbgaaGreatVc
import Derived.Test.YtkclokmfomnbgaaGreatVd
namespace Go.Proofs.YtkclokmfomnbgaaGreat.nodeNews
open Go.Joins Go.ChangeShapes Go.WideShapes Go.ChangeAt Go.RowKit Pl
set_option linter.unusedVariables false
theorem newR_ok {nm ce : ByteArray} {ad : Int} {sv : Bool} (hn : nm.size ≤ 9223372036854775807) (hc : ce.size ≤ 9223372036854775807) : (newR nm ce ad sv).ok := ⟨hn, hc, by show 1 ≤ _; omega, fun x hx => by simp [newR] at hx; subst hx; exact hn, Nat.zero_le _, fun x hx => by simp [newR] at hx, Nat.zero_le _, fun x hx => by simp [newR] at hx, Nat.zero_le _, fun x hx => by simp [newR] at hx, Nat.zero_le _, fun x hx => by simp [newR] at hx⟩
theorem nd0_ok : nd0.ok := ⟨Nat.zero_le _, Nat.zero_le _, Nat.zero_le _, fun x hx => by simp [nd0] at hx, Nat.zero_le _, fun x hx => by simp [nd0] at hx, Nat.zero_le _, fun x hx => by simp [nd0] at hx, Nat.zero_le _, fun x hx => by simp [nd0] at hx, Nat.zero_le _, fun x hx => by simp [nd0] at hx⟩
theorem law (nm ce : ByteArray) (ad : Int) (sv : Bool) (hn : nm.size ≤ 9223372036854775807) (hc : ce.size ≤ 9223372036854775807) (_ : -9223372036854775808 ≤ ad ∧ ad ≤ 9223372036854775807) : Fun Tryz.prog 3 [.c (.v (.string nm)), .c (.v (.string ce)), .c (.v (.int .i64 ad)), .c (.v (.bool sv))] [.c (.v (.bool true))] := by
  have hN := new_fun nm ce ad sv hn hc
  have ho : (newM nm ce ad sv).ok := by
    unfold newM
    split
    · exact nd0_ok
    · exact newR_ok hn hc
  have hI := nodeIs_fun (newM nm ce ad sv) (newR nm ce ad sv) (newR nm ce ad sv).err (Nd_sh ho) (fun e => by unfold newM; rw [if_neg (by simp [e])]) (fun e => by unfold newM; rw [if_pos e])
  have he := new_err nm ce ad sv
  generalize newM nm ce ad sv = x at *
  generalize hE : (newR nm ce ad sv).err = E at *
  refine fun_x ck_hearsaylaw_NodeNews rfl ?_
  refine G0 ?_
  (refine .inl ⟨_, _, false, [], aI, hN, nobor, nI, ?_⟩)
  (refine goI ?_; repeat (intro gg; refine goI ?_))
  (refine .inl ⟨_, _, false, [], aI, rlabel_fun nm hn, nobor, nI, ?_⟩)
  refine G1 ?_; intro gg
  (refine bIf_of (fun h1 => ?_) (fun h1 => ?_) <;> rw [h1])
  · rw [if_pos (.inl (not_t h1))] at he
    subst he
    (refine goI ?_; repeat (intro gg; refine goI ?_))
    (refine .inl ⟨_, _, false, [], aI, nbegun_fun, nobor, nI, ?_⟩)
    refine G1 ?_; intro gg
    (refine .inl ⟨_, _, true, [], aI, hI, (fun _ => fI), nI, ?_⟩)
    refine G1 ?_; intro gg
    (exact ⟨[], aI⟩)
  · have h1' := not_f h1
    refine G0 ?_
    (refine .inl ⟨_, _, false, [], aI, rlabel_fun ce hc, nobor, nI, ?_⟩)
    refine G1 ?_; intro gg
    (refine bIf_of (fun h2 => ?_) (fun h2 => ?_) <;> rw [h2])
    · rw [if_pos (.inr (not_t h2))] at he
      subst he
      (refine goI ?_; repeat (intro gg; refine goI ?_))
      (refine .inl ⟨_, _, false, [], aI, nbegun_fun, nobor, nI, ?_⟩)
      refine G1 ?_; intro gg
      (refine .inl ⟨_, _, true, [], aI, hI, (fun _ => fI), nI, ?_⟩)
      refine G1 ?_; intro gg
      (exact ⟨[], aI⟩)
    · have h2' := not_f h2
      rw [if_neg (by rw [h1', h2']; simp)] at he
      refine G0 ?_
      (refine .inl ⟨_, _, false, [], aI, address_fun ad, nobor, nI, ?_⟩)
      refine G1 ?_; intro gg
      cases ha : wi ad 0 4294967295 with
      | true =>
        rw [ha] at he
        have he : E = 0 := he
        subst he
        (refine goI ?_; repeat (intro gg; refine goI ?_))
        (refine .inl ⟨_, _, false, [], aI, nbegun_fun, nobor, nI, ?_⟩)
        refine G1 ?_; intro gg
        (refine .inl ⟨_, _, true, [], aI, hI, (fun _ => fI), nI, ?_⟩)
        refine G1 ?_; intro gg
        (exact ⟨[], aI⟩)
      | false =>
        rw [ha] at he
        have he : E = 3 := he
        subst he
        (refine goI ?_; repeat (intro gg; refine goI ?_))
        (refine .inl ⟨_, _, false, [], aI, nbegun_fun, nobor, nI, ?_⟩)
        refine G1 ?_; intro gg
        (refine .inl ⟨_, _, true, [], aI, hI, (fun _ => fI), nI, ?_⟩)
        refine G1 ?_; intro gg
        (exact ⟨[], aI⟩)
theorem own : ownKnob Tryz.prog.godebug = none := by kernel_rfl
set_option maxRecDepth 100000 in
theorem lifted (os : Os) (started : os.Started) (H : Type) (enc : TypeId × Value → H) :
    ReturnsInHanded {} Tryz.checked os 3 .any (Rows.nodeNewsSpec.pre6 enc Tryz.prog Tryz.f3 Rows.nodeNewsRow.domain false) (Rows.nodeNewsSpec.post enc Tryz.prog Tryz.f3 false true false false) := by
  refine returnsInHanded_of_change (C := Tryz.checked) own started (by kernel_rfl) Tryz.func3
    (ChangeSpec.witness6 (enc := enc) (C := Tryz.checked) false ⟨#[], #[.string ⟨#[]⟩, .string ⟨#[]⟩, .int .i64 0, .bool false], []⟩ 8 (by kernel_rfl) (by kernel_rfl) (by kernel_rfl) (by kernel_rfl)) ?_
  intro W base args ds gs before hval0 hW hcnd hsz
  have hval : ∀ (j : Nat) t v, Tryz.f3.params[j]? = some t → args[j]? = some v → Value.okWide Tryz.prog W .any base t v := hval0
  have hW' := hW
  obtain ⟨p, q, hA0, hV, rfl, hfz, hnd⟩ := hW
  have hA : DataW.TrodAll enc Tryz.prog W 0 (fun _ => true) true Tryz.f3.params.toList args.toList ds p := hA0
  rw [Tryz.params3] at hA hval
  obtain ⟨v0, vs0, d0, ds0, p0, q0, hargs, rfl, rfl, h0, r0⟩ := trodAll_cons hA
  obtain ⟨v1, vs1, d1, ds1, p1, q1, rfl, rfl, rfl, h1, r1⟩ := trodAll_cons r0
  obtain ⟨v2, vs2, d2, ds2, p2, q2, rfl, rfl, rfl, h2, r2⟩ := trodAll_cons r1
  obtain ⟨v3, vs3, d3, ds3, p3, q3, rfl, rfl, rfl, h3, r3⟩ := trodAll_cons r2
  obtain ⟨rfl, rfl, rfl⟩ := trodAll_nil r3
  obtain rfl : args = #[v0, v1, v2, v3] := by cases args; simp_all
  obtain ⟨rfl, rfl⟩ := trodVars_none hV
  obtain ⟨a0, rfl, rfl, rfl, w0⟩ := Go.ChangeMaps.open_string Tryz.underlying9 (hval 0 9 v0 rfl rfl) h0
  obtain ⟨a1, rfl, rfl, rfl, w1⟩ := Go.ChangeMaps.open_string Tryz.underlying9 (hval 1 9 v1 rfl rfl) h1
  obtain ⟨a2, rfl, rfl, rfl, w2⟩ := open_int Tryz.underlying3 (hval 2 3 v2 rfl rfl) h2
  obtain ⟨a3, rfl, rfl, rfl⟩ := open_bool Tryz.underlying4 (hval 3 4 v3 rfl rfl) h3
  clear hA0 hval0
  refine (tieL (us := [_, _, _, _]) (xs := [_, _, _, _]) (w := W) (law a0 a1 a2 a3 (by simpa [maxLen] using w0) (by simpa [maxLen] using w1) (by simpa [Lit.wf, IntKind.min, IntKind.max, IntKind.signed, IntKind.bits] using w2)) ⟨RV.v _, RV.v _, RV.v _, RV.v _, trivial⟩).mono fun e W' ⟨he, hg⟩ => ?_
  subst he
  exact ⟨_, rfl, law_post hW' (by kernel_rfl) (by rw [Tryz.params3]; exact of_decide_eq_true (by kernel_rfl)) rfl rfl (by kernel_rfl) Tryz.underlying4 hg⟩
theorem over : Rows.nodeNewsRow.holds Tryz.pinned (OpenSpec.ofChange Rows.nodeNewsSpec) :=
  OpenClaim.holds_of_wide 3 Tryz.f3 rfl rfl rfl rfl rfl rfl rfl ⟨rfl, rfl, rfl, rfl, rfl⟩ rfl rfl rfl rfl rfl (by kernel_rfl) Tryz.func3 (by kernel_rfl)
    (of_decide_eq_true (by kernel_rfl)) (by unfold Func.isWrapper; first | (rw [if_pos (by decide +kernel)]; kernel_rfl) | (rw [if_neg (by decide +kernel)]; exact ⟨rfl, rfl⟩))
    (fun os started H enc _ => lifted os started H enc)
theorem proved : Rows.NodeNewsSaid := over
#print axioms proved
end Go.Proofs.YtkclokmfomnbgaaGreat.nodeNews
