/- Plain: what a sorted list of the newest stands for; so the order of joining does not matter. No program in sight. -/
import Derived.Test.YtjgibmaadmkkgaaPlainHear
import Derived.Test.YtjgibmaadmkkgaaFCom
namespace Go.Proofs.Ytjgibmaadmkkgaa.Pl
set_option linter.unusedVariables false
/-! comparisons -/
structure Good {α : Type} (c : α → α → Int) : Prop where
  anti : ∀ a b, c b a = - c a b
  pp : ∀ a b d, 0 < c a b → 0 < c b d → 0 < c a d
  zp : ∀ a b d, c a b = 0 → 0 < c b d → 0 < c a d
  pz : ∀ a b d, 0 < c a b → c b d = 0 → 0 < c a d
  zz : ∀ a b d, c a b = 0 → c b d = 0 → c a d = 0
theorem icmp_zero {a b : Int} : icmp a b = 0 ↔ a = b := ⟨fun h => Classical.byContradiction fun hn => icmp_ne hn h, fun h => h ▸ icmp_eq a⟩
theorem good_int {α : Type} (f : α → Int) : Good fun g x => icmp (f g) (f x) where
  anti := fun a b => by unfold icmp; split <;> (try split) <;> (try split) <;> omega
  pp := fun a b d h k => by rw [icmp_pos] at *; omega
  zp := fun a b d h k => by rw [icmp_pos] at *; rw [icmp_zero] at h; omega
  pz := fun a b d h k => by rw [icmp_pos] at *; rw [icmp_zero] at k; omega
  zz := fun a b d h k => by rw [icmp_zero] at *; omega
theorem scmp_anti (a b : ByteArray) : scmp b a = - scmp a b := by
  rcases Bool.eq_false_or_eq_true (slt a b) with h | h
  · rw [scmp_lt h, scmp_gt h]; rfl
  · rcases Bool.eq_false_or_eq_true (slt b a) with k | k
    · rw [scmp_lt k, scmp_gt k]
    · have := slt_tri h k
      rw [this, scmp_eq]; rfl
theorem good_str {α : Type} (f : α → ByteArray) : Good fun g x => scmp (f g) (f x) where
  anti := fun a b => scmp_anti _ _
  pp := fun a b d h k => by rw [scmp_pos] at *; exact slt_trans k h
  zp := fun a b d h k => by rw [scmp_pos] at *; rw [scmp_zero] at h; rw [h]; exact k
  pz := fun a b d h k => by rw [scmp_pos] at *; rw [scmp_zero] at k; rw [← k]; exact h
  zz := fun a b d h k => by rw [scmp_zero] at *; exact h.trans k
theorem nz_cons (x : Int) (r : List Int) : firstNZ (x :: r) = if x = 0 then firstNZ r else x := rfl
theorem good_list {α : Type} : ∀ (cs : List (α → α → Int)), (∀ c ∈ cs, Good c) → Good fun g x => firstNZ (cs.map fun c => c g x)
  | [], _ => ⟨fun _ _ => rfl, fun _ _ _ h => by simp [firstNZ] at h, fun _ _ _ _ h => by simp [firstNZ] at h, fun _ _ _ h => by simp [firstNZ] at h, fun _ _ _ _ _ => rfl⟩
  | c :: cs, h => by
    have hc := h c (by simp)
    have ih := good_list cs fun c hm => h c (by simp [hm])
    refine ⟨fun a b => ?_, fun a b d p q => ?_, fun a b d p q => ?_, fun a b d p q => ?_, fun a b d p q => ?_⟩ <;> simp only [List.map_cons, nz_cons] at *
    · rw [hc.anti a b]
      by_cases h0 : c a b = 0
      · rw [if_pos (by omega), if_pos h0]; exact ih.anti a b
      · rw [if_neg (by omega), if_neg h0]
    all_goals
      rcases Classical.em (c a b = 0) with h1 | h1 <;> rcases Classical.em (c b d = 0) with h2 | h2 <;> (try simp only [h1, h2, if_true, if_false] at p q)
    all_goals first
      | (have h3 := hc.zz _ _ _ h1 h2; rw [if_pos h3]; first | exact ih.pp _ _ _ p q | exact ih.zp _ _ _ p q | exact ih.pz _ _ _ p q | exact ih.zz _ _ _ p q)
      | (have h3 := hc.zp _ _ _ h1 q; rw [if_neg (by omega)]; exact h3)
      | (have h3 := hc.pz _ _ _ p h2; rw [if_neg (by omega)]; exact h3)
      | (have h3 := hc.pp _ _ _ p q; rw [if_neg (by omega)]; exact h3)
      | omega
theorem nz_zero : ∀ {l : List Int}, firstNZ l = 0 → ∀ x ∈ l, x = 0
  | [], _, x, hx => by cases hx
  | y :: l, h, x, hx => by
    rw [nz_cons] at h
    split at h
    · rename_i h0
      rcases List.mem_cons.1 hx with rfl | hx
      · exact h0
      · exact nz_zero h x hx
    · rename_i h0; exact absurd h h0
/-- what is newer, among those of one key -/
structure Newest {α : Type} (cf : α → α → Int) (nw : α → α → Bool) : Prop where
  irr : ∀ x, nw x x = false
  trans : ∀ x y z, nw x y = true → nw y z = true → nw x z = true
  tot : ∀ x y, cf x y = 0 → nw x y = false → nw y x = false → x = y
theorem newest_of {α : Type} {cf : α → α → Int} {c : α → α → Int} (hc : Good c) (ht : ∀ x y, cf x y = 0 → c x y = 0 → x = y) : Newest cf fun g x => decide (0 < c g x) where
  irr := fun x => decide_eq_false fun h => by have := hc.anti x x; omega
  trans := fun x y z h k => decide_eq_true (hc.pp _ _ _ (of_decide_eq_true h) (of_decide_eq_true k))
  tot := fun x y h1 h2 h3 => ht x y h1 (by have := of_decide_eq_false h2; have := of_decide_eq_false h3; have := hc.anti x y; omega)
section
variable {α : Type} {lt : α → α → Bool} {cf : α → α → Int} {nw : α → α → Bool}
theorem Ord.irr (o : Ord lt cf) (ho : ∀ x, cf x x = 0) (x : α) : lt x x = false := by
  cases h : lt x x with
  | false => rfl
  | true => have := (o.neg x x).2 h; rw [ho] at this; omega
theorem sorted_uniq (o : Ord lt cf) (ho : ∀ x, cf x x = 0) {l : List α} (hs : sorted lt l = true) {x y : α} (hx : x ∈ l) (hy : y ∈ l) (h : cf x y = 0) : x = y := by
  obtain ⟨i, hi, rfl⟩ := List.getElem_of_mem hx
  obtain ⟨j, hj, rfl⟩ := List.getElem_of_mem hy
  rcases Nat.lt_trichotomy i j with g | g | g
  · have := sorted_pair o.trans hs j i hj g
    have h2 := o.left _ _ l[j] h
    rw [this] at h2
    rw [o.irr ho] at h2; cases h2
  · subst g; rfl
  · have := sorted_pair o.trans hs i j hi g
    have h2 := o.right _ _ l[j] h
    rw [this, o.irr ho] at h2
    have := o.left _ _ l[j] h
    rw [o.irr ho] at this
    have h3 := o.right l[i] l[j] l[j] h
    rw [o.irr ho] at h3
    have h4 := sorted_pair o.trans hs i j hi g
    rw [h4] at h3; cases h3
theorem sorted_ext (o : Ord lt cf) (ho : ∀ x, cf x x = 0) : ∀ {a b : List α}, sorted lt a = true → sorted lt b = true → (∀ x, x ∈ a ↔ x ∈ b) → a = b := by
  intro a
  induction a with
  | nil =>
    intro b _ _ h
    cases b with
    | nil => rfl
    | cons y b => exact absurd ((h y).2 (by simp)) (by simp)
  | cons x a ih =>
    intro b ha hb h
    cases b with
    | nil => exact absurd ((h x).1 (by simp)) (by simp)
    | cons y b =>
      have pa := (sorted_iff o.trans).1 ha
      have pb := (sorted_iff o.trans).1 hb
      rw [List.pairwise_cons] at pa pb
      have e : x = y := by
        rcases List.mem_cons.1 ((h x).1 (by simp)) with e | hx
        · exact e
        · rcases List.mem_cons.1 ((h y).2 (by simp)) with e | hy
          · exact e.symm
          · have h1 := pb.1 x hx
            have h2 := pa.1 y hy
            have := o.trans _ _ _ h1 h2
            rw [o.irr ho] at this; cases this
      subst e
      have hm : ∀ z, z ∈ a ↔ z ∈ b := fun z => by
        constructor
        · intro hz
          rcases List.mem_cons.1 ((h z).1 (by simp [hz])) with e | hz'
          · subst e; have := pa.1 z hz; rw [o.irr ho] at this; cases this
          · exact hz'
        · intro hz
          rcases List.mem_cons.1 ((h z).2 (by simp [hz])) with e | hz'
          · subst e; have := pb.1 z hz; rw [o.irr ho] at this; cases this
          · exact hz'
      rw [ih ((sorted_iff o.trans).2 pa.2) ((sorted_iff o.trans).2 pb.2) hm]
/-- the list is of the newest of S, each key once -/
structure Rep (lt : α → α → Bool) (cf : α → α → Int) (nw : α → α → Bool) (l : List α) (S : α → Prop) : Prop where
  srt : sorted lt l = true
  sub : ∀ x ∈ l, S x
  top : ∀ y, S y → ∃ z ∈ l, cf z y = 0 ∧ nw y z = false
theorem rep_self (n : Newest cf nw) (ho : ∀ x, cf x x = 0) {l : List α} (hs : sorted lt l = true) : Rep lt cf nw l (· ∈ l) := ⟨hs, fun x h => h, fun y h => ⟨y, h, ho y, n.irr y⟩⟩
theorem rep_uniq (o : Ord lt cf) (n : Newest cf nw) (ho : ∀ x, cf x x = 0) (hsym : ∀ x y, cf x y = 0 → cf y x = 0) (htr : ∀ x y z, cf x y = 0 → cf y z = 0 → cf x z = 0) {a b : List α} {S : α → Prop} (ha : Rep lt cf nw a S) (hb : Rep lt cf nw b S) : a = b := by
  have key : ∀ {a b : List α}, Rep lt cf nw a S → Rep lt cf nw b S → ∀ x, x ∈ a → x ∈ b := fun {a b} ha hb x hx => by
    obtain ⟨z, hz, h1, h2⟩ := hb.top x (ha.sub x hx)
    obtain ⟨u, hu, h3, h4⟩ := ha.top z (hb.sub z hz)
    have hux : u = x := sorted_uniq o ho ha.srt hu hx (htr _ _ _ h3 h1)
    subst hux
    have := n.tot z u h1 h4 h2
    subst this; exact hz
  exact sorted_ext o ho ha.srt hb.srt fun x => ⟨key ha hb x, key hb ha x⟩
theorem hit_mem {f : α → Int} {l : List α} (h : hit f l = true) : l[low f l]'(hit_lt h) ∈ l := List.getElem_mem _
theorem rep_upd (o : Ord lt cf) (n : Newest cf nw) (ho : ∀ x, cf x x = 0) (hsym : ∀ x y, cf x y = 0 → cf y x = 0) (htr : ∀ x y z, cf x y = 0 → cf y z = 0 → cf x z = 0) {l : List α} {S : α → Prop} (h : Rep lt cf nw l S) (g : α) : Rep lt cf nw (upd cf nw l g) (fun x => S x ∨ x = g) := by
  have hs := o.upd nw h.srt g
  refine ⟨hs, fun x hx => ?_, fun y hy => ?_⟩
  · rcases upd_mem hx with rfl | hx
    · exact .inr rfl
    · exact .inl (h.sub x hx)
  · -- what of the list stays
    rcases Bool.eq_false_or_eq_true (hit (cf g) l) with q | q
    · have hz := hit_zero q
      rcases Bool.eq_false_or_eq_true (nw g (l[low (cf g) l]'(hit_lt q))) with p | p
      · rw [upd_newer q p]
        have hg : g ∈ l.set (low (cf g) l) g := List.mem_set (hit_lt q) g
        have stay : ∀ z ∈ l, z ≠ l[low (cf g) l]'(hit_lt q) → z ∈ l.set (low (cf g) l) g := fun z hz hne => by
          obtain ⟨i, hi, rfl⟩ := List.getElem_of_mem hz
          have hil : i ≠ low (cf g) l := fun e => hne (by subst e; rfl)
          rw [List.mem_iff_getElem]
          exact ⟨i, by simpa using hi, by rw [List.getElem_set_ne (fun e => hil e.symm)]⟩
        rcases hy with hy | rfl
        · obtain ⟨z, hzl, h1, h2⟩ := h.top y hy
          by_cases hzz : z = l[low (cf g) l]'(hit_lt q)
          · refine ⟨g, hg, ?_, ?_⟩
            · rw [hzz] at h1; exact htr _ _ _ hz h1
            · cases hb : nw y g with
              | false => rfl
              | true =>
                rw [hzz] at h2
                rw [n.trans _ _ _ hb p] at h2; cases h2
          · exact ⟨z, stay z hzl hzz, h1, h2⟩
        · exact ⟨y, hg, ho y, n.irr y⟩
      · rw [upd_older q p]
        rcases hy with hy | rfl
        · exact h.top y hy
        · exact ⟨_, hit_mem q, hsym _ _ hz, p⟩
    · rw [upd_miss q]
      have stay : ∀ z ∈ l, z ∈ l.take (low (cf g) l) ++ [g] ++ l.drop (low (cf g) l) := fun z hz => by
        have e := List.take_append_drop (low (cf g) l) l
        rw [← e, List.mem_append] at hz
        simp only [List.mem_append, List.mem_cons, List.not_mem_nil, or_false]
        rcases hz with h | h
        · exact .inl (.inl h)
        · exact .inr h
      rcases hy with hy | rfl
      · obtain ⟨z, hzl, h1, h2⟩ := h.top y hy
        exact ⟨z, stay z hzl, h1, h2⟩
      · exact ⟨y, by simp, ho y, n.irr y⟩
theorem Rep.congr {l : List α} {S S' : α → Prop} (h : Rep lt cf nw l S) (hS : ∀ x, S x ↔ S' x) : Rep lt cf nw l S' := ⟨h.srt, fun x hx => (hS x).1 (h.sub x hx), fun y hy => h.top y ((hS y).2 hy)⟩
theorem rep_join (o : Ord lt cf) (n : Newest cf nw) (ho : ∀ x, cf x x = 0) (hsym : ∀ x y, cf x y = 0 → cf y x = 0) (htr : ∀ x y z, cf x y = 0 → cf y z = 0 → cf x z = 0) : ∀ (b : List α) {a : List α} {S : α → Prop}, Rep lt cf nw a S → Rep lt cf nw (joinL cf nw a b) (fun x => S x ∨ x ∈ b)
  | [], a, S, h => h.congr fun x => by simp
  | g :: b, a, S, h => (rep_join o n ho hsym htr b (rep_upd o n ho hsym htr h g)).congr fun x => by simp [or_assoc]
/-- joined lists stand for their members' newest, whoever was joined first -/
theorem rep_of_join (o : Ord lt cf) (n : Newest cf nw) (ho : ∀ x, cf x x = 0) (hsym : ∀ x y, cf x y = 0 → cf y x = 0) (htr : ∀ x y z, cf x y = 0 → cf y z = 0 → cf x z = 0) {l s : List α} {S T : α → Prop} (hl : Rep lt cf nw l S) (hs : Rep lt cf nw s T) : Rep lt cf nw (joinL cf nw l s) (fun x => S x ∨ T x) := by
  have h := rep_join o n ho hsym htr s hl
  refine ⟨h.srt, fun x hx => ?_, fun y hy => ?_⟩
  · rcases h.sub x hx with q | q
    · exact .inl q
    · exact .inr (hs.sub x q)
  · rcases hy with q | q
    · exact h.top y (.inl q)
    · obtain ⟨z, hz, h1, h2⟩ := hs.top y q
      obtain ⟨u, hu, h3, h4⟩ := h.top z (.inr hz)
      refine ⟨u, hu, htr _ _ _ h3 h1, ?_⟩
      cases hb : nw y u with
      | false => rfl
      | true =>
        -- u is not older than z, z not older than y
        rcases Bool.eq_false_or_eq_true (nw u z) with p | p
        · rw [n.trans _ _ _ hb p] at h2; cases h2
        · have := n.tot u z h3 p h4
          subst this
          rw [hb] at h2; cases h2
theorem hear_old (n : Newest cf nw) (ho : ∀ x, cf x x = 0) (o : Ord lt cf) {l : List α} (hs : sorted lt l = true) {g : α} (h : upd cf nw l g = l) : hearF cf nw l g = false := by
  cases hF : hearF cf nw l g with
  | false => rfl
  | true =>
    rcases Bool.eq_false_or_eq_true (hit (cf g) l) with q | q
    · have p := (hearF_hit q).symm.trans hF
      rw [upd_newer q p] at h
      have e : (l.set (low (cf g) l) g)[low (cf g) l]'(by rw [List.length_set]; exact hit_lt q) = g := by simp
      simp only [h] at e
      rw [e, n.irr] at p; cases p
    · rw [upd_miss q] at h
      have := congrArg List.length h
      simp at this
      have hl := low_le (cf := cf g) l
      omega
theorem hit_of {f : α → Int} {l : List α} (hm : SMono f l) {x : α} (hx : x ∈ l) (h : f x = 0) : hit f l = true := by
  cases hb : hit f l with
  | true => rfl
  | false =>
    have e := List.take_append_drop (low f l) l
    rw [← e, List.mem_append] at hx
    rcases hx with q | q
    · have := low_ahead q; omega
    · have := low_behind hm hb q; omega
theorem low_put {f : α → Int} {l : List α} (hm : SMono f l) (h : hit f l = true) {g : α} (hg : f g = 0) : low f (l.set (low f l) g) = low f l ∧ hit f (l.set (low f l) g) = true := by
  have hlt := hit_lt h
  have h1 : low f l = low f (l.set (low f l) g) := low_uniq (by rw [List.length_set]; omega) (fun i hi hlo => by
      rw [List.getElem_set_ne (by omega)]; exact low_lt _ hlo) (fun i hi hlo => by
      by_cases hq : i = low f l
      · subst hq; rw [List.getElem_set_self]; omega
      · rw [List.getElem_set_ne (fun e => hq e.symm)]
        have hil : i < l.length := by simpa using hi
        have hz := hit_zero h
        rcases (by omega : f l[i] < 0 ∨ 0 ≤ f l[i]) with q | q
        · have := hm (low f l) i hil (by omega) (by omega); omega
        · exact q)
  refine ⟨h1.symm, ?_⟩
  have hl2 : low f (l.set (low f l) g) < (l.set (low f l) g).length := by rw [← h1, List.length_set]; exact hlt
  rw [hit_in hl2]
  simp only [← h1, List.getElem_set_self, hg, decide_true]
end
end Go.Proofs.Ytjgibmaadmkkgaa.Pl
