/- Plain: setting, registering, dropping, joining, finding services. No program in sight. -/
import Derived.Test.YtckkeeicngblgaaSvP
namespace Go.Proofs.Ytckkeeicngblgaa.Pl
set_option linter.unusedVariables false
def Sv.at_ (s : Sv) (v : Int) : Sv := ⟨s.nd, s.id, s.nm, s.tg, s.ad, s.pt, s.ps, v, s.gn⟩
def Sv.fresh (s : Sv) : Sv := ⟨s.nd, s.id, s.nm, s.tg, s.ad, s.pt, s.ps, 1, false⟩
def Sv.away (s : Sv) : Sv := ⟨s.nd, s.id, s.nm, s.tg, s.ad, s.pt, s.ps, s.vs, true⟩
/-- what is set into a catalog that is right -/
def setR (l : List Sv) (s : Sv) : Int × List Sv := match l[low (Sv.kf s) l]? with
  | some x => if hit (Sv.kf s) l = true then (if 1000000 < x.vs + 1 then (3, []) else (0, l.set (low (Sv.kf s) l) (s.at_ (x.vs + 1)))) else (if l.length = 40 then (2, []) else (0, l.take (low (Sv.kf s) l) ++ [s.at_ 1] ++ l.drop (low (Sv.kf s) l)))
  | none => (if l.length = 40 then (2, []) else (0, l.take (low (Sv.kf s) l) ++ [s.at_ 1] ++ l.drop (low (Sv.kf s) l)))
theorem setR_hit {l : List Sv} {s : Sv} (h : hit (Sv.kf s) l = true) : setR l s = (if 1000000 < (l[low (Sv.kf s) l]'(hit_lt h)).vs + 1 then (3, []) else (0, l.set (low (Sv.kf s) l) (s.at_ ((l[low (Sv.kf s) l]'(hit_lt h)).vs + 1)))) := by
  unfold setR; rw [List.getElem?_eq_getElem (hit_lt h)]; simp [h]
theorem setR_miss {l : List Sv} {s : Sv} (h : hit (Sv.kf s) l = false) : setR l s = (if l.length = 40 then (2, []) else (0, l.take (low (Sv.kf s) l) ++ [s.at_ 1] ++ l.drop (low (Sv.kf s) l))) := by
  unfold setR; split <;> simp [h]
def regR (l : List Sv) (s : Sv) : Int × List Sv := if s.fresh.err ≠ 0 then (s.fresh.err, []) else setR l s.fresh
def regM (l : List Sv) (s : Sv) : Int × List Sv := if ckSv l ≠ 0 then (ckSv l, []) else regR l s
def dropR (l : List Sv) (nd id : ByteArray) : Int × List Sv :=
  if lab nd.data.toList = false then (1, []) else if lab id.data.toList = false then (1, []) else match l[low (Sv.cf nd id) l]? with
    | some x => if hit (Sv.cf nd id) l = true then (if x.gn = true then (5, []) else setR l x.away) else (5, [])
    | none => (5, [])
def dropM (l : List Sv) (nd id : ByteArray) : Int × List Sv := if ckSv l ≠ 0 then (ckSv l, []) else dropR l nd id
theorem dropR_miss {l : List Sv} {nd id : ByteArray} (h1 : lab nd.data.toList = true) (h2 : lab id.data.toList = true) (h : hit (Sv.cf nd id) l = false) : dropR l nd id = (5, []) := by
  unfold dropR
  rw [if_neg (by rw [h1]; decide), if_neg (by rw [h2]; decide)]
  split <;> simp [h]
theorem dropR_hit {l : List Sv} {nd id : ByteArray} (h1 : lab nd.data.toList = true) (h2 : lab id.data.toList = true) (h : hit (Sv.cf nd id) l = true) : dropR l nd id = (if (l[low (Sv.cf nd id) l]'(hit_lt h)).gn = true then (5, []) else setR l (l[low (Sv.cf nd id) l]'(hit_lt h)).away) := by
  unfold dropR; rw [List.getElem?_eq_getElem (hit_lt h)]; simp [h, h1, h2]
def joinS (a b : List Sv) : Int × List Sv :=
  if ckSv a ≠ 0 then (ckSv a, []) else if ckSv b ≠ 0 then (ckSv b, []) else if 40 < (joinL Sv.kf Sv.nw a b).length then (2, []) else (0, joinL Sv.kf Sv.nw a b)
theorem first_twoS {α : Type} {e : α → Int} {a b : α} (h : firstErr e [a, b] = 0) : e a = 0 ∧ e b = 0 := by
  by_cases h1 : e a = 0
  · by_cases h2 : e b = 0
    · exact ⟨h1, h2⟩
    · simp [firstErr, h1, h2] at h
  · simp [firstErr, h1] at h
theorem joinS_bad {a b : List Sv} (h : firstErr ckSv [a, b] ≠ 0) : joinS a b = (firstErr ckSv [a, b], []) := by
  by_cases h1 : ckSv a = 0
  · by_cases h2 : ckSv b = 0
    · simp [firstErr, h1, h2] at h
    · simp [joinS, firstErr, h1, h2]
  · simp [joinS, firstErr, h1]
theorem joinS_many {a b : List Sv} (h : ckSv a = 0) (h1 : ckSv b = 0) (h2 : 40 < (joinL Sv.kf Sv.nw a b).length) : joinS a b = (2, []) := by simp [joinS, h, h1, h2]
theorem joinS_ok {a b : List Sv} (h : ckSv a = 0) (h1 : ckSv b = 0) (h2 : ¬ 40 < (joinL Sv.kf Sv.nw a b).length) : joinS a b = (0, joinL Sv.kf Sv.nw a b) := by simp [joinS, h, h1, h2]
/-- is one looked for? -/
def Sv.sought (name tag : ByteArray) (x : Sv) : Bool := (x.nm.toList == name.toList) && ((emp tag || (x.tg.toList == tag.toList)) && (x.ps && !x.gn))
def findR (l : List Sv) (name tag : ByteArray) : List Sv := l.filter (Sv.sought name tag)
theorem findR_next {l : List Sv} {name tag : ByteArray} {k : Nat} (hk : k < l.length) : findR (l.take (k + 1)) name tag = if Sv.sought name tag l[k] = true then findR (l.take k) name tag ++ [l[k]] else findR (l.take k) name tag := by
  unfold findR
  rw [take_snoc_ hk, List.filter_append]
  split <;> rename_i h <;> simp [h]
theorem findR_len (l : List Sv) (name tag : ByteArray) : (findR l name tag).length ≤ l.length := List.length_filter_le _ _
def findM (l : List Sv) (name tag : ByteArray) : Int × List Sv := if ckSv l ≠ 0 then (ckSv l, []) else if lab name.data.toList = false then (1, []) else if mayb tag = false then (1, []) else (0, findR l name tag)
theorem Sv.err_inv {m : Sv} (h : m.err = 0) : 1 ≤ m.vs ∧ m.vs ≤ 1000000 := by
  unfold Sv.err at h
  repeat' split at h
  all_goals first
    | omega
    | (rename_i h7; exact wi_iff.1 h7)
end Go.Proofs.Ytckkeeicngblgaa.Pl
