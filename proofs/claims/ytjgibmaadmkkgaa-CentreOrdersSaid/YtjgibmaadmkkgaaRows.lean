/-
  No cell of these rows narrows 'for every input' (looked for: loops, veiled, ifaces, maps, wideKeys, modest, calm, conditions, laid).
  DERIVED. THE GIVEN ROWS OF THIS SEAT. 18 by the template 'for every input the law returns true; each argument reads behind the call as it read before'; 0 by the template 'total and deterministic' (their statements: YtjgibmaadmkkgaaTotals.lean).
  GIVEN WITH THE SEED: the statements are not yours to turn. If you find one false, say at which input.
  Laid BY PROGRAM, IN A SANDBOX (cutbox-rows.mjs): the forced cells as the released guide's own fill.sh prints them over the translation 74e1331e581903a1… (all of the seat's roots in one cut). By AI agents, Wed Nov 11 2026. No macro, syntax, notation, axiom, sorry.
-/
import Derived.Test.YtjgibmaadmkkgaaChecked
import GoSem.Claim
import GoSem.ClaimJoined
import GoSem.ClaimMapViews
import Derived.JoinedTies
import Derived.KernelRfl
namespace Go.Proofs.Ytjgibmaadmkkgaa
/- THE CELL 'sum', in the pinned program and in every row, IS THE sha256 OF THE DUMP (.gsa) THAT YtjgibmaadmkkgaaProg.lean LOADS. Nothing in Lean hashes anything: it is a label: what it is worth is what the hold of that sum in a sandbox is worth. -/
noncomputable def Try.pinned : Pinned := { name := "ytjgibmaadmkkgaa", sum := "74e1331e581903a151400a5469212cdd6c9fbdb48fc1e0a239506caf32202368", checked := Try.checked }
namespace Rows
def none {H : Type} : Left H := { results := [], args := [] }

/-- 'hearsaylaw.CentreOpens': WHATEVER THE INPUT: true; the input reads as it did. -/
def centreOpensSpec : ChangeSpec := { name := "centreOpens", fn := fun _ => fun
  | [d1, d2, d3] => { results := [.lit (.bool true)], args := [d1, d2, d3] }
  | _ => none }
def centreOpensRow : OpenClaim := { program := "ytjgibmaadmkkgaa", sum := "74e1331e581903a151400a5469212cdd6c9fbdb48fc1e0a239506caf32202368", func := "hearsay/hearsaylaw.CentreOpens", spec := "centreOpens", inPlace := ["slices.overlaps[hearsay/api.Gateway]"], unfollowed := true, recurses := true, apart := false }
def CentreOpensSaid : Prop := centreOpensRow.holds Try.pinned (OpenSpec.ofChange centreOpensSpec)

/-- ITS FALSE NEIGHBOUR: 'it returns false'. Refute it at one input. -/
def centreOpensWrong : ChangeSpec := { name := "centreOpens", fn := fun _ => fun
  | [d1, d2, d3] => { results := [.lit (.bool false)], args := [d1, d2, d3] }
  | _ => none }
def CentreOpensWrongFalsely : Prop := centreOpensRow.holds Try.pinned (OpenSpec.ofChange centreOpensWrong)

/-- 'hearsaylaw.CentreRoutes': WHATEVER THE INPUT: true; the input reads as it did. -/
def centreRoutesSpec : ChangeSpec := { name := "centreRoutes", fn := fun _ => fun
  | [d1, d2, d3] => { results := [.lit (.bool true)], args := [d1, d2, d3] }
  | _ => none }
def centreRoutesRow : OpenClaim := { program := "ytjgibmaadmkkgaa", sum := "74e1331e581903a151400a5469212cdd6c9fbdb48fc1e0a239506caf32202368", func := "hearsay/hearsaylaw.CentreRoutes", spec := "centreRoutes", inPlace := ["slices.overlaps[hearsay/api.Gateway]"], unfollowed := true, recurses := true, apart := false }
def CentreRoutesSaid : Prop := centreRoutesRow.holds Try.pinned (OpenSpec.ofChange centreRoutesSpec)

/-- ITS FALSE NEIGHBOUR: 'it returns false'. Refute it at one input. -/
def centreRoutesWrong : ChangeSpec := { name := "centreRoutes", fn := fun _ => fun
  | [d1, d2, d3] => { results := [.lit (.bool false)], args := [d1, d2, d3] }
  | _ => none }
def CentreRoutesWrongFalsely : Prop := centreRoutesRow.holds Try.pinned (OpenSpec.ofChange centreRoutesWrong)

/-- 'hearsaylaw.CatalogFinds': WHATEVER THE INPUT: true; the input reads as it did. -/
def catalogFindsSpec : ChangeSpec := { name := "catalogFinds", fn := fun _ => fun
  | [d1, d2, d3] => { results := [.lit (.bool true)], args := [d1, d2, d3] }
  | _ => none }
def catalogFindsRow : OpenClaim := { program := "ytjgibmaadmkkgaa", sum := "74e1331e581903a151400a5469212cdd6c9fbdb48fc1e0a239506caf32202368", func := "hearsay/hearsaylaw.CatalogFinds", spec := "catalogFinds", inPlace := ["slices.overlaps[hearsay/api.Service]"], unfollowed := true, recurses := true, apart := false }
def CatalogFindsSaid : Prop := catalogFindsRow.holds Try.pinned (OpenSpec.ofChange catalogFindsSpec)

/-- ITS FALSE NEIGHBOUR: 'it returns false'. Refute it at one input. -/
def catalogFindsWrong : ChangeSpec := { name := "catalogFinds", fn := fun _ => fun
  | [d1, d2, d3] => { results := [.lit (.bool false)], args := [d1, d2, d3] }
  | _ => none }
def CatalogFindsWrongFalsely : Prop := catalogFindsRow.holds Try.pinned (OpenSpec.ofChange catalogFindsWrong)

/-- 'hearsaylaw.CatalogChecks': WHATEVER THE INPUT: true; the input reads as it did. -/
def catalogChecksSpec : ChangeSpec := { name := "catalogChecks", fn := fun _ => fun
  | [d] => { results := [.lit (.bool true)], args := [d] }
  | _ => none }
def catalogChecksRow : OpenClaim := { program := "ytjgibmaadmkkgaa", sum := "74e1331e581903a151400a5469212cdd6c9fbdb48fc1e0a239506caf32202368", func := "hearsay/hearsaylaw.CatalogChecks", spec := "catalogChecks", inPlace := ["slices.overlaps[hearsay/api.Service]"], unfollowed := true, recurses := true, apart := false }
def CatalogChecksSaid : Prop := catalogChecksRow.holds Try.pinned (OpenSpec.ofChange catalogChecksSpec)

/-- ITS FALSE NEIGHBOUR: 'it returns false'. Refute it at one input. -/
def catalogChecksWrong : ChangeSpec := { name := "catalogChecks", fn := fun _ => fun
  | [d] => { results := [.lit (.bool false)], args := [d] }
  | _ => none }
def CatalogChecksWrongFalsely : Prop := catalogChecksRow.holds Try.pinned (OpenSpec.ofChange catalogChecksWrong)

/-- 'hearsaylaw.CentreJoins': WHATEVER THE INPUT: true; the input reads as it did. -/
def centreJoinsSpec : ChangeSpec := { name := "centreJoins", fn := fun _ => fun
  | [d1, d2] => { results := [.lit (.bool true)], args := [d1, d2] }
  | _ => none }
def centreJoinsRow : OpenClaim := { program := "ytjgibmaadmkkgaa", sum := "74e1331e581903a151400a5469212cdd6c9fbdb48fc1e0a239506caf32202368", func := "hearsay/hearsaylaw.CentreJoins", spec := "centreJoins", inPlace := ["slices.overlaps[hearsay/api.Gateway]"], unfollowed := true, recurses := true, apart := false }
def CentreJoinsSaid : Prop := centreJoinsRow.holds Try.pinned (OpenSpec.ofChange centreJoinsSpec)

/-- ITS FALSE NEIGHBOUR: 'it returns false'. Refute it at one input. -/
def centreJoinsWrong : ChangeSpec := { name := "centreJoins", fn := fun _ => fun
  | [d1, d2] => { results := [.lit (.bool false)], args := [d1, d2] }
  | _ => none }
def CentreJoinsWrongFalsely : Prop := centreJoinsRow.holds Try.pinned (OpenSpec.ofChange centreJoinsWrong)

/-- 'hearsaylaw.MemberHears': WHATEVER THE INPUT: true; the input reads as it did. -/
def memberHearsSpec : ChangeSpec := { name := "memberHears", fn := fun _ => fun
  | [d1, d2] => { results := [.lit (.bool true)], args := [d1, d2] }
  | _ => none }
def memberHearsRow : OpenClaim := { program := "ytjgibmaadmkkgaa", sum := "74e1331e581903a151400a5469212cdd6c9fbdb48fc1e0a239506caf32202368", func := "hearsay/hearsaylaw.MemberHears", spec := "memberHears", inPlace := ["slices.overlaps[hearsay/api.Member]"], unfollowed := true, recurses := true, apart := false }
def MemberHearsSaid : Prop := memberHearsRow.holds Try.pinned (OpenSpec.ofChange memberHearsSpec)

/-- ITS FALSE NEIGHBOUR: 'it returns false'. Refute it at one input. -/
def memberHearsWrong : ChangeSpec := { name := "memberHears", fn := fun _ => fun
  | [d1, d2] => { results := [.lit (.bool false)], args := [d1, d2] }
  | _ => none }
def MemberHearsWrongFalsely : Prop := memberHearsRow.holds Try.pinned (OpenSpec.ofChange memberHearsWrong)

/-- 'hearsaylaw.CatalogRegisters': WHATEVER THE INPUT: true; the input reads as it did. -/
def catalogRegistersSpec : ChangeSpec := { name := "catalogRegisters", fn := fun _ => fun
  | [d1, d2] => { results := [.lit (.bool true)], args := [d1, d2] }
  | _ => none }
def catalogRegistersRow : OpenClaim := { program := "ytjgibmaadmkkgaa", sum := "74e1331e581903a151400a5469212cdd6c9fbdb48fc1e0a239506caf32202368", func := "hearsay/hearsaylaw.CatalogRegisters", spec := "catalogRegisters", inPlace := ["slices.overlaps[hearsay/api.Service]"], unfollowed := true, recurses := true, apart := false }
def CatalogRegistersSaid : Prop := catalogRegistersRow.holds Try.pinned (OpenSpec.ofChange catalogRegistersSpec)

/-- ITS FALSE NEIGHBOUR: 'it returns false'. Refute it at one input. -/
def catalogRegistersWrong : ChangeSpec := { name := "catalogRegisters", fn := fun _ => fun
  | [d1, d2] => { results := [.lit (.bool false)], args := [d1, d2] }
  | _ => none }
def CatalogRegistersWrongFalsely : Prop := catalogRegistersRow.holds Try.pinned (OpenSpec.ofChange catalogRegistersWrong)

/-- 'hearsaylaw.MemberChecks': WHATEVER THE INPUT: true; the input reads as it did. -/
def memberChecksSpec : ChangeSpec := { name := "memberChecks", fn := fun _ => fun
  | [d] => { results := [.lit (.bool true)], args := [d] }
  | _ => none }
def memberChecksRow : OpenClaim := { program := "ytjgibmaadmkkgaa", sum := "74e1331e581903a151400a5469212cdd6c9fbdb48fc1e0a239506caf32202368", func := "hearsay/hearsaylaw.MemberChecks", spec := "memberChecks", inPlace := ["slices.overlaps[hearsay/api.Member]"], unfollowed := true, recurses := true, apart := false }
def MemberChecksSaid : Prop := memberChecksRow.holds Try.pinned (OpenSpec.ofChange memberChecksSpec)

/-- ITS FALSE NEIGHBOUR: 'it returns false'. Refute it at one input. -/
def memberChecksWrong : ChangeSpec := { name := "memberChecks", fn := fun _ => fun
  | [d] => { results := [.lit (.bool false)], args := [d] }
  | _ => none }
def MemberChecksWrongFalsely : Prop := memberChecksRow.holds Try.pinned (OpenSpec.ofChange memberChecksWrong)

/-- 'hearsaylaw.MemberGrows': WHATEVER THE INPUT: true; the input reads as it did. -/
def memberGrowsSpec : ChangeSpec := { name := "memberGrows", fn := fun _ => fun
  | [d1, d2, d3] => { results := [.lit (.bool true)], args := [d1, d2, d3] }
  | _ => none }
def memberGrowsRow : OpenClaim := { program := "ytjgibmaadmkkgaa", sum := "74e1331e581903a151400a5469212cdd6c9fbdb48fc1e0a239506caf32202368", func := "hearsay/hearsaylaw.MemberGrows", spec := "memberGrows", inPlace := ["slices.overlaps[hearsay/api.Member]"], unfollowed := true, recurses := true, apart := false }
def MemberGrowsSaid : Prop := memberGrowsRow.holds Try.pinned (OpenSpec.ofChange memberGrowsSpec)

/-- ITS FALSE NEIGHBOUR: 'it returns false'. Refute it at one input. -/
def memberGrowsWrong : ChangeSpec := { name := "memberGrows", fn := fun _ => fun
  | [d1, d2, d3] => { results := [.lit (.bool false)], args := [d1, d2, d3] }
  | _ => none }
def MemberGrowsWrongFalsely : Prop := memberGrowsRow.holds Try.pinned (OpenSpec.ofChange memberGrowsWrong)

/-- 'hearsaylaw.CatalogNewer': WHATEVER THE INPUT: true; the input reads as it did. -/
def catalogNewerSpec : ChangeSpec := { name := "catalogNewer", fn := fun _ => fun
  | [d1, d2] => { results := [.lit (.bool true)], args := [d1, d2] }
  | _ => none }
def catalogNewerRow : OpenClaim := { program := "ytjgibmaadmkkgaa", sum := "74e1331e581903a151400a5469212cdd6c9fbdb48fc1e0a239506caf32202368", func := "hearsay/hearsaylaw.CatalogNewer", spec := "catalogNewer", inPlace := ["slices.overlaps[hearsay/api.Service]"], unfollowed := true, recurses := true, apart := false }
def CatalogNewerSaid : Prop := catalogNewerRow.holds Try.pinned (OpenSpec.ofChange catalogNewerSpec)

/-- ITS FALSE NEIGHBOUR: 'it returns false'. Refute it at one input. -/
def catalogNewerWrong : ChangeSpec := { name := "catalogNewer", fn := fun _ => fun
  | [d1, d2] => { results := [.lit (.bool false)], args := [d1, d2] }
  | _ => none }
def CatalogNewerWrongFalsely : Prop := catalogNewerRow.holds Try.pinned (OpenSpec.ofChange catalogNewerWrong)

/-- 'hearsaylaw.MemberNewer': WHATEVER THE INPUT: true; the input reads as it did. -/
def memberNewerSpec : ChangeSpec := { name := "memberNewer", fn := fun _ => fun
  | [d1, d2] => { results := [.lit (.bool true)], args := [d1, d2] }
  | _ => none }
def memberNewerRow : OpenClaim := { program := "ytjgibmaadmkkgaa", sum := "74e1331e581903a151400a5469212cdd6c9fbdb48fc1e0a239506caf32202368", func := "hearsay/hearsaylaw.MemberNewer", spec := "memberNewer", inPlace := ["slices.overlaps[hearsay/api.Member]"], unfollowed := true, recurses := true, apart := false }
def MemberNewerSaid : Prop := memberNewerRow.holds Try.pinned (OpenSpec.ofChange memberNewerSpec)

/-- ITS FALSE NEIGHBOUR: 'it returns false'. Refute it at one input. -/
def memberNewerWrong : ChangeSpec := { name := "memberNewer", fn := fun _ => fun
  | [d1, d2] => { results := [.lit (.bool false)], args := [d1, d2] }
  | _ => none }
def MemberNewerWrongFalsely : Prop := memberNewerRow.holds Try.pinned (OpenSpec.ofChange memberNewerWrong)

/-- 'hearsaylaw.CentreOrders': WHATEVER THE INPUT: true; the input reads as it did. -/
def centreOrdersSpec : ChangeSpec := { name := "centreOrders", fn := fun _ => fun
  | [d1, d2, d3] => { results := [.lit (.bool true)], args := [d1, d2, d3] }
  | _ => none }
def centreOrdersRow : OpenClaim := { program := "ytjgibmaadmkkgaa", sum := "74e1331e581903a151400a5469212cdd6c9fbdb48fc1e0a239506caf32202368", func := "hearsay/hearsaylaw.CentreOrders", spec := "centreOrders", inPlace := ["slices.overlaps[hearsay/api.Gateway]"], unfollowed := true, recurses := true, apart := false }
def CentreOrdersSaid : Prop := centreOrdersRow.holds Try.pinned (OpenSpec.ofChange centreOrdersSpec)

/-- ITS FALSE NEIGHBOUR: 'it returns false'. Refute it at one input. -/
def centreOrdersWrong : ChangeSpec := { name := "centreOrders", fn := fun _ => fun
  | [d1, d2, d3] => { results := [.lit (.bool false)], args := [d1, d2, d3] }
  | _ => none }
def CentreOrdersWrongFalsely : Prop := centreOrdersRow.holds Try.pinned (OpenSpec.ofChange centreOrdersWrong)

/-- 'hearsaylaw.MemberRefutes': WHATEVER THE INPUT: true; the input reads as it did. -/
def memberRefutesSpec : ChangeSpec := { name := "memberRefutes", fn := fun _ => fun
  | [d1, d2] => { results := [.lit (.bool true)], args := [d1, d2] }
  | _ => none }
def memberRefutesRow : OpenClaim := { program := "ytjgibmaadmkkgaa", sum := "74e1331e581903a151400a5469212cdd6c9fbdb48fc1e0a239506caf32202368", func := "hearsay/hearsaylaw.MemberRefutes", spec := "memberRefutes", inPlace := ["slices.overlaps[hearsay/api.Member]"], unfollowed := true, recurses := true, apart := false }
def MemberRefutesSaid : Prop := memberRefutesRow.holds Try.pinned (OpenSpec.ofChange memberRefutesSpec)

/-- ITS FALSE NEIGHBOUR: 'it returns false'. Refute it at one input. -/
def memberRefutesWrong : ChangeSpec := { name := "memberRefutes", fn := fun _ => fun
  | [d1, d2] => { results := [.lit (.bool false)], args := [d1, d2] }
  | _ => none }
def MemberRefutesWrongFalsely : Prop := memberRefutesRow.holds Try.pinned (OpenSpec.ofChange memberRefutesWrong)

/-- 'hearsaylaw.MemberJoins': WHATEVER THE INPUT: true; the input reads as it did. -/
def memberJoinsSpec : ChangeSpec := { name := "memberJoins", fn := fun _ => fun
  | [d1, d2] => { results := [.lit (.bool true)], args := [d1, d2] }
  | _ => none }
def memberJoinsRow : OpenClaim := { program := "ytjgibmaadmkkgaa", sum := "74e1331e581903a151400a5469212cdd6c9fbdb48fc1e0a239506caf32202368", func := "hearsay/hearsaylaw.MemberJoins", spec := "memberJoins", inPlace := ["slices.overlaps[hearsay/api.Member]"], unfollowed := true, recurses := true, apart := false }
def MemberJoinsSaid : Prop := memberJoinsRow.holds Try.pinned (OpenSpec.ofChange memberJoinsSpec)

/-- ITS FALSE NEIGHBOUR: 'it returns false'. Refute it at one input. -/
def memberJoinsWrong : ChangeSpec := { name := "memberJoins", fn := fun _ => fun
  | [d1, d2] => { results := [.lit (.bool false)], args := [d1, d2] }
  | _ => none }
def MemberJoinsWrongFalsely : Prop := memberJoinsRow.holds Try.pinned (OpenSpec.ofChange memberJoinsWrong)

/-- 'hearsaylaw.MemberOrders': WHATEVER THE INPUT: true; the input reads as it did. -/
def memberOrdersSpec : ChangeSpec := { name := "memberOrders", fn := fun _ => fun
  | [d1, d2, d3, d4, d5] => { results := [.lit (.bool true)], args := [d1, d2, d3, d4, d5] }
  | _ => none }
def memberOrdersRow : OpenClaim := { program := "ytjgibmaadmkkgaa", sum := "74e1331e581903a151400a5469212cdd6c9fbdb48fc1e0a239506caf32202368", func := "hearsay/hearsaylaw.MemberOrders", spec := "memberOrders", inPlace := ["slices.overlaps[hearsay/api.Member]"], unfollowed := true, recurses := true, apart := false }
def MemberOrdersSaid : Prop := memberOrdersRow.holds Try.pinned (OpenSpec.ofChange memberOrdersSpec)

/-- ITS FALSE NEIGHBOUR: 'it returns false'. Refute it at one input. -/
def memberOrdersWrong : ChangeSpec := { name := "memberOrders", fn := fun _ => fun
  | [d1, d2, d3, d4, d5] => { results := [.lit (.bool false)], args := [d1, d2, d3, d4, d5] }
  | _ => none }
def MemberOrdersWrongFalsely : Prop := memberOrdersRow.holds Try.pinned (OpenSpec.ofChange memberOrdersWrong)

/-- 'hearsaylaw.CatalogJoins': WHATEVER THE INPUT: true; the input reads as it did. -/
def catalogJoinsSpec : ChangeSpec := { name := "catalogJoins", fn := fun _ => fun
  | [d1, d2] => { results := [.lit (.bool true)], args := [d1, d2] }
  | _ => none }
def catalogJoinsRow : OpenClaim := { program := "ytjgibmaadmkkgaa", sum := "74e1331e581903a151400a5469212cdd6c9fbdb48fc1e0a239506caf32202368", func := "hearsay/hearsaylaw.CatalogJoins", spec := "catalogJoins", inPlace := ["slices.overlaps[hearsay/api.Service]"], unfollowed := true, recurses := true, apart := false }
def CatalogJoinsSaid : Prop := catalogJoinsRow.holds Try.pinned (OpenSpec.ofChange catalogJoinsSpec)

/-- ITS FALSE NEIGHBOUR: 'it returns false'. Refute it at one input. -/
def catalogJoinsWrong : ChangeSpec := { name := "catalogJoins", fn := fun _ => fun
  | [d1, d2] => { results := [.lit (.bool false)], args := [d1, d2] }
  | _ => none }
def CatalogJoinsWrongFalsely : Prop := catalogJoinsRow.holds Try.pinned (OpenSpec.ofChange catalogJoinsWrong)

/-- 'hearsaylaw.CatalogOrders': WHATEVER THE INPUT: true; the input reads as it did. -/
def catalogOrdersSpec : ChangeSpec := { name := "catalogOrders", fn := fun _ => fun
  | [d1, d2, d3] => { results := [.lit (.bool true)], args := [d1, d2, d3] }
  | _ => none }
def catalogOrdersRow : OpenClaim := { program := "ytjgibmaadmkkgaa", sum := "74e1331e581903a151400a5469212cdd6c9fbdb48fc1e0a239506caf32202368", func := "hearsay/hearsaylaw.CatalogOrders", spec := "catalogOrders", inPlace := ["slices.overlaps[hearsay/api.Service]"], unfollowed := true, recurses := true, apart := false }
def CatalogOrdersSaid : Prop := catalogOrdersRow.holds Try.pinned (OpenSpec.ofChange catalogOrdersSpec)

/-- ITS FALSE NEIGHBOUR: 'it returns false'. Refute it at one input. -/
def catalogOrdersWrong : ChangeSpec := { name := "catalogOrders", fn := fun _ => fun
  | [d1, d2, d3] => { results := [.lit (.bool false)], args := [d1, d2, d3] }
  | _ => none }
def CatalogOrdersWrongFalsely : Prop := catalogOrdersRow.holds Try.pinned (OpenSpec.ofChange catalogOrdersWrong)

/-- 'hearsaylaw.CatalogFound': WHATEVER THE INPUT: true; the input reads as it did. -/
def catalogFoundSpec : ChangeSpec := { name := "catalogFound", fn := fun _ => fun
  | [d1, d2] => { results := [.lit (.bool true)], args := [d1, d2] }
  | _ => none }
def catalogFoundRow : OpenClaim := { program := "ytjgibmaadmkkgaa", sum := "74e1331e581903a151400a5469212cdd6c9fbdb48fc1e0a239506caf32202368", func := "hearsay/hearsaylaw.CatalogFound", spec := "catalogFound", inPlace := ["slices.overlaps[hearsay/api.Service]"], unfollowed := true, recurses := true, apart := false }
def CatalogFoundSaid : Prop := catalogFoundRow.holds Try.pinned (OpenSpec.ofChange catalogFoundSpec)

/-- ITS FALSE NEIGHBOUR: 'it returns false'. Refute it at one input. -/
def catalogFoundWrong : ChangeSpec := { name := "catalogFound", fn := fun _ => fun
  | [d1, d2] => { results := [.lit (.bool false)], args := [d1, d2] }
  | _ => none }
def CatalogFoundWrongFalsely : Prop := catalogFoundRow.holds Try.pinned (OpenSpec.ofChange catalogFoundWrong)

/- THE SECOND FORM. 'bulk': how many values and letters a reading holds, each counted each time it is reached (what is shared counts as often as it is met; a slice's spare places count too). A statement '..UptoSaid' is the law's where the arguments, and the package variables that the reading takes, are together of bulk at most 1048576: NARROWER than '..Said'. Prove '..Said' where nothing that the law and all that it calls make is longer than what came in: it says more and counts as full. Else prove '..UptoSaid'. A law counts once. -/
mutual
def uptoBulk {H : Type} : DataW H → Nat
  | .lit (.string bytes) => bytes.length + 1
  | .lit _ => 1
  | .nil => 1
  | .ptr d => uptoBulk d + 1
  | .slice elems spare => uptoBulkAll elems + uptoBulkAll spare + 1
  | .agg parts => uptoBulkAll parts + 1
  | .iface _ d => uptoBulk d + 1
  | .map entries => uptoBulkEntries entries + 1
  | .held _ => 1
def uptoBulkAll {H : Type} : List (DataW H) → Nat
  | [] => 0
  | d :: r => uptoBulk d + uptoBulkAll r
def uptoBulkEntries {H : Type} : List (Lit × DataW H) → Nat
  | [] => 0
  | x :: r => uptoBulkEntry x + uptoBulkEntries r
def uptoBulkEntry {H : Type} : Lit × DataW H → Nat
  | (.string bytes, d) => bytes.length + uptoBulk d + 1
  | (_, d) => uptoBulk d + 1
 end
def uptoSmall : (H : Type) → List (DataW H) → Bool := fun _ ds => decide (uptoBulkAll ds ≤ 1048576)
def OpenSpec.upto (s : _root_.Go.ChangeSpec) : _root_.Go.OpenSpec := { _root_.Go.OpenSpec.ofChange s with cond := some uptoSmall }

/-- 'hearsaylaw.CentreOpens', WHERE WHAT IT READS IS OF BULK AT MOST 1048576: true; the input reads as it did. -/
def centreOpensUptoRow : OpenClaim := { program := "ytjgibmaadmkkgaa", sum := "74e1331e581903a151400a5469212cdd6c9fbdb48fc1e0a239506caf32202368", func := "hearsay/hearsaylaw.CentreOpens", spec := "centreOpens", inPlace := ["slices.overlaps[hearsay/api.Gateway]"], unfollowed := true, recurses := true, apart := false, narrowed := true }
def CentreOpensUptoSaid : Prop := centreOpensUptoRow.holds Try.pinned (OpenSpec.upto centreOpensSpec)

/-- 'hearsaylaw.CentreRoutes', WHERE WHAT IT READS IS OF BULK AT MOST 1048576: true; the input reads as it did. -/
def centreRoutesUptoRow : OpenClaim := { program := "ytjgibmaadmkkgaa", sum := "74e1331e581903a151400a5469212cdd6c9fbdb48fc1e0a239506caf32202368", func := "hearsay/hearsaylaw.CentreRoutes", spec := "centreRoutes", inPlace := ["slices.overlaps[hearsay/api.Gateway]"], unfollowed := true, recurses := true, apart := false, narrowed := true }
def CentreRoutesUptoSaid : Prop := centreRoutesUptoRow.holds Try.pinned (OpenSpec.upto centreRoutesSpec)

/-- 'hearsaylaw.CatalogFinds', WHERE WHAT IT READS IS OF BULK AT MOST 1048576: true; the input reads as it did. -/
def catalogFindsUptoRow : OpenClaim := { program := "ytjgibmaadmkkgaa", sum := "74e1331e581903a151400a5469212cdd6c9fbdb48fc1e0a239506caf32202368", func := "hearsay/hearsaylaw.CatalogFinds", spec := "catalogFinds", inPlace := ["slices.overlaps[hearsay/api.Service]"], unfollowed := true, recurses := true, apart := false, narrowed := true }
def CatalogFindsUptoSaid : Prop := catalogFindsUptoRow.holds Try.pinned (OpenSpec.upto catalogFindsSpec)

/-- 'hearsaylaw.CatalogChecks', WHERE WHAT IT READS IS OF BULK AT MOST 1048576: true; the input reads as it did. -/
def catalogChecksUptoRow : OpenClaim := { program := "ytjgibmaadmkkgaa", sum := "74e1331e581903a151400a5469212cdd6c9fbdb48fc1e0a239506caf32202368", func := "hearsay/hearsaylaw.CatalogChecks", spec := "catalogChecks", inPlace := ["slices.overlaps[hearsay/api.Service]"], unfollowed := true, recurses := true, apart := false, narrowed := true }
def CatalogChecksUptoSaid : Prop := catalogChecksUptoRow.holds Try.pinned (OpenSpec.upto catalogChecksSpec)

/-- 'hearsaylaw.CentreJoins', WHERE WHAT IT READS IS OF BULK AT MOST 1048576: true; the input reads as it did. -/
def centreJoinsUptoRow : OpenClaim := { program := "ytjgibmaadmkkgaa", sum := "74e1331e581903a151400a5469212cdd6c9fbdb48fc1e0a239506caf32202368", func := "hearsay/hearsaylaw.CentreJoins", spec := "centreJoins", inPlace := ["slices.overlaps[hearsay/api.Gateway]"], unfollowed := true, recurses := true, apart := false, narrowed := true }
def CentreJoinsUptoSaid : Prop := centreJoinsUptoRow.holds Try.pinned (OpenSpec.upto centreJoinsSpec)

/-- 'hearsaylaw.MemberHears', WHERE WHAT IT READS IS OF BULK AT MOST 1048576: true; the input reads as it did. -/
def memberHearsUptoRow : OpenClaim := { program := "ytjgibmaadmkkgaa", sum := "74e1331e581903a151400a5469212cdd6c9fbdb48fc1e0a239506caf32202368", func := "hearsay/hearsaylaw.MemberHears", spec := "memberHears", inPlace := ["slices.overlaps[hearsay/api.Member]"], unfollowed := true, recurses := true, apart := false, narrowed := true }
def MemberHearsUptoSaid : Prop := memberHearsUptoRow.holds Try.pinned (OpenSpec.upto memberHearsSpec)

/-- 'hearsaylaw.CatalogRegisters', WHERE WHAT IT READS IS OF BULK AT MOST 1048576: true; the input reads as it did. -/
def catalogRegistersUptoRow : OpenClaim := { program := "ytjgibmaadmkkgaa", sum := "74e1331e581903a151400a5469212cdd6c9fbdb48fc1e0a239506caf32202368", func := "hearsay/hearsaylaw.CatalogRegisters", spec := "catalogRegisters", inPlace := ["slices.overlaps[hearsay/api.Service]"], unfollowed := true, recurses := true, apart := false, narrowed := true }
def CatalogRegistersUptoSaid : Prop := catalogRegistersUptoRow.holds Try.pinned (OpenSpec.upto catalogRegistersSpec)

/-- 'hearsaylaw.MemberChecks', WHERE WHAT IT READS IS OF BULK AT MOST 1048576: true; the input reads as it did. -/
def memberChecksUptoRow : OpenClaim := { program := "ytjgibmaadmkkgaa", sum := "74e1331e581903a151400a5469212cdd6c9fbdb48fc1e0a239506caf32202368", func := "hearsay/hearsaylaw.MemberChecks", spec := "memberChecks", inPlace := ["slices.overlaps[hearsay/api.Member]"], unfollowed := true, recurses := true, apart := false, narrowed := true }
def MemberChecksUptoSaid : Prop := memberChecksUptoRow.holds Try.pinned (OpenSpec.upto memberChecksSpec)

/-- 'hearsaylaw.MemberGrows', WHERE WHAT IT READS IS OF BULK AT MOST 1048576: true; the input reads as it did. -/
def memberGrowsUptoRow : OpenClaim := { program := "ytjgibmaadmkkgaa", sum := "74e1331e581903a151400a5469212cdd6c9fbdb48fc1e0a239506caf32202368", func := "hearsay/hearsaylaw.MemberGrows", spec := "memberGrows", inPlace := ["slices.overlaps[hearsay/api.Member]"], unfollowed := true, recurses := true, apart := false, narrowed := true }
def MemberGrowsUptoSaid : Prop := memberGrowsUptoRow.holds Try.pinned (OpenSpec.upto memberGrowsSpec)

/-- 'hearsaylaw.CatalogNewer', WHERE WHAT IT READS IS OF BULK AT MOST 1048576: true; the input reads as it did. -/
def catalogNewerUptoRow : OpenClaim := { program := "ytjgibmaadmkkgaa", sum := "74e1331e581903a151400a5469212cdd6c9fbdb48fc1e0a239506caf32202368", func := "hearsay/hearsaylaw.CatalogNewer", spec := "catalogNewer", inPlace := ["slices.overlaps[hearsay/api.Service]"], unfollowed := true, recurses := true, apart := false, narrowed := true }
def CatalogNewerUptoSaid : Prop := catalogNewerUptoRow.holds Try.pinned (OpenSpec.upto catalogNewerSpec)

/-- 'hearsaylaw.MemberNewer', WHERE WHAT IT READS IS OF BULK AT MOST 1048576: true; the input reads as it did. -/
def memberNewerUptoRow : OpenClaim := { program := "ytjgibmaadmkkgaa", sum := "74e1331e581903a151400a5469212cdd6c9fbdb48fc1e0a239506caf32202368", func := "hearsay/hearsaylaw.MemberNewer", spec := "memberNewer", inPlace := ["slices.overlaps[hearsay/api.Member]"], unfollowed := true, recurses := true, apart := false, narrowed := true }
def MemberNewerUptoSaid : Prop := memberNewerUptoRow.holds Try.pinned (OpenSpec.upto memberNewerSpec)

/-- 'hearsaylaw.CentreOrders', WHERE WHAT IT READS IS OF BULK AT MOST 1048576: true; the input reads as it did. -/
def centreOrdersUptoRow : OpenClaim := { program := "ytjgibmaadmkkgaa", sum := "74e1331e581903a151400a5469212cdd6c9fbdb48fc1e0a239506caf32202368", func := "hearsay/hearsaylaw.CentreOrders", spec := "centreOrders", inPlace := ["slices.overlaps[hearsay/api.Gateway]"], unfollowed := true, recurses := true, apart := false, narrowed := true }
def CentreOrdersUptoSaid : Prop := centreOrdersUptoRow.holds Try.pinned (OpenSpec.upto centreOrdersSpec)

/-- 'hearsaylaw.MemberRefutes', WHERE WHAT IT READS IS OF BULK AT MOST 1048576: true; the input reads as it did. -/
def memberRefutesUptoRow : OpenClaim := { program := "ytjgibmaadmkkgaa", sum := "74e1331e581903a151400a5469212cdd6c9fbdb48fc1e0a239506caf32202368", func := "hearsay/hearsaylaw.MemberRefutes", spec := "memberRefutes", inPlace := ["slices.overlaps[hearsay/api.Member]"], unfollowed := true, recurses := true, apart := false, narrowed := true }
def MemberRefutesUptoSaid : Prop := memberRefutesUptoRow.holds Try.pinned (OpenSpec.upto memberRefutesSpec)

/-- 'hearsaylaw.MemberJoins', WHERE WHAT IT READS IS OF BULK AT MOST 1048576: true; the input reads as it did. -/
def memberJoinsUptoRow : OpenClaim := { program := "ytjgibmaadmkkgaa", sum := "74e1331e581903a151400a5469212cdd6c9fbdb48fc1e0a239506caf32202368", func := "hearsay/hearsaylaw.MemberJoins", spec := "memberJoins", inPlace := ["slices.overlaps[hearsay/api.Member]"], unfollowed := true, recurses := true, apart := false, narrowed := true }
def MemberJoinsUptoSaid : Prop := memberJoinsUptoRow.holds Try.pinned (OpenSpec.upto memberJoinsSpec)

/-- 'hearsaylaw.MemberOrders', WHERE WHAT IT READS IS OF BULK AT MOST 1048576: true; the input reads as it did. -/
def memberOrdersUptoRow : OpenClaim := { program := "ytjgibmaadmkkgaa", sum := "74e1331e581903a151400a5469212cdd6c9fbdb48fc1e0a239506caf32202368", func := "hearsay/hearsaylaw.MemberOrders", spec := "memberOrders", inPlace := ["slices.overlaps[hearsay/api.Member]"], unfollowed := true, recurses := true, apart := false, narrowed := true }
def MemberOrdersUptoSaid : Prop := memberOrdersUptoRow.holds Try.pinned (OpenSpec.upto memberOrdersSpec)

/-- 'hearsaylaw.CatalogJoins', WHERE WHAT IT READS IS OF BULK AT MOST 1048576: true; the input reads as it did. -/
def catalogJoinsUptoRow : OpenClaim := { program := "ytjgibmaadmkkgaa", sum := "74e1331e581903a151400a5469212cdd6c9fbdb48fc1e0a239506caf32202368", func := "hearsay/hearsaylaw.CatalogJoins", spec := "catalogJoins", inPlace := ["slices.overlaps[hearsay/api.Service]"], unfollowed := true, recurses := true, apart := false, narrowed := true }
def CatalogJoinsUptoSaid : Prop := catalogJoinsUptoRow.holds Try.pinned (OpenSpec.upto catalogJoinsSpec)

/-- 'hearsaylaw.CatalogOrders', WHERE WHAT IT READS IS OF BULK AT MOST 1048576: true; the input reads as it did. -/
def catalogOrdersUptoRow : OpenClaim := { program := "ytjgibmaadmkkgaa", sum := "74e1331e581903a151400a5469212cdd6c9fbdb48fc1e0a239506caf32202368", func := "hearsay/hearsaylaw.CatalogOrders", spec := "catalogOrders", inPlace := ["slices.overlaps[hearsay/api.Service]"], unfollowed := true, recurses := true, apart := false, narrowed := true }
def CatalogOrdersUptoSaid : Prop := catalogOrdersUptoRow.holds Try.pinned (OpenSpec.upto catalogOrdersSpec)

/-- 'hearsaylaw.CatalogFound', WHERE WHAT IT READS IS OF BULK AT MOST 1048576: true; the input reads as it did. -/
def catalogFoundUptoRow : OpenClaim := { program := "ytjgibmaadmkkgaa", sum := "74e1331e581903a151400a5469212cdd6c9fbdb48fc1e0a239506caf32202368", func := "hearsay/hearsaylaw.CatalogFound", spec := "catalogFound", inPlace := ["slices.overlaps[hearsay/api.Service]"], unfollowed := true, recurses := true, apart := false, narrowed := true }
def CatalogFoundUptoSaid : Prop := catalogFoundUptoRow.holds Try.pinned (OpenSpec.upto catalogFoundSpec)

end Rows
end Go.Proofs.Ytjgibmaadmkkgaa
