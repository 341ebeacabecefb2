/-
  No cell of these rows narrows 'for every input' (looked for: loops, veiled, ifaces, maps, wideKeys, modest, calm, conditions, laid).
  DERIVED. THE GIVEN ROWS OF THIS SEAT. 16 by the template 'for every input the law returns true; each argument reads behind the call as it read before'; 0 by the template 'total and deterministic' (their statements: YtckkeeicngblgaaTotals.lean).
  GIVEN WITH THE SEED: the statements are not yours to turn. If you find one false, say at which input.
  Laid BY PROGRAM, IN A SANDBOX (cutbox-rows.mjs): the forced cells as the released guide's own fill.sh prints them over the translation 382d83c1bbfae8e3… (all of the seat's roots in one cut). By AI agents, Wed Nov 11 2026. No macro, syntax, notation, axiom, sorry.
-/
import Derived.Test.YtckkeeicngblgaaChecked
import GoSem.Claim
import GoSem.ClaimJoined
import GoSem.ClaimMapViews
import Derived.JoinedTies
import Derived.KernelRfl
namespace Go.Proofs.Ytckkeeicngblgaa
/- THE CELL 'sum', in the pinned program and in every row, IS THE sha256 OF THE DUMP (.gsa) THAT YtckkeeicngblgaaProg.lean LOADS. Nothing in Lean hashes anything: it is a label: what it is worth is what the hold of that sum in a sandbox is worth. -/
noncomputable def Try.pinned : Pinned := { name := "ytckkeeicngblgaa", sum := "382d83c1bbfae8e34b82baf6af6283f4d6fb3f00fdbaf527e3ff2615b6422bd2", checked := Try.checked }
namespace Rows
def none {H : Type} : Left H := { results := [], args := [] }

/-- 'hearsaylaw.PlaceMoves': WHATEVER THE INPUT: true; the input reads as it did. -/
def placeMovesSpec : ChangeSpec := { name := "placeMoves", fn := fun _ => fun
  | [d1, d2, d3] => { results := [.lit (.bool true)], args := [d1, d2, d3] }
  | _ => none }
def placeMovesRow : OpenClaim := { program := "ytckkeeicngblgaa", sum := "382d83c1bbfae8e34b82baf6af6283f4d6fb3f00fdbaf527e3ff2615b6422bd2", func := "hearsay/hearsaylaw.PlaceMoves", spec := "placeMoves", unfollowed := true, recurses := true, apart := false }
def PlaceMovesSaid : Prop := placeMovesRow.holds Try.pinned (OpenSpec.ofChange placeMovesSpec)

/-- ITS FALSE NEIGHBOUR: 'it returns false'. Refute it at one input. -/
def placeMovesWrong : ChangeSpec := { name := "placeMoves", fn := fun _ => fun
  | [d1, d2, d3] => { results := [.lit (.bool false)], args := [d1, d2, d3] }
  | _ => none }
def PlaceMovesWrongFalsely : Prop := placeMovesRow.holds Try.pinned (OpenSpec.ofChange placeMovesWrong)

/-- 'hearsaylaw.PlaceKeeps': WHATEVER THE INPUT: true; the input reads as it did. -/
def placeKeepsSpec : ChangeSpec := { name := "placeKeeps", fn := fun _ => fun
  | [d1, d2, d3] => { results := [.lit (.bool true)], args := [d1, d2, d3] }
  | _ => none }
def placeKeepsRow : OpenClaim := { program := "ytckkeeicngblgaa", sum := "382d83c1bbfae8e34b82baf6af6283f4d6fb3f00fdbaf527e3ff2615b6422bd2", func := "hearsay/hearsaylaw.PlaceKeeps", spec := "placeKeeps", unfollowed := true, recurses := true, apart := false }
def PlaceKeepsSaid : Prop := placeKeepsRow.holds Try.pinned (OpenSpec.ofChange placeKeepsSpec)

/-- ITS FALSE NEIGHBOUR: 'it returns false'. Refute it at one input. -/
def placeKeepsWrong : ChangeSpec := { name := "placeKeeps", fn := fun _ => fun
  | [d1, d2, d3] => { results := [.lit (.bool false)], args := [d1, d2, d3] }
  | _ => none }
def PlaceKeepsWrongFalsely : Prop := placeKeepsRow.holds Try.pinned (OpenSpec.ofChange placeKeepsWrong)

/-- 'hearsaylaw.CentreRoutes': WHATEVER THE INPUT: true; the input reads as it did. -/
def centreRoutesSpec : ChangeSpec := { name := "centreRoutes", fn := fun _ => fun
  | [d1, d2, d3] => { results := [.lit (.bool true)], args := [d1, d2, d3] }
  | _ => none }
def centreRoutesRow : OpenClaim := { program := "ytckkeeicngblgaa", sum := "382d83c1bbfae8e34b82baf6af6283f4d6fb3f00fdbaf527e3ff2615b6422bd2", func := "hearsay/hearsaylaw.CentreRoutes", spec := "centreRoutes", inPlace := ["slices.overlaps[hearsay/api.Gateway]"], unfollowed := true, recurses := true, apart := false }
def CentreRoutesSaid : Prop := centreRoutesRow.holds Try.pinned (OpenSpec.ofChange centreRoutesSpec)

/-- ITS FALSE NEIGHBOUR: 'it returns false'. Refute it at one input. -/
def centreRoutesWrong : ChangeSpec := { name := "centreRoutes", fn := fun _ => fun
  | [d1, d2, d3] => { results := [.lit (.bool false)], args := [d1, d2, d3] }
  | _ => none }
def CentreRoutesWrongFalsely : Prop := centreRoutesRow.holds Try.pinned (OpenSpec.ofChange centreRoutesWrong)

/-- 'hearsaylaw.CatalogFinds': WHATEVER THE INPUT: true; the input reads as it did. -/
def catalogFindsSpec : ChangeSpec := { name := "catalogFinds", fn := fun _ => fun
  | [d1, d2, d3] => { results := [.lit (.bool true)], args := [d1, d2, d3] }
  | _ => none }
def catalogFindsRow : OpenClaim := { program := "ytckkeeicngblgaa", sum := "382d83c1bbfae8e34b82baf6af6283f4d6fb3f00fdbaf527e3ff2615b6422bd2", func := "hearsay/hearsaylaw.CatalogFinds", spec := "catalogFinds", inPlace := ["slices.overlaps[hearsay/api.Service]"], unfollowed := true, recurses := true, apart := false }
def CatalogFindsSaid : Prop := catalogFindsRow.holds Try.pinned (OpenSpec.ofChange catalogFindsSpec)

/-- ITS FALSE NEIGHBOUR: 'it returns false'. Refute it at one input. -/
def catalogFindsWrong : ChangeSpec := { name := "catalogFinds", fn := fun _ => fun
  | [d1, d2, d3] => { results := [.lit (.bool false)], args := [d1, d2, d3] }
  | _ => none }
def CatalogFindsWrongFalsely : Prop := catalogFindsRow.holds Try.pinned (OpenSpec.ofChange catalogFindsWrong)

/-- 'hearsaylaw.CatalogChecks': WHATEVER THE INPUT: true; the input reads as it did. -/
def catalogChecksSpec : ChangeSpec := { name := "catalogChecks", fn := fun _ => fun
  | [d] => { results := [.lit (.bool true)], args := [d] }
  | _ => none }
def catalogChecksRow : OpenClaim := { program := "ytckkeeicngblgaa", sum := "382d83c1bbfae8e34b82baf6af6283f4d6fb3f00fdbaf527e3ff2615b6422bd2", func := "hearsay/hearsaylaw.CatalogChecks", spec := "catalogChecks", inPlace := ["slices.overlaps[hearsay/api.Service]"], unfollowed := true, recurses := true, apart := false }
def CatalogChecksSaid : Prop := catalogChecksRow.holds Try.pinned (OpenSpec.ofChange catalogChecksSpec)

/-- ITS FALSE NEIGHBOUR: 'it returns false'. Refute it at one input. -/
def catalogChecksWrong : ChangeSpec := { name := "catalogChecks", fn := fun _ => fun
  | [d] => { results := [.lit (.bool false)], args := [d] }
  | _ => none }
def CatalogChecksWrongFalsely : Prop := catalogChecksRow.holds Try.pinned (OpenSpec.ofChange catalogChecksWrong)

/-- 'hearsaylaw.CatalogRegisters': WHATEVER THE INPUT: true; the input reads as it did. -/
def catalogRegistersSpec : ChangeSpec := { name := "catalogRegisters", fn := fun _ => fun
  | [d1, d2] => { results := [.lit (.bool true)], args := [d1, d2] }
  | _ => none }
def catalogRegistersRow : OpenClaim := { program := "ytckkeeicngblgaa", sum := "382d83c1bbfae8e34b82baf6af6283f4d6fb3f00fdbaf527e3ff2615b6422bd2", func := "hearsay/hearsaylaw.CatalogRegisters", spec := "catalogRegisters", inPlace := ["slices.overlaps[hearsay/api.Service]"], unfollowed := true, recurses := true, apart := false }
def CatalogRegistersSaid : Prop := catalogRegistersRow.holds Try.pinned (OpenSpec.ofChange catalogRegistersSpec)

/-- ITS FALSE NEIGHBOUR: 'it returns false'. Refute it at one input. -/
def catalogRegistersWrong : ChangeSpec := { name := "catalogRegisters", fn := fun _ => fun
  | [d1, d2] => { results := [.lit (.bool false)], args := [d1, d2] }
  | _ => none }
def CatalogRegistersWrongFalsely : Prop := catalogRegistersRow.holds Try.pinned (OpenSpec.ofChange catalogRegistersWrong)

/-- 'hearsaylaw.CatalogNewer': WHATEVER THE INPUT: true; the input reads as it did. -/
def catalogNewerSpec : ChangeSpec := { name := "catalogNewer", fn := fun _ => fun
  | [d1, d2] => { results := [.lit (.bool true)], args := [d1, d2] }
  | _ => none }
def catalogNewerRow : OpenClaim := { program := "ytckkeeicngblgaa", sum := "382d83c1bbfae8e34b82baf6af6283f4d6fb3f00fdbaf527e3ff2615b6422bd2", func := "hearsay/hearsaylaw.CatalogNewer", spec := "catalogNewer", inPlace := ["slices.overlaps[hearsay/api.Service]"], unfollowed := true, recurses := true, apart := false }
def CatalogNewerSaid : Prop := catalogNewerRow.holds Try.pinned (OpenSpec.ofChange catalogNewerSpec)

/-- ITS FALSE NEIGHBOUR: 'it returns false'. Refute it at one input. -/
def catalogNewerWrong : ChangeSpec := { name := "catalogNewer", fn := fun _ => fun
  | [d1, d2] => { results := [.lit (.bool false)], args := [d1, d2] }
  | _ => none }
def CatalogNewerWrongFalsely : Prop := catalogNewerRow.holds Try.pinned (OpenSpec.ofChange catalogNewerWrong)

/-- 'hearsaylaw.CentreOrders': WHATEVER THE INPUT: true; the input reads as it did. -/
def centreOrdersSpec : ChangeSpec := { name := "centreOrders", fn := fun _ => fun
  | [d1, d2, d3] => { results := [.lit (.bool true)], args := [d1, d2, d3] }
  | _ => none }
def centreOrdersRow : OpenClaim := { program := "ytckkeeicngblgaa", sum := "382d83c1bbfae8e34b82baf6af6283f4d6fb3f00fdbaf527e3ff2615b6422bd2", func := "hearsay/hearsaylaw.CentreOrders", spec := "centreOrders", inPlace := ["slices.overlaps[hearsay/api.Gateway]"], unfollowed := true, recurses := true, apart := false }
def CentreOrdersSaid : Prop := centreOrdersRow.holds Try.pinned (OpenSpec.ofChange centreOrdersSpec)

/-- ITS FALSE NEIGHBOUR: 'it returns false'. Refute it at one input. -/
def centreOrdersWrong : ChangeSpec := { name := "centreOrders", fn := fun _ => fun
  | [d1, d2, d3] => { results := [.lit (.bool false)], args := [d1, d2, d3] }
  | _ => none }
def CentreOrdersWrongFalsely : Prop := centreOrdersRow.holds Try.pinned (OpenSpec.ofChange centreOrdersWrong)

/-- 'hearsaylaw.CatalogJoins': WHATEVER THE INPUT: true; the input reads as it did. -/
def catalogJoinsSpec : ChangeSpec := { name := "catalogJoins", fn := fun _ => fun
  | [d1, d2] => { results := [.lit (.bool true)], args := [d1, d2] }
  | _ => none }
def catalogJoinsRow : OpenClaim := { program := "ytckkeeicngblgaa", sum := "382d83c1bbfae8e34b82baf6af6283f4d6fb3f00fdbaf527e3ff2615b6422bd2", func := "hearsay/hearsaylaw.CatalogJoins", spec := "catalogJoins", inPlace := ["slices.overlaps[hearsay/api.Service]"], unfollowed := true, recurses := true, apart := false }
def CatalogJoinsSaid : Prop := catalogJoinsRow.holds Try.pinned (OpenSpec.ofChange catalogJoinsSpec)

/-- ITS FALSE NEIGHBOUR: 'it returns false'. Refute it at one input. -/
def catalogJoinsWrong : ChangeSpec := { name := "catalogJoins", fn := fun _ => fun
  | [d1, d2] => { results := [.lit (.bool false)], args := [d1, d2] }
  | _ => none }
def CatalogJoinsWrongFalsely : Prop := catalogJoinsRow.holds Try.pinned (OpenSpec.ofChange catalogJoinsWrong)

/-- 'hearsaylaw.CatalogOrders': WHATEVER THE INPUT: true; the input reads as it did. -/
def catalogOrdersSpec : ChangeSpec := { name := "catalogOrders", fn := fun _ => fun
  | [d1, d2, d3] => { results := [.lit (.bool true)], args := [d1, d2, d3] }
  | _ => none }
def catalogOrdersRow : OpenClaim := { program := "ytckkeeicngblgaa", sum := "382d83c1bbfae8e34b82baf6af6283f4d6fb3f00fdbaf527e3ff2615b6422bd2", func := "hearsay/hearsaylaw.CatalogOrders", spec := "catalogOrders", inPlace := ["slices.overlaps[hearsay/api.Service]"], unfollowed := true, recurses := true, apart := false }
def CatalogOrdersSaid : Prop := catalogOrdersRow.holds Try.pinned (OpenSpec.ofChange catalogOrdersSpec)

/-- ITS FALSE NEIGHBOUR: 'it returns false'. Refute it at one input. -/
def catalogOrdersWrong : ChangeSpec := { name := "catalogOrders", fn := fun _ => fun
  | [d1, d2, d3] => { results := [.lit (.bool false)], args := [d1, d2, d3] }
  | _ => none }
def CatalogOrdersWrongFalsely : Prop := catalogOrdersRow.holds Try.pinned (OpenSpec.ofChange catalogOrdersWrong)

/-- 'hearsaylaw.CatalogFound': WHATEVER THE INPUT: true; the input reads as it did. -/
def catalogFoundSpec : ChangeSpec := { name := "catalogFound", fn := fun _ => fun
  | [d1, d2] => { results := [.lit (.bool true)], args := [d1, d2] }
  | _ => none }
def catalogFoundRow : OpenClaim := { program := "ytckkeeicngblgaa", sum := "382d83c1bbfae8e34b82baf6af6283f4d6fb3f00fdbaf527e3ff2615b6422bd2", func := "hearsay/hearsaylaw.CatalogFound", spec := "catalogFound", inPlace := ["slices.overlaps[hearsay/api.Service]"], unfollowed := true, recurses := true, apart := false }
def CatalogFoundSaid : Prop := catalogFoundRow.holds Try.pinned (OpenSpec.ofChange catalogFoundSpec)

/-- ITS FALSE NEIGHBOUR: 'it returns false'. Refute it at one input. -/
def catalogFoundWrong : ChangeSpec := { name := "catalogFound", fn := fun _ => fun
  | [d1, d2] => { results := [.lit (.bool false)], args := [d1, d2] }
  | _ => none }
def CatalogFoundWrongFalsely : Prop := catalogFoundRow.holds Try.pinned (OpenSpec.ofChange catalogFoundWrong)

/-- 'hearsaylaw.PlaceSorts': WHATEVER THE INPUT: true; the input reads as it did. -/
def placeSortsSpec : ChangeSpec := { name := "placeSorts", fn := fun _ => fun
  | [d1, d2, d3] => { results := [.lit (.bool true)], args := [d1, d2, d3] }
  | _ => none }
def placeSortsRow : OpenClaim := { program := "ytckkeeicngblgaa", sum := "382d83c1bbfae8e34b82baf6af6283f4d6fb3f00fdbaf527e3ff2615b6422bd2", func := "hearsay/hearsaylaw.PlaceSorts", spec := "placeSorts", unfollowed := true, recurses := true, apart := false }
def PlaceSortsSaid : Prop := placeSortsRow.holds Try.pinned (OpenSpec.ofChange placeSortsSpec)

/-- ITS FALSE NEIGHBOUR: 'it returns false'. Refute it at one input. -/
def placeSortsWrong : ChangeSpec := { name := "placeSorts", fn := fun _ => fun
  | [d1, d2, d3] => { results := [.lit (.bool false)], args := [d1, d2, d3] }
  | _ => none }
def PlaceSortsWrongFalsely : Prop := placeSortsRow.holds Try.pinned (OpenSpec.ofChange placeSortsWrong)

/-- 'hearsaylaw.RumorPuts': WHATEVER THE INPUT: true; the input reads as it did. -/
def rumorPutsSpec : ChangeSpec := { name := "rumorPuts", fn := fun _ => fun
  | [d1, d2] => { results := [.lit (.bool true)], args := [d1, d2] }
  | _ => none }
def rumorPutsRow : OpenClaim := { program := "ytckkeeicngblgaa", sum := "382d83c1bbfae8e34b82baf6af6283f4d6fb3f00fdbaf527e3ff2615b6422bd2", func := "hearsay/hearsaylaw.RumorPuts", spec := "rumorPuts", unfollowed := true, recurses := true, apart := false }
def RumorPutsSaid : Prop := rumorPutsRow.holds Try.pinned (OpenSpec.ofChange rumorPutsSpec)

/-- ITS FALSE NEIGHBOUR: 'it returns false'. Refute it at one input. -/
def rumorPutsWrong : ChangeSpec := { name := "rumorPuts", fn := fun _ => fun
  | [d1, d2] => { results := [.lit (.bool false)], args := [d1, d2] }
  | _ => none }
def RumorPutsWrongFalsely : Prop := rumorPutsRow.holds Try.pinned (OpenSpec.ofChange rumorPutsWrong)

/-- 'hearsaylaw.RumorTakes': WHATEVER THE INPUT: true; the input reads as it did. -/
def rumorTakesSpec : ChangeSpec := { name := "rumorTakes", fn := fun _ => fun
  | [d1, d2, d3] => { results := [.lit (.bool true)], args := [d1, d2, d3] }
  | _ => none }
def rumorTakesRow : OpenClaim := { program := "ytckkeeicngblgaa", sum := "382d83c1bbfae8e34b82baf6af6283f4d6fb3f00fdbaf527e3ff2615b6422bd2", func := "hearsay/hearsaylaw.RumorTakes", spec := "rumorTakes", unfollowed := true, recurses := true, apart := false }
def RumorTakesSaid : Prop := rumorTakesRow.holds Try.pinned (OpenSpec.ofChange rumorTakesSpec)

/-- ITS FALSE NEIGHBOUR: 'it returns false'. Refute it at one input. -/
def rumorTakesWrong : ChangeSpec := { name := "rumorTakes", fn := fun _ => fun
  | [d1, d2, d3] => { results := [.lit (.bool false)], args := [d1, d2, d3] }
  | _ => none }
def RumorTakesWrongFalsely : Prop := rumorTakesRow.holds Try.pinned (OpenSpec.ofChange rumorTakesWrong)

/-- 'hearsaylaw.RumorEnds': WHATEVER THE INPUT: true; the input reads as it did. -/
def rumorEndsSpec : ChangeSpec := { name := "rumorEnds", fn := fun _ => fun
  | [d1, d2, d3] => { results := [.lit (.bool true)], args := [d1, d2, d3] }
  | _ => none }
def rumorEndsRow : OpenClaim := { program := "ytckkeeicngblgaa", sum := "382d83c1bbfae8e34b82baf6af6283f4d6fb3f00fdbaf527e3ff2615b6422bd2", func := "hearsay/hearsaylaw.RumorEnds", spec := "rumorEnds", unfollowed := true, recurses := true, apart := false }
def RumorEndsSaid : Prop := rumorEndsRow.holds Try.pinned (OpenSpec.ofChange rumorEndsSpec)

/-- ITS FALSE NEIGHBOUR: 'it returns false'. Refute it at one input. -/
def rumorEndsWrong : ChangeSpec := { name := "rumorEnds", fn := fun _ => fun
  | [d1, d2, d3] => { results := [.lit (.bool false)], args := [d1, d2, d3] }
  | _ => none }
def RumorEndsWrongFalsely : Prop := rumorEndsRow.holds Try.pinned (OpenSpec.ofChange rumorEndsWrong)

/-- 'hearsaylaw.RumorTimes': WHATEVER THE INPUT: true; the input reads as it did. -/
def rumorTimesSpec : ChangeSpec := { name := "rumorTimes", fn := fun _ => fun
  | [d] => { results := [.lit (.bool true)], args := [d] }
  | _ => none }
def rumorTimesRow : OpenClaim := { program := "ytckkeeicngblgaa", sum := "382d83c1bbfae8e34b82baf6af6283f4d6fb3f00fdbaf527e3ff2615b6422bd2", func := "hearsay/hearsaylaw.RumorTimes", spec := "rumorTimes", unfollowed := true, recurses := true, apart := false }
def RumorTimesSaid : Prop := rumorTimesRow.holds Try.pinned (OpenSpec.ofChange rumorTimesSpec)

/-- ITS FALSE NEIGHBOUR: 'it returns false'. Refute it at one input. -/
def rumorTimesWrong : ChangeSpec := { name := "rumorTimes", fn := fun _ => fun
  | [d] => { results := [.lit (.bool false)], args := [d] }
  | _ => none }
def RumorTimesWrongFalsely : Prop := rumorTimesRow.holds Try.pinned (OpenSpec.ofChange rumorTimesWrong)

/- THE SECOND FORM. 'bulk': how many values and letters a reading holds, each counted each time it is reached (what is shared counts as often as it is met; a slice's spare places count too). A statement '..UptoSaid' is the law's where the arguments, and the package variables that the reading takes, are together of bulk at most 1048576: NARROWER than '..Said'. Prove '..Said' where nothing that the law and all that it calls make is longer than what came in: it says more and counts as full. Else prove '..UptoSaid'. A law counts once. -/
mutual
def uptoBulk {H : Type} : DataW H → Nat
  | .lit (.string bytes) => bytes.length + 1
  | .lit _ => 1
  | .nil => 1
  | .ptr d => uptoBulk d + 1
  | .slice elems spare => uptoBulkAll elems + uptoBulkAll spare + 1
  | .agg parts => uptoBulkAll parts + 1
  | .iface _ d => uptoBulk d + 1
  | .map entries => uptoBulkEntries entries + 1
  | .held _ => 1
def uptoBulkAll {H : Type} : List (DataW H) → Nat
  | [] => 0
  | d :: r => uptoBulk d + uptoBulkAll r
def uptoBulkEntries {H : Type} : List (Lit × DataW H) → Nat
  | [] => 0
  | x :: r => uptoBulkEntry x + uptoBulkEntries r
def uptoBulkEntry {H : Type} : Lit × DataW H → Nat
  | (.string bytes, d) => bytes.length + uptoBulk d + 1
  | (_, d) => uptoBulk d + 1
 end
def uptoSmall : (H : Type) → List (DataW H) → Bool := fun _ ds => decide (uptoBulkAll ds ≤ 1048576)
def OpenSpec.upto (s : _root_.Go.ChangeSpec) : _root_.Go.OpenSpec := { _root_.Go.OpenSpec.ofChange s with cond := some uptoSmall }

/-- 'hearsaylaw.PlaceMoves', WHERE WHAT IT READS IS OF BULK AT MOST 1048576: true; the input reads as it did. -/
def placeMovesUptoRow : OpenClaim := { program := "ytckkeeicngblgaa", sum := "382d83c1bbfae8e34b82baf6af6283f4d6fb3f00fdbaf527e3ff2615b6422bd2", func := "hearsay/hearsaylaw.PlaceMoves", spec := "placeMoves", unfollowed := true, recurses := true, apart := false, narrowed := true }
def PlaceMovesUptoSaid : Prop := placeMovesUptoRow.holds Try.pinned (OpenSpec.upto placeMovesSpec)

/-- 'hearsaylaw.PlaceKeeps', WHERE WHAT IT READS IS OF BULK AT MOST 1048576: true; the input reads as it did. -/
def placeKeepsUptoRow : OpenClaim := { program := "ytckkeeicngblgaa", sum := "382d83c1bbfae8e34b82baf6af6283f4d6fb3f00fdbaf527e3ff2615b6422bd2", func := "hearsay/hearsaylaw.PlaceKeeps", spec := "placeKeeps", unfollowed := true, recurses := true, apart := false, narrowed := true }
def PlaceKeepsUptoSaid : Prop := placeKeepsUptoRow.holds Try.pinned (OpenSpec.upto placeKeepsSpec)

/-- 'hearsaylaw.CentreRoutes', WHERE WHAT IT READS IS OF BULK AT MOST 1048576: true; the input reads as it did. -/
def centreRoutesUptoRow : OpenClaim := { program := "ytckkeeicngblgaa", sum := "382d83c1bbfae8e34b82baf6af6283f4d6fb3f00fdbaf527e3ff2615b6422bd2", func := "hearsay/hearsaylaw.CentreRoutes", spec := "centreRoutes", inPlace := ["slices.overlaps[hearsay/api.Gateway]"], unfollowed := true, recurses := true, apart := false, narrowed := true }
def CentreRoutesUptoSaid : Prop := centreRoutesUptoRow.holds Try.pinned (OpenSpec.upto centreRoutesSpec)

/-- 'hearsaylaw.CatalogFinds', WHERE WHAT IT READS IS OF BULK AT MOST 1048576: true; the input reads as it did. -/
def catalogFindsUptoRow : OpenClaim := { program := "ytckkeeicngblgaa", sum := "382d83c1bbfae8e34b82baf6af6283f4d6fb3f00fdbaf527e3ff2615b6422bd2", func := "hearsay/hearsaylaw.CatalogFinds", spec := "catalogFinds", inPlace := ["slices.overlaps[hearsay/api.Service]"], unfollowed := true, recurses := true, apart := false, narrowed := true }
def CatalogFindsUptoSaid : Prop := catalogFindsUptoRow.holds Try.pinned (OpenSpec.upto catalogFindsSpec)

/-- 'hearsaylaw.CatalogChecks', WHERE WHAT IT READS IS OF BULK AT MOST 1048576: true; the input reads as it did. -/
def catalogChecksUptoRow : OpenClaim := { program := "ytckkeeicngblgaa", sum := "382d83c1bbfae8e34b82baf6af6283f4d6fb3f00fdbaf527e3ff2615b6422bd2", func := "hearsay/hearsaylaw.CatalogChecks", spec := "catalogChecks", inPlace := ["slices.overlaps[hearsay/api.Service]"], unfollowed := true, recurses := true, apart := false, narrowed := true }
def CatalogChecksUptoSaid : Prop := catalogChecksUptoRow.holds Try.pinned (OpenSpec.upto catalogChecksSpec)

/-- 'hearsaylaw.CatalogRegisters', WHERE WHAT IT READS IS OF BULK AT MOST 1048576: true; the input reads as it did. -/
def catalogRegistersUptoRow : OpenClaim := { program := "ytckkeeicngblgaa", sum := "382d83c1bbfae8e34b82baf6af6283f4d6fb3f00fdbaf527e3ff2615b6422bd2", func := "hearsay/hearsaylaw.CatalogRegisters", spec := "catalogRegisters", inPlace := ["slices.overlaps[hearsay/api.Service]"], unfollowed := true, recurses := true, apart := false, narrowed := true }
def CatalogRegistersUptoSaid : Prop := catalogRegistersUptoRow.holds Try.pinned (OpenSpec.upto catalogRegistersSpec)

/-- 'hearsaylaw.CatalogNewer', WHERE WHAT IT READS IS OF BULK AT MOST 1048576: true; the input reads as it did. -/
def catalogNewerUptoRow : OpenClaim := { program := "ytckkeeicngblgaa", sum := "382d83c1bbfae8e34b82baf6af6283f4d6fb3f00fdbaf527e3ff2615b6422bd2", func := "hearsay/hearsaylaw.CatalogNewer", spec := "catalogNewer", inPlace := ["slices.overlaps[hearsay/api.Service]"], unfollowed := true, recurses := true, apart := false, narrowed := true }
def CatalogNewerUptoSaid : Prop := catalogNewerUptoRow.holds Try.pinned (OpenSpec.upto catalogNewerSpec)

/-- 'hearsaylaw.CentreOrders', WHERE WHAT IT READS IS OF BULK AT MOST 1048576: true; the input reads as it did. -/
def centreOrdersUptoRow : OpenClaim := { program := "ytckkeeicngblgaa", sum := "382d83c1bbfae8e34b82baf6af6283f4d6fb3f00fdbaf527e3ff2615b6422bd2", func := "hearsay/hearsaylaw.CentreOrders", spec := "centreOrders", inPlace := ["slices.overlaps[hearsay/api.Gateway]"], unfollowed := true, recurses := true, apart := false, narrowed := true }
def CentreOrdersUptoSaid : Prop := centreOrdersUptoRow.holds Try.pinned (OpenSpec.upto centreOrdersSpec)

/-- 'hearsaylaw.CatalogJoins', WHERE WHAT IT READS IS OF BULK AT MOST 1048576: true; the input reads as it did. -/
def catalogJoinsUptoRow : OpenClaim := { program := "ytckkeeicngblgaa", sum := "382d83c1bbfae8e34b82baf6af6283f4d6fb3f00fdbaf527e3ff2615b6422bd2", func := "hearsay/hearsaylaw.CatalogJoins", spec := "catalogJoins", inPlace := ["slices.overlaps[hearsay/api.Service]"], unfollowed := true, recurses := true, apart := false, narrowed := true }
def CatalogJoinsUptoSaid : Prop := catalogJoinsUptoRow.holds Try.pinned (OpenSpec.upto catalogJoinsSpec)

/-- 'hearsaylaw.CatalogOrders', WHERE WHAT IT READS IS OF BULK AT MOST 1048576: true; the input reads as it did. -/
def catalogOrdersUptoRow : OpenClaim := { program := "ytckkeeicngblgaa", sum := "382d83c1bbfae8e34b82baf6af6283f4d6fb3f00fdbaf527e3ff2615b6422bd2", func := "hearsay/hearsaylaw.CatalogOrders", spec := "catalogOrders", inPlace := ["slices.overlaps[hearsay/api.Service]"], unfollowed := true, recurses := true, apart := false, narrowed := true }
def CatalogOrdersUptoSaid : Prop := catalogOrdersUptoRow.holds Try.pinned (OpenSpec.upto catalogOrdersSpec)

/-- 'hearsaylaw.CatalogFound', WHERE WHAT IT READS IS OF BULK AT MOST 1048576: true; the input reads as it did. -/
def catalogFoundUptoRow : OpenClaim := { program := "ytckkeeicngblgaa", sum := "382d83c1bbfae8e34b82baf6af6283f4d6fb3f00fdbaf527e3ff2615b6422bd2", func := "hearsay/hearsaylaw.CatalogFound", spec := "catalogFound", inPlace := ["slices.overlaps[hearsay/api.Service]"], unfollowed := true, recurses := true, apart := false, narrowed := true }
def CatalogFoundUptoSaid : Prop := catalogFoundUptoRow.holds Try.pinned (OpenSpec.upto catalogFoundSpec)

/-- 'hearsaylaw.PlaceSorts', WHERE WHAT IT READS IS OF BULK AT MOST 1048576: true; the input reads as it did. -/
def placeSortsUptoRow : OpenClaim := { program := "ytckkeeicngblgaa", sum := "382d83c1bbfae8e34b82baf6af6283f4d6fb3f00fdbaf527e3ff2615b6422bd2", func := "hearsay/hearsaylaw.PlaceSorts", spec := "placeSorts", unfollowed := true, recurses := true, apart := false, narrowed := true }
def PlaceSortsUptoSaid : Prop := placeSortsUptoRow.holds Try.pinned (OpenSpec.upto placeSortsSpec)

/-- 'hearsaylaw.RumorPuts', WHERE WHAT IT READS IS OF BULK AT MOST 1048576: true; the input reads as it did. -/
def rumorPutsUptoRow : OpenClaim := { program := "ytckkeeicngblgaa", sum := "382d83c1bbfae8e34b82baf6af6283f4d6fb3f00fdbaf527e3ff2615b6422bd2", func := "hearsay/hearsaylaw.RumorPuts", spec := "rumorPuts", unfollowed := true, recurses := true, apart := false, narrowed := true }
def RumorPutsUptoSaid : Prop := rumorPutsUptoRow.holds Try.pinned (OpenSpec.upto rumorPutsSpec)

/-- 'hearsaylaw.RumorTakes', WHERE WHAT IT READS IS OF BULK AT MOST 1048576: true; the input reads as it did. -/
def rumorTakesUptoRow : OpenClaim := { program := "ytckkeeicngblgaa", sum := "382d83c1bbfae8e34b82baf6af6283f4d6fb3f00fdbaf527e3ff2615b6422bd2", func := "hearsay/hearsaylaw.RumorTakes", spec := "rumorTakes", unfollowed := true, recurses := true, apart := false, narrowed := true }
def RumorTakesUptoSaid : Prop := rumorTakesUptoRow.holds Try.pinned (OpenSpec.upto rumorTakesSpec)

/-- 'hearsaylaw.RumorEnds', WHERE WHAT IT READS IS OF BULK AT MOST 1048576: true; the input reads as it did. -/
def rumorEndsUptoRow : OpenClaim := { program := "ytckkeeicngblgaa", sum := "382d83c1bbfae8e34b82baf6af6283f4d6fb3f00fdbaf527e3ff2615b6422bd2", func := "hearsay/hearsaylaw.RumorEnds", spec := "rumorEnds", unfollowed := true, recurses := true, apart := false, narrowed := true }
def RumorEndsUptoSaid : Prop := rumorEndsUptoRow.holds Try.pinned (OpenSpec.upto rumorEndsSpec)

/-- 'hearsaylaw.RumorTimes', WHERE WHAT IT READS IS OF BULK AT MOST 1048576: true; the input reads as it did. -/
def rumorTimesUptoRow : OpenClaim := { program := "ytckkeeicngblgaa", sum := "382d83c1bbfae8e34b82baf6af6283f4d6fb3f00fdbaf527e3ff2615b6422bd2", func := "hearsay/hearsaylaw.RumorTimes", spec := "rumorTimes", unfollowed := true, recurses := true, apart := false, narrowed := true }
def RumorTimesUptoSaid : Prop := rumorTimesUptoRow.holds Try.pinned (OpenSpec.upto rumorTimesSpec)

end Rows
end Go.Proofs.Ytckkeeicngblgaa
