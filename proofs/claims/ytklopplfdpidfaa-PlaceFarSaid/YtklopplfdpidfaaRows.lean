/-
  No cell of these rows narrows 'for every input' (looked for: loops, veiled, ifaces, maps, wideKeys, modest, calm, conditions, laid).
  DERIVED. THE GIVEN ROWS OF THIS SEAT. 6 by the template 'for every input the law returns true; each argument reads behind the call as it read before'; 0 by the template 'total and deterministic' (their statements: YtklopplfdpidfaaTotals.lean).
  GIVEN WITH THE SEED: the statements are not yours to turn. If you find one false, say at which input.
  Laid BY PROGRAM, IN A SANDBOX (cutbox-rows.mjs): the forced cells as the released guide's own fill.sh prints them over the translation 5bbce55591673f05… (all of the seat's roots in one cut). By AI agents, Wed Nov 11 2026. No macro, syntax, notation, axiom, sorry.
-/
import Derived.Test.YtklopplfdpidfaaChecked
import GoSem.Claim
import GoSem.ClaimJoined
import GoSem.ClaimMapViews
import Derived.JoinedTies
import Derived.KernelRfl
namespace Go.Proofs.Ytklopplfdpidfaa
/- THE CELL 'sum', in the pinned program and in every row, IS THE sha256 OF THE DUMP (.gsa) THAT YtklopplfdpidfaaProg.lean LOADS. Nothing in Lean hashes anything: it is a label: what it is worth is what the hold of that sum in a sandbox is worth. -/
noncomputable def Try.pinned : Pinned := { name := "ytklopplfdpidfaa", sum := "5bbce55591673f053bb56d3bae231e4bf1bb82e569cb6c9de22c5ec356fdf08f", checked := Try.checked }
namespace Rows
def none {H : Type} : Left H := { results := [], args := [] }

/-- 'hearsaylaw.PlaceRoots': WHATEVER THE INPUT: true; the input reads as it did. -/
def placeRootsSpec : ChangeSpec := { name := "placeRoots", fn := fun _ => fun
  | [d] => { results := [.lit (.bool true)], args := [d] }
  | _ => none }
def placeRootsRow : OpenClaim := { program := "ytklopplfdpidfaa", sum := "5bbce55591673f053bb56d3bae231e4bf1bb82e569cb6c9de22c5ec356fdf08f", func := "hearsay/hearsaylaw.PlaceRoots", spec := "placeRoots", unfollowed := true, recurses := true, apart := false }
def PlaceRootsSaid : Prop := placeRootsRow.holds Try.pinned (OpenSpec.ofChange placeRootsSpec)

/-- ITS FALSE NEIGHBOUR: 'it returns false'. Refute it at one input. -/
def placeRootsWrong : ChangeSpec := { name := "placeRoots", fn := fun _ => fun
  | [d] => { results := [.lit (.bool false)], args := [d] }
  | _ => none }
def PlaceRootsWrongFalsely : Prop := placeRootsRow.holds Try.pinned (OpenSpec.ofChange placeRootsWrong)

/-- 'hearsaylaw.PlaceRooted': WHATEVER THE INPUT: true; the input reads as it did. -/
def placeRootedSpec : ChangeSpec := { name := "placeRooted", fn := fun _ => fun
  | [d] => { results := [.lit (.bool true)], args := [d] }
  | _ => none }
def placeRootedRow : OpenClaim := { program := "ytklopplfdpidfaa", sum := "5bbce55591673f053bb56d3bae231e4bf1bb82e569cb6c9de22c5ec356fdf08f", func := "hearsay/hearsaylaw.PlaceRooted", spec := "placeRooted", unfollowed := true, recurses := true, apart := false }
def PlaceRootedSaid : Prop := placeRootedRow.holds Try.pinned (OpenSpec.ofChange placeRootedSpec)

/-- ITS FALSE NEIGHBOUR: 'it returns false'. Refute it at one input. -/
def placeRootedWrong : ChangeSpec := { name := "placeRooted", fn := fun _ => fun
  | [d] => { results := [.lit (.bool false)], args := [d] }
  | _ => none }
def PlaceRootedWrongFalsely : Prop := placeRootedRow.holds Try.pinned (OpenSpec.ofChange placeRootedWrong)

/-- 'hearsaylaw.PlaceFar': WHATEVER THE INPUT: true; the input reads as it did. -/
def placeFarSpec : ChangeSpec := { name := "placeFar", fn := fun _ => fun
  | [d1, d2] => { results := [.lit (.bool true)], args := [d1, d2] }
  | _ => none }
def placeFarRow : OpenClaim := { program := "ytklopplfdpidfaa", sum := "5bbce55591673f053bb56d3bae231e4bf1bb82e569cb6c9de22c5ec356fdf08f", func := "hearsay/hearsaylaw.PlaceFar", spec := "placeFar", unfollowed := true, recurses := true, apart := false }
def PlaceFarSaid : Prop := placeFarRow.holds Try.pinned (OpenSpec.ofChange placeFarSpec)

/-- ITS FALSE NEIGHBOUR: 'it returns false'. Refute it at one input. -/
def placeFarWrong : ChangeSpec := { name := "placeFar", fn := fun _ => fun
  | [d1, d2] => { results := [.lit (.bool false)], args := [d1, d2] }
  | _ => none }
def PlaceFarWrongFalsely : Prop := placeFarRow.holds Try.pinned (OpenSpec.ofChange placeFarWrong)

/-- 'hearsaylaw.PlaceMoves': WHATEVER THE INPUT: true; the input reads as it did. -/
def placeMovesSpec : ChangeSpec := { name := "placeMoves", fn := fun _ => fun
  | [d1, d2, d3] => { results := [.lit (.bool true)], args := [d1, d2, d3] }
  | _ => none }
def placeMovesRow : OpenClaim := { program := "ytklopplfdpidfaa", sum := "5bbce55591673f053bb56d3bae231e4bf1bb82e569cb6c9de22c5ec356fdf08f", func := "hearsay/hearsaylaw.PlaceMoves", spec := "placeMoves", unfollowed := true, recurses := true, apart := false }
def PlaceMovesSaid : Prop := placeMovesRow.holds Try.pinned (OpenSpec.ofChange placeMovesSpec)

/-- ITS FALSE NEIGHBOUR: 'it returns false'. Refute it at one input. -/
def placeMovesWrong : ChangeSpec := { name := "placeMoves", fn := fun _ => fun
  | [d1, d2, d3] => { results := [.lit (.bool false)], args := [d1, d2, d3] }
  | _ => none }
def PlaceMovesWrongFalsely : Prop := placeMovesRow.holds Try.pinned (OpenSpec.ofChange placeMovesWrong)

/-- 'hearsaylaw.PlaceKeeps': WHATEVER THE INPUT: true; the input reads as it did. -/
def placeKeepsSpec : ChangeSpec := { name := "placeKeeps", fn := fun _ => fun
  | [d1, d2, d3] => { results := [.lit (.bool true)], args := [d1, d2, d3] }
  | _ => none }
def placeKeepsRow : OpenClaim := { program := "ytklopplfdpidfaa", sum := "5bbce55591673f053bb56d3bae231e4bf1bb82e569cb6c9de22c5ec356fdf08f", func := "hearsay/hearsaylaw.PlaceKeeps", spec := "placeKeeps", unfollowed := true, recurses := true, apart := false }
def PlaceKeepsSaid : Prop := placeKeepsRow.holds Try.pinned (OpenSpec.ofChange placeKeepsSpec)

/-- ITS FALSE NEIGHBOUR: 'it returns false'. Refute it at one input. -/
def placeKeepsWrong : ChangeSpec := { name := "placeKeeps", fn := fun _ => fun
  | [d1, d2, d3] => { results := [.lit (.bool false)], args := [d1, d2, d3] }
  | _ => none }
def PlaceKeepsWrongFalsely : Prop := placeKeepsRow.holds Try.pinned (OpenSpec.ofChange placeKeepsWrong)

/-- 'hearsaylaw.PlaceSorts': WHATEVER THE INPUT: true; the input reads as it did. -/
def placeSortsSpec : ChangeSpec := { name := "placeSorts", fn := fun _ => fun
  | [d1, d2, d3] => { results := [.lit (.bool true)], args := [d1, d2, d3] }
  | _ => none }
def placeSortsRow : OpenClaim := { program := "ytklopplfdpidfaa", sum := "5bbce55591673f053bb56d3bae231e4bf1bb82e569cb6c9de22c5ec356fdf08f", func := "hearsay/hearsaylaw.PlaceSorts", spec := "placeSorts", unfollowed := true, recurses := true, apart := false }
def PlaceSortsSaid : Prop := placeSortsRow.holds Try.pinned (OpenSpec.ofChange placeSortsSpec)

/-- ITS FALSE NEIGHBOUR: 'it returns false'. Refute it at one input. -/
def placeSortsWrong : ChangeSpec := { name := "placeSorts", fn := fun _ => fun
  | [d1, d2, d3] => { results := [.lit (.bool false)], args := [d1, d2, d3] }
  | _ => none }
def PlaceSortsWrongFalsely : Prop := placeSortsRow.holds Try.pinned (OpenSpec.ofChange placeSortsWrong)

/- THE SECOND FORM. 'bulk': how many values and letters a reading holds, each counted each time it is reached (what is shared counts as often as it is met; a slice's spare places count too). A statement '..UptoSaid' is the law's where the arguments, and the package variables that the reading takes, are together of bulk at most 1048576: NARROWER than '..Said'. Prove '..Said' where nothing that the law and all that it calls make is longer than what came in: it says more and counts as full. Else prove '..UptoSaid'. A law counts once. -/
mutual
def uptoBulk {H : Type} : DataW H → Nat
  | .lit (.string bytes) => bytes.length + 1
  | .lit _ => 1
  | .nil => 1
  | .ptr d => uptoBulk d + 1
  | .slice elems spare => uptoBulkAll elems + uptoBulkAll spare + 1
  | .agg parts => uptoBulkAll parts + 1
  | .iface _ d => uptoBulk d + 1
  | .map entries => uptoBulkEntries entries + 1
  | .held _ => 1
def uptoBulkAll {H : Type} : List (DataW H) → Nat
  | [] => 0
  | d :: r => uptoBulk d + uptoBulkAll r
def uptoBulkEntries {H : Type} : List (Lit × DataW H) → Nat
  | [] => 0
  | x :: r => uptoBulkEntry x + uptoBulkEntries r
def uptoBulkEntry {H : Type} : Lit × DataW H → Nat
  | (.string bytes, d) => bytes.length + uptoBulk d + 1
  | (_, d) => uptoBulk d + 1
 end
def uptoSmall : (H : Type) → List (DataW H) → Bool := fun _ ds => decide (uptoBulkAll ds ≤ 1048576)
def OpenSpec.upto (s : _root_.Go.ChangeSpec) : _root_.Go.OpenSpec := { _root_.Go.OpenSpec.ofChange s with cond := some uptoSmall }

/-- 'hearsaylaw.PlaceRoots', WHERE WHAT IT READS IS OF BULK AT MOST 1048576: true; the input reads as it did. -/
def placeRootsUptoRow : OpenClaim := { program := "ytklopplfdpidfaa", sum := "5bbce55591673f053bb56d3bae231e4bf1bb82e569cb6c9de22c5ec356fdf08f", func := "hearsay/hearsaylaw.PlaceRoots", spec := "placeRoots", unfollowed := true, recurses := true, apart := false, narrowed := true }
def PlaceRootsUptoSaid : Prop := placeRootsUptoRow.holds Try.pinned (OpenSpec.upto placeRootsSpec)

/-- 'hearsaylaw.PlaceRooted', WHERE WHAT IT READS IS OF BULK AT MOST 1048576: true; the input reads as it did. -/
def placeRootedUptoRow : OpenClaim := { program := "ytklopplfdpidfaa", sum := "5bbce55591673f053bb56d3bae231e4bf1bb82e569cb6c9de22c5ec356fdf08f", func := "hearsay/hearsaylaw.PlaceRooted", spec := "placeRooted", unfollowed := true, recurses := true, apart := false, narrowed := true }
def PlaceRootedUptoSaid : Prop := placeRootedUptoRow.holds Try.pinned (OpenSpec.upto placeRootedSpec)

/-- 'hearsaylaw.PlaceFar', WHERE WHAT IT READS IS OF BULK AT MOST 1048576: true; the input reads as it did. -/
def placeFarUptoRow : OpenClaim := { program := "ytklopplfdpidfaa", sum := "5bbce55591673f053bb56d3bae231e4bf1bb82e569cb6c9de22c5ec356fdf08f", func := "hearsay/hearsaylaw.PlaceFar", spec := "placeFar", unfollowed := true, recurses := true, apart := false, narrowed := true }
def PlaceFarUptoSaid : Prop := placeFarUptoRow.holds Try.pinned (OpenSpec.upto placeFarSpec)

/-- 'hearsaylaw.PlaceMoves', WHERE WHAT IT READS IS OF BULK AT MOST 1048576: true; the input reads as it did. -/
def placeMovesUptoRow : OpenClaim := { program := "ytklopplfdpidfaa", sum := "5bbce55591673f053bb56d3bae231e4bf1bb82e569cb6c9de22c5ec356fdf08f", func := "hearsay/hearsaylaw.PlaceMoves", spec := "placeMoves", unfollowed := true, recurses := true, apart := false, narrowed := true }
def PlaceMovesUptoSaid : Prop := placeMovesUptoRow.holds Try.pinned (OpenSpec.upto placeMovesSpec)

/-- 'hearsaylaw.PlaceKeeps', WHERE WHAT IT READS IS OF BULK AT MOST 1048576: true; the input reads as it did. -/
def placeKeepsUptoRow : OpenClaim := { program := "ytklopplfdpidfaa", sum := "5bbce55591673f053bb56d3bae231e4bf1bb82e569cb6c9de22c5ec356fdf08f", func := "hearsay/hearsaylaw.PlaceKeeps", spec := "placeKeeps", unfollowed := true, recurses := true, apart := false, narrowed := true }
def PlaceKeepsUptoSaid : Prop := placeKeepsUptoRow.holds Try.pinned (OpenSpec.upto placeKeepsSpec)

/-- 'hearsaylaw.PlaceSorts', WHERE WHAT IT READS IS OF BULK AT MOST 1048576: true; the input reads as it did. -/
def placeSortsUptoRow : OpenClaim := { program := "ytklopplfdpidfaa", sum := "5bbce55591673f053bb56d3bae231e4bf1bb82e569cb6c9de22c5ec356fdf08f", func := "hearsay/hearsaylaw.PlaceSorts", spec := "placeSorts", unfollowed := true, recurses := true, apart := false, narrowed := true }
def PlaceSortsUptoSaid : Prop := placeSortsUptoRow.holds Try.pinned (OpenSpec.upto placeSortsSpec)

end Rows
end Go.Proofs.Ytklopplfdpidfaa
