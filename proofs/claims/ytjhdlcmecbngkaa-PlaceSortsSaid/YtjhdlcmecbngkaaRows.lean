/-
  No cell of these rows narrows 'for every input' (looked for: loops, veiled, ifaces, maps, wideKeys, modest, calm, conditions, laid).
  DERIVED. THE GIVEN ROWS OF THIS SEAT. 5 by the template 'for every input the law returns true; each argument reads behind the call as it read before'; 0 by the template 'total and deterministic' (their statements: YtjhdlcmecbngkaaTotals.lean).
  GIVEN WITH THE SEED: the statements are not yours to turn. If you find one false, say at which input.
  Laid BY PROGRAM, IN A SANDBOX (cutbox-rows.mjs): the forced cells as the released guide's own fill.sh prints them over the translation 5387ad8754348ce8… (all of the seat's roots in one cut). By AI agents, Wed Nov 11 2026. No macro, syntax, notation, axiom, sorry.
-/
import Derived.Test.YtjhdlcmecbngkaaChecked
import GoSem.Claim
import GoSem.ClaimJoined
import GoSem.ClaimMapViews
import Derived.JoinedTies
import Derived.KernelRfl
namespace Go.Proofs.Ytjhdlcmecbngkaa
/- THE CELL 'sum', in the pinned program and in every row, IS THE sha256 OF THE DUMP (.gsa) THAT YtjhdlcmecbngkaaProg.lean LOADS. Nothing in Lean hashes anything: it is a label: what it is worth is what the hold of that sum in a sandbox is worth. -/
noncomputable def Try.pinned : Pinned := { name := "ytjhdlcmecbngkaa", sum := "5387ad8754348ce83d2ba80b0da9fc67a9050aa11827f46582d7e043bad4e4a3", checked := Try.checked }
namespace Rows
def none {H : Type} : Left H := { results := [], args := [] }

/-- 'hearsaylaw.PlaceSorts': WHATEVER THE INPUT: true; the input reads as it did. -/
def placeSortsSpec : ChangeSpec := { name := "placeSorts", fn := fun _ => fun
  | [d1, d2, d3] => { results := [.lit (.bool true)], args := [d1, d2, d3] }
  | _ => none }
def placeSortsRow : OpenClaim := { program := "ytjhdlcmecbngkaa", sum := "5387ad8754348ce83d2ba80b0da9fc67a9050aa11827f46582d7e043bad4e4a3", func := "hearsay/hearsaylaw.PlaceSorts", spec := "placeSorts", unfollowed := true, recurses := true, apart := false }
def PlaceSortsSaid : Prop := placeSortsRow.holds Try.pinned (OpenSpec.ofChange placeSortsSpec)

/-- ITS FALSE NEIGHBOUR: 'it returns false'. Refute it at one input. -/
def placeSortsWrong : ChangeSpec := { name := "placeSorts", fn := fun _ => fun
  | [d1, d2, d3] => { results := [.lit (.bool false)], args := [d1, d2, d3] }
  | _ => none }
def PlaceSortsWrongFalsely : Prop := placeSortsRow.holds Try.pinned (OpenSpec.ofChange placeSortsWrong)

/-- 'hearsaylaw.RumorPuts': WHATEVER THE INPUT: true; the input reads as it did. -/
def rumorPutsSpec : ChangeSpec := { name := "rumorPuts", fn := fun _ => fun
  | [d1, d2] => { results := [.lit (.bool true)], args := [d1, d2] }
  | _ => none }
def rumorPutsRow : OpenClaim := { program := "ytjhdlcmecbngkaa", sum := "5387ad8754348ce83d2ba80b0da9fc67a9050aa11827f46582d7e043bad4e4a3", func := "hearsay/hearsaylaw.RumorPuts", spec := "rumorPuts", unfollowed := true, recurses := true, apart := false }
def RumorPutsSaid : Prop := rumorPutsRow.holds Try.pinned (OpenSpec.ofChange rumorPutsSpec)

/-- ITS FALSE NEIGHBOUR: 'it returns false'. Refute it at one input. -/
def rumorPutsWrong : ChangeSpec := { name := "rumorPuts", fn := fun _ => fun
  | [d1, d2] => { results := [.lit (.bool false)], args := [d1, d2] }
  | _ => none }
def RumorPutsWrongFalsely : Prop := rumorPutsRow.holds Try.pinned (OpenSpec.ofChange rumorPutsWrong)

/-- 'hearsaylaw.RumorTakes': WHATEVER THE INPUT: true; the input reads as it did. -/
def rumorTakesSpec : ChangeSpec := { name := "rumorTakes", fn := fun _ => fun
  | [d1, d2, d3] => { results := [.lit (.bool true)], args := [d1, d2, d3] }
  | _ => none }
def rumorTakesRow : OpenClaim := { program := "ytjhdlcmecbngkaa", sum := "5387ad8754348ce83d2ba80b0da9fc67a9050aa11827f46582d7e043bad4e4a3", func := "hearsay/hearsaylaw.RumorTakes", spec := "rumorTakes", unfollowed := true, recurses := true, apart := false }
def RumorTakesSaid : Prop := rumorTakesRow.holds Try.pinned (OpenSpec.ofChange rumorTakesSpec)

/-- ITS FALSE NEIGHBOUR: 'it returns false'. Refute it at one input. -/
def rumorTakesWrong : ChangeSpec := { name := "rumorTakes", fn := fun _ => fun
  | [d1, d2, d3] => { results := [.lit (.bool false)], args := [d1, d2, d3] }
  | _ => none }
def RumorTakesWrongFalsely : Prop := rumorTakesRow.holds Try.pinned (OpenSpec.ofChange rumorTakesWrong)

/-- 'hearsaylaw.RumorEnds': WHATEVER THE INPUT: true; the input reads as it did. -/
def rumorEndsSpec : ChangeSpec := { name := "rumorEnds", fn := fun _ => fun
  | [d1, d2, d3] => { results := [.lit (.bool true)], args := [d1, d2, d3] }
  | _ => none }
def rumorEndsRow : OpenClaim := { program := "ytjhdlcmecbngkaa", sum := "5387ad8754348ce83d2ba80b0da9fc67a9050aa11827f46582d7e043bad4e4a3", func := "hearsay/hearsaylaw.RumorEnds", spec := "rumorEnds", unfollowed := true, recurses := true, apart := false }
def RumorEndsSaid : Prop := rumorEndsRow.holds Try.pinned (OpenSpec.ofChange rumorEndsSpec)

/-- ITS FALSE NEIGHBOUR: 'it returns false'. Refute it at one input. -/
def rumorEndsWrong : ChangeSpec := { name := "rumorEnds", fn := fun _ => fun
  | [d1, d2, d3] => { results := [.lit (.bool false)], args := [d1, d2, d3] }
  | _ => none }
def RumorEndsWrongFalsely : Prop := rumorEndsRow.holds Try.pinned (OpenSpec.ofChange rumorEndsWrong)

/-- 'hearsaylaw.RumorTimes': WHATEVER THE INPUT: true; the input reads as it did. -/
def rumorTimesSpec : ChangeSpec := { name := "rumorTimes", fn := fun _ => fun
  | [d] => { results := [.lit (.bool true)], args := [d] }
  | _ => none }
def rumorTimesRow : OpenClaim := { program := "ytjhdlcmecbngkaa", sum := "5387ad8754348ce83d2ba80b0da9fc67a9050aa11827f46582d7e043bad4e4a3", func := "hearsay/hearsaylaw.RumorTimes", spec := "rumorTimes", unfollowed := true, recurses := true, apart := false }
def RumorTimesSaid : Prop := rumorTimesRow.holds Try.pinned (OpenSpec.ofChange rumorTimesSpec)

/-- ITS FALSE NEIGHBOUR: 'it returns false'. Refute it at one input. -/
def rumorTimesWrong : ChangeSpec := { name := "rumorTimes", fn := fun _ => fun
  | [d] => { results := [.lit (.bool false)], args := [d] }
  | _ => none }
def RumorTimesWrongFalsely : Prop := rumorTimesRow.holds Try.pinned (OpenSpec.ofChange rumorTimesWrong)

/- THE SECOND FORM. 'bulk': how many values and letters a reading holds, each counted each time it is reached (what is shared counts as often as it is met; a slice's spare places count too). A statement '..UptoSaid' is the law's where the arguments, and the package variables that the reading takes, are together of bulk at most 1048576: NARROWER than '..Said'. Prove '..Said' where nothing that the law and all that it calls make is longer than what came in: it says more and counts as full. Else prove '..UptoSaid'. A law counts once. -/
mutual
def uptoBulk {H : Type} : DataW H → Nat
  | .lit (.string bytes) => bytes.length + 1
  | .lit _ => 1
  | .nil => 1
  | .ptr d => uptoBulk d + 1
  | .slice elems spare => uptoBulkAll elems + uptoBulkAll spare + 1
  | .agg parts => uptoBulkAll parts + 1
  | .iface _ d => uptoBulk d + 1
  | .map entries => uptoBulkEntries entries + 1
  | .held _ => 1
def uptoBulkAll {H : Type} : List (DataW H) → Nat
  | [] => 0
  | d :: r => uptoBulk d + uptoBulkAll r
def uptoBulkEntries {H : Type} : List (Lit × DataW H) → Nat
  | [] => 0
  | x :: r => uptoBulkEntry x + uptoBulkEntries r
def uptoBulkEntry {H : Type} : Lit × DataW H → Nat
  | (.string bytes, d) => bytes.length + uptoBulk d + 1
  | (_, d) => uptoBulk d + 1
 end
def uptoSmall : (H : Type) → List (DataW H) → Bool := fun _ ds => decide (uptoBulkAll ds ≤ 1048576)
def OpenSpec.upto (s : _root_.Go.ChangeSpec) : _root_.Go.OpenSpec := { _root_.Go.OpenSpec.ofChange s with cond := some uptoSmall }

/-- 'hearsaylaw.PlaceSorts', WHERE WHAT IT READS IS OF BULK AT MOST 1048576: true; the input reads as it did. -/
def placeSortsUptoRow : OpenClaim := { program := "ytjhdlcmecbngkaa", sum := "5387ad8754348ce83d2ba80b0da9fc67a9050aa11827f46582d7e043bad4e4a3", func := "hearsay/hearsaylaw.PlaceSorts", spec := "placeSorts", unfollowed := true, recurses := true, apart := false, narrowed := true }
def PlaceSortsUptoSaid : Prop := placeSortsUptoRow.holds Try.pinned (OpenSpec.upto placeSortsSpec)

/-- 'hearsaylaw.RumorPuts', WHERE WHAT IT READS IS OF BULK AT MOST 1048576: true; the input reads as it did. -/
def rumorPutsUptoRow : OpenClaim := { program := "ytjhdlcmecbngkaa", sum := "5387ad8754348ce83d2ba80b0da9fc67a9050aa11827f46582d7e043bad4e4a3", func := "hearsay/hearsaylaw.RumorPuts", spec := "rumorPuts", unfollowed := true, recurses := true, apart := false, narrowed := true }
def RumorPutsUptoSaid : Prop := rumorPutsUptoRow.holds Try.pinned (OpenSpec.upto rumorPutsSpec)

/-- 'hearsaylaw.RumorTakes', WHERE WHAT IT READS IS OF BULK AT MOST 1048576: true; the input reads as it did. -/
def rumorTakesUptoRow : OpenClaim := { program := "ytjhdlcmecbngkaa", sum := "5387ad8754348ce83d2ba80b0da9fc67a9050aa11827f46582d7e043bad4e4a3", func := "hearsay/hearsaylaw.RumorTakes", spec := "rumorTakes", unfollowed := true, recurses := true, apart := false, narrowed := true }
def RumorTakesUptoSaid : Prop := rumorTakesUptoRow.holds Try.pinned (OpenSpec.upto rumorTakesSpec)

/-- 'hearsaylaw.RumorEnds', WHERE WHAT IT READS IS OF BULK AT MOST 1048576: true; the input reads as it did. -/
def rumorEndsUptoRow : OpenClaim := { program := "ytjhdlcmecbngkaa", sum := "5387ad8754348ce83d2ba80b0da9fc67a9050aa11827f46582d7e043bad4e4a3", func := "hearsay/hearsaylaw.RumorEnds", spec := "rumorEnds", unfollowed := true, recurses := true, apart := false, narrowed := true }
def RumorEndsUptoSaid : Prop := rumorEndsUptoRow.holds Try.pinned (OpenSpec.upto rumorEndsSpec)

/-- 'hearsaylaw.RumorTimes', WHERE WHAT IT READS IS OF BULK AT MOST 1048576: true; the input reads as it did. -/
def rumorTimesUptoRow : OpenClaim := { program := "ytjhdlcmecbngkaa", sum := "5387ad8754348ce83d2ba80b0da9fc67a9050aa11827f46582d7e043bad4e4a3", func := "hearsay/hearsaylaw.RumorTimes", spec := "rumorTimes", unfollowed := true, recurses := true, apart := false, narrowed := true }
def RumorTimesUptoSaid : Prop := rumorTimesUptoRow.holds Try.pinned (OpenSpec.upto rumorTimesSpec)

end Rows
end Go.Proofs.Ytjhdlcmecbngkaa
