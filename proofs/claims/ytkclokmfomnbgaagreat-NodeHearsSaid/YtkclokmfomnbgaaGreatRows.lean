/-
  No cell of these rows narrows 'for every input' (looked for: loops, veiled, ifaces, maps, wideKeys, modest, calm, conditions, laid).
  DERIVED. THE GIVEN ROWS OF THIS SEAT. 9 by the template 'for every input the law returns true; each argument reads behind the call as it read before'; 0 by the template 'total and deterministic' (their statements: YtkclokmfomnbgaaGreatTotals.lean).
  GIVEN WITH THE SEED: the statements are not yours to turn. If you find one false, say at which input.
  Laid BY PROGRAM, IN A SANDBOX (cutbox-rows.mjs): the forced cells as the released guide's own fill.sh prints them over the translation 562cd1fb4f30efb8… (all of the seat's roots in one cut). By AI agents, Wed Nov 11 2026. No macro, syntax, notation, axiom, sorry.
-/
import Derived.Test.YtkclokmfomnbgaaGreatChecked
import GoSem.Claim
import GoSem.ClaimJoined
import GoSem.ClaimMapViews
import Derived.JoinedTies
import Derived.KernelRfl
namespace Go.Proofs.YtkclokmfomnbgaaGreat
/- THE CELL 'sum', in the pinned program and in every row, IS THE sha256 OF THE DUMP (.gsa) THAT YtkclokmfomnbgaaGreatProg.lean LOADS. Nothing in Lean hashes anything: it is a label: what it is worth is what the hold of that sum in a sandbox is worth. -/
noncomputable def Tryz.pinned : Pinned := { name := "ytkclokmfomnbgaagreat", sum := "562cd1fb4f30efb85da738c4c789b28a6ee1a538c2d075b7395eb9d0c2dc9f88", checked := Tryz.checked }
namespace Rows
def none {H : Type} : Left H := { results := [], args := [] }

/-- 'hearsaylaw.NodeNews': WHATEVER THE INPUT: true; the input reads as it did. -/
def nodeNewsSpec : ChangeSpec := { name := "nodeNews", fn := fun _ => fun
  | [d1, d2, d3, d4] => { results := [.lit (.bool true)], args := [d1, d2, d3, d4] }
  | _ => none }
def nodeNewsRow : OpenClaim := { program := "ytkclokmfomnbgaagreat", sum := "562cd1fb4f30efb85da738c4c789b28a6ee1a538c2d075b7395eb9d0c2dc9f88", func := "hearsay/hearsaylaw.NodeNews", spec := "nodeNews", inPlace := ["slices.overlaps[hearsay/api.Member]", "slices.overlaps[hearsay/api.Service]", "slices.overlaps[hearsay/api.Gateway]", "slices.overlaps[hearsay/api.Where]"], unfollowed := true, recurses := true, apart := false }
def NodeNewsSaid : Prop := nodeNewsRow.holds Tryz.pinned (OpenSpec.ofChange nodeNewsSpec)

/-- ITS FALSE NEIGHBOUR: 'it returns false'. Refute it at one input. -/
def nodeNewsWrong : ChangeSpec := { name := "nodeNews", fn := fun _ => fun
  | [d1, d2, d3, d4] => { results := [.lit (.bool false)], args := [d1, d2, d3, d4] }
  | _ => none }
def NodeNewsWrongFalsely : Prop := nodeNewsRow.holds Tryz.pinned (OpenSpec.ofChange nodeNewsWrong)

/-- 'hearsaylaw.NodeChecks': WHATEVER THE INPUT: true; the input reads as it did. -/
def nodeChecksSpec : ChangeSpec := { name := "nodeChecks", fn := fun _ => fun
  | [d] => { results := [.lit (.bool true)], args := [d] }
  | _ => none }
def nodeChecksRow : OpenClaim := { program := "ytkclokmfomnbgaagreat", sum := "562cd1fb4f30efb85da738c4c789b28a6ee1a538c2d075b7395eb9d0c2dc9f88", func := "hearsay/hearsaylaw.NodeChecks", spec := "nodeChecks", inPlace := ["slices.overlaps[hearsay/api.Member]", "slices.overlaps[hearsay/api.Service]", "slices.overlaps[hearsay/api.Gateway]", "slices.overlaps[hearsay/api.Where]"], unfollowed := true, recurses := true, apart := false }
def NodeChecksSaid : Prop := nodeChecksRow.holds Tryz.pinned (OpenSpec.ofChange nodeChecksSpec)

/-- ITS FALSE NEIGHBOUR: 'it returns false'. Refute it at one input. -/
def nodeChecksWrong : ChangeSpec := { name := "nodeChecks", fn := fun _ => fun
  | [d] => { results := [.lit (.bool false)], args := [d] }
  | _ => none }
def NodeChecksWrongFalsely : Prop := nodeChecksRow.holds Tryz.pinned (OpenSpec.ofChange nodeChecksWrong)

/-- 'hearsaylaw.NodeTells': WHATEVER THE INPUT: true; the input reads as it did. -/
def nodeTellsSpec : ChangeSpec := { name := "nodeTells", fn := fun _ => fun
  | [d] => { results := [.lit (.bool true)], args := [d] }
  | _ => none }
def nodeTellsRow : OpenClaim := { program := "ytkclokmfomnbgaagreat", sum := "562cd1fb4f30efb85da738c4c789b28a6ee1a538c2d075b7395eb9d0c2dc9f88", func := "hearsay/hearsaylaw.NodeTells", spec := "nodeTells", inPlace := ["slices.overlaps[hearsay/api.Member]", "slices.overlaps[hearsay/api.Service]", "slices.overlaps[hearsay/api.Gateway]", "slices.overlaps[hearsay/api.Where]"], unfollowed := true, recurses := true, apart := false }
def NodeTellsSaid : Prop := nodeTellsRow.holds Tryz.pinned (OpenSpec.ofChange nodeTellsSpec)

/-- ITS FALSE NEIGHBOUR: 'it returns false'. Refute it at one input. -/
def nodeTellsWrong : ChangeSpec := { name := "nodeTells", fn := fun _ => fun
  | [d] => { results := [.lit (.bool false)], args := [d] }
  | _ => none }
def NodeTellsWrongFalsely : Prop := nodeTellsRow.holds Tryz.pinned (OpenSpec.ofChange nodeTellsWrong)

/-- 'hearsaylaw.NodeHears': WHATEVER THE INPUT: true; the input reads as it did. -/
def nodeHearsSpec : ChangeSpec := { name := "nodeHears", fn := fun _ => fun
  | [d1, d2] => { results := [.lit (.bool true)], args := [d1, d2] }
  | _ => none }
def nodeHearsRow : OpenClaim := { program := "ytkclokmfomnbgaagreat", sum := "562cd1fb4f30efb85da738c4c789b28a6ee1a538c2d075b7395eb9d0c2dc9f88", func := "hearsay/hearsaylaw.NodeHears", spec := "nodeHears", inPlace := ["slices.overlaps[hearsay/api.Member]", "slices.overlaps[hearsay/api.Service]", "slices.overlaps[hearsay/api.Gateway]", "slices.overlaps[hearsay/api.Where]"], unfollowed := true, recurses := true, apart := false }
def NodeHearsSaid : Prop := nodeHearsRow.holds Tryz.pinned (OpenSpec.ofChange nodeHearsSpec)

/-- ITS FALSE NEIGHBOUR: 'it returns false'. Refute it at one input. -/
def nodeHearsWrong : ChangeSpec := { name := "nodeHears", fn := fun _ => fun
  | [d1, d2] => { results := [.lit (.bool false)], args := [d1, d2] }
  | _ => none }
def NodeHearsWrongFalsely : Prop := nodeHearsRow.holds Tryz.pinned (OpenSpec.ofChange nodeHearsWrong)

/-- 'hearsaylaw.NodeWhole': WHATEVER THE INPUT: true; the input reads as it did. -/
def nodeWholeSpec : ChangeSpec := { name := "nodeWhole", fn := fun _ => fun
  | [d1, d2] => { results := [.lit (.bool true)], args := [d1, d2] }
  | _ => none }
def nodeWholeRow : OpenClaim := { program := "ytkclokmfomnbgaagreat", sum := "562cd1fb4f30efb85da738c4c789b28a6ee1a538c2d075b7395eb9d0c2dc9f88", func := "hearsay/hearsaylaw.NodeWhole", spec := "nodeWhole", inPlace := ["slices.overlaps[hearsay/api.Member]", "slices.overlaps[hearsay/api.Service]", "slices.overlaps[hearsay/api.Gateway]", "slices.overlaps[hearsay/api.Where]"], unfollowed := true, recurses := true, apart := false }
def NodeWholeSaid : Prop := nodeWholeRow.holds Tryz.pinned (OpenSpec.ofChange nodeWholeSpec)

/-- ITS FALSE NEIGHBOUR: 'it returns false'. Refute it at one input. -/
def nodeWholeWrong : ChangeSpec := { name := "nodeWhole", fn := fun _ => fun
  | [d1, d2] => { results := [.lit (.bool false)], args := [d1, d2] }
  | _ => none }
def NodeWholeWrongFalsely : Prop := nodeWholeRow.holds Tryz.pinned (OpenSpec.ofChange nodeWholeWrong)

/-- 'hearsaylaw.NodeGrows': WHATEVER THE INPUT: true; the input reads as it did. -/
def nodeGrowsSpec : ChangeSpec := { name := "nodeGrows", fn := fun _ => fun
  | [d1, d2, d3] => { results := [.lit (.bool true)], args := [d1, d2, d3] }
  | _ => none }
def nodeGrowsRow : OpenClaim := { program := "ytkclokmfomnbgaagreat", sum := "562cd1fb4f30efb85da738c4c789b28a6ee1a538c2d075b7395eb9d0c2dc9f88", func := "hearsay/hearsaylaw.NodeGrows", spec := "nodeGrows", inPlace := ["slices.overlaps[hearsay/api.Member]", "slices.overlaps[hearsay/api.Service]", "slices.overlaps[hearsay/api.Gateway]", "slices.overlaps[hearsay/api.Where]"], unfollowed := true, recurses := true, apart := false }
def NodeGrowsSaid : Prop := nodeGrowsRow.holds Tryz.pinned (OpenSpec.ofChange nodeGrowsSpec)

/-- ITS FALSE NEIGHBOUR: 'it returns false'. Refute it at one input. -/
def nodeGrowsWrong : ChangeSpec := { name := "nodeGrows", fn := fun _ => fun
  | [d1, d2, d3] => { results := [.lit (.bool false)], args := [d1, d2, d3] }
  | _ => none }
def NodeGrowsWrongFalsely : Prop := nodeGrowsRow.holds Tryz.pinned (OpenSpec.ofChange nodeGrowsWrong)

/-- 'hearsaylaw.NodeTurns': WHATEVER THE INPUT: true; the input reads as it did. -/
def nodeTurnsSpec : ChangeSpec := { name := "nodeTurns", fn := fun _ => fun
  | [d1, d2] => { results := [.lit (.bool true)], args := [d1, d2] }
  | _ => none }
def nodeTurnsRow : OpenClaim := { program := "ytkclokmfomnbgaagreat", sum := "562cd1fb4f30efb85da738c4c789b28a6ee1a538c2d075b7395eb9d0c2dc9f88", func := "hearsay/hearsaylaw.NodeTurns", spec := "nodeTurns", inPlace := ["slices.overlaps[hearsay/api.Member]", "slices.overlaps[hearsay/api.Service]", "slices.overlaps[hearsay/api.Gateway]", "slices.overlaps[hearsay/api.Where]"], unfollowed := true, recurses := true, apart := false }
def NodeTurnsSaid : Prop := nodeTurnsRow.holds Tryz.pinned (OpenSpec.ofChange nodeTurnsSpec)

/-- ITS FALSE NEIGHBOUR: 'it returns false'. Refute it at one input. -/
def nodeTurnsWrong : ChangeSpec := { name := "nodeTurns", fn := fun _ => fun
  | [d1, d2] => { results := [.lit (.bool false)], args := [d1, d2] }
  | _ => none }
def NodeTurnsWrongFalsely : Prop := nodeTurnsRow.holds Tryz.pinned (OpenSpec.ofChange nodeTurnsWrong)

/-- 'hearsaylaw.NodeTraces': WHATEVER THE INPUT: true; the input reads as it did. -/
def nodeTracesSpec : ChangeSpec := { name := "nodeTraces", fn := fun _ => fun
  | [d1, d2, d3, d4] => { results := [.lit (.bool true)], args := [d1, d2, d3, d4] }
  | _ => none }
def nodeTracesRow : OpenClaim := { program := "ytkclokmfomnbgaagreat", sum := "562cd1fb4f30efb85da738c4c789b28a6ee1a538c2d075b7395eb9d0c2dc9f88", func := "hearsay/hearsaylaw.NodeTraces", spec := "nodeTraces", inPlace := ["slices.overlaps[hearsay/api.Where]", "slices.overlaps[hearsay/api.Member]", "slices.overlaps[hearsay/api.Service]", "slices.overlaps[hearsay/api.Gateway]"], unfollowed := true, recurses := true, apart := false }
def NodeTracesSaid : Prop := nodeTracesRow.holds Tryz.pinned (OpenSpec.ofChange nodeTracesSpec)

/-- ITS FALSE NEIGHBOUR: 'it returns false'. Refute it at one input. -/
def nodeTracesWrong : ChangeSpec := { name := "nodeTraces", fn := fun _ => fun
  | [d1, d2, d3, d4] => { results := [.lit (.bool false)], args := [d1, d2, d3, d4] }
  | _ => none }
def NodeTracesWrongFalsely : Prop := nodeTracesRow.holds Tryz.pinned (OpenSpec.ofChange nodeTracesWrong)

/-- 'hearsaylaw.NodeServes': WHATEVER THE INPUT: true; the input reads as it did. -/
def nodeServesSpec : ChangeSpec := { name := "nodeServes", fn := fun _ => fun
  | [d1, d2, d3, d4] => { results := [.lit (.bool true)], args := [d1, d2, d3, d4] }
  | _ => none }
def nodeServesRow : OpenClaim := { program := "ytkclokmfomnbgaagreat", sum := "562cd1fb4f30efb85da738c4c789b28a6ee1a538c2d075b7395eb9d0c2dc9f88", func := "hearsay/hearsaylaw.NodeServes", spec := "nodeServes", inPlace := ["slices.overlaps[hearsay/api.Service]", "slices.overlaps[hearsay/api.Gateway]", "slices.overlaps[hearsay/api.Member]", "slices.overlaps[hearsay/api.Where]"], unfollowed := true, recurses := true, apart := false }
def NodeServesSaid : Prop := nodeServesRow.holds Tryz.pinned (OpenSpec.ofChange nodeServesSpec)

/-- ITS FALSE NEIGHBOUR: 'it returns false'. Refute it at one input. -/
def nodeServesWrong : ChangeSpec := { name := "nodeServes", fn := fun _ => fun
  | [d1, d2, d3, d4] => { results := [.lit (.bool false)], args := [d1, d2, d3, d4] }
  | _ => none }
def NodeServesWrongFalsely : Prop := nodeServesRow.holds Tryz.pinned (OpenSpec.ofChange nodeServesWrong)

/- THE SECOND FORM. 'bulk': how many values and letters a reading holds, each counted each time it is reached (what is shared counts as often as it is met; a slice's spare places count too). A statement '..UptoSaid' is the law's where the arguments, and the package variables that the reading takes, are together of bulk at most 1048576: NARROWER than '..Said'. Prove '..Said' where nothing that the law and all that it calls make is longer than what came in: it says more and counts as full. Else prove '..UptoSaid'. A law counts once. -/
mutual
def uptoBulk {H : Type} : DataW H → Nat
  | .lit (.string bytes) => bytes.length + 1
  | .lit _ => 1
  | .nil => 1
  | .ptr d => uptoBulk d + 1
  | .slice elems spare => uptoBulkAll elems + uptoBulkAll spare + 1
  | .agg parts => uptoBulkAll parts + 1
  | .iface _ d => uptoBulk d + 1
  | .map entries => uptoBulkEntries entries + 1
  | .held _ => 1
def uptoBulkAll {H : Type} : List (DataW H) → Nat
  | [] => 0
  | d :: r => uptoBulk d + uptoBulkAll r
def uptoBulkEntries {H : Type} : List (Lit × DataW H) → Nat
  | [] => 0
  | x :: r => uptoBulkEntry x + uptoBulkEntries r
def uptoBulkEntry {H : Type} : Lit × DataW H → Nat
  | (.string bytes, d) => bytes.length + uptoBulk d + 1
  | (_, d) => uptoBulk d + 1
 end
def uptoSmall : (H : Type) → List (DataW H) → Bool := fun _ ds => decide (uptoBulkAll ds ≤ 1048576)
def OpenSpec.upto (s : _root_.Go.ChangeSpec) : _root_.Go.OpenSpec := { _root_.Go.OpenSpec.ofChange s with cond := some uptoSmall }

/-- 'hearsaylaw.NodeNews', WHERE WHAT IT READS IS OF BULK AT MOST 1048576: true; the input reads as it did. -/
def nodeNewsUptoRow : OpenClaim := { program := "ytkclokmfomnbgaagreat", sum := "562cd1fb4f30efb85da738c4c789b28a6ee1a538c2d075b7395eb9d0c2dc9f88", func := "hearsay/hearsaylaw.NodeNews", spec := "nodeNews", inPlace := ["slices.overlaps[hearsay/api.Member]", "slices.overlaps[hearsay/api.Service]", "slices.overlaps[hearsay/api.Gateway]", "slices.overlaps[hearsay/api.Where]"], unfollowed := true, recurses := true, apart := false, narrowed := true }
def NodeNewsUptoSaid : Prop := nodeNewsUptoRow.holds Tryz.pinned (OpenSpec.upto nodeNewsSpec)

/-- 'hearsaylaw.NodeChecks', WHERE WHAT IT READS IS OF BULK AT MOST 1048576: true; the input reads as it did. -/
def nodeChecksUptoRow : OpenClaim := { program := "ytkclokmfomnbgaagreat", sum := "562cd1fb4f30efb85da738c4c789b28a6ee1a538c2d075b7395eb9d0c2dc9f88", func := "hearsay/hearsaylaw.NodeChecks", spec := "nodeChecks", inPlace := ["slices.overlaps[hearsay/api.Member]", "slices.overlaps[hearsay/api.Service]", "slices.overlaps[hearsay/api.Gateway]", "slices.overlaps[hearsay/api.Where]"], unfollowed := true, recurses := true, apart := false, narrowed := true }
def NodeChecksUptoSaid : Prop := nodeChecksUptoRow.holds Tryz.pinned (OpenSpec.upto nodeChecksSpec)

/-- 'hearsaylaw.NodeTells', WHERE WHAT IT READS IS OF BULK AT MOST 1048576: true; the input reads as it did. -/
def nodeTellsUptoRow : OpenClaim := { program := "ytkclokmfomnbgaagreat", sum := "562cd1fb4f30efb85da738c4c789b28a6ee1a538c2d075b7395eb9d0c2dc9f88", func := "hearsay/hearsaylaw.NodeTells", spec := "nodeTells", inPlace := ["slices.overlaps[hearsay/api.Member]", "slices.overlaps[hearsay/api.Service]", "slices.overlaps[hearsay/api.Gateway]", "slices.overlaps[hearsay/api.Where]"], unfollowed := true, recurses := true, apart := false, narrowed := true }
def NodeTellsUptoSaid : Prop := nodeTellsUptoRow.holds Tryz.pinned (OpenSpec.upto nodeTellsSpec)

/-- 'hearsaylaw.NodeHears', WHERE WHAT IT READS IS OF BULK AT MOST 1048576: true; the input reads as it did. -/
def nodeHearsUptoRow : OpenClaim := { program := "ytkclokmfomnbgaagreat", sum := "562cd1fb4f30efb85da738c4c789b28a6ee1a538c2d075b7395eb9d0c2dc9f88", func := "hearsay/hearsaylaw.NodeHears", spec := "nodeHears", inPlace := ["slices.overlaps[hearsay/api.Member]", "slices.overlaps[hearsay/api.Service]", "slices.overlaps[hearsay/api.Gateway]", "slices.overlaps[hearsay/api.Where]"], unfollowed := true, recurses := true, apart := false, narrowed := true }
def NodeHearsUptoSaid : Prop := nodeHearsUptoRow.holds Tryz.pinned (OpenSpec.upto nodeHearsSpec)

/-- 'hearsaylaw.NodeWhole', WHERE WHAT IT READS IS OF BULK AT MOST 1048576: true; the input reads as it did. -/
def nodeWholeUptoRow : OpenClaim := { program := "ytkclokmfomnbgaagreat", sum := "562cd1fb4f30efb85da738c4c789b28a6ee1a538c2d075b7395eb9d0c2dc9f88", func := "hearsay/hearsaylaw.NodeWhole", spec := "nodeWhole", inPlace := ["slices.overlaps[hearsay/api.Member]", "slices.overlaps[hearsay/api.Service]", "slices.overlaps[hearsay/api.Gateway]", "slices.overlaps[hearsay/api.Where]"], unfollowed := true, recurses := true, apart := false, narrowed := true }
def NodeWholeUptoSaid : Prop := nodeWholeUptoRow.holds Tryz.pinned (OpenSpec.upto nodeWholeSpec)

/-- 'hearsaylaw.NodeGrows', WHERE WHAT IT READS IS OF BULK AT MOST 1048576: true; the input reads as it did. -/
def nodeGrowsUptoRow : OpenClaim := { program := "ytkclokmfomnbgaagreat", sum := "562cd1fb4f30efb85da738c4c789b28a6ee1a538c2d075b7395eb9d0c2dc9f88", func := "hearsay/hearsaylaw.NodeGrows", spec := "nodeGrows", inPlace := ["slices.overlaps[hearsay/api.Member]", "slices.overlaps[hearsay/api.Service]", "slices.overlaps[hearsay/api.Gateway]", "slices.overlaps[hearsay/api.Where]"], unfollowed := true, recurses := true, apart := false, narrowed := true }
def NodeGrowsUptoSaid : Prop := nodeGrowsUptoRow.holds Tryz.pinned (OpenSpec.upto nodeGrowsSpec)

/-- 'hearsaylaw.NodeTurns', WHERE WHAT IT READS IS OF BULK AT MOST 1048576: true; the input reads as it did. -/
def nodeTurnsUptoRow : OpenClaim := { program := "ytkclokmfomnbgaagreat", sum := "562cd1fb4f30efb85da738c4c789b28a6ee1a538c2d075b7395eb9d0c2dc9f88", func := "hearsay/hearsaylaw.NodeTurns", spec := "nodeTurns", inPlace := ["slices.overlaps[hearsay/api.Member]", "slices.overlaps[hearsay/api.Service]", "slices.overlaps[hearsay/api.Gateway]", "slices.overlaps[hearsay/api.Where]"], unfollowed := true, recurses := true, apart := false, narrowed := true }
def NodeTurnsUptoSaid : Prop := nodeTurnsUptoRow.holds Tryz.pinned (OpenSpec.upto nodeTurnsSpec)

/-- 'hearsaylaw.NodeTraces', WHERE WHAT IT READS IS OF BULK AT MOST 1048576: true; the input reads as it did. -/
def nodeTracesUptoRow : OpenClaim := { program := "ytkclokmfomnbgaagreat", sum := "562cd1fb4f30efb85da738c4c789b28a6ee1a538c2d075b7395eb9d0c2dc9f88", func := "hearsay/hearsaylaw.NodeTraces", spec := "nodeTraces", inPlace := ["slices.overlaps[hearsay/api.Where]", "slices.overlaps[hearsay/api.Member]", "slices.overlaps[hearsay/api.Service]", "slices.overlaps[hearsay/api.Gateway]"], unfollowed := true, recurses := true, apart := false, narrowed := true }
def NodeTracesUptoSaid : Prop := nodeTracesUptoRow.holds Tryz.pinned (OpenSpec.upto nodeTracesSpec)

/-- 'hearsaylaw.NodeServes', WHERE WHAT IT READS IS OF BULK AT MOST 1048576: true; the input reads as it did. -/
def nodeServesUptoRow : OpenClaim := { program := "ytkclokmfomnbgaagreat", sum := "562cd1fb4f30efb85da738c4c789b28a6ee1a538c2d075b7395eb9d0c2dc9f88", func := "hearsay/hearsaylaw.NodeServes", spec := "nodeServes", inPlace := ["slices.overlaps[hearsay/api.Service]", "slices.overlaps[hearsay/api.Gateway]", "slices.overlaps[hearsay/api.Member]", "slices.overlaps[hearsay/api.Where]"], unfollowed := true, recurses := true, apart := false, narrowed := true }
def NodeServesUptoSaid : Prop := nodeServesUptoRow.holds Tryz.pinned (OpenSpec.upto nodeServesSpec)

end Rows
end Go.Proofs.YtkclokmfomnbgaaGreat
