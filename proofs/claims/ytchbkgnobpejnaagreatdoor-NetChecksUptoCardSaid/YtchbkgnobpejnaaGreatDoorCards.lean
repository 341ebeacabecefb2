/-
  DERIVED. GIVEN WITH THE SEED: THE CARDS: each row of YtchbkgnobpejnaaGreatDoorRows.lean that lists a variable, with what it lists TIED to the program's text (the seventh form; the later family's looks); each row that meets fmt, with fmt's text TOLD by the authors' own Lean function (tested against real Go, not proved from fmt's source: count such statements apart). THE CARD IS WHAT COUNTS. Prove the row's statement (the work); the ties are given (YtchbkgnobpejnaaGreatDoorTie.lean); close each card by the builder's one call (the guide's Derived/Test/ToyasCard.lean, 'card_holds'). Laid BY PROGRAM, IN A SANDBOX (cutbox-door.mjs). By AI agents, Wed Nov 11 2026. No macro, syntax, notation, axiom, sorry.
-/
import Derived.Test.YtchbkgnobpejnaaGreatDoorRows
import GoSem.ClaimSeven
namespace Go.Proofs.YtchbkgnobpejnaaGreatDoor
namespace Rows

/-- THE TIED CARD OF 'hearsaylaw.NetChecks'. -/
def netChecksCard : Claim7 := { stood := { row := netChecksRow, standIns := [], harness := (true, "fcbf776eb6cca855cc01fa0af636734d516754679e10562a488996dc6fd858d9"), looks := true }, kinds := [], alts := [], laidByText := true, laidKinds := [.data, .data, .data, .sentinel, .sentinel], laidTests := true, laidLooks := .later }
def NetChecksCardSaid : Prop := Claim7.holds Tryz.pinned (.plain (OpenSpec.ofChange netChecksSpec)) netChecksCard

/-- THE TIED CARD OF 'hearsaylaw.NetNews'. -/
def netNewsCard : Claim7 := { stood := { row := netNewsRow, standIns := [], harness := (true, "fcbf776eb6cca855cc01fa0af636734d516754679e10562a488996dc6fd858d9"), looks := true }, kinds := [], alts := [], laidByText := true, laidKinds := [.data, .data, .data, .sentinel, .sentinel], laidTests := true, laidLooks := .later }
def NetNewsCardSaid : Prop := Claim7.holds Tryz.pinned (.plain (OpenSpec.ofChange netNewsSpec)) netNewsCard

/-- THE SECOND FORM's CARD OF 'hearsaylaw.NetChecks'. -/
def netChecksUptoCard : Claim7 := { stood := { row := netChecksUptoRow, standIns := [], harness := (true, "fcbf776eb6cca855cc01fa0af636734d516754679e10562a488996dc6fd858d9"), looks := true }, kinds := [], alts := [], laidByText := true, laidKinds := [.data, .data, .data, .sentinel, .sentinel], laidTests := true, laidLooks := .later }
def NetChecksUptoCardSaid : Prop := Claim7.holds Tryz.pinned (.plain (OpenSpec.upto netChecksSpec)) netChecksUptoCard

/-- THE SECOND FORM's CARD OF 'hearsaylaw.NetNews'. -/
def netNewsUptoCard : Claim7 := { stood := { row := netNewsUptoRow, standIns := [], harness := (true, "fcbf776eb6cca855cc01fa0af636734d516754679e10562a488996dc6fd858d9"), looks := true }, kinds := [], alts := [], laidByText := true, laidKinds := [.data, .data, .data, .sentinel, .sentinel], laidTests := true, laidLooks := .later }
def NetNewsUptoCardSaid : Prop := Claim7.holds Tryz.pinned (.plain (OpenSpec.upto netNewsSpec)) netNewsUptoCard
end Rows
end Go.Proofs.YtchbkgnobpejnaaGreatDoor
