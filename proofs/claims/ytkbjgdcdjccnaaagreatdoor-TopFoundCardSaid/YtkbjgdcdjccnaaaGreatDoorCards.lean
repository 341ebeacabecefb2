/-
  DERIVED. GIVEN WITH THE SEED: THE CARDS: each row of YtkbjgdcdjccnaaaGreatDoorRows.lean that lists a variable, with what it lists TIED to the program's text (the seventh form; the later family's looks); each row that meets fmt, with fmt's text TOLD by the authors' own Lean function (tested against real Go, not proved from fmt's source: count such statements apart). THE CARD IS WHAT COUNTS. Prove the row's statement (the work); the ties are given (YtkbjgdcdjccnaaaGreatDoorTie.lean); close each card by the builder's one call (the guide's Derived/Test/ToyasCard.lean, 'card_holds'). Laid BY PROGRAM, IN A SANDBOX (cutbox-door.mjs). By AI agents, Wed Nov 11 2026. No macro, syntax, notation, axiom, sorry.
-/
import Derived.Test.YtkbjgdcdjccnaaaGreatDoorRows
import GoSem.ClaimSeven
namespace Go.Proofs.YtkbjgdcdjccnaaaGreatDoor
namespace Rows

/-- THE TIED CARD OF 'hearsaylaw.RestLists'. -/
def restListsCard : Claim7 := { stood := { row := restListsRow, standIns := [], harness := (true, "42e521c4a84382bf2544d19b5935c9ba210cae4f50bbfd9c3b57af9a45a47e1c"), looks := true }, kinds := [], alts := [], laidByText := true, laidKinds := [.data, .pinned], laidTests := true, laidLooks := .later }
def RestListsCardSaid : Prop := Claim7.holds Tryz.pinned (.plain (OpenSpec.ofChange restListsSpec)) restListsCard

/-- THE TIED CARD OF 'hearsaylaw.NodeAsks'. -/
def nodeAsksCard : Claim7 := { stood := { row := nodeAsksRow, standIns := [], harness := (true, "42e521c4a84382bf2544d19b5935c9ba210cae4f50bbfd9c3b57af9a45a47e1c"), looks := true }, kinds := [], alts := [], laidByText := true, laidKinds := [.data, .pinned], laidTests := true, laidLooks := .later }
def NodeAsksCardSaid : Prop := Claim7.holds Tryz.pinned (.plain (OpenSpec.ofChange nodeAsksSpec)) nodeAsksCard

/-- THE TIED CARD OF 'hearsaylaw.NodeRoutes'. -/
def nodeRoutesCard : Claim7 := { stood := { row := nodeRoutesRow, standIns := [], harness := (true, "42e521c4a84382bf2544d19b5935c9ba210cae4f50bbfd9c3b57af9a45a47e1c"), looks := true }, kinds := [], alts := [], laidByText := true, laidKinds := [.data, .pinned], laidTests := true, laidLooks := .later }
def NodeRoutesCardSaid : Prop := Claim7.holds Tryz.pinned (.plain (OpenSpec.ofChange nodeRoutesSpec)) nodeRoutesCard

/-- THE TIED CARD OF 'hearsaylaw.TopFound'. -/
def topFoundCard : Claim7 := { stood := { row := topFoundRow, standIns := [], harness := (true, "42e521c4a84382bf2544d19b5935c9ba210cae4f50bbfd9c3b57af9a45a47e1c"), looks := true }, kinds := [], alts := [], laidByText := true, laidKinds := [.data, .pinned], laidTests := true, laidLooks := .later }
def TopFoundCardSaid : Prop := Claim7.holds Tryz.pinned (.plain (OpenSpec.ofChange topFoundSpec)) topFoundCard

/-- THE SECOND FORM's CARD OF 'hearsaylaw.RestLists'. -/
def restListsUptoCard : Claim7 := { stood := { row := restListsUptoRow, standIns := [], harness := (true, "42e521c4a84382bf2544d19b5935c9ba210cae4f50bbfd9c3b57af9a45a47e1c"), looks := true }, kinds := [], alts := [], laidByText := true, laidKinds := [.data, .pinned], laidTests := true, laidLooks := .later }
def RestListsUptoCardSaid : Prop := Claim7.holds Tryz.pinned (.plain (OpenSpec.upto restListsSpec)) restListsUptoCard

/-- THE SECOND FORM's CARD OF 'hearsaylaw.NodeAsks'. -/
def nodeAsksUptoCard : Claim7 := { stood := { row := nodeAsksUptoRow, standIns := [], harness := (true, "42e521c4a84382bf2544d19b5935c9ba210cae4f50bbfd9c3b57af9a45a47e1c"), looks := true }, kinds := [], alts := [], laidByText := true, laidKinds := [.data, .pinned], laidTests := true, laidLooks := .later }
def NodeAsksUptoCardSaid : Prop := Claim7.holds Tryz.pinned (.plain (OpenSpec.upto nodeAsksSpec)) nodeAsksUptoCard

/-- THE SECOND FORM's CARD OF 'hearsaylaw.NodeRoutes'. -/
def nodeRoutesUptoCard : Claim7 := { stood := { row := nodeRoutesUptoRow, standIns := [], harness := (true, "42e521c4a84382bf2544d19b5935c9ba210cae4f50bbfd9c3b57af9a45a47e1c"), looks := true }, kinds := [], alts := [], laidByText := true, laidKinds := [.data, .pinned], laidTests := true, laidLooks := .later }
def NodeRoutesUptoCardSaid : Prop := Claim7.holds Tryz.pinned (.plain (OpenSpec.upto nodeRoutesSpec)) nodeRoutesUptoCard

/-- THE SECOND FORM's CARD OF 'hearsaylaw.TopFound'. -/
def topFoundUptoCard : Claim7 := { stood := { row := topFoundUptoRow, standIns := [], harness := (true, "42e521c4a84382bf2544d19b5935c9ba210cae4f50bbfd9c3b57af9a45a47e1c"), looks := true }, kinds := [], alts := [], laidByText := true, laidKinds := [.data, .pinned], laidTests := true, laidLooks := .later }
def TopFoundUptoCardSaid : Prop := Claim7.holds Tryz.pinned (.plain (OpenSpec.upto topFoundSpec)) topFoundUptoCard
end Rows
end Go.Proofs.YtkbjgdcdjccnaaaGreatDoor
