/-
  DERIVED. GIVEN WITH THE SEED: THE CARDS: each row of YteflnbjmjcbmmaaGreatDoorRows.lean that lists a variable, with what it lists TIED to the program's text (the seventh form; the later family's looks); each row that meets fmt, with fmt's text TOLD by the authors' own Lean function (tested against real Go, not proved from fmt's source: count such statements apart). THE CARD IS WHAT COUNTS. Prove the row's statement (the work); the ties are given (YteflnbjmjcbmmaaGreatDoorTie.lean); close each card by the builder's one call (the guide's Derived/Test/ToyasCard.lean, 'card_holds'). Laid BY PROGRAM, IN A SANDBOX (cutbox-door.mjs). By AI agents, Wed Nov 11 2026. No macro, syntax, notation, axiom, sorry.
-/
import Derived.Test.YteflnbjmjcbmmaaGreatDoorRows
import GoSem.ClaimSeven
namespace Go.Proofs.YteflnbjmjcbmmaaGreatDoor
namespace Rows

/-- THE TIED CARD OF 'hearsaylaw.PacketWrites'. -/
def packetWritesCard : Claim7 := { stood := { row := packetWritesRow, standIns := [], harness := (true, "91b627eddc3a5a1e84625e9e15432bd116db3bf5bda1bb4a03a5bdff7fe81164"), looks := true }, kinds := [], alts := [], laidByText := true, laidKinds := [.data, .data, .data, .sentinel, .sentinel], laidTests := true, laidLooks := .later }
def PacketWritesCardSaid : Prop := Claim7.holds Tryz.pinned (.plain (OpenSpec.ofChange packetWritesSpec)) packetWritesCard

/-- THE TIED CARD OF 'hearsaylaw.PacketReads'. -/
def packetReadsCard : Claim7 := { stood := { row := packetReadsRow, standIns := [], harness := (true, "91b627eddc3a5a1e84625e9e15432bd116db3bf5bda1bb4a03a5bdff7fe81164"), looks := true }, kinds := [], alts := [], laidByText := true, laidKinds := [.data, .data, .data, .sentinel, .sentinel], laidTests := true, laidLooks := .later }
def PacketReadsCardSaid : Prop := Claim7.holds Tryz.pinned (.plain (OpenSpec.ofChange packetReadsSpec)) packetReadsCard

/-- THE TIED CARD OF 'hearsaylaw.PacketBack'. -/
def packetBackCard : Claim7 := { stood := { row := packetBackRow, standIns := [], harness := (true, "91b627eddc3a5a1e84625e9e15432bd116db3bf5bda1bb4a03a5bdff7fe81164"), looks := true }, kinds := [], alts := [], laidByText := true, laidKinds := [.data, .data, .data, .sentinel, .sentinel], laidTests := true, laidLooks := .later }
def PacketBackCardSaid : Prop := Claim7.holds Tryz.pinned (.plain (OpenSpec.ofChange packetBackSpec)) packetBackCard

/-- THE SECOND FORM's CARD OF 'hearsaylaw.PacketWrites'. -/
def packetWritesUptoCard : Claim7 := { stood := { row := packetWritesUptoRow, standIns := [], harness := (true, "91b627eddc3a5a1e84625e9e15432bd116db3bf5bda1bb4a03a5bdff7fe81164"), looks := true }, kinds := [], alts := [], laidByText := true, laidKinds := [.data, .data, .data, .sentinel, .sentinel], laidTests := true, laidLooks := .later }
def PacketWritesUptoCardSaid : Prop := Claim7.holds Tryz.pinned (.plain (OpenSpec.upto packetWritesSpec)) packetWritesUptoCard

/-- THE SECOND FORM's CARD OF 'hearsaylaw.PacketReads'. -/
def packetReadsUptoCard : Claim7 := { stood := { row := packetReadsUptoRow, standIns := [], harness := (true, "91b627eddc3a5a1e84625e9e15432bd116db3bf5bda1bb4a03a5bdff7fe81164"), looks := true }, kinds := [], alts := [], laidByText := true, laidKinds := [.data, .data, .data, .sentinel, .sentinel], laidTests := true, laidLooks := .later }
def PacketReadsUptoCardSaid : Prop := Claim7.holds Tryz.pinned (.plain (OpenSpec.upto packetReadsSpec)) packetReadsUptoCard

/-- THE SECOND FORM's CARD OF 'hearsaylaw.PacketBack'. -/
def packetBackUptoCard : Claim7 := { stood := { row := packetBackUptoRow, standIns := [], harness := (true, "91b627eddc3a5a1e84625e9e15432bd116db3bf5bda1bb4a03a5bdff7fe81164"), looks := true }, kinds := [], alts := [], laidByText := true, laidKinds := [.data, .data, .data, .sentinel, .sentinel], laidTests := true, laidLooks := .later }
def PacketBackUptoCardSaid : Prop := Claim7.holds Tryz.pinned (.plain (OpenSpec.upto packetBackSpec)) packetBackUptoCard
end Rows
end Go.Proofs.YteflnbjmjcbmmaaGreatDoor
