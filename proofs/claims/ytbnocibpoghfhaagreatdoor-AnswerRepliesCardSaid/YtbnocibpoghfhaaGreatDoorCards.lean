/-
  DERIVED. GIVEN WITH THE SEED: THE CARDS: each row of YtbnocibpoghfhaaGreatDoorRows.lean that lists a variable, with what it lists TIED to the program's text (the seventh form; the later family's looks); each row that meets fmt, with fmt's text TOLD by the authors' own Lean function (tested against real Go, not proved from fmt's source: count such statements apart). THE CARD IS WHAT COUNTS. Prove the row's statement (the work); the ties are given (YtbnocibpoghfhaaGreatDoorTie.lean); close each card by the builder's one call (the guide's Derived/Test/ToyasCard.lean, 'card_holds'). Laid BY PROGRAM, IN A SANDBOX (cutbox-door.mjs). By AI agents, Wed Nov 11 2026. No macro, syntax, notation, axiom, sorry.
-/
import Derived.Test.YtbnocibpoghfhaaGreatDoorRows
import GoSem.ClaimSeven
namespace Go.Proofs.YtbnocibpoghfhaaGreatDoor
namespace Rows

/-- THE TIED CARD OF 'hearsaylaw.AnswerRecords'. -/
def answerRecordsCard : Claim7 := { stood := { row := answerRecordsRow, standIns := [], harness := (true, "b6081297d5b6fb5f01f717ce3cbc2c56f08091faf97ad2d7e3efd0d73abd9d89"), looks := true }, kinds := [], alts := [], laidByText := true, laidKinds := [.data, .pinned], laidTests := true, laidLooks := .later }
def AnswerRecordsCardSaid : Prop := Claim7.holds Tryz.pinned (.plain (OpenSpec.ofChange answerRecordsSpec)) answerRecordsCard

/-- THE TIED CARD OF 'hearsaylaw.AnswerTrue'. -/
def answerTrueCard : Claim7 := { stood := { row := answerTrueRow, standIns := [], harness := (true, "b6081297d5b6fb5f01f717ce3cbc2c56f08091faf97ad2d7e3efd0d73abd9d89"), looks := true }, kinds := [], alts := [], laidByText := true, laidKinds := [.data, .pinned], laidTests := true, laidLooks := .later }
def AnswerTrueCardSaid : Prop := Claim7.holds Tryz.pinned (.plain (OpenSpec.ofChange answerTrueSpec)) answerTrueCard

/-- THE TIED CARD OF 'hearsaylaw.AnswerReplies'. -/
def answerRepliesCard : Claim7 := { stood := { row := answerRepliesRow, standIns := [], harness := (true, "b6081297d5b6fb5f01f717ce3cbc2c56f08091faf97ad2d7e3efd0d73abd9d89"), looks := true }, kinds := [], alts := [], laidByText := true, laidKinds := [.data, .pinned], laidTests := true, laidLooks := .later }
def AnswerRepliesCardSaid : Prop := Claim7.holds Tryz.pinned (.plain (OpenSpec.ofChange answerRepliesSpec)) answerRepliesCard

/-- THE TIED CARD OF 'hearsaylaw.AnswerAsks'. -/
def answerAsksCard : Claim7 := { stood := { row := answerAsksRow, standIns := [], harness := (true, "b6081297d5b6fb5f01f717ce3cbc2c56f08091faf97ad2d7e3efd0d73abd9d89"), looks := true }, kinds := [], alts := [], laidByText := true, laidKinds := [.data, .pinned], laidTests := true, laidLooks := .later }
def AnswerAsksCardSaid : Prop := Claim7.holds Tryz.pinned (.plain (OpenSpec.ofChange answerAsksSpec)) answerAsksCard

/-- THE TIED CARD OF 'hearsaylaw.AnswerReads'. -/
def answerReadsCard : Claim7 := { stood := { row := answerReadsRow, standIns := [], harness := (true, "b6081297d5b6fb5f01f717ce3cbc2c56f08091faf97ad2d7e3efd0d73abd9d89"), looks := true }, kinds := [], alts := [], laidByText := true, laidKinds := [.data, .pinned], laidTests := true, laidLooks := .later }
def AnswerReadsCardSaid : Prop := Claim7.holds Tryz.pinned (.plain (OpenSpec.ofChange answerReadsSpec)) answerReadsCard

/-- THE SECOND FORM's CARD OF 'hearsaylaw.AnswerRecords'. -/
def answerRecordsUptoCard : Claim7 := { stood := { row := answerRecordsUptoRow, standIns := [], harness := (true, "b6081297d5b6fb5f01f717ce3cbc2c56f08091faf97ad2d7e3efd0d73abd9d89"), looks := true }, kinds := [], alts := [], laidByText := true, laidKinds := [.data, .pinned], laidTests := true, laidLooks := .later }
def AnswerRecordsUptoCardSaid : Prop := Claim7.holds Tryz.pinned (.plain (OpenSpec.upto answerRecordsSpec)) answerRecordsUptoCard

/-- THE SECOND FORM's CARD OF 'hearsaylaw.AnswerTrue'. -/
def answerTrueUptoCard : Claim7 := { stood := { row := answerTrueUptoRow, standIns := [], harness := (true, "b6081297d5b6fb5f01f717ce3cbc2c56f08091faf97ad2d7e3efd0d73abd9d89"), looks := true }, kinds := [], alts := [], laidByText := true, laidKinds := [.data, .pinned], laidTests := true, laidLooks := .later }
def AnswerTrueUptoCardSaid : Prop := Claim7.holds Tryz.pinned (.plain (OpenSpec.upto answerTrueSpec)) answerTrueUptoCard

/-- THE SECOND FORM's CARD OF 'hearsaylaw.AnswerReplies'. -/
def answerRepliesUptoCard : Claim7 := { stood := { row := answerRepliesUptoRow, standIns := [], harness := (true, "b6081297d5b6fb5f01f717ce3cbc2c56f08091faf97ad2d7e3efd0d73abd9d89"), looks := true }, kinds := [], alts := [], laidByText := true, laidKinds := [.data, .pinned], laidTests := true, laidLooks := .later }
def AnswerRepliesUptoCardSaid : Prop := Claim7.holds Tryz.pinned (.plain (OpenSpec.upto answerRepliesSpec)) answerRepliesUptoCard

/-- THE SECOND FORM's CARD OF 'hearsaylaw.AnswerAsks'. -/
def answerAsksUptoCard : Claim7 := { stood := { row := answerAsksUptoRow, standIns := [], harness := (true, "b6081297d5b6fb5f01f717ce3cbc2c56f08091faf97ad2d7e3efd0d73abd9d89"), looks := true }, kinds := [], alts := [], laidByText := true, laidKinds := [.data, .pinned], laidTests := true, laidLooks := .later }
def AnswerAsksUptoCardSaid : Prop := Claim7.holds Tryz.pinned (.plain (OpenSpec.upto answerAsksSpec)) answerAsksUptoCard

/-- THE SECOND FORM's CARD OF 'hearsaylaw.AnswerReads'. -/
def answerReadsUptoCard : Claim7 := { stood := { row := answerReadsUptoRow, standIns := [], harness := (true, "b6081297d5b6fb5f01f717ce3cbc2c56f08091faf97ad2d7e3efd0d73abd9d89"), looks := true }, kinds := [], alts := [], laidByText := true, laidKinds := [.data, .pinned], laidTests := true, laidLooks := .later }
def AnswerReadsUptoCardSaid : Prop := Claim7.holds Tryz.pinned (.plain (OpenSpec.upto answerReadsSpec)) answerReadsUptoCard
end Rows
end Go.Proofs.YtbnocibpoghfhaaGreatDoor
