/-
  NARROWER THAN 'FOR EVERY INPUT', by the rows' own cells (each row's printed sentence says how): AnswerRecords: laid · AnswerTrue: laid · AnswerReplies: laid · AnswerAsks: laid · AnswerReads: laid.
  DERIVED. THE GIVEN ROWS OF THIS SEAT. 5 by the template 'for every input the law returns true; each argument reads behind the call as it read before'; 0 by the template 'total and deterministic' (their statements: YtbnocibpoghfhaaGreatDoorTotals.lean).
  GIVEN WITH THE SEED: the statements are not yours to turn. If you find one false, say at which input.
  Laid BY PROGRAM, IN A SANDBOX (cutbox-rows.mjs): the forced cells as the released guide's own fill.sh prints them over the translation c3f20dd0f1fa22db… (all of the seat's roots in one cut). By AI agents, Wed Nov 11 2026. No macro, syntax, notation, axiom, sorry.
-/
import Derived.Test.YtbnocibpoghfhaaGreatDoorChecked
import GoSem.PinnedTables
import GoSem.Claim
import GoSem.ClaimJoined
import GoSem.ClaimMapViews
import Derived.JoinedTies
import Derived.KernelRfl
namespace Go.Proofs.YtbnocibpoghfhaaGreatDoor
/- THE CELL 'sum', in the pinned program and in every row, IS THE sha256 OF THE DUMP (.gsa) THAT YtbnocibpoghfhaaGreatDoorProg.lean LOADS. Nothing in Lean hashes anything: it is a label: what it is worth is what the hold of that sum in a sandbox is worth. -/
noncomputable def Tryz.pinned : Pinned := { name := "ytbnocibpoghfhaagreatdoor", sum := "c3f20dd0f1fa22db670181109d3576f930c204848d20e396e7e7db786ac7c984", checked := Tryz.checked }
namespace Rows
def none {H : Type} : Left H := { results := [], args := [] }

/- WHAT THE LISTED PACKAGE-LEVEL VARIABLES READ AS WHEN THE CALL BEGINS. Each datum BY PROGRAM (the guide's laid-datum.mjs) off the statement by which the dump's own 'gosem.cut.vars' lays the variable. In a bare row this is a premise. The card (YtbnocibpoghfhaaGreatDoorCards.lean) ties it to the program's text. -/
def laid_unicode_utf8_acceptRanges {H : Type} : DataW H := .agg [.agg [.lit (.int .u8 128), .lit (.int .u8 191)], .agg [.lit (.int .u8 160), .lit (.int .u8 191)], .agg [.lit (.int .u8 128), .lit (.int .u8 159)], .agg [.lit (.int .u8 144), .lit (.int .u8 191)], .agg [.lit (.int .u8 128), .lit (.int .u8 143)], .agg [.lit (.int .u8 0), .lit (.int .u8 0)], .agg [.lit (.int .u8 0), .lit (.int .u8 0)], .agg [.lit (.int .u8 0), .lit (.int .u8 0)], .agg [.lit (.int .u8 0), .lit (.int .u8 0)], .agg [.lit (.int .u8 0), .lit (.int .u8 0)], .agg [.lit (.int .u8 0), .lit (.int .u8 0)], .agg [.lit (.int .u8 0), .lit (.int .u8 0)], .agg [.lit (.int .u8 0), .lit (.int .u8 0)], .agg [.lit (.int .u8 0), .lit (.int .u8 0)], .agg [.lit (.int .u8 0), .lit (.int .u8 0)], .agg [.lit (.int .u8 0), .lit (.int .u8 0)]]
/-- One of Go's own tables, pinned by name: the form's constant. -/
def laid_unicode_utf8_first : DataW Unit := Go.Pinned.utf8First

/-- 'hearsaylaw.AnswerRecords': WHATEVER THE INPUT: true; the input reads as it did. -/
def answerRecordsSpec : ChangeSpec := { name := "answerRecords", fn := fun _ => fun
  | [d1, d2, d3] => { results := [.lit (.bool true)], args := [d1, d2, d3] }
  | _ => none }
def answerRecordsRow : OpenClaim := { program := "ytbnocibpoghfhaagreatdoor", sum := "c3f20dd0f1fa22db670181109d3576f930c204848d20e396e7e7db786ac7c984", func := "hearsay/hearsaylaw.AnswerRecords", spec := "answerRecords", inPlace := ["internal/abi.NoEscape", "internal/bytealg.MakeNoZero", "internal/bytealg.CountString", "internal/bytealg.IndexByteString", "internal/bytealg.IndexString"], unfollowed := true, recurses := true, named := ["unicode/utf8.first", "unicode/utf8.acceptRanges", "internal/bytealg.MaxLen"], apart := false, laid := [("unicode/utf8.acceptRanges", laid_unicode_utf8_acceptRanges), ("unicode/utf8.first", laid_unicode_utf8_first)] }
def AnswerRecordsSaid : Prop := answerRecordsRow.holds Tryz.pinned (OpenSpec.ofChange answerRecordsSpec)

/-- ITS FALSE NEIGHBOUR: 'it returns false'. Refute it at one input. -/
def answerRecordsWrong : ChangeSpec := { name := "answerRecords", fn := fun _ => fun
  | [d1, d2, d3] => { results := [.lit (.bool false)], args := [d1, d2, d3] }
  | _ => none }
def AnswerRecordsWrongFalsely : Prop := answerRecordsRow.holds Tryz.pinned (OpenSpec.ofChange answerRecordsWrong)

/-- 'hearsaylaw.AnswerTrue': WHATEVER THE INPUT: true; the input reads as it did. -/
def answerTrueSpec : ChangeSpec := { name := "answerTrue", fn := fun _ => fun
  | [d1, d2] => { results := [.lit (.bool true)], args := [d1, d2] }
  | _ => none }
def answerTrueRow : OpenClaim := { program := "ytbnocibpoghfhaagreatdoor", sum := "c3f20dd0f1fa22db670181109d3576f930c204848d20e396e7e7db786ac7c984", func := "hearsay/hearsaylaw.AnswerTrue", spec := "answerTrue", inPlace := ["internal/abi.NoEscape", "internal/bytealg.MakeNoZero", "internal/bytealg.CountString", "internal/bytealg.IndexByteString", "internal/bytealg.IndexString"], unfollowed := true, recurses := true, named := ["unicode/utf8.first", "unicode/utf8.acceptRanges", "internal/bytealg.MaxLen"], apart := false, laid := [("unicode/utf8.acceptRanges", laid_unicode_utf8_acceptRanges), ("unicode/utf8.first", laid_unicode_utf8_first)] }
def AnswerTrueSaid : Prop := answerTrueRow.holds Tryz.pinned (OpenSpec.ofChange answerTrueSpec)

/-- ITS FALSE NEIGHBOUR: 'it returns false'. Refute it at one input. -/
def answerTrueWrong : ChangeSpec := { name := "answerTrue", fn := fun _ => fun
  | [d1, d2] => { results := [.lit (.bool false)], args := [d1, d2] }
  | _ => none }
def AnswerTrueWrongFalsely : Prop := answerTrueRow.holds Tryz.pinned (OpenSpec.ofChange answerTrueWrong)

/-- 'hearsaylaw.AnswerReplies': WHATEVER THE INPUT: true; the input reads as it did. -/
def answerRepliesSpec : ChangeSpec := { name := "answerReplies", fn := fun _ => fun
  | [d1, d2] => { results := [.lit (.bool true)], args := [d1, d2] }
  | _ => none }
def answerRepliesRow : OpenClaim := { program := "ytbnocibpoghfhaagreatdoor", sum := "c3f20dd0f1fa22db670181109d3576f930c204848d20e396e7e7db786ac7c984", func := "hearsay/hearsaylaw.AnswerReplies", spec := "answerReplies", inPlace := ["internal/abi.NoEscape", "internal/bytealg.MakeNoZero", "internal/bytealg.CountString", "internal/bytealg.IndexByteString", "internal/bytealg.IndexString"], unfollowed := true, recurses := true, named := ["unicode/utf8.first", "unicode/utf8.acceptRanges", "internal/bytealg.MaxLen"], apart := false, laid := [("unicode/utf8.acceptRanges", laid_unicode_utf8_acceptRanges), ("unicode/utf8.first", laid_unicode_utf8_first)] }
def AnswerRepliesSaid : Prop := answerRepliesRow.holds Tryz.pinned (OpenSpec.ofChange answerRepliesSpec)

/-- ITS FALSE NEIGHBOUR: 'it returns false'. Refute it at one input. -/
def answerRepliesWrong : ChangeSpec := { name := "answerReplies", fn := fun _ => fun
  | [d1, d2] => { results := [.lit (.bool false)], args := [d1, d2] }
  | _ => none }
def AnswerRepliesWrongFalsely : Prop := answerRepliesRow.holds Tryz.pinned (OpenSpec.ofChange answerRepliesWrong)

/-- 'hearsaylaw.AnswerAsks': WHATEVER THE INPUT: true; the input reads as it did. -/
def answerAsksSpec : ChangeSpec := { name := "answerAsks", fn := fun _ => fun
  | [d1, d2] => { results := [.lit (.bool true)], args := [d1, d2] }
  | _ => none }
def answerAsksRow : OpenClaim := { program := "ytbnocibpoghfhaagreatdoor", sum := "c3f20dd0f1fa22db670181109d3576f930c204848d20e396e7e7db786ac7c984", func := "hearsay/hearsaylaw.AnswerAsks", spec := "answerAsks", inPlace := ["internal/bytealg.CountString", "internal/bytealg.IndexByteString", "internal/bytealg.IndexString", "internal/abi.NoEscape", "internal/bytealg.MakeNoZero"], unfollowed := true, recurses := true, named := ["unicode/utf8.first", "unicode/utf8.acceptRanges", "internal/bytealg.MaxLen"], apart := false, laid := [("unicode/utf8.acceptRanges", laid_unicode_utf8_acceptRanges), ("unicode/utf8.first", laid_unicode_utf8_first)] }
def AnswerAsksSaid : Prop := answerAsksRow.holds Tryz.pinned (OpenSpec.ofChange answerAsksSpec)

/-- ITS FALSE NEIGHBOUR: 'it returns false'. Refute it at one input. -/
def answerAsksWrong : ChangeSpec := { name := "answerAsks", fn := fun _ => fun
  | [d1, d2] => { results := [.lit (.bool false)], args := [d1, d2] }
  | _ => none }
def AnswerAsksWrongFalsely : Prop := answerAsksRow.holds Tryz.pinned (OpenSpec.ofChange answerAsksWrong)

/-- 'hearsaylaw.AnswerReads': WHATEVER THE INPUT: true; the input reads as it did. -/
def answerReadsSpec : ChangeSpec := { name := "answerReads", fn := fun _ => fun
  | [d1, d2] => { results := [.lit (.bool true)], args := [d1, d2] }
  | _ => none }
def answerReadsRow : OpenClaim := { program := "ytbnocibpoghfhaagreatdoor", sum := "c3f20dd0f1fa22db670181109d3576f930c204848d20e396e7e7db786ac7c984", func := "hearsay/hearsaylaw.AnswerReads", spec := "answerReads", inPlace := ["internal/abi.NoEscape", "internal/bytealg.MakeNoZero", "internal/bytealg.CountString", "internal/bytealg.IndexByteString", "internal/bytealg.IndexString"], unfollowed := true, recurses := true, named := ["unicode/utf8.first", "unicode/utf8.acceptRanges", "internal/bytealg.MaxLen"], apart := false, laid := [("unicode/utf8.acceptRanges", laid_unicode_utf8_acceptRanges), ("unicode/utf8.first", laid_unicode_utf8_first)] }
def AnswerReadsSaid : Prop := answerReadsRow.holds Tryz.pinned (OpenSpec.ofChange answerReadsSpec)

/-- ITS FALSE NEIGHBOUR: 'it returns false'. Refute it at one input. -/
def answerReadsWrong : ChangeSpec := { name := "answerReads", fn := fun _ => fun
  | [d1, d2] => { results := [.lit (.bool false)], args := [d1, d2] }
  | _ => none }
def AnswerReadsWrongFalsely : Prop := answerReadsRow.holds Tryz.pinned (OpenSpec.ofChange answerReadsWrong)

/- THE SECOND FORM. 'bulk': how many values and letters a reading holds, each counted each time it is reached (what is shared counts as often as it is met; a slice's spare places count too). A statement '..UptoSaid' is the law's where the arguments, and the package variables that the reading takes, are together of bulk at most 1048576: NARROWER than '..Said'. Prove '..Said' where nothing that the law and all that it calls make is longer than what came in: it says more and counts as full. Else prove '..UptoSaid'. A law counts once. -/
mutual
def uptoBulk {H : Type} : DataW H → Nat
  | .lit (.string bytes) => bytes.length + 1
  | .lit _ => 1
  | .nil => 1
  | .ptr d => uptoBulk d + 1
  | .slice elems spare => uptoBulkAll elems + uptoBulkAll spare + 1
  | .agg parts => uptoBulkAll parts + 1
  | .iface _ d => uptoBulk d + 1
  | .map entries => uptoBulkEntries entries + 1
  | .held _ => 1
def uptoBulkAll {H : Type} : List (DataW H) → Nat
  | [] => 0
  | d :: r => uptoBulk d + uptoBulkAll r
def uptoBulkEntries {H : Type} : List (Lit × DataW H) → Nat
  | [] => 0
  | x :: r => uptoBulkEntry x + uptoBulkEntries r
def uptoBulkEntry {H : Type} : Lit × DataW H → Nat
  | (.string bytes, d) => bytes.length + uptoBulk d + 1
  | (_, d) => uptoBulk d + 1
 end
def uptoSmall : (H : Type) → List (DataW H) → Bool := fun _ ds => decide (uptoBulkAll ds ≤ 1048576)
def OpenSpec.upto (s : _root_.Go.ChangeSpec) : _root_.Go.OpenSpec := { _root_.Go.OpenSpec.ofChange s with cond := some uptoSmall }

/-- 'hearsaylaw.AnswerRecords', WHERE WHAT IT READS IS OF BULK AT MOST 1048576: true; the input reads as it did. -/
def answerRecordsUptoRow : OpenClaim := { program := "ytbnocibpoghfhaagreatdoor", sum := "c3f20dd0f1fa22db670181109d3576f930c204848d20e396e7e7db786ac7c984", func := "hearsay/hearsaylaw.AnswerRecords", spec := "answerRecords", inPlace := ["internal/abi.NoEscape", "internal/bytealg.MakeNoZero", "internal/bytealg.CountString", "internal/bytealg.IndexByteString", "internal/bytealg.IndexString"], unfollowed := true, recurses := true, named := ["unicode/utf8.first", "unicode/utf8.acceptRanges", "internal/bytealg.MaxLen"], apart := false, laid := [("unicode/utf8.acceptRanges", laid_unicode_utf8_acceptRanges), ("unicode/utf8.first", laid_unicode_utf8_first)], narrowed := true }
def AnswerRecordsUptoSaid : Prop := answerRecordsUptoRow.holds Tryz.pinned (OpenSpec.upto answerRecordsSpec)

/-- 'hearsaylaw.AnswerTrue', WHERE WHAT IT READS IS OF BULK AT MOST 1048576: true; the input reads as it did. -/
def answerTrueUptoRow : OpenClaim := { program := "ytbnocibpoghfhaagreatdoor", sum := "c3f20dd0f1fa22db670181109d3576f930c204848d20e396e7e7db786ac7c984", func := "hearsay/hearsaylaw.AnswerTrue", spec := "answerTrue", inPlace := ["internal/abi.NoEscape", "internal/bytealg.MakeNoZero", "internal/bytealg.CountString", "internal/bytealg.IndexByteString", "internal/bytealg.IndexString"], unfollowed := true, recurses := true, named := ["unicode/utf8.first", "unicode/utf8.acceptRanges", "internal/bytealg.MaxLen"], apart := false, laid := [("unicode/utf8.acceptRanges", laid_unicode_utf8_acceptRanges), ("unicode/utf8.first", laid_unicode_utf8_first)], narrowed := true }
def AnswerTrueUptoSaid : Prop := answerTrueUptoRow.holds Tryz.pinned (OpenSpec.upto answerTrueSpec)

/-- 'hearsaylaw.AnswerReplies', WHERE WHAT IT READS IS OF BULK AT MOST 1048576: true; the input reads as it did. -/
def answerRepliesUptoRow : OpenClaim := { program := "ytbnocibpoghfhaagreatdoor", sum := "c3f20dd0f1fa22db670181109d3576f930c204848d20e396e7e7db786ac7c984", func := "hearsay/hearsaylaw.AnswerReplies", spec := "answerReplies", inPlace := ["internal/abi.NoEscape", "internal/bytealg.MakeNoZero", "internal/bytealg.CountString", "internal/bytealg.IndexByteString", "internal/bytealg.IndexString"], unfollowed := true, recurses := true, named := ["unicode/utf8.first", "unicode/utf8.acceptRanges", "internal/bytealg.MaxLen"], apart := false, laid := [("unicode/utf8.acceptRanges", laid_unicode_utf8_acceptRanges), ("unicode/utf8.first", laid_unicode_utf8_first)], narrowed := true }
def AnswerRepliesUptoSaid : Prop := answerRepliesUptoRow.holds Tryz.pinned (OpenSpec.upto answerRepliesSpec)

/-- 'hearsaylaw.AnswerAsks', WHERE WHAT IT READS IS OF BULK AT MOST 1048576: true; the input reads as it did. -/
def answerAsksUptoRow : OpenClaim := { program := "ytbnocibpoghfhaagreatdoor", sum := "c3f20dd0f1fa22db670181109d3576f930c204848d20e396e7e7db786ac7c984", func := "hearsay/hearsaylaw.AnswerAsks", spec := "answerAsks", inPlace := ["internal/bytealg.CountString", "internal/bytealg.IndexByteString", "internal/bytealg.IndexString", "internal/abi.NoEscape", "internal/bytealg.MakeNoZero"], unfollowed := true, recurses := true, named := ["unicode/utf8.first", "unicode/utf8.acceptRanges", "internal/bytealg.MaxLen"], apart := false, laid := [("unicode/utf8.acceptRanges", laid_unicode_utf8_acceptRanges), ("unicode/utf8.first", laid_unicode_utf8_first)], narrowed := true }
def AnswerAsksUptoSaid : Prop := answerAsksUptoRow.holds Tryz.pinned (OpenSpec.upto answerAsksSpec)

/-- 'hearsaylaw.AnswerReads', WHERE WHAT IT READS IS OF BULK AT MOST 1048576: true; the input reads as it did. -/
def answerReadsUptoRow : OpenClaim := { program := "ytbnocibpoghfhaagreatdoor", sum := "c3f20dd0f1fa22db670181109d3576f930c204848d20e396e7e7db786ac7c984", func := "hearsay/hearsaylaw.AnswerReads", spec := "answerReads", inPlace := ["internal/abi.NoEscape", "internal/bytealg.MakeNoZero", "internal/bytealg.CountString", "internal/bytealg.IndexByteString", "internal/bytealg.IndexString"], unfollowed := true, recurses := true, named := ["unicode/utf8.first", "unicode/utf8.acceptRanges", "internal/bytealg.MaxLen"], apart := false, laid := [("unicode/utf8.acceptRanges", laid_unicode_utf8_acceptRanges), ("unicode/utf8.first", laid_unicode_utf8_first)], narrowed := true }
def AnswerReadsUptoSaid : Prop := answerReadsUptoRow.holds Tryz.pinned (OpenSpec.upto answerReadsSpec)

end Rows
end Go.Proofs.YtbnocibpoghfhaaGreatDoor
