/-
  NARROWER THAN 'FOR EVERY INPUT', by the rows' own cells (each row's printed sentence says how): QueryChecks: laid · QueryParses: laid · QueryBack: laid · DnsChecks: laid · DnsWrites: laid · DnsReads: laid · DnsBack: laid · DnsFits: laid · DnsCuts: laid.
  DERIVED. THE GIVEN ROWS OF THIS SEAT. 9 by the template 'for every input the law returns true; each argument reads behind the call as it read before'; 0 by the template 'total and deterministic' (their statements: YtjhdlcmecbngkaaDoorTotals.lean).
  GIVEN WITH THE SEED: the statements are not yours to turn. If you find one false, say at which input.
  Laid BY PROGRAM, IN A SANDBOX (cutbox-rows.mjs): the forced cells as the released guide's own fill.sh prints them over the translation 6b1a8d71b03a9a40… (all of the seat's roots in one cut). By AI agents, Wed Nov 11 2026. No macro, syntax, notation, axiom, sorry.
-/
import Derived.Test.YtjhdlcmecbngkaaDoorChecked
import GoSem.PinnedTables
import GoSem.Claim
import GoSem.ClaimJoined
import GoSem.ClaimMapViews
import Derived.JoinedTies
import Derived.KernelRfl
namespace Go.Proofs.YtjhdlcmecbngkaaDoor
/- THE CELL 'sum', in the pinned program and in every row, IS THE sha256 OF THE DUMP (.gsa) THAT YtjhdlcmecbngkaaDoorProg.lean LOADS. Nothing in Lean hashes anything: it is a label: what it is worth is what the hold of that sum in a sandbox is worth. -/
noncomputable def Tryd.pinned : Pinned := { name := "ytjhdlcmecbngkaadoor", sum := "6b1a8d71b03a9a4089f0fd39ba8c249a05f12cd292059b10b2cd114c3e9b7549", checked := Tryd.checked }
namespace Rows
def none {H : Type} : Left H := { results := [], args := [] }

/- WHAT THE LISTED PACKAGE-LEVEL VARIABLES READ AS WHEN THE CALL BEGINS. Each datum BY PROGRAM (the guide's laid-datum.mjs) off the statement by which the dump's own 'gosem.cut.vars' lays the variable. In a bare row this is a premise. The card (YtjhdlcmecbngkaaDoorCards.lean) ties it to the program's text. -/
def laid_unicode_utf8_acceptRanges {H : Type} : DataW H := .agg [.agg [.lit (.int .u8 128), .lit (.int .u8 191)], .agg [.lit (.int .u8 160), .lit (.int .u8 191)], .agg [.lit (.int .u8 128), .lit (.int .u8 159)], .agg [.lit (.int .u8 144), .lit (.int .u8 191)], .agg [.lit (.int .u8 128), .lit (.int .u8 143)], .agg [.lit (.int .u8 0), .lit (.int .u8 0)], .agg [.lit (.int .u8 0), .lit (.int .u8 0)], .agg [.lit (.int .u8 0), .lit (.int .u8 0)], .agg [.lit (.int .u8 0), .lit (.int .u8 0)], .agg [.lit (.int .u8 0), .lit (.int .u8 0)], .agg [.lit (.int .u8 0), .lit (.int .u8 0)], .agg [.lit (.int .u8 0), .lit (.int .u8 0)], .agg [.lit (.int .u8 0), .lit (.int .u8 0)], .agg [.lit (.int .u8 0), .lit (.int .u8 0)], .agg [.lit (.int .u8 0), .lit (.int .u8 0)], .agg [.lit (.int .u8 0), .lit (.int .u8 0)]]
/-- One of Go's own tables, pinned by name: the form's constant. -/
def laid_unicode_utf8_first : DataW Unit := Go.Pinned.utf8First

/-- 'hearsaylaw.QueryChecks': WHATEVER THE INPUT: true; the input reads as it did. -/
def queryChecksSpec : ChangeSpec := { name := "queryChecks", fn := fun _ => fun
  | [d] => { results := [.lit (.bool true)], args := [d] }
  | _ => none }
def queryChecksRow : OpenClaim := { program := "ytjhdlcmecbngkaadoor", sum := "6b1a8d71b03a9a4089f0fd39ba8c249a05f12cd292059b10b2cd114c3e9b7549", func := "hearsay/hearsaylaw.QueryChecks", spec := "queryChecks", inPlace := ["internal/abi.NoEscape", "internal/bytealg.MakeNoZero", "internal/bytealg.CountString", "internal/bytealg.IndexByteString", "internal/bytealg.IndexString"], unfollowed := true, recurses := true, named := ["unicode/utf8.first", "unicode/utf8.acceptRanges", "internal/bytealg.MaxLen"], apart := false, laid := [("unicode/utf8.acceptRanges", laid_unicode_utf8_acceptRanges), ("unicode/utf8.first", laid_unicode_utf8_first)] }
def QueryChecksSaid : Prop := queryChecksRow.holds Tryd.pinned (OpenSpec.ofChange queryChecksSpec)

/-- ITS FALSE NEIGHBOUR: 'it returns false'. Refute it at one input. -/
def queryChecksWrong : ChangeSpec := { name := "queryChecks", fn := fun _ => fun
  | [d] => { results := [.lit (.bool false)], args := [d] }
  | _ => none }
def QueryChecksWrongFalsely : Prop := queryChecksRow.holds Tryd.pinned (OpenSpec.ofChange queryChecksWrong)

/-- 'hearsaylaw.QueryParses': WHATEVER THE INPUT: true; the input reads as it did. -/
def queryParsesSpec : ChangeSpec := { name := "queryParses", fn := fun _ => fun
  | [d] => { results := [.lit (.bool true)], args := [d] }
  | _ => none }
def queryParsesRow : OpenClaim := { program := "ytjhdlcmecbngkaadoor", sum := "6b1a8d71b03a9a4089f0fd39ba8c249a05f12cd292059b10b2cd114c3e9b7549", func := "hearsay/hearsaylaw.QueryParses", spec := "queryParses", inPlace := ["internal/bytealg.CountString", "internal/bytealg.IndexByteString", "internal/bytealg.IndexString", "internal/abi.NoEscape", "internal/bytealg.MakeNoZero"], unfollowed := true, recurses := true, named := ["unicode/utf8.first", "unicode/utf8.acceptRanges", "internal/bytealg.MaxLen"], apart := false, laid := [("unicode/utf8.acceptRanges", laid_unicode_utf8_acceptRanges), ("unicode/utf8.first", laid_unicode_utf8_first)] }
def QueryParsesSaid : Prop := queryParsesRow.holds Tryd.pinned (OpenSpec.ofChange queryParsesSpec)

/-- ITS FALSE NEIGHBOUR: 'it returns false'. Refute it at one input. -/
def queryParsesWrong : ChangeSpec := { name := "queryParses", fn := fun _ => fun
  | [d] => { results := [.lit (.bool false)], args := [d] }
  | _ => none }
def QueryParsesWrongFalsely : Prop := queryParsesRow.holds Tryd.pinned (OpenSpec.ofChange queryParsesWrong)

/-- 'hearsaylaw.QueryBack': WHATEVER THE INPUT: true; the input reads as it did. -/
def queryBackSpec : ChangeSpec := { name := "queryBack", fn := fun _ => fun
  | [d1, d2] => { results := [.lit (.bool true)], args := [d1, d2] }
  | _ => none }
def queryBackRow : OpenClaim := { program := "ytjhdlcmecbngkaadoor", sum := "6b1a8d71b03a9a4089f0fd39ba8c249a05f12cd292059b10b2cd114c3e9b7549", func := "hearsay/hearsaylaw.QueryBack", spec := "queryBack", inPlace := ["internal/bytealg.CountString", "internal/bytealg.IndexByteString", "internal/bytealg.IndexString", "internal/abi.NoEscape", "internal/bytealg.MakeNoZero"], unfollowed := true, recurses := true, named := ["unicode/utf8.first", "unicode/utf8.acceptRanges", "internal/bytealg.MaxLen"], apart := false, laid := [("unicode/utf8.acceptRanges", laid_unicode_utf8_acceptRanges), ("unicode/utf8.first", laid_unicode_utf8_first)] }
def QueryBackSaid : Prop := queryBackRow.holds Tryd.pinned (OpenSpec.ofChange queryBackSpec)

/-- ITS FALSE NEIGHBOUR: 'it returns false'. Refute it at one input. -/
def queryBackWrong : ChangeSpec := { name := "queryBack", fn := fun _ => fun
  | [d1, d2] => { results := [.lit (.bool false)], args := [d1, d2] }
  | _ => none }
def QueryBackWrongFalsely : Prop := queryBackRow.holds Tryd.pinned (OpenSpec.ofChange queryBackWrong)

/-- 'hearsaylaw.DnsChecks': WHATEVER THE INPUT: true; the input reads as it did. -/
def dnsChecksSpec : ChangeSpec := { name := "dnsChecks", fn := fun _ => fun
  | [d] => { results := [.lit (.bool true)], args := [d] }
  | _ => none }
def dnsChecksRow : OpenClaim := { program := "ytjhdlcmecbngkaadoor", sum := "6b1a8d71b03a9a4089f0fd39ba8c249a05f12cd292059b10b2cd114c3e9b7549", func := "hearsay/hearsaylaw.DnsChecks", spec := "dnsChecks", inPlace := ["internal/bytealg.CountString", "internal/bytealg.IndexByteString", "internal/bytealg.IndexString", "internal/abi.NoEscape", "internal/bytealg.MakeNoZero"], unfollowed := true, recurses := true, named := ["unicode/utf8.first", "unicode/utf8.acceptRanges", "internal/bytealg.MaxLen"], apart := false, laid := [("unicode/utf8.acceptRanges", laid_unicode_utf8_acceptRanges), ("unicode/utf8.first", laid_unicode_utf8_first)] }
def DnsChecksSaid : Prop := dnsChecksRow.holds Tryd.pinned (OpenSpec.ofChange dnsChecksSpec)

/-- ITS FALSE NEIGHBOUR: 'it returns false'. Refute it at one input. -/
def dnsChecksWrong : ChangeSpec := { name := "dnsChecks", fn := fun _ => fun
  | [d] => { results := [.lit (.bool false)], args := [d] }
  | _ => none }
def DnsChecksWrongFalsely : Prop := dnsChecksRow.holds Tryd.pinned (OpenSpec.ofChange dnsChecksWrong)

/-- 'hearsaylaw.DnsWrites': WHATEVER THE INPUT: true; the input reads as it did. -/
def dnsWritesSpec : ChangeSpec := { name := "dnsWrites", fn := fun _ => fun
  | [d] => { results := [.lit (.bool true)], args := [d] }
  | _ => none }
def dnsWritesRow : OpenClaim := { program := "ytjhdlcmecbngkaadoor", sum := "6b1a8d71b03a9a4089f0fd39ba8c249a05f12cd292059b10b2cd114c3e9b7549", func := "hearsay/hearsaylaw.DnsWrites", spec := "dnsWrites", inPlace := ["internal/bytealg.CountString", "internal/bytealg.IndexByteString", "internal/bytealg.IndexString", "internal/abi.NoEscape", "internal/bytealg.MakeNoZero"], unfollowed := true, recurses := true, named := ["unicode/utf8.first", "unicode/utf8.acceptRanges", "internal/bytealg.MaxLen"], apart := false, laid := [("unicode/utf8.acceptRanges", laid_unicode_utf8_acceptRanges), ("unicode/utf8.first", laid_unicode_utf8_first)] }
def DnsWritesSaid : Prop := dnsWritesRow.holds Tryd.pinned (OpenSpec.ofChange dnsWritesSpec)

/-- ITS FALSE NEIGHBOUR: 'it returns false'. Refute it at one input. -/
def dnsWritesWrong : ChangeSpec := { name := "dnsWrites", fn := fun _ => fun
  | [d] => { results := [.lit (.bool false)], args := [d] }
  | _ => none }
def DnsWritesWrongFalsely : Prop := dnsWritesRow.holds Tryd.pinned (OpenSpec.ofChange dnsWritesWrong)

/-- 'hearsaylaw.DnsReads': WHATEVER THE INPUT: true; the input reads as it did. -/
def dnsReadsSpec : ChangeSpec := { name := "dnsReads", fn := fun _ => fun
  | [d] => { results := [.lit (.bool true)], args := [d] }
  | _ => none }
def dnsReadsRow : OpenClaim := { program := "ytjhdlcmecbngkaadoor", sum := "6b1a8d71b03a9a4089f0fd39ba8c249a05f12cd292059b10b2cd114c3e9b7549", func := "hearsay/hearsaylaw.DnsReads", spec := "dnsReads", inPlace := ["internal/abi.NoEscape", "internal/bytealg.MakeNoZero", "internal/bytealg.CountString", "internal/bytealg.IndexByteString", "internal/bytealg.IndexString"], unfollowed := true, recurses := true, named := ["unicode/utf8.first", "unicode/utf8.acceptRanges", "internal/bytealg.MaxLen"], apart := false, laid := [("unicode/utf8.acceptRanges", laid_unicode_utf8_acceptRanges), ("unicode/utf8.first", laid_unicode_utf8_first)] }
def DnsReadsSaid : Prop := dnsReadsRow.holds Tryd.pinned (OpenSpec.ofChange dnsReadsSpec)

/-- ITS FALSE NEIGHBOUR: 'it returns false'. Refute it at one input. -/
def dnsReadsWrong : ChangeSpec := { name := "dnsReads", fn := fun _ => fun
  | [d] => { results := [.lit (.bool false)], args := [d] }
  | _ => none }
def DnsReadsWrongFalsely : Prop := dnsReadsRow.holds Tryd.pinned (OpenSpec.ofChange dnsReadsWrong)

/-- 'hearsaylaw.DnsBack': WHATEVER THE INPUT: true; the input reads as it did. -/
def dnsBackSpec : ChangeSpec := { name := "dnsBack", fn := fun _ => fun
  | [d1, d2] => { results := [.lit (.bool true)], args := [d1, d2] }
  | _ => none }
def dnsBackRow : OpenClaim := { program := "ytjhdlcmecbngkaadoor", sum := "6b1a8d71b03a9a4089f0fd39ba8c249a05f12cd292059b10b2cd114c3e9b7549", func := "hearsay/hearsaylaw.DnsBack", spec := "dnsBack", inPlace := ["internal/bytealg.CountString", "internal/bytealg.IndexByteString", "internal/bytealg.IndexString", "internal/abi.NoEscape", "internal/bytealg.MakeNoZero"], unfollowed := true, recurses := true, named := ["unicode/utf8.first", "unicode/utf8.acceptRanges", "internal/bytealg.MaxLen"], apart := false, laid := [("unicode/utf8.acceptRanges", laid_unicode_utf8_acceptRanges), ("unicode/utf8.first", laid_unicode_utf8_first)] }
def DnsBackSaid : Prop := dnsBackRow.holds Tryd.pinned (OpenSpec.ofChange dnsBackSpec)

/-- ITS FALSE NEIGHBOUR: 'it returns false'. Refute it at one input. -/
def dnsBackWrong : ChangeSpec := { name := "dnsBack", fn := fun _ => fun
  | [d1, d2] => { results := [.lit (.bool false)], args := [d1, d2] }
  | _ => none }
def DnsBackWrongFalsely : Prop := dnsBackRow.holds Tryd.pinned (OpenSpec.ofChange dnsBackWrong)

/-- 'hearsaylaw.DnsFits': WHATEVER THE INPUT: true; the input reads as it did. -/
def dnsFitsSpec : ChangeSpec := { name := "dnsFits", fn := fun _ => fun
  | [d1, d2] => { results := [.lit (.bool true)], args := [d1, d2] }
  | _ => none }
def dnsFitsRow : OpenClaim := { program := "ytjhdlcmecbngkaadoor", sum := "6b1a8d71b03a9a4089f0fd39ba8c249a05f12cd292059b10b2cd114c3e9b7549", func := "hearsay/hearsaylaw.DnsFits", spec := "dnsFits", inPlace := ["internal/bytealg.CountString", "internal/bytealg.IndexByteString", "internal/bytealg.IndexString", "internal/abi.NoEscape", "internal/bytealg.MakeNoZero"], unfollowed := true, recurses := true, named := ["unicode/utf8.first", "unicode/utf8.acceptRanges", "internal/bytealg.MaxLen"], apart := false, laid := [("unicode/utf8.acceptRanges", laid_unicode_utf8_acceptRanges), ("unicode/utf8.first", laid_unicode_utf8_first)] }
def DnsFitsSaid : Prop := dnsFitsRow.holds Tryd.pinned (OpenSpec.ofChange dnsFitsSpec)

/-- ITS FALSE NEIGHBOUR: 'it returns false'. Refute it at one input. -/
def dnsFitsWrong : ChangeSpec := { name := "dnsFits", fn := fun _ => fun
  | [d1, d2] => { results := [.lit (.bool false)], args := [d1, d2] }
  | _ => none }
def DnsFitsWrongFalsely : Prop := dnsFitsRow.holds Tryd.pinned (OpenSpec.ofChange dnsFitsWrong)

/-- 'hearsaylaw.DnsCuts': WHATEVER THE INPUT: true; the input reads as it did. -/
def dnsCutsSpec : ChangeSpec := { name := "dnsCuts", fn := fun _ => fun
  | [d1, d2] => { results := [.lit (.bool true)], args := [d1, d2] }
  | _ => none }
def dnsCutsRow : OpenClaim := { program := "ytjhdlcmecbngkaadoor", sum := "6b1a8d71b03a9a4089f0fd39ba8c249a05f12cd292059b10b2cd114c3e9b7549", func := "hearsay/hearsaylaw.DnsCuts", spec := "dnsCuts", inPlace := ["internal/bytealg.CountString", "internal/bytealg.IndexByteString", "internal/bytealg.IndexString", "internal/abi.NoEscape", "internal/bytealg.MakeNoZero"], unfollowed := true, recurses := true, named := ["unicode/utf8.first", "unicode/utf8.acceptRanges", "internal/bytealg.MaxLen"], apart := false, laid := [("unicode/utf8.acceptRanges", laid_unicode_utf8_acceptRanges), ("unicode/utf8.first", laid_unicode_utf8_first)] }
def DnsCutsSaid : Prop := dnsCutsRow.holds Tryd.pinned (OpenSpec.ofChange dnsCutsSpec)

/-- ITS FALSE NEIGHBOUR: 'it returns false'. Refute it at one input. -/
def dnsCutsWrong : ChangeSpec := { name := "dnsCuts", fn := fun _ => fun
  | [d1, d2] => { results := [.lit (.bool false)], args := [d1, d2] }
  | _ => none }
def DnsCutsWrongFalsely : Prop := dnsCutsRow.holds Tryd.pinned (OpenSpec.ofChange dnsCutsWrong)

/- THE SECOND FORM. 'bulk': how many values and letters a reading holds, each counted each time it is reached (what is shared counts as often as it is met; a slice's spare places count too). A statement '..UptoSaid' is the law's where the arguments, and the package variables that the reading takes, are together of bulk at most 1048576: NARROWER than '..Said'. Prove '..Said' where nothing that the law and all that it calls make is longer than what came in: it says more and counts as full. Else prove '..UptoSaid'. A law counts once. -/
mutual
def uptoBulk {H : Type} : DataW H → Nat
  | .lit (.string bytes) => bytes.length + 1
  | .lit _ => 1
  | .nil => 1
  | .ptr d => uptoBulk d + 1
  | .slice elems spare => uptoBulkAll elems + uptoBulkAll spare + 1
  | .agg parts => uptoBulkAll parts + 1
  | .iface _ d => uptoBulk d + 1
  | .map entries => uptoBulkEntries entries + 1
  | .held _ => 1
def uptoBulkAll {H : Type} : List (DataW H) → Nat
  | [] => 0
  | d :: r => uptoBulk d + uptoBulkAll r
def uptoBulkEntries {H : Type} : List (Lit × DataW H) → Nat
  | [] => 0
  | x :: r => uptoBulkEntry x + uptoBulkEntries r
def uptoBulkEntry {H : Type} : Lit × DataW H → Nat
  | (.string bytes, d) => bytes.length + uptoBulk d + 1
  | (_, d) => uptoBulk d + 1
 end
def uptoSmall : (H : Type) → List (DataW H) → Bool := fun _ ds => decide (uptoBulkAll ds ≤ 1048576)
def OpenSpec.upto (s : _root_.Go.ChangeSpec) : _root_.Go.OpenSpec := { _root_.Go.OpenSpec.ofChange s with cond := some uptoSmall }

/-- 'hearsaylaw.QueryChecks', WHERE WHAT IT READS IS OF BULK AT MOST 1048576: true; the input reads as it did. -/
def queryChecksUptoRow : OpenClaim := { program := "ytjhdlcmecbngkaadoor", sum := "6b1a8d71b03a9a4089f0fd39ba8c249a05f12cd292059b10b2cd114c3e9b7549", func := "hearsay/hearsaylaw.QueryChecks", spec := "queryChecks", inPlace := ["internal/abi.NoEscape", "internal/bytealg.MakeNoZero", "internal/bytealg.CountString", "internal/bytealg.IndexByteString", "internal/bytealg.IndexString"], unfollowed := true, recurses := true, named := ["unicode/utf8.first", "unicode/utf8.acceptRanges", "internal/bytealg.MaxLen"], apart := false, laid := [("unicode/utf8.acceptRanges", laid_unicode_utf8_acceptRanges), ("unicode/utf8.first", laid_unicode_utf8_first)], narrowed := true }
def QueryChecksUptoSaid : Prop := queryChecksUptoRow.holds Tryd.pinned (OpenSpec.upto queryChecksSpec)

/-- 'hearsaylaw.QueryParses', WHERE WHAT IT READS IS OF BULK AT MOST 1048576: true; the input reads as it did. -/
def queryParsesUptoRow : OpenClaim := { program := "ytjhdlcmecbngkaadoor", sum := "6b1a8d71b03a9a4089f0fd39ba8c249a05f12cd292059b10b2cd114c3e9b7549", func := "hearsay/hearsaylaw.QueryParses", spec := "queryParses", inPlace := ["internal/bytealg.CountString", "internal/bytealg.IndexByteString", "internal/bytealg.IndexString", "internal/abi.NoEscape", "internal/bytealg.MakeNoZero"], unfollowed := true, recurses := true, named := ["unicode/utf8.first", "unicode/utf8.acceptRanges", "internal/bytealg.MaxLen"], apart := false, laid := [("unicode/utf8.acceptRanges", laid_unicode_utf8_acceptRanges), ("unicode/utf8.first", laid_unicode_utf8_first)], narrowed := true }
def QueryParsesUptoSaid : Prop := queryParsesUptoRow.holds Tryd.pinned (OpenSpec.upto queryParsesSpec)

/-- 'hearsaylaw.QueryBack', WHERE WHAT IT READS IS OF BULK AT MOST 1048576: true; the input reads as it did. -/
def queryBackUptoRow : OpenClaim := { program := "ytjhdlcmecbngkaadoor", sum := "6b1a8d71b03a9a4089f0fd39ba8c249a05f12cd292059b10b2cd114c3e9b7549", func := "hearsay/hearsaylaw.QueryBack", spec := "queryBack", inPlace := ["internal/bytealg.CountString", "internal/bytealg.IndexByteString", "internal/bytealg.IndexString", "internal/abi.NoEscape", "internal/bytealg.MakeNoZero"], unfollowed := true, recurses := true, named := ["unicode/utf8.first", "unicode/utf8.acceptRanges", "internal/bytealg.MaxLen"], apart := false, laid := [("unicode/utf8.acceptRanges", laid_unicode_utf8_acceptRanges), ("unicode/utf8.first", laid_unicode_utf8_first)], narrowed := true }
def QueryBackUptoSaid : Prop := queryBackUptoRow.holds Tryd.pinned (OpenSpec.upto queryBackSpec)

/-- 'hearsaylaw.DnsChecks', WHERE WHAT IT READS IS OF BULK AT MOST 1048576: true; the input reads as it did. -/
def dnsChecksUptoRow : OpenClaim := { program := "ytjhdlcmecbngkaadoor", sum := "6b1a8d71b03a9a4089f0fd39ba8c249a05f12cd292059b10b2cd114c3e9b7549", func := "hearsay/hearsaylaw.DnsChecks", spec := "dnsChecks", inPlace := ["internal/bytealg.CountString", "internal/bytealg.IndexByteString", "internal/bytealg.IndexString", "internal/abi.NoEscape", "internal/bytealg.MakeNoZero"], unfollowed := true, recurses := true, named := ["unicode/utf8.first", "unicode/utf8.acceptRanges", "internal/bytealg.MaxLen"], apart := false, laid := [("unicode/utf8.acceptRanges", laid_unicode_utf8_acceptRanges), ("unicode/utf8.first", laid_unicode_utf8_first)], narrowed := true }
def DnsChecksUptoSaid : Prop := dnsChecksUptoRow.holds Tryd.pinned (OpenSpec.upto dnsChecksSpec)

/-- 'hearsaylaw.DnsWrites', WHERE WHAT IT READS IS OF BULK AT MOST 1048576: true; the input reads as it did. -/
def dnsWritesUptoRow : OpenClaim := { program := "ytjhdlcmecbngkaadoor", sum := "6b1a8d71b03a9a4089f0fd39ba8c249a05f12cd292059b10b2cd114c3e9b7549", func := "hearsay/hearsaylaw.DnsWrites", spec := "dnsWrites", inPlace := ["internal/bytealg.CountString", "internal/bytealg.IndexByteString", "internal/bytealg.IndexString", "internal/abi.NoEscape", "internal/bytealg.MakeNoZero"], unfollowed := true, recurses := true, named := ["unicode/utf8.first", "unicode/utf8.acceptRanges", "internal/bytealg.MaxLen"], apart := false, laid := [("unicode/utf8.acceptRanges", laid_unicode_utf8_acceptRanges), ("unicode/utf8.first", laid_unicode_utf8_first)], narrowed := true }
def DnsWritesUptoSaid : Prop := dnsWritesUptoRow.holds Tryd.pinned (OpenSpec.upto dnsWritesSpec)

/-- 'hearsaylaw.DnsReads', WHERE WHAT IT READS IS OF BULK AT MOST 1048576: true; the input reads as it did. -/
def dnsReadsUptoRow : OpenClaim := { program := "ytjhdlcmecbngkaadoor", sum := "6b1a8d71b03a9a4089f0fd39ba8c249a05f12cd292059b10b2cd114c3e9b7549", func := "hearsay/hearsaylaw.DnsReads", spec := "dnsReads", inPlace := ["internal/abi.NoEscape", "internal/bytealg.MakeNoZero", "internal/bytealg.CountString", "internal/bytealg.IndexByteString", "internal/bytealg.IndexString"], unfollowed := true, recurses := true, named := ["unicode/utf8.first", "unicode/utf8.acceptRanges", "internal/bytealg.MaxLen"], apart := false, laid := [("unicode/utf8.acceptRanges", laid_unicode_utf8_acceptRanges), ("unicode/utf8.first", laid_unicode_utf8_first)], narrowed := true }
def DnsReadsUptoSaid : Prop := dnsReadsUptoRow.holds Tryd.pinned (OpenSpec.upto dnsReadsSpec)

/-- 'hearsaylaw.DnsBack', WHERE WHAT IT READS IS OF BULK AT MOST 1048576: true; the input reads as it did. -/
def dnsBackUptoRow : OpenClaim := { program := "ytjhdlcmecbngkaadoor", sum := "6b1a8d71b03a9a4089f0fd39ba8c249a05f12cd292059b10b2cd114c3e9b7549", func := "hearsay/hearsaylaw.DnsBack", spec := "dnsBack", inPlace := ["internal/bytealg.CountString", "internal/bytealg.IndexByteString", "internal/bytealg.IndexString", "internal/abi.NoEscape", "internal/bytealg.MakeNoZero"], unfollowed := true, recurses := true, named := ["unicode/utf8.first", "unicode/utf8.acceptRanges", "internal/bytealg.MaxLen"], apart := false, laid := [("unicode/utf8.acceptRanges", laid_unicode_utf8_acceptRanges), ("unicode/utf8.first", laid_unicode_utf8_first)], narrowed := true }
def DnsBackUptoSaid : Prop := dnsBackUptoRow.holds Tryd.pinned (OpenSpec.upto dnsBackSpec)

/-- 'hearsaylaw.DnsFits', WHERE WHAT IT READS IS OF BULK AT MOST 1048576: true; the input reads as it did. -/
def dnsFitsUptoRow : OpenClaim := { program := "ytjhdlcmecbngkaadoor", sum := "6b1a8d71b03a9a4089f0fd39ba8c249a05f12cd292059b10b2cd114c3e9b7549", func := "hearsay/hearsaylaw.DnsFits", spec := "dnsFits", inPlace := ["internal/bytealg.CountString", "internal/bytealg.IndexByteString", "internal/bytealg.IndexString", "internal/abi.NoEscape", "internal/bytealg.MakeNoZero"], unfollowed := true, recurses := true, named := ["unicode/utf8.first", "unicode/utf8.acceptRanges", "internal/bytealg.MaxLen"], apart := false, laid := [("unicode/utf8.acceptRanges", laid_unicode_utf8_acceptRanges), ("unicode/utf8.first", laid_unicode_utf8_first)], narrowed := true }
def DnsFitsUptoSaid : Prop := dnsFitsUptoRow.holds Tryd.pinned (OpenSpec.upto dnsFitsSpec)

/-- 'hearsaylaw.DnsCuts', WHERE WHAT IT READS IS OF BULK AT MOST 1048576: true; the input reads as it did. -/
def dnsCutsUptoRow : OpenClaim := { program := "ytjhdlcmecbngkaadoor", sum := "6b1a8d71b03a9a4089f0fd39ba8c249a05f12cd292059b10b2cd114c3e9b7549", func := "hearsay/hearsaylaw.DnsCuts", spec := "dnsCuts", inPlace := ["internal/bytealg.CountString", "internal/bytealg.IndexByteString", "internal/bytealg.IndexString", "internal/abi.NoEscape", "internal/bytealg.MakeNoZero"], unfollowed := true, recurses := true, named := ["unicode/utf8.first", "unicode/utf8.acceptRanges", "internal/bytealg.MaxLen"], apart := false, laid := [("unicode/utf8.acceptRanges", laid_unicode_utf8_acceptRanges), ("unicode/utf8.first", laid_unicode_utf8_first)], narrowed := true }
def DnsCutsUptoSaid : Prop := dnsCutsUptoRow.holds Tryd.pinned (OpenSpec.upto dnsCutsSpec)

end Rows
end Go.Proofs.YtjhdlcmecbngkaaDoor
