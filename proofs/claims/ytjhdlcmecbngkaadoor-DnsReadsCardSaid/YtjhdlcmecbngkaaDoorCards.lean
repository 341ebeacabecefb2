/-
  DERIVED. GIVEN WITH THE SEED: THE CARDS: each row of YtjhdlcmecbngkaaDoorRows.lean that lists a variable, with what it lists TIED to the program's text (the seventh form; the later family's looks); each row that meets fmt, with fmt's text TOLD by the authors' own Lean function (tested against real Go, not proved from fmt's source: count such statements apart). THE CARD IS WHAT COUNTS. Prove the row's statement (the work); the ties are given (YtjhdlcmecbngkaaDoorTie.lean); close each card by the builder's one call (the guide's Derived/Test/ToyasCard.lean, 'card_holds'). Laid BY PROGRAM, IN A SANDBOX (cutbox-door.mjs). By AI agents, Wed Nov 11 2026. No macro, syntax, notation, axiom, sorry.
-/
import Derived.Test.YtjhdlcmecbngkaaDoorRows
import GoSem.ClaimSeven
namespace Go.Proofs.YtjhdlcmecbngkaaDoor
namespace Rows

/-- THE TIED CARD OF 'hearsaylaw.QueryChecks'. -/
def queryChecksCard : Claim7 := { stood := { row := queryChecksRow, standIns := [], harness := (true, "eaac14a5ea745d0c3ab73d15760e544ca7400c780f634a52f6ac908650c84e31"), looks := true }, kinds := [], alts := [], laidByText := true, laidKinds := [.data, .pinned], laidTests := true, laidLooks := .later }
def QueryChecksCardSaid : Prop := Claim7.holds Tryd.pinned (.plain (OpenSpec.ofChange queryChecksSpec)) queryChecksCard

/-- THE TIED CARD OF 'hearsaylaw.QueryParses'. -/
def queryParsesCard : Claim7 := { stood := { row := queryParsesRow, standIns := [], harness := (true, "eaac14a5ea745d0c3ab73d15760e544ca7400c780f634a52f6ac908650c84e31"), looks := true }, kinds := [], alts := [], laidByText := true, laidKinds := [.data, .pinned], laidTests := true, laidLooks := .later }
def QueryParsesCardSaid : Prop := Claim7.holds Tryd.pinned (.plain (OpenSpec.ofChange queryParsesSpec)) queryParsesCard

/-- THE TIED CARD OF 'hearsaylaw.QueryBack'. -/
def queryBackCard : Claim7 := { stood := { row := queryBackRow, standIns := [], harness := (true, "eaac14a5ea745d0c3ab73d15760e544ca7400c780f634a52f6ac908650c84e31"), looks := true }, kinds := [], alts := [], laidByText := true, laidKinds := [.data, .pinned], laidTests := true, laidLooks := .later }
def QueryBackCardSaid : Prop := Claim7.holds Tryd.pinned (.plain (OpenSpec.ofChange queryBackSpec)) queryBackCard

/-- THE TIED CARD OF 'hearsaylaw.DnsChecks'. -/
def dnsChecksCard : Claim7 := { stood := { row := dnsChecksRow, standIns := [], harness := (true, "eaac14a5ea745d0c3ab73d15760e544ca7400c780f634a52f6ac908650c84e31"), looks := true }, kinds := [], alts := [], laidByText := true, laidKinds := [.data, .pinned], laidTests := true, laidLooks := .later }
def DnsChecksCardSaid : Prop := Claim7.holds Tryd.pinned (.plain (OpenSpec.ofChange dnsChecksSpec)) dnsChecksCard

/-- THE TIED CARD OF 'hearsaylaw.DnsWrites'. -/
def dnsWritesCard : Claim7 := { stood := { row := dnsWritesRow, standIns := [], harness := (true, "eaac14a5ea745d0c3ab73d15760e544ca7400c780f634a52f6ac908650c84e31"), looks := true }, kinds := [], alts := [], laidByText := true, laidKinds := [.data, .pinned], laidTests := true, laidLooks := .later }
def DnsWritesCardSaid : Prop := Claim7.holds Tryd.pinned (.plain (OpenSpec.ofChange dnsWritesSpec)) dnsWritesCard

/-- THE TIED CARD OF 'hearsaylaw.DnsReads'. -/
def dnsReadsCard : Claim7 := { stood := { row := dnsReadsRow, standIns := [], harness := (true, "eaac14a5ea745d0c3ab73d15760e544ca7400c780f634a52f6ac908650c84e31"), looks := true }, kinds := [], alts := [], laidByText := true, laidKinds := [.data, .pinned], laidTests := true, laidLooks := .later }
def DnsReadsCardSaid : Prop := Claim7.holds Tryd.pinned (.plain (OpenSpec.ofChange dnsReadsSpec)) dnsReadsCard

/-- THE TIED CARD OF 'hearsaylaw.DnsBack'. -/
def dnsBackCard : Claim7 := { stood := { row := dnsBackRow, standIns := [], harness := (true, "eaac14a5ea745d0c3ab73d15760e544ca7400c780f634a52f6ac908650c84e31"), looks := true }, kinds := [], alts := [], laidByText := true, laidKinds := [.data, .pinned], laidTests := true, laidLooks := .later }
def DnsBackCardSaid : Prop := Claim7.holds Tryd.pinned (.plain (OpenSpec.ofChange dnsBackSpec)) dnsBackCard

/-- THE TIED CARD OF 'hearsaylaw.DnsFits'. -/
def dnsFitsCard : Claim7 := { stood := { row := dnsFitsRow, standIns := [], harness := (true, "eaac14a5ea745d0c3ab73d15760e544ca7400c780f634a52f6ac908650c84e31"), looks := true }, kinds := [], alts := [], laidByText := true, laidKinds := [.data, .pinned], laidTests := true, laidLooks := .later }
def DnsFitsCardSaid : Prop := Claim7.holds Tryd.pinned (.plain (OpenSpec.ofChange dnsFitsSpec)) dnsFitsCard

/-- THE TIED CARD OF 'hearsaylaw.DnsCuts'. -/
def dnsCutsCard : Claim7 := { stood := { row := dnsCutsRow, standIns := [], harness := (true, "eaac14a5ea745d0c3ab73d15760e544ca7400c780f634a52f6ac908650c84e31"), looks := true }, kinds := [], alts := [], laidByText := true, laidKinds := [.data, .pinned], laidTests := true, laidLooks := .later }
def DnsCutsCardSaid : Prop := Claim7.holds Tryd.pinned (.plain (OpenSpec.ofChange dnsCutsSpec)) dnsCutsCard

/-- THE SECOND FORM's CARD OF 'hearsaylaw.QueryChecks'. -/
def queryChecksUptoCard : Claim7 := { stood := { row := queryChecksUptoRow, standIns := [], harness := (true, "eaac14a5ea745d0c3ab73d15760e544ca7400c780f634a52f6ac908650c84e31"), looks := true }, kinds := [], alts := [], laidByText := true, laidKinds := [.data, .pinned], laidTests := true, laidLooks := .later }
def QueryChecksUptoCardSaid : Prop := Claim7.holds Tryd.pinned (.plain (OpenSpec.upto queryChecksSpec)) queryChecksUptoCard

/-- THE SECOND FORM's CARD OF 'hearsaylaw.QueryParses'. -/
def queryParsesUptoCard : Claim7 := { stood := { row := queryParsesUptoRow, standIns := [], harness := (true, "eaac14a5ea745d0c3ab73d15760e544ca7400c780f634a52f6ac908650c84e31"), looks := true }, kinds := [], alts := [], laidByText := true, laidKinds := [.data, .pinned], laidTests := true, laidLooks := .later }
def QueryParsesUptoCardSaid : Prop := Claim7.holds Tryd.pinned (.plain (OpenSpec.upto queryParsesSpec)) queryParsesUptoCard

/-- THE SECOND FORM's CARD OF 'hearsaylaw.QueryBack'. -/
def queryBackUptoCard : Claim7 := { stood := { row := queryBackUptoRow, standIns := [], harness := (true, "eaac14a5ea745d0c3ab73d15760e544ca7400c780f634a52f6ac908650c84e31"), looks := true }, kinds := [], alts := [], laidByText := true, laidKinds := [.data, .pinned], laidTests := true, laidLooks := .later }
def QueryBackUptoCardSaid : Prop := Claim7.holds Tryd.pinned (.plain (OpenSpec.upto queryBackSpec)) queryBackUptoCard

/-- THE SECOND FORM's CARD OF 'hearsaylaw.DnsChecks'. -/
def dnsChecksUptoCard : Claim7 := { stood := { row := dnsChecksUptoRow, standIns := [], harness := (true, "eaac14a5ea745d0c3ab73d15760e544ca7400c780f634a52f6ac908650c84e31"), looks := true }, kinds := [], alts := [], laidByText := true, laidKinds := [.data, .pinned], laidTests := true, laidLooks := .later }
def DnsChecksUptoCardSaid : Prop := Claim7.holds Tryd.pinned (.plain (OpenSpec.upto dnsChecksSpec)) dnsChecksUptoCard

/-- THE SECOND FORM's CARD OF 'hearsaylaw.DnsWrites'. -/
def dnsWritesUptoCard : Claim7 := { stood := { row := dnsWritesUptoRow, standIns := [], harness := (true, "eaac14a5ea745d0c3ab73d15760e544ca7400c780f634a52f6ac908650c84e31"), looks := true }, kinds := [], alts := [], laidByText := true, laidKinds := [.data, .pinned], laidTests := true, laidLooks := .later }
def DnsWritesUptoCardSaid : Prop := Claim7.holds Tryd.pinned (.plain (OpenSpec.upto dnsWritesSpec)) dnsWritesUptoCard

/-- THE SECOND FORM's CARD OF 'hearsaylaw.DnsReads'. -/
def dnsReadsUptoCard : Claim7 := { stood := { row := dnsReadsUptoRow, standIns := [], harness := (true, "eaac14a5ea745d0c3ab73d15760e544ca7400c780f634a52f6ac908650c84e31"), looks := true }, kinds := [], alts := [], laidByText := true, laidKinds := [.data, .pinned], laidTests := true, laidLooks := .later }
def DnsReadsUptoCardSaid : Prop := Claim7.holds Tryd.pinned (.plain (OpenSpec.upto dnsReadsSpec)) dnsReadsUptoCard

/-- THE SECOND FORM's CARD OF 'hearsaylaw.DnsBack'. -/
def dnsBackUptoCard : Claim7 := { stood := { row := dnsBackUptoRow, standIns := [], harness := (true, "eaac14a5ea745d0c3ab73d15760e544ca7400c780f634a52f6ac908650c84e31"), looks := true }, kinds := [], alts := [], laidByText := true, laidKinds := [.data, .pinned], laidTests := true, laidLooks := .later }
def DnsBackUptoCardSaid : Prop := Claim7.holds Tryd.pinned (.plain (OpenSpec.upto dnsBackSpec)) dnsBackUptoCard

/-- THE SECOND FORM's CARD OF 'hearsaylaw.DnsFits'. -/
def dnsFitsUptoCard : Claim7 := { stood := { row := dnsFitsUptoRow, standIns := [], harness := (true, "eaac14a5ea745d0c3ab73d15760e544ca7400c780f634a52f6ac908650c84e31"), looks := true }, kinds := [], alts := [], laidByText := true, laidKinds := [.data, .pinned], laidTests := true, laidLooks := .later }
def DnsFitsUptoCardSaid : Prop := Claim7.holds Tryd.pinned (.plain (OpenSpec.upto dnsFitsSpec)) dnsFitsUptoCard

/-- THE SECOND FORM's CARD OF 'hearsaylaw.DnsCuts'. -/
def dnsCutsUptoCard : Claim7 := { stood := { row := dnsCutsUptoRow, standIns := [], harness := (true, "eaac14a5ea745d0c3ab73d15760e544ca7400c780f634a52f6ac908650c84e31"), looks := true }, kinds := [], alts := [], laidByText := true, laidKinds := [.data, .pinned], laidTests := true, laidLooks := .later }
def DnsCutsUptoCardSaid : Prop := Claim7.holds Tryd.pinned (.plain (OpenSpec.upto dnsCutsSpec)) dnsCutsUptoCard
end Rows
end Go.Proofs.YtjhdlcmecbngkaaDoor
