/-
  DERIVED. GIVEN WITH THE SEED: THE CARDS: each row of YtgohnfkidkomhaaDoorRows.lean that lists a variable, with what it lists TIED to the program's text (the seventh form; the later family's looks); each row that meets fmt, with fmt's text TOLD by the authors' own Lean function (tested against real Go, not proved from fmt's source: count such statements apart). THE CARD IS WHAT COUNTS. Prove the row's statement (the work); the ties are given (YtgohnfkidkomhaaDoorTie.lean); close each card by the builder's one call (the guide's Derived/Test/ToyasCard.lean, 'card_holds'). Laid BY PROGRAM, IN A SANDBOX (cutbox-door.mjs). By AI agents, Wed Nov 11 2026. No macro, syntax, notation, axiom, sorry.
-/
import Derived.Test.YtgohnfkidkomhaaDoorRows
import GoSem.ClaimSeven
namespace Go.Proofs.YtgohnfkidkomhaaDoor
namespace Rows

/-- THE TIED CARD OF 'undertowlaw26.TraceParts'. -/
def tracePartsCard : Claim7 := { stood := { row := tracePartsRow, standIns := [], harness := (true, "1764858e0c70b797e0e533dc2ed00f8b217df3e375865207d043417179e84fb0"), looks := true }, kinds := [], alts := [], laidByText := true, laidKinds := [.data, .data, .data], laidTests := true, laidLooks := .later }
def TracePartsCardSaid : Prop := Claim7.holds Tryd.pinned (.plain (OpenSpec.ofChange tracePartsSpec)) tracePartsCard

/-- THE TIED CARD OF 'undertowlaw22.ListLists'. -/
def listListsCard : Claim7 := { stood := { row := listListsRow, standIns := [], harness := (true, "1764858e0c70b797e0e533dc2ed00f8b217df3e375865207d043417179e84fb0"), looks := true }, kinds := [], alts := [], laidByText := true, laidKinds := [.data, .data, .data, .data], laidTests := true, laidLooks := .later }
def ListListsCardSaid : Prop := Claim7.holds Tryd.pinned (.plain (OpenSpec.ofChange listListsSpec)) listListsCard

/-- THE TIED CARD OF 'undertowlaw22.ListParts'. -/
def listPartsCard : Claim7 := { stood := { row := listPartsRow, standIns := [], harness := (true, "1764858e0c70b797e0e533dc2ed00f8b217df3e375865207d043417179e84fb0"), looks := true }, kinds := [], alts := [], laidByText := true, laidKinds := [.data, .data, .data, .data], laidTests := true, laidLooks := .later }
def ListPartsCardSaid : Prop := Claim7.holds Tryd.pinned (.plain (OpenSpec.ofChange listPartsSpec)) listPartsCard

/-- THE TIED CARD OF 'undertowlaw20.TokenLines'. -/
def tokenLinesCard : Claim7 := { stood := { row := tokenLinesRow, standIns := [], harness := (true, "1764858e0c70b797e0e533dc2ed00f8b217df3e375865207d043417179e84fb0"), looks := true }, kinds := [], alts := [], laidByText := true, laidKinds := [.data, .data, .data, .sentinel, .sentinel], laidTests := true, laidLooks := .later }
def TokenLinesCardSaid : Prop := Claim7.holds Tryd.pinned (.plain (OpenSpec.ofChange tokenLinesSpec)) tokenLinesCard

/-- THE TIED CARD OF 'undertowlaw20.TokenRemarks'. -/
def tokenRemarksCard : Claim7 := { stood := { row := tokenRemarksRow, standIns := [], harness := (true, "1764858e0c70b797e0e533dc2ed00f8b217df3e375865207d043417179e84fb0"), looks := true }, kinds := [], alts := [], laidByText := true, laidKinds := [.data, .data, .data, .sentinel, .sentinel], laidTests := true, laidLooks := .later }
def TokenRemarksCardSaid : Prop := Claim7.holds Tryd.pinned (.plain (OpenSpec.ofChange tokenRemarksSpec)) tokenRemarksCard

/-- THE TIED CARD OF 'undertowlaw20.TokenBack'. -/
def tokenBackCard : Claim7 := { stood := { row := tokenBackRow, standIns := [], harness := (true, "1764858e0c70b797e0e533dc2ed00f8b217df3e375865207d043417179e84fb0"), looks := true }, kinds := [], alts := [], laidByText := true, laidKinds := [.data, .data, .data, .sentinel, .sentinel], laidTests := true, laidLooks := .later }
def TokenBackCardSaid : Prop := Claim7.holds Tryd.pinned (.plain (OpenSpec.ofChange tokenBackSpec)) tokenBackCard

/-- THE TIED CARD OF 'undertowlaw26.TraceLines'. -/
def traceLinesCard : Claim7 := { stood := { row := traceLinesRow, standIns := [], harness := (true, "1764858e0c70b797e0e533dc2ed00f8b217df3e375865207d043417179e84fb0"), looks := true }, kinds := [], alts := [], laidByText := true, laidKinds := [.data, .data, .data, .data, .sentinel, .sentinel, .pinned], laidTests := true, laidLooks := .later }
def TraceLinesCardSaid : Prop := Claim7.holds Tryd.pinned (.plain (OpenSpec.ofChange traceLinesSpec)) traceLinesCard

/-- THE TIED CARD OF 'undertowlaw26.TraceBack'. -/
def traceBackCard : Claim7 := { stood := { row := traceBackRow, standIns := [], harness := (true, "1764858e0c70b797e0e533dc2ed00f8b217df3e375865207d043417179e84fb0"), looks := true }, kinds := [], alts := [], laidByText := true, laidKinds := [.data, .data, .data, .data, .sentinel, .sentinel, .pinned], laidTests := true, laidLooks := .later }
def TraceBackCardSaid : Prop := Claim7.holds Tryd.pinned (.plain (OpenSpec.ofChange traceBackSpec)) traceBackCard

/-- THE TIED CARD OF 'undertowlaw21.AsmRemarks'. -/
def asmRemarksCard : Claim7 := { stood := { row := asmRemarksRow, standIns := [], harness := (true, "1764858e0c70b797e0e533dc2ed00f8b217df3e375865207d043417179e84fb0"), looks := true }, kinds := [], alts := [], laidByText := true, laidKinds := [.data, .data, .data, .data, .data, .sentinel, .sentinel, .pinned], laidTests := true, laidLooks := .later }
def AsmRemarksCardSaid : Prop := Claim7.holds Tryd.pinned (.plain (OpenSpec.ofChange asmRemarksSpec)) asmRemarksCard

/-- THE TIED CARD OF 'undertowlaw21.AsmTakes'. -/
def asmTakesCard : Claim7 := { stood := { row := asmTakesRow, standIns := [], harness := (true, "1764858e0c70b797e0e533dc2ed00f8b217df3e375865207d043417179e84fb0"), looks := true }, kinds := [], alts := [], laidByText := true, laidKinds := [.data, .data, .data, .data, .data, .sentinel, .sentinel, .pinned], laidTests := true, laidLooks := .later }
def AsmTakesCardSaid : Prop := Claim7.holds Tryd.pinned (.plain (OpenSpec.ofChange asmTakesSpec)) asmTakesCard

/-- THE TIED CARD OF 'undertowlaw21.AsmLabels'. -/
def asmLabelsCard : Claim7 := { stood := { row := asmLabelsRow, standIns := [], harness := (true, "1764858e0c70b797e0e533dc2ed00f8b217df3e375865207d043417179e84fb0"), looks := true }, kinds := [], alts := [], laidByText := true, laidKinds := [.data, .data, .data, .data, .data, .sentinel, .sentinel, .pinned], laidTests := true, laidLooks := .later }
def AsmLabelsCardSaid : Prop := Claim7.holds Tryd.pinned (.plain (OpenSpec.ofChange asmLabelsSpec)) asmLabelsCard

/-- THE TIED CARD OF 'undertowlaw22.ListBack'. -/
def listBackCard : Claim7 := { stood := { row := listBackRow, standIns := [], harness := (true, "1764858e0c70b797e0e533dc2ed00f8b217df3e375865207d043417179e84fb0"), looks := true }, kinds := [], alts := [], laidByText := true, laidKinds := [.data, .data, .data, .data, .data, .sentinel, .sentinel, .pinned], laidTests := true, laidLooks := .later }
def ListBackCardSaid : Prop := Claim7.holds Tryd.pinned (.plain (OpenSpec.ofChange listBackSpec)) listBackCard

/-- THE TIED CARD OF 'undertowlaw22.ListTwice'. -/
def listTwiceCard : Claim7 := { stood := { row := listTwiceRow, standIns := [], harness := (true, "1764858e0c70b797e0e533dc2ed00f8b217df3e375865207d043417179e84fb0"), looks := true }, kinds := [], alts := [], laidByText := true, laidKinds := [.data, .data, .data, .data, .data, .sentinel, .sentinel, .pinned], laidTests := true, laidLooks := .later }
def ListTwiceCardSaid : Prop := Claim7.holds Tryd.pinned (.plain (OpenSpec.ofChange listTwiceSpec)) listTwiceCard

/-- THE SECOND FORM's CARD OF 'undertowlaw26.TraceParts'. -/
def tracePartsUptoCard : Claim7 := { stood := { row := tracePartsUptoRow, standIns := [], harness := (true, "1764858e0c70b797e0e533dc2ed00f8b217df3e375865207d043417179e84fb0"), looks := true }, kinds := [], alts := [], laidByText := true, laidKinds := [.data, .data, .data], laidTests := true, laidLooks := .later }
def TracePartsUptoCardSaid : Prop := Claim7.holds Tryd.pinned (.plain (OpenSpec.upto tracePartsSpec)) tracePartsUptoCard

/-- THE SECOND FORM's CARD OF 'undertowlaw22.ListLists'. -/
def listListsUptoCard : Claim7 := { stood := { row := listListsUptoRow, standIns := [], harness := (true, "1764858e0c70b797e0e533dc2ed00f8b217df3e375865207d043417179e84fb0"), looks := true }, kinds := [], alts := [], laidByText := true, laidKinds := [.data, .data, .data, .data], laidTests := true, laidLooks := .later }
def ListListsUptoCardSaid : Prop := Claim7.holds Tryd.pinned (.plain (OpenSpec.upto listListsSpec)) listListsUptoCard

/-- THE SECOND FORM's CARD OF 'undertowlaw22.ListParts'. -/
def listPartsUptoCard : Claim7 := { stood := { row := listPartsUptoRow, standIns := [], harness := (true, "1764858e0c70b797e0e533dc2ed00f8b217df3e375865207d043417179e84fb0"), looks := true }, kinds := [], alts := [], laidByText := true, laidKinds := [.data, .data, .data, .data], laidTests := true, laidLooks := .later }
def ListPartsUptoCardSaid : Prop := Claim7.holds Tryd.pinned (.plain (OpenSpec.upto listPartsSpec)) listPartsUptoCard

/-- THE SECOND FORM's CARD OF 'undertowlaw20.TokenLines'. -/
def tokenLinesUptoCard : Claim7 := { stood := { row := tokenLinesUptoRow, standIns := [], harness := (true, "1764858e0c70b797e0e533dc2ed00f8b217df3e375865207d043417179e84fb0"), looks := true }, kinds := [], alts := [], laidByText := true, laidKinds := [.data, .data, .data, .sentinel, .sentinel], laidTests := true, laidLooks := .later }
def TokenLinesUptoCardSaid : Prop := Claim7.holds Tryd.pinned (.plain (OpenSpec.upto tokenLinesSpec)) tokenLinesUptoCard

/-- THE SECOND FORM's CARD OF 'undertowlaw20.TokenRemarks'. -/
def tokenRemarksUptoCard : Claim7 := { stood := { row := tokenRemarksUptoRow, standIns := [], harness := (true, "1764858e0c70b797e0e533dc2ed00f8b217df3e375865207d043417179e84fb0"), looks := true }, kinds := [], alts := [], laidByText := true, laidKinds := [.data, .data, .data, .sentinel, .sentinel], laidTests := true, laidLooks := .later }
def TokenRemarksUptoCardSaid : Prop := Claim7.holds Tryd.pinned (.plain (OpenSpec.upto tokenRemarksSpec)) tokenRemarksUptoCard

/-- THE SECOND FORM's CARD OF 'undertowlaw20.TokenBack'. -/
def tokenBackUptoCard : Claim7 := { stood := { row := tokenBackUptoRow, standIns := [], harness := (true, "1764858e0c70b797e0e533dc2ed00f8b217df3e375865207d043417179e84fb0"), looks := true }, kinds := [], alts := [], laidByText := true, laidKinds := [.data, .data, .data, .sentinel, .sentinel], laidTests := true, laidLooks := .later }
def TokenBackUptoCardSaid : Prop := Claim7.holds Tryd.pinned (.plain (OpenSpec.upto tokenBackSpec)) tokenBackUptoCard

/-- THE SECOND FORM's CARD OF 'undertowlaw26.TraceLines'. -/
def traceLinesUptoCard : Claim7 := { stood := { row := traceLinesUptoRow, standIns := [], harness := (true, "1764858e0c70b797e0e533dc2ed00f8b217df3e375865207d043417179e84fb0"), looks := true }, kinds := [], alts := [], laidByText := true, laidKinds := [.data, .data, .data, .data, .sentinel, .sentinel, .pinned], laidTests := true, laidLooks := .later }
def TraceLinesUptoCardSaid : Prop := Claim7.holds Tryd.pinned (.plain (OpenSpec.upto traceLinesSpec)) traceLinesUptoCard

/-- THE SECOND FORM's CARD OF 'undertowlaw26.TraceBack'. -/
def traceBackUptoCard : Claim7 := { stood := { row := traceBackUptoRow, standIns := [], harness := (true, "1764858e0c70b797e0e533dc2ed00f8b217df3e375865207d043417179e84fb0"), looks := true }, kinds := [], alts := [], laidByText := true, laidKinds := [.data, .data, .data, .data, .sentinel, .sentinel, .pinned], laidTests := true, laidLooks := .later }
def TraceBackUptoCardSaid : Prop := Claim7.holds Tryd.pinned (.plain (OpenSpec.upto traceBackSpec)) traceBackUptoCard

/-- THE SECOND FORM's CARD OF 'undertowlaw21.AsmRemarks'. -/
def asmRemarksUptoCard : Claim7 := { stood := { row := asmRemarksUptoRow, standIns := [], harness := (true, "1764858e0c70b797e0e533dc2ed00f8b217df3e375865207d043417179e84fb0"), looks := true }, kinds := [], alts := [], laidByText := true, laidKinds := [.data, .data, .data, .data, .data, .sentinel, .sentinel, .pinned], laidTests := true, laidLooks := .later }
def AsmRemarksUptoCardSaid : Prop := Claim7.holds Tryd.pinned (.plain (OpenSpec.upto asmRemarksSpec)) asmRemarksUptoCard

/-- THE SECOND FORM's CARD OF 'undertowlaw21.AsmTakes'. -/
def asmTakesUptoCard : Claim7 := { stood := { row := asmTakesUptoRow, standIns := [], harness := (true, "1764858e0c70b797e0e533dc2ed00f8b217df3e375865207d043417179e84fb0"), looks := true }, kinds := [], alts := [], laidByText := true, laidKinds := [.data, .data, .data, .data, .data, .sentinel, .sentinel, .pinned], laidTests := true, laidLooks := .later }
def AsmTakesUptoCardSaid : Prop := Claim7.holds Tryd.pinned (.plain (OpenSpec.upto asmTakesSpec)) asmTakesUptoCard

/-- THE SECOND FORM's CARD OF 'undertowlaw21.AsmLabels'. -/
def asmLabelsUptoCard : Claim7 := { stood := { row := asmLabelsUptoRow, standIns := [], harness := (true, "1764858e0c70b797e0e533dc2ed00f8b217df3e375865207d043417179e84fb0"), looks := true }, kinds := [], alts := [], laidByText := true, laidKinds := [.data, .data, .data, .data, .data, .sentinel, .sentinel, .pinned], laidTests := true, laidLooks := .later }
def AsmLabelsUptoCardSaid : Prop := Claim7.holds Tryd.pinned (.plain (OpenSpec.upto asmLabelsSpec)) asmLabelsUptoCard

/-- THE SECOND FORM's CARD OF 'undertowlaw22.ListBack'. -/
def listBackUptoCard : Claim7 := { stood := { row := listBackUptoRow, standIns := [], harness := (true, "1764858e0c70b797e0e533dc2ed00f8b217df3e375865207d043417179e84fb0"), looks := true }, kinds := [], alts := [], laidByText := true, laidKinds := [.data, .data, .data, .data, .data, .sentinel, .sentinel, .pinned], laidTests := true, laidLooks := .later }
def ListBackUptoCardSaid : Prop := Claim7.holds Tryd.pinned (.plain (OpenSpec.upto listBackSpec)) listBackUptoCard

/-- THE SECOND FORM's CARD OF 'undertowlaw22.ListTwice'. -/
def listTwiceUptoCard : Claim7 := { stood := { row := listTwiceUptoRow, standIns := [], harness := (true, "1764858e0c70b797e0e533dc2ed00f8b217df3e375865207d043417179e84fb0"), looks := true }, kinds := [], alts := [], laidByText := true, laidKinds := [.data, .data, .data, .data, .data, .sentinel, .sentinel, .pinned], laidTests := true, laidLooks := .later }
def ListTwiceUptoCardSaid : Prop := Claim7.holds Tryd.pinned (.plain (OpenSpec.upto listTwiceSpec)) listTwiceUptoCard
end Rows
end Go.Proofs.YtgohnfkidkomhaaDoor
