/-
  DERIVED. GIVEN WITH THE SEED: THE CARDS: each row of YtgpifpijhimhlaaDoorRows.lean that lists a variable, with what it lists TIED to the program's text (the seventh form; the later family's looks); each row that meets fmt, with fmt's text TOLD by the authors' own Lean function (tested against real Go, not proved from fmt's source: count such statements apart). THE CARD IS WHAT COUNTS. Prove the row's statement (the work); the ties are given (YtgpifpijhimhlaaDoorTie.lean); close each card by the builder's one call (the guide's Derived/Test/ToyasCard.lean, 'card_holds'). Laid BY PROGRAM, IN A SANDBOX (cutbox-door.mjs). By AI agents, Wed Nov 11 2026. No macro, syntax, notation, axiom, sorry.
-/
import Derived.Test.YtgpifpijhimhlaaDoorRows
import GoSem.ClaimSeven
namespace Go.Proofs.YtgpifpijhimhlaaDoor
namespace Rows

/-- THE TIED CARD OF 'undertowlaw22.ListLines'. -/
def listLinesCard : Claim7 := { stood := { row := listLinesRow, standIns := [], harness := (true, "8cf0aaee76937178f18f1744362a98a04295ea7bc862c55dcff272548f1ea5bc"), looks := true }, kinds := [], alts := [], laidByText := true, laidKinds := [.data, .data, .data, .data], laidTests := true, laidLooks := .later }
def ListLinesCardSaid : Prop := Claim7.holds Tryd.pinned (.plain (OpenSpec.ofChange listLinesSpec)) listLinesCard

/-- THE TIED CARD OF 'undertowlaw26.TraceCounts'. -/
def traceCountsCard : Claim7 := { stood := { row := traceCountsRow, standIns := [], harness := (true, "8cf0aaee76937178f18f1744362a98a04295ea7bc862c55dcff272548f1ea5bc"), looks := true }, kinds := [], alts := [], laidByText := true, laidKinds := [.data, .data, .data], laidTests := true, laidLooks := .later }
def TraceCountsCardSaid : Prop := Claim7.holds Tryd.pinned (.plain (OpenSpec.ofChange traceCountsSpec)) traceCountsCard

/-- THE TIED CARD OF 'undertowlaw26.TraceParts'. -/
def tracePartsCard : Claim7 := { stood := { row := tracePartsRow, standIns := [], harness := (true, "8cf0aaee76937178f18f1744362a98a04295ea7bc862c55dcff272548f1ea5bc"), looks := true }, kinds := [], alts := [], laidByText := true, laidKinds := [.data, .data, .data], laidTests := true, laidLooks := .later }
def TracePartsCardSaid : Prop := Claim7.holds Tryd.pinned (.plain (OpenSpec.ofChange tracePartsSpec)) tracePartsCard

/-- THE TIED CARD OF 'undertowlaw22.ListLists'. -/
def listListsCard : Claim7 := { stood := { row := listListsRow, standIns := [], harness := (true, "8cf0aaee76937178f18f1744362a98a04295ea7bc862c55dcff272548f1ea5bc"), looks := true }, kinds := [], alts := [], laidByText := true, laidKinds := [.data, .data, .data, .data], laidTests := true, laidLooks := .later }
def ListListsCardSaid : Prop := Claim7.holds Tryd.pinned (.plain (OpenSpec.ofChange listListsSpec)) listListsCard

/-- THE TIED CARD OF 'undertowlaw22.ListParts'. -/
def listPartsCard : Claim7 := { stood := { row := listPartsRow, standIns := [], harness := (true, "8cf0aaee76937178f18f1744362a98a04295ea7bc862c55dcff272548f1ea5bc"), looks := true }, kinds := [], alts := [], laidByText := true, laidKinds := [.data, .data, .data, .data], laidTests := true, laidLooks := .later }
def ListPartsCardSaid : Prop := Claim7.holds Tryd.pinned (.plain (OpenSpec.ofChange listPartsSpec)) listPartsCard

/-- THE TIED CARD OF 'undertowlaw21.AsmNames'. -/
def asmNamesCard : Claim7 := { stood := { row := asmNamesRow, standIns := [], harness := (true, "8cf0aaee76937178f18f1744362a98a04295ea7bc862c55dcff272548f1ea5bc"), looks := true }, kinds := [], alts := [], laidByText := true, laidKinds := [.data, .data, .data, .data, .data, .sentinel, .sentinel, .pinned], laidTests := true, laidLooks := .later }
def AsmNamesCardSaid : Prop := Claim7.holds Tryd.pinned (.plain (OpenSpec.ofChange asmNamesSpec)) asmNamesCard

/-- THE SECOND FORM's CARD OF 'undertowlaw22.ListLines'. -/
def listLinesUptoCard : Claim7 := { stood := { row := listLinesUptoRow, standIns := [], harness := (true, "8cf0aaee76937178f18f1744362a98a04295ea7bc862c55dcff272548f1ea5bc"), looks := true }, kinds := [], alts := [], laidByText := true, laidKinds := [.data, .data, .data, .data], laidTests := true, laidLooks := .later }
def ListLinesUptoCardSaid : Prop := Claim7.holds Tryd.pinned (.plain (OpenSpec.upto listLinesSpec)) listLinesUptoCard

/-- THE SECOND FORM's CARD OF 'undertowlaw26.TraceCounts'. -/
def traceCountsUptoCard : Claim7 := { stood := { row := traceCountsUptoRow, standIns := [], harness := (true, "8cf0aaee76937178f18f1744362a98a04295ea7bc862c55dcff272548f1ea5bc"), looks := true }, kinds := [], alts := [], laidByText := true, laidKinds := [.data, .data, .data], laidTests := true, laidLooks := .later }
def TraceCountsUptoCardSaid : Prop := Claim7.holds Tryd.pinned (.plain (OpenSpec.upto traceCountsSpec)) traceCountsUptoCard

/-- THE SECOND FORM's CARD OF 'undertowlaw26.TraceParts'. -/
def tracePartsUptoCard : Claim7 := { stood := { row := tracePartsUptoRow, standIns := [], harness := (true, "8cf0aaee76937178f18f1744362a98a04295ea7bc862c55dcff272548f1ea5bc"), looks := true }, kinds := [], alts := [], laidByText := true, laidKinds := [.data, .data, .data], laidTests := true, laidLooks := .later }
def TracePartsUptoCardSaid : Prop := Claim7.holds Tryd.pinned (.plain (OpenSpec.upto tracePartsSpec)) tracePartsUptoCard

/-- THE SECOND FORM's CARD OF 'undertowlaw22.ListLists'. -/
def listListsUptoCard : Claim7 := { stood := { row := listListsUptoRow, standIns := [], harness := (true, "8cf0aaee76937178f18f1744362a98a04295ea7bc862c55dcff272548f1ea5bc"), looks := true }, kinds := [], alts := [], laidByText := true, laidKinds := [.data, .data, .data, .data], laidTests := true, laidLooks := .later }
def ListListsUptoCardSaid : Prop := Claim7.holds Tryd.pinned (.plain (OpenSpec.upto listListsSpec)) listListsUptoCard

/-- THE SECOND FORM's CARD OF 'undertowlaw22.ListParts'. -/
def listPartsUptoCard : Claim7 := { stood := { row := listPartsUptoRow, standIns := [], harness := (true, "8cf0aaee76937178f18f1744362a98a04295ea7bc862c55dcff272548f1ea5bc"), looks := true }, kinds := [], alts := [], laidByText := true, laidKinds := [.data, .data, .data, .data], laidTests := true, laidLooks := .later }
def ListPartsUptoCardSaid : Prop := Claim7.holds Tryd.pinned (.plain (OpenSpec.upto listPartsSpec)) listPartsUptoCard

/-- THE SECOND FORM's CARD OF 'undertowlaw21.AsmNames'. -/
def asmNamesUptoCard : Claim7 := { stood := { row := asmNamesUptoRow, standIns := [], harness := (true, "8cf0aaee76937178f18f1744362a98a04295ea7bc862c55dcff272548f1ea5bc"), looks := true }, kinds := [], alts := [], laidByText := true, laidKinds := [.data, .data, .data, .data, .data, .sentinel, .sentinel, .pinned], laidTests := true, laidLooks := .later }
def AsmNamesUptoCardSaid : Prop := Claim7.holds Tryd.pinned (.plain (OpenSpec.upto asmNamesSpec)) asmNamesUptoCard
end Rows
end Go.Proofs.YtgpifpijhimhlaaDoor
