/-
  DERIVED. GIVEN WITH THE SEED: THE CARDS: each row of YtambfeiefkfbfaaDoorRows.lean that lists a variable, with what it lists TIED to the program's text (the seventh form; the later family's looks); each row that meets fmt, with fmt's text TOLD by the authors' own Lean function (tested against real Go, not proved from fmt's source: count such statements apart). THE CARD IS WHAT COUNTS. Prove the row's statement (the work); the ties are given (YtambfeiefkfbfaaDoorTie.lean); close each card by the builder's one call (the guide's Derived/Test/ToyasCard.lean, 'card_holds'). Laid BY PROGRAM, IN A SANDBOX (cutbox-door.mjs). By AI agents, Wed Nov 11 2026. No macro, syntax, notation, axiom, sorry.
-/
import Derived.Test.YtambfeiefkfbfaaDoorRows
import GoSem.ClaimSeven
namespace Go.Proofs.YtambfeiefkfbfaaDoor
namespace Rows

/-- THE TIED CARD OF 'undertowlaw22.ListKnown'. -/
def listKnownCard : Claim7 := { stood := { row := listKnownRow, standIns := [], harness := (true, "a669276182af0d3b9a19557640b549f5b2c1e268eecfaccfa894a4dc6b432063"), looks := true }, kinds := [], alts := [], laidByText := true, laidKinds := [.data, .data, .data, .data], laidTests := true, laidLooks := .later }
def ListKnownCardSaid : Prop := Claim7.holds Tryd.pinned (.plain (OpenSpec.ofChange listKnownSpec)) listKnownCard

/-- THE TIED CARD OF 'undertowlaw20.TokenKnown'. -/
def tokenKnownCard : Claim7 := { stood := { row := tokenKnownRow, standIns := [], harness := (true, "a669276182af0d3b9a19557640b549f5b2c1e268eecfaccfa894a4dc6b432063"), looks := true }, kinds := [], alts := [], laidByText := true, laidKinds := [.data, .data, .data, .sentinel, .sentinel], laidTests := true, laidLooks := .later }
def TokenKnownCardSaid : Prop := Claim7.holds Tryd.pinned (.plain (OpenSpec.ofChange tokenKnownSpec)) tokenKnownCard

/-- THE TIED CARD OF 'undertowlaw26.TraceKnown'. -/
def traceKnownCard : Claim7 := { stood := { row := traceKnownRow, standIns := [], harness := (true, "a669276182af0d3b9a19557640b549f5b2c1e268eecfaccfa894a4dc6b432063"), looks := true }, kinds := [], alts := [], laidByText := true, laidKinds := [.data, .data, .data, .data, .sentinel, .sentinel, .pinned], laidTests := true, laidLooks := .later }
def TraceKnownCardSaid : Prop := Claim7.holds Tryd.pinned (.plain (OpenSpec.ofChange traceKnownSpec)) traceKnownCard

/-- THE TIED CARD OF 'undertowlaw21.AsmKnown'. -/
def asmKnownCard : Claim7 := { stood := { row := asmKnownRow, standIns := [], harness := (true, "a669276182af0d3b9a19557640b549f5b2c1e268eecfaccfa894a4dc6b432063"), looks := true }, kinds := [], alts := [], laidByText := true, laidKinds := [.data, .data, .data, .data, .data, .sentinel, .sentinel, .pinned], laidTests := true, laidLooks := .later }
def AsmKnownCardSaid : Prop := Claim7.holds Tryd.pinned (.plain (OpenSpec.ofChange asmKnownSpec)) asmKnownCard

/-- THE SECOND FORM's CARD OF 'undertowlaw22.ListKnown'. -/
def listKnownUptoCard : Claim7 := { stood := { row := listKnownUptoRow, standIns := [], harness := (true, "a669276182af0d3b9a19557640b549f5b2c1e268eecfaccfa894a4dc6b432063"), looks := true }, kinds := [], alts := [], laidByText := true, laidKinds := [.data, .data, .data, .data], laidTests := true, laidLooks := .later }
def ListKnownUptoCardSaid : Prop := Claim7.holds Tryd.pinned (.plain (OpenSpec.upto listKnownSpec)) listKnownUptoCard

/-- THE SECOND FORM's CARD OF 'undertowlaw20.TokenKnown'. -/
def tokenKnownUptoCard : Claim7 := { stood := { row := tokenKnownUptoRow, standIns := [], harness := (true, "a669276182af0d3b9a19557640b549f5b2c1e268eecfaccfa894a4dc6b432063"), looks := true }, kinds := [], alts := [], laidByText := true, laidKinds := [.data, .data, .data, .sentinel, .sentinel], laidTests := true, laidLooks := .later }
def TokenKnownUptoCardSaid : Prop := Claim7.holds Tryd.pinned (.plain (OpenSpec.upto tokenKnownSpec)) tokenKnownUptoCard

/-- THE SECOND FORM's CARD OF 'undertowlaw26.TraceKnown'. -/
def traceKnownUptoCard : Claim7 := { stood := { row := traceKnownUptoRow, standIns := [], harness := (true, "a669276182af0d3b9a19557640b549f5b2c1e268eecfaccfa894a4dc6b432063"), looks := true }, kinds := [], alts := [], laidByText := true, laidKinds := [.data, .data, .data, .data, .sentinel, .sentinel, .pinned], laidTests := true, laidLooks := .later }
def TraceKnownUptoCardSaid : Prop := Claim7.holds Tryd.pinned (.plain (OpenSpec.upto traceKnownSpec)) traceKnownUptoCard

/-- THE SECOND FORM's CARD OF 'undertowlaw21.AsmKnown'. -/
def asmKnownUptoCard : Claim7 := { stood := { row := asmKnownUptoRow, standIns := [], harness := (true, "a669276182af0d3b9a19557640b549f5b2c1e268eecfaccfa894a4dc6b432063"), looks := true }, kinds := [], alts := [], laidByText := true, laidKinds := [.data, .data, .data, .data, .data, .sentinel, .sentinel, .pinned], laidTests := true, laidLooks := .later }
def AsmKnownUptoCardSaid : Prop := Claim7.holds Tryd.pinned (.plain (OpenSpec.upto asmKnownSpec)) asmKnownUptoCard
end Rows
end Go.Proofs.YtambfeiefkfbfaaDoor
