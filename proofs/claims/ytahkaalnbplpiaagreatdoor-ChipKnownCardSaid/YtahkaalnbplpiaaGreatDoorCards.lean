/-
  DERIVED. GIVEN WITH THE SEED: THE CARDS: each row of YtahkaalnbplpiaaGreatDoorRows.lean that lists a variable, with what it lists TIED to the program's text (the seventh form; the later family's looks); each row that meets fmt, with fmt's text TOLD by the authors' own Lean function (tested against real Go, not proved from fmt's source: count such statements apart). THE CARD IS WHAT COUNTS. Prove the row's statement (the work); the ties are given (YtahkaalnbplpiaaGreatDoorTie.lean); close each card by the builder's one call (the guide's Derived/Test/ToyasCard.lean, 'card_holds'). Laid BY PROGRAM, IN A SANDBOX (cutbox-door.mjs). By AI agents, Wed Nov 11 2026. No macro, syntax, notation, axiom, sorry.
-/
import Derived.Test.YtahkaalnbplpiaaGreatDoorRows
import GoSem.ClaimSeven
namespace Go.Proofs.YtahkaalnbplpiaaGreatDoor
namespace Rows

/-- THE TIED CARD OF 'undertowlaw28.SightKnown'. -/
def sightKnownCard : Claim7 := { stood := { row := sightKnownRow, standIns := [], harness := (true, "a9873ab894fdd990eaa56d878d7a2391e4f46d6da56b6dbd53e67b37323fe3bc"), looks := true }, kinds := [], alts := [], laidByText := true, laidKinds := [.data, .data], laidTests := true, laidLooks := .later }
def SightKnownCardSaid : Prop := Claim7.holds Tryz.pinned (.plain (OpenSpec.ofChange sightKnownSpec)) sightKnownCard

/-- THE TIED CARD OF 'undertowlaw25.ElideKnown'. -/
def elideKnownCard : Claim7 := { stood := { row := elideKnownRow, standIns := [], harness := (true, "a9873ab894fdd990eaa56d878d7a2391e4f46d6da56b6dbd53e67b37323fe3bc"), looks := true }, kinds := [], alts := [], laidByText := true, laidKinds := [.data, .data, .data, .data, .data, .sentinel, .sentinel, .pinned], laidTests := true, laidLooks := .later }
def ElideKnownCardSaid : Prop := Claim7.holds Tryz.pinned (.plain (OpenSpec.ofChange elideKnownSpec)) elideKnownCard

/-- THE TIED CARD OF 'undertowlaw29.AtomKnown'. -/
def atomKnownCard : Claim7 := { stood := { row := atomKnownRow, standIns := [], harness := (true, "a9873ab894fdd990eaa56d878d7a2391e4f46d6da56b6dbd53e67b37323fe3bc"), looks := true }, kinds := [], alts := [], laidByText := true, laidKinds := [.data, .data, .data, .data, .data, .sentinel, .sentinel, .pinned], laidTests := true, laidLooks := .later }
def AtomKnownCardSaid : Prop := Claim7.holds Tryz.pinned (.plain (OpenSpec.ofChange atomKnownSpec)) atomKnownCard

/-- THE TIED CARD OF 'undertowlaw31.DeckKnown'. -/
def deckKnownCard : Claim7 := { stood := { row := deckKnownRow, standIns := [], harness := (true, "a9873ab894fdd990eaa56d878d7a2391e4f46d6da56b6dbd53e67b37323fe3bc"), looks := true }, kinds := [], alts := [], laidByText := true, laidKinds := [.data, .data], laidTests := true, laidLooks := .later }
def DeckKnownCardSaid : Prop := Claim7.holds Tryz.pinned (.plain (OpenSpec.ofChange deckKnownSpec)) deckKnownCard

/-- THE TIED CARD OF 'undertowlaw24.CoreKnown'. -/
def coreKnownCard : Claim7 := { stood := { row := coreKnownRow, standIns := [], harness := (true, "a9873ab894fdd990eaa56d878d7a2391e4f46d6da56b6dbd53e67b37323fe3bc"), looks := true }, kinds := [], alts := [], laidByText := true, laidKinds := [.data, .data, .data, .data, .data, .sentinel, .sentinel, .pinned], laidTests := true, laidLooks := .later }
def CoreKnownCardSaid : Prop := Claim7.holds Tryz.pinned (.plain (OpenSpec.ofChange coreKnownSpec)) coreKnownCard

/-- THE TIED CARD OF 'undertowlaw27.ChipKnown'. -/
def chipKnownCard : Claim7 := { stood := { row := chipKnownRow, standIns := [], harness := (true, "a9873ab894fdd990eaa56d878d7a2391e4f46d6da56b6dbd53e67b37323fe3bc"), looks := true }, kinds := [], alts := [], laidByText := true, laidKinds := [.data, .data, .data, .data, .data, .sentinel, .sentinel, .pinned], laidTests := true, laidLooks := .later }
def ChipKnownCardSaid : Prop := Claim7.holds Tryz.pinned (.plain (OpenSpec.ofChange chipKnownSpec)) chipKnownCard

/-- THE SECOND FORM's CARD OF 'undertowlaw28.SightKnown'. -/
def sightKnownUptoCard : Claim7 := { stood := { row := sightKnownUptoRow, standIns := [], harness := (true, "a9873ab894fdd990eaa56d878d7a2391e4f46d6da56b6dbd53e67b37323fe3bc"), looks := true }, kinds := [], alts := [], laidByText := true, laidKinds := [.data, .data], laidTests := true, laidLooks := .later }
def SightKnownUptoCardSaid : Prop := Claim7.holds Tryz.pinned (.plain (OpenSpec.upto sightKnownSpec)) sightKnownUptoCard

/-- THE SECOND FORM's CARD OF 'undertowlaw25.ElideKnown'. -/
def elideKnownUptoCard : Claim7 := { stood := { row := elideKnownUptoRow, standIns := [], harness := (true, "a9873ab894fdd990eaa56d878d7a2391e4f46d6da56b6dbd53e67b37323fe3bc"), looks := true }, kinds := [], alts := [], laidByText := true, laidKinds := [.data, .data, .data, .data, .data, .sentinel, .sentinel, .pinned], laidTests := true, laidLooks := .later }
def ElideKnownUptoCardSaid : Prop := Claim7.holds Tryz.pinned (.plain (OpenSpec.upto elideKnownSpec)) elideKnownUptoCard

/-- THE SECOND FORM's CARD OF 'undertowlaw29.AtomKnown'. -/
def atomKnownUptoCard : Claim7 := { stood := { row := atomKnownUptoRow, standIns := [], harness := (true, "a9873ab894fdd990eaa56d878d7a2391e4f46d6da56b6dbd53e67b37323fe3bc"), looks := true }, kinds := [], alts := [], laidByText := true, laidKinds := [.data, .data, .data, .data, .data, .sentinel, .sentinel, .pinned], laidTests := true, laidLooks := .later }
def AtomKnownUptoCardSaid : Prop := Claim7.holds Tryz.pinned (.plain (OpenSpec.upto atomKnownSpec)) atomKnownUptoCard

/-- THE SECOND FORM's CARD OF 'undertowlaw31.DeckKnown'. -/
def deckKnownUptoCard : Claim7 := { stood := { row := deckKnownUptoRow, standIns := [], harness := (true, "a9873ab894fdd990eaa56d878d7a2391e4f46d6da56b6dbd53e67b37323fe3bc"), looks := true }, kinds := [], alts := [], laidByText := true, laidKinds := [.data, .data], laidTests := true, laidLooks := .later }
def DeckKnownUptoCardSaid : Prop := Claim7.holds Tryz.pinned (.plain (OpenSpec.upto deckKnownSpec)) deckKnownUptoCard

/-- THE SECOND FORM's CARD OF 'undertowlaw24.CoreKnown'. -/
def coreKnownUptoCard : Claim7 := { stood := { row := coreKnownUptoRow, standIns := [], harness := (true, "a9873ab894fdd990eaa56d878d7a2391e4f46d6da56b6dbd53e67b37323fe3bc"), looks := true }, kinds := [], alts := [], laidByText := true, laidKinds := [.data, .data, .data, .data, .data, .sentinel, .sentinel, .pinned], laidTests := true, laidLooks := .later }
def CoreKnownUptoCardSaid : Prop := Claim7.holds Tryz.pinned (.plain (OpenSpec.upto coreKnownSpec)) coreKnownUptoCard

/-- THE SECOND FORM's CARD OF 'undertowlaw27.ChipKnown'. -/
def chipKnownUptoCard : Claim7 := { stood := { row := chipKnownUptoRow, standIns := [], harness := (true, "a9873ab894fdd990eaa56d878d7a2391e4f46d6da56b6dbd53e67b37323fe3bc"), looks := true }, kinds := [], alts := [], laidByText := true, laidKinds := [.data, .data, .data, .data, .data, .sentinel, .sentinel, .pinned], laidTests := true, laidLooks := .later }
def ChipKnownUptoCardSaid : Prop := Claim7.holds Tryz.pinned (.plain (OpenSpec.upto chipKnownSpec)) chipKnownUptoCard
end Rows
end Go.Proofs.YtahkaalnbplpiaaGreatDoor
