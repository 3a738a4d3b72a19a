/-
  DERIVED. GIVEN WITH THE SEED: THE CARDS: each row of YtgohnfkidkomhaaGreatDoorRows.lean that lists a variable, with what it lists TIED to the program's text (the seventh form; the later family's looks); each row that meets fmt, with fmt's text TOLD by the authors' own Lean function (tested against real Go, not proved from fmt's source: count such statements apart). THE CARD IS WHAT COUNTS. Prove the row's statement (the work); the ties are given (YtgohnfkidkomhaaGreatDoorTie.lean); close each card by the builder's one call (the guide's Derived/Test/ToyasCard.lean, 'card_holds'). Laid BY PROGRAM, IN A SANDBOX (cutbox-door.mjs). By AI agents, Wed Nov 11 2026. No macro, syntax, notation, axiom, sorry.
-/
import Derived.Test.YtgohnfkidkomhaaGreatDoorRows
import GoSem.ClaimSeven
namespace Go.Proofs.YtgohnfkidkomhaaGreatDoor
namespace Rows

/-- THE TIED CARD OF 'undertowlaw25.ElideMay'. -/
def elideMayCard : Claim7 := { stood := { row := elideMayRow, standIns := [], harness := (true, "0029e2e8b9021165dd32b04f8afdbbb9085eb17edc4e6f3cf1e8c1723ff0eaa7"), looks := true }, kinds := [], alts := [], laidByText := true, laidKinds := [.data, .data, .data, .data, .data, .sentinel, .sentinel, .pinned], laidTests := true, laidLooks := .later }
def ElideMayCardSaid : Prop := Claim7.holds Tryz.pinned (.plain (OpenSpec.ofChange elideMaySpec)) elideMayCard

/-- THE TIED CARD OF 'undertowlaw25.ElideTells'. -/
def elideTellsCard : Claim7 := { stood := { row := elideTellsRow, standIns := [], harness := (true, "0029e2e8b9021165dd32b04f8afdbbb9085eb17edc4e6f3cf1e8c1723ff0eaa7"), looks := true }, kinds := [], alts := [], laidByText := true, laidKinds := [.data, .data, .data, .data, .data, .sentinel, .sentinel, .pinned], laidTests := true, laidLooks := .later }
def ElideTellsCardSaid : Prop := Claim7.holds Tryz.pinned (.plain (OpenSpec.ofChange elideTellsSpec)) elideTellsCard

/-- THE TIED CARD OF 'undertowlaw25.ElideRows'. -/
def elideRowsCard : Claim7 := { stood := { row := elideRowsRow, standIns := [], harness := (true, "0029e2e8b9021165dd32b04f8afdbbb9085eb17edc4e6f3cf1e8c1723ff0eaa7"), looks := true }, kinds := [], alts := [], laidByText := true, laidKinds := [.data, .data, .data, .data, .data, .sentinel, .sentinel, .pinned], laidTests := true, laidLooks := .later }
def ElideRowsCardSaid : Prop := Claim7.holds Tryz.pinned (.plain (OpenSpec.ofChange elideRowsSpec)) elideRowsCard

/-- THE SECOND FORM's CARD OF 'undertowlaw25.ElideMay'. -/
def elideMayUptoCard : Claim7 := { stood := { row := elideMayUptoRow, standIns := [], harness := (true, "0029e2e8b9021165dd32b04f8afdbbb9085eb17edc4e6f3cf1e8c1723ff0eaa7"), looks := true }, kinds := [], alts := [], laidByText := true, laidKinds := [.data, .data, .data, .data, .data, .sentinel, .sentinel, .pinned], laidTests := true, laidLooks := .later }
def ElideMayUptoCardSaid : Prop := Claim7.holds Tryz.pinned (.plain (OpenSpec.upto elideMaySpec)) elideMayUptoCard

/-- THE SECOND FORM's CARD OF 'undertowlaw25.ElideTells'. -/
def elideTellsUptoCard : Claim7 := { stood := { row := elideTellsUptoRow, standIns := [], harness := (true, "0029e2e8b9021165dd32b04f8afdbbb9085eb17edc4e6f3cf1e8c1723ff0eaa7"), looks := true }, kinds := [], alts := [], laidByText := true, laidKinds := [.data, .data, .data, .data, .data, .sentinel, .sentinel, .pinned], laidTests := true, laidLooks := .later }
def ElideTellsUptoCardSaid : Prop := Claim7.holds Tryz.pinned (.plain (OpenSpec.upto elideTellsSpec)) elideTellsUptoCard

/-- THE SECOND FORM's CARD OF 'undertowlaw25.ElideRows'. -/
def elideRowsUptoCard : Claim7 := { stood := { row := elideRowsUptoRow, standIns := [], harness := (true, "0029e2e8b9021165dd32b04f8afdbbb9085eb17edc4e6f3cf1e8c1723ff0eaa7"), looks := true }, kinds := [], alts := [], laidByText := true, laidKinds := [.data, .data, .data, .data, .data, .sentinel, .sentinel, .pinned], laidTests := true, laidLooks := .later }
def ElideRowsUptoCardSaid : Prop := Claim7.holds Tryz.pinned (.plain (OpenSpec.upto elideRowsSpec)) elideRowsUptoCard
end Rows
end Go.Proofs.YtgohnfkidkomhaaGreatDoor
