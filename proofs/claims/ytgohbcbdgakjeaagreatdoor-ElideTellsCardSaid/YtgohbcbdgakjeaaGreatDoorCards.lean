/-
  DERIVED. GIVEN WITH THE SEED: THE CARDS: each row of YtgohbcbdgakjeaaGreatDoorRows.lean that lists a variable, with what it lists TIED to the program's text (the seventh form; the later family's looks); each row that meets fmt, with fmt's text TOLD by the authors' own Lean function (tested against real Go, not proved from fmt's source: count such statements apart). THE CARD IS WHAT COUNTS. Prove the row's statement (the work); the ties are given (YtgohbcbdgakjeaaGreatDoorTie.lean); close each card by the builder's one call (the guide's Derived/Test/ToyasCard.lean, 'card_holds'). Laid BY PROGRAM, IN A SANDBOX (cutbox-door.mjs). By AI agents, Wed Nov 11 2026. No macro, syntax, notation, axiom, sorry.
-/
import Derived.Test.YtgohbcbdgakjeaaGreatDoorRows
import GoSem.ClaimSeven
namespace Go.Proofs.YtgohbcbdgakjeaaGreatDoor
namespace Rows

/-- THE TIED CARD OF 'undertowlaw25.ElideMay'. -/
def elideMayCard : Claim7 := { stood := { row := elideMayRow, standIns := [], harness := (true, "4f0e36724fb2f5d36beadbe73db0263308fb926e275aed13028973faf5718fd9"), looks := true }, kinds := [], alts := [], laidByText := true, laidKinds := [.data, .data, .data, .data, .data, .sentinel, .sentinel, .pinned], laidTests := true, laidLooks := .later }
def ElideMayCardSaid : Prop := Claim7.holds Tryz.pinned (.plain (OpenSpec.ofChange elideMaySpec)) elideMayCard

/-- THE TIED CARD OF 'undertowlaw25.ElideTells'. -/
def elideTellsCard : Claim7 := { stood := { row := elideTellsRow, standIns := [], harness := (true, "4f0e36724fb2f5d36beadbe73db0263308fb926e275aed13028973faf5718fd9"), looks := true }, kinds := [], alts := [], laidByText := true, laidKinds := [.data, .data, .data, .data, .data, .sentinel, .sentinel, .pinned], laidTests := true, laidLooks := .later }
def ElideTellsCardSaid : Prop := Claim7.holds Tryz.pinned (.plain (OpenSpec.ofChange elideTellsSpec)) elideTellsCard

/-- THE SECOND FORM's CARD OF 'undertowlaw25.ElideMay'. -/
def elideMayUptoCard : Claim7 := { stood := { row := elideMayUptoRow, standIns := [], harness := (true, "4f0e36724fb2f5d36beadbe73db0263308fb926e275aed13028973faf5718fd9"), looks := true }, kinds := [], alts := [], laidByText := true, laidKinds := [.data, .data, .data, .data, .data, .sentinel, .sentinel, .pinned], laidTests := true, laidLooks := .later }
def ElideMayUptoCardSaid : Prop := Claim7.holds Tryz.pinned (.plain (OpenSpec.upto elideMaySpec)) elideMayUptoCard

/-- THE SECOND FORM's CARD OF 'undertowlaw25.ElideTells'. -/
def elideTellsUptoCard : Claim7 := { stood := { row := elideTellsUptoRow, standIns := [], harness := (true, "4f0e36724fb2f5d36beadbe73db0263308fb926e275aed13028973faf5718fd9"), looks := true }, kinds := [], alts := [], laidByText := true, laidKinds := [.data, .data, .data, .data, .data, .sentinel, .sentinel, .pinned], laidTests := true, laidLooks := .later }
def ElideTellsUptoCardSaid : Prop := Claim7.holds Tryz.pinned (.plain (OpenSpec.upto elideTellsSpec)) elideTellsUptoCard
end Rows
end Go.Proofs.YtgohbcbdgakjeaaGreatDoor
