/-
  DERIVED. GIVEN WITH THE SEED: THE CARDS: each row of YtpcbedgaecbfmaaGreatDoorRows.lean that lists a variable, with what it lists TIED to the program's text (the seventh form; the later family's looks); each row that meets fmt, with fmt's text TOLD by the authors' own Lean function (tested against real Go, not proved from fmt's source: count such statements apart). THE CARD IS WHAT COUNTS. Prove the row's statement (the work); the ties are given (YtpcbedgaecbfmaaGreatDoorTie.lean); close each card by the builder's one call (the guide's Derived/Test/ToyasCard.lean, 'card_holds'). Laid BY PROGRAM, IN A SANDBOX (cutbox-door.mjs). By AI agents, Wed Nov 11 2026. No macro, syntax, notation, axiom, sorry.
-/
import Derived.Test.YtpcbedgaecbfmaaGreatDoorRows
import GoSem.ClaimSeven
namespace Go.Proofs.YtpcbedgaecbfmaaGreatDoor
namespace Rows

/-- THE TIED CARD OF 'undertowlaw24.CorePlain'. -/
def corePlainCard : Claim7 := { stood := { row := corePlainRow, standIns := [], harness := (true, "3d52c869590d3d4ba81c82c4c9099b0639395333f00dcbbb21061bd203be3735"), looks := true }, kinds := [], alts := [], laidByText := true, laidKinds := [.data, .data, .data, .data, .data, .sentinel, .sentinel, .pinned], laidTests := true, laidLooks := .later }
def CorePlainCardSaid : Prop := Claim7.holds Tryz.pinned (.plain (OpenSpec.ofChange corePlainSpec)) corePlainCard

/-- THE TIED CARD OF 'undertowlaw24.CoreHalted'. -/
def coreHaltedCard : Claim7 := { stood := { row := coreHaltedRow, standIns := [], harness := (true, "3d52c869590d3d4ba81c82c4c9099b0639395333f00dcbbb21061bd203be3735"), looks := true }, kinds := [], alts := [], laidByText := true, laidKinds := [.data, .data, .data, .data, .data, .sentinel, .sentinel, .pinned], laidTests := true, laidLooks := .later }
def CoreHaltedCardSaid : Prop := Claim7.holds Tryz.pinned (.plain (OpenSpec.ofChange coreHaltedSpec)) coreHaltedCard

/-- THE TIED CARD OF 'undertowlaw24.CoreUndone'. -/
def coreUndoneCard : Claim7 := { stood := { row := coreUndoneRow, standIns := [], harness := (true, "3d52c869590d3d4ba81c82c4c9099b0639395333f00dcbbb21061bd203be3735"), looks := true }, kinds := [], alts := [], laidByText := true, laidKinds := [.data, .data, .data, .data, .data, .sentinel, .sentinel, .pinned], laidTests := true, laidLooks := .later }
def CoreUndoneCardSaid : Prop := Claim7.holds Tryz.pinned (.plain (OpenSpec.ofChange coreUndoneSpec)) coreUndoneCard

/-- THE SECOND FORM's CARD OF 'undertowlaw24.CorePlain'. -/
def corePlainUptoCard : Claim7 := { stood := { row := corePlainUptoRow, standIns := [], harness := (true, "3d52c869590d3d4ba81c82c4c9099b0639395333f00dcbbb21061bd203be3735"), looks := true }, kinds := [], alts := [], laidByText := true, laidKinds := [.data, .data, .data, .data, .data, .sentinel, .sentinel, .pinned], laidTests := true, laidLooks := .later }
def CorePlainUptoCardSaid : Prop := Claim7.holds Tryz.pinned (.plain (OpenSpec.upto corePlainSpec)) corePlainUptoCard

/-- THE SECOND FORM's CARD OF 'undertowlaw24.CoreHalted'. -/
def coreHaltedUptoCard : Claim7 := { stood := { row := coreHaltedUptoRow, standIns := [], harness := (true, "3d52c869590d3d4ba81c82c4c9099b0639395333f00dcbbb21061bd203be3735"), looks := true }, kinds := [], alts := [], laidByText := true, laidKinds := [.data, .data, .data, .data, .data, .sentinel, .sentinel, .pinned], laidTests := true, laidLooks := .later }
def CoreHaltedUptoCardSaid : Prop := Claim7.holds Tryz.pinned (.plain (OpenSpec.upto coreHaltedSpec)) coreHaltedUptoCard

/-- THE SECOND FORM's CARD OF 'undertowlaw24.CoreUndone'. -/
def coreUndoneUptoCard : Claim7 := { stood := { row := coreUndoneUptoRow, standIns := [], harness := (true, "3d52c869590d3d4ba81c82c4c9099b0639395333f00dcbbb21061bd203be3735"), looks := true }, kinds := [], alts := [], laidByText := true, laidKinds := [.data, .data, .data, .data, .data, .sentinel, .sentinel, .pinned], laidTests := true, laidLooks := .later }
def CoreUndoneUptoCardSaid : Prop := Claim7.holds Tryz.pinned (.plain (OpenSpec.upto coreUndoneSpec)) coreUndoneUptoCard
end Rows
end Go.Proofs.YtpcbedgaecbfmaaGreatDoor
