/-
  DERIVED. GIVEN WITH THE SEED: THE CARDS: each row of YtahkaalnbplpiabGreatDoorRows.lean that lists a variable, with what it lists TIED to the program's text (the seventh form; the later family's looks); each row that meets fmt, with fmt's text TOLD by the authors' own Lean function (tested against real Go, not proved from fmt's source: count such statements apart). THE CARD IS WHAT COUNTS. Prove the row's statement (the work); the ties are given (YtahkaalnbplpiabGreatDoorTie.lean); close each card by the builder's one call (the guide's Derived/Test/ToyasCard.lean, 'card_holds'). Laid BY PROGRAM, IN A SANDBOX (cutbox-door.mjs). By AI agents, Wed Nov 11 2026. No macro, syntax, notation, axiom, sorry.
-/
import Derived.Test.YtahkaalnbplpiabGreatDoorRows
import GoSem.ClaimSeven
namespace Go.Proofs.YtahkaalnbplpiabGreatDoor
namespace Rows

/-- THE TIED CARD OF 'undertowlaw30.FairKnown'. -/
def fairKnownCard : Claim7 := { stood := { row := fairKnownRow, standIns := [], harness := (true, "43705ecee406c8eea0d92eef02611f05fb9fc2d8fda1e7ba988b3d145ef49d02"), looks := true }, kinds := [], alts := [], laidByText := true, laidKinds := [.data, .data, .data, .data, .data, .sentinel, .sentinel, .pinned], laidTests := true, laidLooks := .later }
def FairKnownCardSaid : Prop := Claim7.holds Tryz.pinned (.plain (OpenSpec.ofChange fairKnownSpec)) fairKnownCard

/-- THE TIED CARD OF 'undertowlaw32.SpeakKnown'. -/
def speakKnownCard : Claim7 := { stood := { row := speakKnownRow, standIns := [], harness := (true, "43705ecee406c8eea0d92eef02611f05fb9fc2d8fda1e7ba988b3d145ef49d02"), looks := true }, kinds := [], alts := [], laidByText := true, laidKinds := [.data, .data, .data, .data, .data, .sentinel, .sentinel, .pinned], laidTests := true, laidLooks := .later }
def SpeakKnownCardSaid : Prop := Claim7.holds Tryz.pinned (.plain (OpenSpec.ofChange speakKnownSpec)) speakKnownCard

/-- THE SECOND FORM's CARD OF 'undertowlaw30.FairKnown'. -/
def fairKnownUptoCard : Claim7 := { stood := { row := fairKnownUptoRow, standIns := [], harness := (true, "43705ecee406c8eea0d92eef02611f05fb9fc2d8fda1e7ba988b3d145ef49d02"), looks := true }, kinds := [], alts := [], laidByText := true, laidKinds := [.data, .data, .data, .data, .data, .sentinel, .sentinel, .pinned], laidTests := true, laidLooks := .later }
def FairKnownUptoCardSaid : Prop := Claim7.holds Tryz.pinned (.plain (OpenSpec.upto fairKnownSpec)) fairKnownUptoCard

/-- THE SECOND FORM's CARD OF 'undertowlaw32.SpeakKnown'. -/
def speakKnownUptoCard : Claim7 := { stood := { row := speakKnownUptoRow, standIns := [], harness := (true, "43705ecee406c8eea0d92eef02611f05fb9fc2d8fda1e7ba988b3d145ef49d02"), looks := true }, kinds := [], alts := [], laidByText := true, laidKinds := [.data, .data, .data, .data, .data, .sentinel, .sentinel, .pinned], laidTests := true, laidLooks := .later }
def SpeakKnownUptoCardSaid : Prop := Claim7.holds Tryz.pinned (.plain (OpenSpec.upto speakKnownSpec)) speakKnownUptoCard
end Rows
end Go.Proofs.YtahkaalnbplpiabGreatDoor
