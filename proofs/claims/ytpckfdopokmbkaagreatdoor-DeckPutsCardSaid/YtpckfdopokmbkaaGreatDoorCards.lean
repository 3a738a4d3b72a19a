/-
  DERIVED. GIVEN WITH THE SEED: THE CARDS: each row of YtpckfdopokmbkaaGreatDoorRows.lean that lists a variable, with what it lists TIED to the program's text (the seventh form; the later family's looks); each row that meets fmt, with fmt's text TOLD by the authors' own Lean function (tested against real Go, not proved from fmt's source: count such statements apart). THE CARD IS WHAT COUNTS. Prove the row's statement (the work); the ties are given (YtpckfdopokmbkaaGreatDoorTie.lean); close each card by the builder's one call (the guide's Derived/Test/ToyasCard.lean, 'card_holds'). Laid BY PROGRAM, IN A SANDBOX (cutbox-door.mjs). By AI agents, Wed Nov 11 2026. No macro, syntax, notation, axiom, sorry.
-/
import Derived.Test.YtpckfdopokmbkaaGreatDoorRows
import GoSem.ClaimSeven
namespace Go.Proofs.YtpckfdopokmbkaaGreatDoor
namespace Rows

/-- THE TIED CARD OF 'undertowlaw31.DeckPuts'. -/
def deckPutsCard : Claim7 := { stood := { row := deckPutsRow, standIns := [], harness := (true, "1f1a314bfa6725b673d35291d783cf897d81e71f2ae12b8a0f76e1a2e1a4005a"), looks := false }, kinds := [], alts := [], laidByText := true, laidKinds := [.data], laidTests := true, laidLooks := .later }
def DeckPutsCardSaid : Prop := Claim7.holds Tryz.pinned (.plain (OpenSpec.ofChange deckPutsSpec)) deckPutsCard

/-- THE SECOND FORM's CARD OF 'undertowlaw31.DeckPuts'. -/
def deckPutsUptoCard : Claim7 := { stood := { row := deckPutsUptoRow, standIns := [], harness := (true, "1f1a314bfa6725b673d35291d783cf897d81e71f2ae12b8a0f76e1a2e1a4005a"), looks := false }, kinds := [], alts := [], laidByText := true, laidKinds := [.data], laidTests := true, laidLooks := .later }
def DeckPutsUptoCardSaid : Prop := Claim7.holds Tryz.pinned (.plain (OpenSpec.upto deckPutsSpec)) deckPutsUptoCard
end Rows
end Go.Proofs.YtpckfdopokmbkaaGreatDoor
