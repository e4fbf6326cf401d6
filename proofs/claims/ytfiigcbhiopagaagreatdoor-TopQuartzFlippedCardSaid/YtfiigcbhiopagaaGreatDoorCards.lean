/-
  DERIVED. GIVEN WITH THE SEED: THE CARDS: each row of YtfiigcbhiopagaaGreatDoorRows.lean that lists a variable, with what it lists TIED to the program's text (the seventh form; the later family's looks); each row that meets fmt, with fmt's text TOLD by the authors' own Lean function (tested against real Go, not proved from fmt's source: count such statements apart). THE CARD IS WHAT COUNTS. Prove the row's statement (the work); the ties are given (YtfiigcbhiopagaaGreatDoorTie.lean); close each card by the builder's one call (the guide's Derived/Test/ToyasCard.lean, 'card_holds'). Laid BY PROGRAM, IN A SANDBOX (cutbox-door.mjs). By AI agents, Wed Nov 11 2026. No macro, syntax, notation, axiom, sorry.
-/
import Derived.Test.YtfiigcbhiopagaaGreatDoorRows
import GoSem.ClaimSeven
namespace Go.Proofs.YtfiigcbhiopagaaGreatDoor
namespace Rows

/-- THE TIED CARD OF 'spillagetop.TopQuartzFlipped'. -/
def topQuartzFlippedCard : Claim7 := { stood := { row := topQuartzFlippedRow, standIns := [], harness := (true, "bc00a2659a07eb19fe8850b6bd2421a0a972efd459c429f92654fa2ad4327c14"), looks := false }, kinds := [], alts := [], laidByText := true, laidKinds := [.data], laidTests := true, laidLooks := .later }
def TopQuartzFlippedCardSaid : Prop := Claim7.holds Tryz.pinned (.plain (OpenSpec.ofChange topQuartzFlippedSpec)) topQuartzFlippedCard

/-- THE SECOND FORM's CARD OF 'spillagetop.TopQuartzFlipped'. -/
def topQuartzFlippedUptoCard : Claim7 := { stood := { row := topQuartzFlippedUptoRow, standIns := [], harness := (true, "bc00a2659a07eb19fe8850b6bd2421a0a972efd459c429f92654fa2ad4327c14"), looks := false }, kinds := [], alts := [], laidByText := true, laidKinds := [.data], laidTests := true, laidLooks := .later }
def TopQuartzFlippedUptoCardSaid : Prop := Claim7.holds Tryz.pinned (.plain (OpenSpec.upto topQuartzFlippedSpec)) topQuartzFlippedUptoCard
end Rows
end Go.Proofs.YtfiigcbhiopagaaGreatDoor
