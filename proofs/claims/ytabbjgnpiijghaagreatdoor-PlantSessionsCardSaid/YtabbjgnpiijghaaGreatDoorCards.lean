/-
  DERIVED. GIVEN WITH THE SEED: THE CARDS: each row of YtabbjgnpiijghaaGreatDoorRows.lean that lists a variable, with what it lists TIED to the program's text (the seventh form; the later family's looks); each row that meets fmt, with fmt's text TOLD by the authors' own Lean function (tested against real Go, not proved from fmt's source: count such statements apart). THE CARD IS WHAT COUNTS. Prove the row's statement (the work); the ties are given (YtabbjgnpiijghaaGreatDoorTie.lean); close each card by the builder's one call (the guide's Derived/Test/ToyasCard.lean, 'card_holds'). Laid BY PROGRAM, IN A SANDBOX (cutbox-door.mjs). By AI agents, Wed Nov 11 2026. No macro, syntax, notation, axiom, sorry.
-/
import Derived.Test.YtabbjgnpiijghaaGreatDoorRows
import GoSem.ClaimSeven
namespace Go.Proofs.YtabbjgnpiijghaaGreatDoor
namespace Rows

/-- THE TIED CARD OF 'spillagelaw10.PlantSessions'. -/
def plantSessionsCard : Claim7 := { stood := { row := plantSessionsRow, standIns := [], harness := (true, "65382cb92eed052b54eb9b4ecf6ee31d589b3e02b8c05b9df0960f95bf9d559b"), looks := false }, kinds := [], alts := [], laidByText := true, laidKinds := [.data, .data, .data, .data, .pinned], laidTests := true, laidLooks := .later }
def PlantSessionsCardSaid : Prop := Claim7.holds Tryz.pinned (.plain (OpenSpec.ofChange plantSessionsSpec)) plantSessionsCard

/-- THE SECOND FORM's CARD OF 'spillagelaw10.PlantSessions'. -/
def plantSessionsUptoCard : Claim7 := { stood := { row := plantSessionsUptoRow, standIns := [], harness := (true, "65382cb92eed052b54eb9b4ecf6ee31d589b3e02b8c05b9df0960f95bf9d559b"), looks := false }, kinds := [], alts := [], laidByText := true, laidKinds := [.data, .data, .data, .data, .pinned], laidTests := true, laidLooks := .later }
def PlantSessionsUptoCardSaid : Prop := Claim7.holds Tryz.pinned (.plain (OpenSpec.upto plantSessionsSpec)) plantSessionsUptoCard
end Rows
end Go.Proofs.YtabbjgnpiijghaaGreatDoor
