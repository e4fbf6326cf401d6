/-
  DERIVED. GIVEN WITH THE SEED: THE CARDS: each row of YtcfmoailaddifaaGreatDoorRows.lean that lists a variable, with what it lists TIED to the program's text (the seventh form; the later family's looks); each row that meets fmt, with fmt's text TOLD by the authors' own Lean function (tested against real Go, not proved from fmt's source: count such statements apart). THE CARD IS WHAT COUNTS. Prove the row's statement (the work); the ties are given (YtcfmoailaddifaaGreatDoorTie.lean); close each card by the builder's one call (the guide's Derived/Test/ToyasCard.lean, 'card_holds'). Laid BY PROGRAM, IN A SANDBOX (cutbox-door.mjs). By AI agents, Wed Nov 11 2026. No macro, syntax, notation, axiom, sorry.
-/
import Derived.Test.YtcfmoailaddifaaGreatDoorRows
import GoSem.ClaimSeven
namespace Go.Proofs.YtcfmoailaddifaaGreatDoor
namespace Rows

/-- THE TIED CARD OF 'spillagelaw03.DriveLoads'. -/
def driveLoadsCard : Claim7 := { stood := { row := driveLoadsRow, standIns := [], harness := (true, "2e3375c50fff31242d14bac47c04e75d5e0d8992e3d07b688d90744edec8ba53"), looks := false }, kinds := [], alts := [], laidByText := true, laidKinds := [.data, .data, .data, .data], laidTests := true, laidLooks := .later }
def DriveLoadsCardSaid : Prop := Claim7.holds Tryz.pinned (.plain (OpenSpec.ofChange driveLoadsSpec)) driveLoadsCard

/-- THE SECOND FORM's CARD OF 'spillagelaw03.DriveLoads'. -/
def driveLoadsUptoCard : Claim7 := { stood := { row := driveLoadsUptoRow, standIns := [], harness := (true, "2e3375c50fff31242d14bac47c04e75d5e0d8992e3d07b688d90744edec8ba53"), looks := false }, kinds := [], alts := [], laidByText := true, laidKinds := [.data, .data, .data, .data], laidTests := true, laidLooks := .later }
def DriveLoadsUptoCardSaid : Prop := Claim7.holds Tryz.pinned (.plain (OpenSpec.upto driveLoadsSpec)) driveLoadsUptoCard
end Rows
end Go.Proofs.YtcfmoailaddifaaGreatDoor
