/-
  DERIVED. GIVEN WITH THE SEED: THE CARDS: each row of YtoblljobcafecaaGreatDoorRows.lean that lists a variable, with what it lists TIED to the program's text (the seventh form; the later family's looks); each row that meets fmt, with fmt's text TOLD by the authors' own Lean function (tested against real Go, not proved from fmt's source: count such statements apart). THE CARD IS WHAT COUNTS. Prove the row's statement (the work); the ties are given (YtoblljobcafecaaGreatDoorTie.lean); close each card by the builder's one call (the guide's Derived/Test/ToyasCard.lean, 'card_holds'). Laid BY PROGRAM, IN A SANDBOX (cutbox-door.mjs). By AI agents, Wed Nov 11 2026. No macro, syntax, notation, axiom, sorry.
-/
import Derived.Test.YtoblljobcafecaaGreatDoorRows
import GoSem.ClaimSeven
namespace Go.Proofs.YtoblljobcafecaaGreatDoor
namespace Rows

/-- THE TIED CARD OF 'spillagelaw03.DriveTexts'. -/
def driveTextsCard : Claim7 := { stood := { row := driveTextsRow, standIns := [], harness := (true, "f58397a635fb9308f7cfa9d37853cdbc8fd0de0b14a8cf2327e3d2af3d53608c"), looks := false }, kinds := [], alts := [], laidByText := true, laidKinds := [.data, .data, .data, .data, .data, .pinned], laidTests := true, laidLooks := .later }
def DriveTextsCardSaid : Prop := Claim7.holds Tryz.pinned (.plain (OpenSpec.ofChange driveTextsSpec)) driveTextsCard

/-- THE TIED CARD OF 'spillagelaw03.DriveBack'. -/
def driveBackCard : Claim7 := { stood := { row := driveBackRow, standIns := [], harness := (true, "f58397a635fb9308f7cfa9d37853cdbc8fd0de0b14a8cf2327e3d2af3d53608c"), looks := false }, kinds := [], alts := [], laidByText := true, laidKinds := [.data, .data, .data, .data, .data, .pinned], laidTests := true, laidLooks := .later }
def DriveBackCardSaid : Prop := Claim7.holds Tryz.pinned (.plain (OpenSpec.ofChange driveBackSpec)) driveBackCard

/-- THE SECOND FORM's CARD OF 'spillagelaw03.DriveTexts'. -/
def driveTextsUptoCard : Claim7 := { stood := { row := driveTextsUptoRow, standIns := [], harness := (true, "f58397a635fb9308f7cfa9d37853cdbc8fd0de0b14a8cf2327e3d2af3d53608c"), looks := false }, kinds := [], alts := [], laidByText := true, laidKinds := [.data, .data, .data, .data, .data, .pinned], laidTests := true, laidLooks := .later }
def DriveTextsUptoCardSaid : Prop := Claim7.holds Tryz.pinned (.plain (OpenSpec.upto driveTextsSpec)) driveTextsUptoCard

/-- THE SECOND FORM's CARD OF 'spillagelaw03.DriveBack'. -/
def driveBackUptoCard : Claim7 := { stood := { row := driveBackUptoRow, standIns := [], harness := (true, "f58397a635fb9308f7cfa9d37853cdbc8fd0de0b14a8cf2327e3d2af3d53608c"), looks := false }, kinds := [], alts := [], laidByText := true, laidKinds := [.data, .data, .data, .data, .data, .pinned], laidTests := true, laidLooks := .later }
def DriveBackUptoCardSaid : Prop := Claim7.holds Tryz.pinned (.plain (OpenSpec.upto driveBackSpec)) driveBackUptoCard
end Rows
end Go.Proofs.YtoblljobcafecaaGreatDoor
