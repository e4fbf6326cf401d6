/-
  DERIVED. GIVEN WITH THE SEED: THE CARDS: each row of YtmgbmngmmpeaaaaGreatDoorRows.lean that lists a variable, with what it lists TIED to the program's text (the seventh form; the later family's looks); each row that meets fmt, with fmt's text TOLD by the authors' own Lean function (tested against real Go, not proved from fmt's source: count such statements apart). THE CARD IS WHAT COUNTS. Prove the row's statement (the work); the ties are given (YtmgbmngmmpeaaaaGreatDoorTie.lean); close each card by the builder's one call (the guide's Derived/Test/ToyasCard.lean, 'card_holds'). Laid BY PROGRAM, IN A SANDBOX (cutbox-door.mjs). By AI agents, Wed Nov 11 2026. No macro, syntax, notation, axiom, sorry.
-/
import Derived.Test.YtmgbmngmmpeaaaaGreatDoorRows
import GoSem.ClaimSeven
namespace Go.Proofs.YtmgbmngmmpeaaaaGreatDoor
namespace Rows

/-- THE TIED CARD OF 'spillagelaw03.DriveMoves'. -/
def driveMovesCard : Claim7 := { stood := { row := driveMovesRow, standIns := [], harness := (true, "939cc64c5b662829b53b458993b36c339b48d431fbef4d0cf7d4afe7fc2c794a"), looks := false }, kinds := [], alts := [], laidByText := true, laidKinds := [.data, .data, .data, .data], laidTests := true, laidLooks := .later }
def DriveMovesCardSaid : Prop := Claim7.holds Tryz.pinned (.plain (OpenSpec.ofChange driveMovesSpec)) driveMovesCard

/-- THE TIED CARD OF 'spillagelaw03.DriveTracks'. -/
def driveTracksCard : Claim7 := { stood := { row := driveTracksRow, standIns := [], harness := (true, "939cc64c5b662829b53b458993b36c339b48d431fbef4d0cf7d4afe7fc2c794a"), looks := false }, kinds := [], alts := [], laidByText := true, laidKinds := [.data, .data, .data, .data], laidTests := true, laidLooks := .later }
def DriveTracksCardSaid : Prop := Claim7.holds Tryz.pinned (.plain (OpenSpec.ofChange driveTracksSpec)) driveTracksCard

/-- THE TIED CARD OF 'spillagelaw03.DriveFits'. -/
def driveFitsCard : Claim7 := { stood := { row := driveFitsRow, standIns := [], harness := (true, "939cc64c5b662829b53b458993b36c339b48d431fbef4d0cf7d4afe7fc2c794a"), looks := false }, kinds := [], alts := [], laidByText := true, laidKinds := [.data, .data, .data, .data], laidTests := true, laidLooks := .later }
def DriveFitsCardSaid : Prop := Claim7.holds Tryz.pinned (.plain (OpenSpec.ofChange driveFitsSpec)) driveFitsCard

/-- THE TIED CARD OF 'spillagelaw03.DriveModels'. -/
def driveModelsCard : Claim7 := { stood := { row := driveModelsRow, standIns := [], harness := (true, "939cc64c5b662829b53b458993b36c339b48d431fbef4d0cf7d4afe7fc2c794a"), looks := false }, kinds := [], alts := [], laidByText := true, laidKinds := [.data, .data, .data, .data], laidTests := true, laidLooks := .later }
def DriveModelsCardSaid : Prop := Claim7.holds Tryz.pinned (.plain (OpenSpec.ofChange driveModelsSpec)) driveModelsCard

/-- THE TIED CARD OF 'spillagelaw03.DriveTargets'. -/
def driveTargetsCard : Claim7 := { stood := { row := driveTargetsRow, standIns := [], harness := (true, "939cc64c5b662829b53b458993b36c339b48d431fbef4d0cf7d4afe7fc2c794a"), looks := false }, kinds := [], alts := [], laidByText := true, laidKinds := [.data, .data, .data, .data], laidTests := true, laidLooks := .later }
def DriveTargetsCardSaid : Prop := Claim7.holds Tryz.pinned (.plain (OpenSpec.ofChange driveTargetsSpec)) driveTargetsCard

/-- THE TIED CARD OF 'spillagelaw03.DriveVotes'. -/
def driveVotesCard : Claim7 := { stood := { row := driveVotesRow, standIns := [], harness := (true, "939cc64c5b662829b53b458993b36c339b48d431fbef4d0cf7d4afe7fc2c794a"), looks := false }, kinds := [], alts := [], laidByText := true, laidKinds := [.data, .data, .data, .data], laidTests := true, laidLooks := .later }
def DriveVotesCardSaid : Prop := Claim7.holds Tryz.pinned (.plain (OpenSpec.ofChange driveVotesSpec)) driveVotesCard

/-- THE TIED CARD OF 'spillagelaw03.DriveLoads'. -/
def driveLoadsCard : Claim7 := { stood := { row := driveLoadsRow, standIns := [], harness := (true, "939cc64c5b662829b53b458993b36c339b48d431fbef4d0cf7d4afe7fc2c794a"), looks := false }, kinds := [], alts := [], laidByText := true, laidKinds := [.data, .data, .data, .data], laidTests := true, laidLooks := .later }
def DriveLoadsCardSaid : Prop := Claim7.holds Tryz.pinned (.plain (OpenSpec.ofChange driveLoadsSpec)) driveLoadsCard

/-- THE TIED CARD OF 'spillagelaw03.DrivePlays'. -/
def drivePlaysCard : Claim7 := { stood := { row := drivePlaysRow, standIns := [], harness := (true, "939cc64c5b662829b53b458993b36c339b48d431fbef4d0cf7d4afe7fc2c794a"), looks := false }, kinds := [], alts := [], laidByText := true, laidKinds := [.data, .data, .data, .data], laidTests := true, laidLooks := .later }
def DrivePlaysCardSaid : Prop := Claim7.holds Tryz.pinned (.plain (OpenSpec.ofChange drivePlaysSpec)) drivePlaysCard

/-- THE TIED CARD OF 'spillagelaw03.DriveHits'. -/
def driveHitsCard : Claim7 := { stood := { row := driveHitsRow, standIns := [], harness := (true, "939cc64c5b662829b53b458993b36c339b48d431fbef4d0cf7d4afe7fc2c794a"), looks := false }, kinds := [], alts := [], laidByText := true, laidKinds := [.data, .data, .data, .data], laidTests := true, laidLooks := .later }
def DriveHitsCardSaid : Prop := Claim7.holds Tryz.pinned (.plain (OpenSpec.ofChange driveHitsSpec)) driveHitsCard

/-- THE TIED CARD OF 'spillagelaw03.DriveGoals'. -/
def driveGoalsCard : Claim7 := { stood := { row := driveGoalsRow, standIns := [], harness := (true, "939cc64c5b662829b53b458993b36c339b48d431fbef4d0cf7d4afe7fc2c794a"), looks := false }, kinds := [], alts := [], laidByText := true, laidKinds := [.data, .data, .data, .data], laidTests := true, laidLooks := .later }
def DriveGoalsCardSaid : Prop := Claim7.holds Tryz.pinned (.plain (OpenSpec.ofChange driveGoalsSpec)) driveGoalsCard

/-- THE TIED CARD OF 'spillagelaw03.DrivePairs'. -/
def drivePairsCard : Claim7 := { stood := { row := drivePairsRow, standIns := [], harness := (true, "939cc64c5b662829b53b458993b36c339b48d431fbef4d0cf7d4afe7fc2c794a"), looks := false }, kinds := [], alts := [], laidByText := true, laidKinds := [.data, .data, .data, .data], laidTests := true, laidLooks := .later }
def DrivePairsCardSaid : Prop := Claim7.holds Tryz.pinned (.plain (OpenSpec.ofChange drivePairsSpec)) drivePairsCard

/-- THE TIED CARD OF 'spillagelaw03.DriveSeen'. -/
def driveSeenCard : Claim7 := { stood := { row := driveSeenRow, standIns := [], harness := (true, "939cc64c5b662829b53b458993b36c339b48d431fbef4d0cf7d4afe7fc2c794a"), looks := false }, kinds := [], alts := [], laidByText := true, laidKinds := [.data, .data, .data, .data], laidTests := true, laidLooks := .later }
def DriveSeenCardSaid : Prop := Claim7.holds Tryz.pinned (.plain (OpenSpec.ofChange driveSeenSpec)) driveSeenCard

/-- THE TIED CARD OF 'spillagelaw03.DrivePoints'. -/
def drivePointsCard : Claim7 := { stood := { row := drivePointsRow, standIns := [], harness := (true, "939cc64c5b662829b53b458993b36c339b48d431fbef4d0cf7d4afe7fc2c794a"), looks := false }, kinds := [], alts := [], laidByText := true, laidKinds := [.data, .data, .data, .data], laidTests := true, laidLooks := .later }
def DrivePointsCardSaid : Prop := Claim7.holds Tryz.pinned (.plain (OpenSpec.ofChange drivePointsSpec)) drivePointsCard

/-- THE TIED CARD OF 'spillagelaw03.DriveTexts'. -/
def driveTextsCard : Claim7 := { stood := { row := driveTextsRow, standIns := [], harness := (true, "939cc64c5b662829b53b458993b36c339b48d431fbef4d0cf7d4afe7fc2c794a"), looks := false }, kinds := [], alts := [], laidByText := true, laidKinds := [.data, .data, .data, .data, .data, .pinned], laidTests := true, laidLooks := .later }
def DriveTextsCardSaid : Prop := Claim7.holds Tryz.pinned (.plain (OpenSpec.ofChange driveTextsSpec)) driveTextsCard

/-- THE TIED CARD OF 'spillagelaw03.DriveBack'. -/
def driveBackCard : Claim7 := { stood := { row := driveBackRow, standIns := [], harness := (true, "939cc64c5b662829b53b458993b36c339b48d431fbef4d0cf7d4afe7fc2c794a"), looks := false }, kinds := [], alts := [], laidByText := true, laidKinds := [.data, .data, .data, .data, .data, .pinned], laidTests := true, laidLooks := .later }
def DriveBackCardSaid : Prop := Claim7.holds Tryz.pinned (.plain (OpenSpec.ofChange driveBackSpec)) driveBackCard

/-- THE SECOND FORM's CARD OF 'spillagelaw03.DriveMoves'. -/
def driveMovesUptoCard : Claim7 := { stood := { row := driveMovesUptoRow, standIns := [], harness := (true, "939cc64c5b662829b53b458993b36c339b48d431fbef4d0cf7d4afe7fc2c794a"), looks := false }, kinds := [], alts := [], laidByText := true, laidKinds := [.data, .data, .data, .data], laidTests := true, laidLooks := .later }
def DriveMovesUptoCardSaid : Prop := Claim7.holds Tryz.pinned (.plain (OpenSpec.upto driveMovesSpec)) driveMovesUptoCard

/-- THE SECOND FORM's CARD OF 'spillagelaw03.DriveTracks'. -/
def driveTracksUptoCard : Claim7 := { stood := { row := driveTracksUptoRow, standIns := [], harness := (true, "939cc64c5b662829b53b458993b36c339b48d431fbef4d0cf7d4afe7fc2c794a"), looks := false }, kinds := [], alts := [], laidByText := true, laidKinds := [.data, .data, .data, .data], laidTests := true, laidLooks := .later }
def DriveTracksUptoCardSaid : Prop := Claim7.holds Tryz.pinned (.plain (OpenSpec.upto driveTracksSpec)) driveTracksUptoCard

/-- THE SECOND FORM's CARD OF 'spillagelaw03.DriveFits'. -/
def driveFitsUptoCard : Claim7 := { stood := { row := driveFitsUptoRow, standIns := [], harness := (true, "939cc64c5b662829b53b458993b36c339b48d431fbef4d0cf7d4afe7fc2c794a"), looks := false }, kinds := [], alts := [], laidByText := true, laidKinds := [.data, .data, .data, .data], laidTests := true, laidLooks := .later }
def DriveFitsUptoCardSaid : Prop := Claim7.holds Tryz.pinned (.plain (OpenSpec.upto driveFitsSpec)) driveFitsUptoCard

/-- THE SECOND FORM's CARD OF 'spillagelaw03.DriveModels'. -/
def driveModelsUptoCard : Claim7 := { stood := { row := driveModelsUptoRow, standIns := [], harness := (true, "939cc64c5b662829b53b458993b36c339b48d431fbef4d0cf7d4afe7fc2c794a"), looks := false }, kinds := [], alts := [], laidByText := true, laidKinds := [.data, .data, .data, .data], laidTests := true, laidLooks := .later }
def DriveModelsUptoCardSaid : Prop := Claim7.holds Tryz.pinned (.plain (OpenSpec.upto driveModelsSpec)) driveModelsUptoCard

/-- THE SECOND FORM's CARD OF 'spillagelaw03.DriveTargets'. -/
def driveTargetsUptoCard : Claim7 := { stood := { row := driveTargetsUptoRow, standIns := [], harness := (true, "939cc64c5b662829b53b458993b36c339b48d431fbef4d0cf7d4afe7fc2c794a"), looks := false }, kinds := [], alts := [], laidByText := true, laidKinds := [.data, .data, .data, .data], laidTests := true, laidLooks := .later }
def DriveTargetsUptoCardSaid : Prop := Claim7.holds Tryz.pinned (.plain (OpenSpec.upto driveTargetsSpec)) driveTargetsUptoCard

/-- THE SECOND FORM's CARD OF 'spillagelaw03.DriveVotes'. -/
def driveVotesUptoCard : Claim7 := { stood := { row := driveVotesUptoRow, standIns := [], harness := (true, "939cc64c5b662829b53b458993b36c339b48d431fbef4d0cf7d4afe7fc2c794a"), looks := false }, kinds := [], alts := [], laidByText := true, laidKinds := [.data, .data, .data, .data], laidTests := true, laidLooks := .later }
def DriveVotesUptoCardSaid : Prop := Claim7.holds Tryz.pinned (.plain (OpenSpec.upto driveVotesSpec)) driveVotesUptoCard

/-- THE SECOND FORM's CARD OF 'spillagelaw03.DriveLoads'. -/
def driveLoadsUptoCard : Claim7 := { stood := { row := driveLoadsUptoRow, standIns := [], harness := (true, "939cc64c5b662829b53b458993b36c339b48d431fbef4d0cf7d4afe7fc2c794a"), looks := false }, kinds := [], alts := [], laidByText := true, laidKinds := [.data, .data, .data, .data], laidTests := true, laidLooks := .later }
def DriveLoadsUptoCardSaid : Prop := Claim7.holds Tryz.pinned (.plain (OpenSpec.upto driveLoadsSpec)) driveLoadsUptoCard

/-- THE SECOND FORM's CARD OF 'spillagelaw03.DrivePlays'. -/
def drivePlaysUptoCard : Claim7 := { stood := { row := drivePlaysUptoRow, standIns := [], harness := (true, "939cc64c5b662829b53b458993b36c339b48d431fbef4d0cf7d4afe7fc2c794a"), looks := false }, kinds := [], alts := [], laidByText := true, laidKinds := [.data, .data, .data, .data], laidTests := true, laidLooks := .later }
def DrivePlaysUptoCardSaid : Prop := Claim7.holds Tryz.pinned (.plain (OpenSpec.upto drivePlaysSpec)) drivePlaysUptoCard

/-- THE SECOND FORM's CARD OF 'spillagelaw03.DriveHits'. -/
def driveHitsUptoCard : Claim7 := { stood := { row := driveHitsUptoRow, standIns := [], harness := (true, "939cc64c5b662829b53b458993b36c339b48d431fbef4d0cf7d4afe7fc2c794a"), looks := false }, kinds := [], alts := [], laidByText := true, laidKinds := [.data, .data, .data, .data], laidTests := true, laidLooks := .later }
def DriveHitsUptoCardSaid : Prop := Claim7.holds Tryz.pinned (.plain (OpenSpec.upto driveHitsSpec)) driveHitsUptoCard

/-- THE SECOND FORM's CARD OF 'spillagelaw03.DriveGoals'. -/
def driveGoalsUptoCard : Claim7 := { stood := { row := driveGoalsUptoRow, standIns := [], harness := (true, "939cc64c5b662829b53b458993b36c339b48d431fbef4d0cf7d4afe7fc2c794a"), looks := false }, kinds := [], alts := [], laidByText := true, laidKinds := [.data, .data, .data, .data], laidTests := true, laidLooks := .later }
def DriveGoalsUptoCardSaid : Prop := Claim7.holds Tryz.pinned (.plain (OpenSpec.upto driveGoalsSpec)) driveGoalsUptoCard

/-- THE SECOND FORM's CARD OF 'spillagelaw03.DrivePairs'. -/
def drivePairsUptoCard : Claim7 := { stood := { row := drivePairsUptoRow, standIns := [], harness := (true, "939cc64c5b662829b53b458993b36c339b48d431fbef4d0cf7d4afe7fc2c794a"), looks := false }, kinds := [], alts := [], laidByText := true, laidKinds := [.data, .data, .data, .data], laidTests := true, laidLooks := .later }
def DrivePairsUptoCardSaid : Prop := Claim7.holds Tryz.pinned (.plain (OpenSpec.upto drivePairsSpec)) drivePairsUptoCard

/-- THE SECOND FORM's CARD OF 'spillagelaw03.DriveSeen'. -/
def driveSeenUptoCard : Claim7 := { stood := { row := driveSeenUptoRow, standIns := [], harness := (true, "939cc64c5b662829b53b458993b36c339b48d431fbef4d0cf7d4afe7fc2c794a"), looks := false }, kinds := [], alts := [], laidByText := true, laidKinds := [.data, .data, .data, .data], laidTests := true, laidLooks := .later }
def DriveSeenUptoCardSaid : Prop := Claim7.holds Tryz.pinned (.plain (OpenSpec.upto driveSeenSpec)) driveSeenUptoCard

/-- THE SECOND FORM's CARD OF 'spillagelaw03.DrivePoints'. -/
def drivePointsUptoCard : Claim7 := { stood := { row := drivePointsUptoRow, standIns := [], harness := (true, "939cc64c5b662829b53b458993b36c339b48d431fbef4d0cf7d4afe7fc2c794a"), looks := false }, kinds := [], alts := [], laidByText := true, laidKinds := [.data, .data, .data, .data], laidTests := true, laidLooks := .later }
def DrivePointsUptoCardSaid : Prop := Claim7.holds Tryz.pinned (.plain (OpenSpec.upto drivePointsSpec)) drivePointsUptoCard

/-- THE SECOND FORM's CARD OF 'spillagelaw03.DriveTexts'. -/
def driveTextsUptoCard : Claim7 := { stood := { row := driveTextsUptoRow, standIns := [], harness := (true, "939cc64c5b662829b53b458993b36c339b48d431fbef4d0cf7d4afe7fc2c794a"), looks := false }, kinds := [], alts := [], laidByText := true, laidKinds := [.data, .data, .data, .data, .data, .pinned], laidTests := true, laidLooks := .later }
def DriveTextsUptoCardSaid : Prop := Claim7.holds Tryz.pinned (.plain (OpenSpec.upto driveTextsSpec)) driveTextsUptoCard

/-- THE SECOND FORM's CARD OF 'spillagelaw03.DriveBack'. -/
def driveBackUptoCard : Claim7 := { stood := { row := driveBackUptoRow, standIns := [], harness := (true, "939cc64c5b662829b53b458993b36c339b48d431fbef4d0cf7d4afe7fc2c794a"), looks := false }, kinds := [], alts := [], laidByText := true, laidKinds := [.data, .data, .data, .data, .data, .pinned], laidTests := true, laidLooks := .later }
def DriveBackUptoCardSaid : Prop := Claim7.holds Tryz.pinned (.plain (OpenSpec.upto driveBackSpec)) driveBackUptoCard
end Rows
end Go.Proofs.YtmgbmngmmpeaaaaGreatDoor
