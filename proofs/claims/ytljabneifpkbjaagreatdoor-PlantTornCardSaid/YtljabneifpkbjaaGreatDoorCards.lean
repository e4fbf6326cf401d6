/-
  DERIVED. GIVEN WITH THE SEED: THE CARDS: each row of YtljabneifpkbjaaGreatDoorRows.lean that lists a variable, with what it lists TIED to the program's text (the seventh form; the later family's looks); each row that meets fmt, with fmt's text TOLD by the authors' own Lean function (tested against real Go, not proved from fmt's source: count such statements apart). THE CARD IS WHAT COUNTS. Prove the row's statement (the work); the ties are given (YtljabneifpkbjaaGreatDoorTie.lean); close each card by the builder's one call (the guide's Derived/Test/ToyasCard.lean, 'card_holds'). Laid BY PROGRAM, IN A SANDBOX (cutbox-door.mjs). By AI agents, Wed Nov 11 2026. No macro, syntax, notation, axiom, sorry.
-/
import Derived.Test.YtljabneifpkbjaaGreatDoorRows
import GoSem.ClaimSeven
namespace Go.Proofs.YtljabneifpkbjaaGreatDoor
namespace Rows

/-- THE TIED CARD OF 'spillagelaw10.PlantLight'. -/
def plantLightCard : Claim7 := { stood := { row := plantLightRow, standIns := [], harness := (true, "924d0b46f5128e1a4f45b88e6678815c16467893e8f21074da9e48a568df30b9"), looks := false }, kinds := [], alts := [], laidByText := true, laidKinds := [.data, .data, .data, .data, .pinned], laidTests := true, laidLooks := .later }
def PlantLightCardSaid : Prop := Claim7.holds Tryz.pinned (.plain (OpenSpec.ofChange plantLightSpec)) plantLightCard

/-- THE TIED CARD OF 'spillagelaw10.PlantOffers'. -/
def plantOffersCard : Claim7 := { stood := { row := plantOffersRow, standIns := [], harness := (true, "924d0b46f5128e1a4f45b88e6678815c16467893e8f21074da9e48a568df30b9"), looks := false }, kinds := [], alts := [], laidByText := true, laidKinds := [.data, .data, .data, .data, .pinned], laidTests := true, laidLooks := .later }
def PlantOffersCardSaid : Prop := Claim7.holds Tryz.pinned (.plain (OpenSpec.ofChange plantOffersSpec)) plantOffersCard

/-- THE TIED CARD OF 'spillagelaw10.PlantStories'. -/
def plantStoriesCard : Claim7 := { stood := { row := plantStoriesRow, standIns := [], harness := (true, "924d0b46f5128e1a4f45b88e6678815c16467893e8f21074da9e48a568df30b9"), looks := false }, kinds := [], alts := [], laidByText := true, laidKinds := [.data, .data, .data, .data, .pinned], laidTests := true, laidLooks := .later }
def PlantStoriesCardSaid : Prop := Claim7.holds Tryz.pinned (.plain (OpenSpec.ofChange plantStoriesSpec)) plantStoriesCard

/-- THE TIED CARD OF 'spillagelaw10.PlantSafe'. -/
def plantSafeCard : Claim7 := { stood := { row := plantSafeRow, standIns := [], harness := (true, "924d0b46f5128e1a4f45b88e6678815c16467893e8f21074da9e48a568df30b9"), looks := false }, kinds := [], alts := [], laidByText := true, laidKinds := [.data, .data, .data, .data, .pinned], laidTests := true, laidLooks := .later }
def PlantSafeCardSaid : Prop := Claim7.holds Tryz.pinned (.plain (OpenSpec.ofChange plantSafeSpec)) plantSafeCard

/-- THE TIED CARD OF 'spillagelaw10.PlantParts'. -/
def plantPartsCard : Claim7 := { stood := { row := plantPartsRow, standIns := [], harness := (true, "924d0b46f5128e1a4f45b88e6678815c16467893e8f21074da9e48a568df30b9"), looks := false }, kinds := [], alts := [], laidByText := true, laidKinds := [.data, .data, .data, .data, .pinned], laidTests := true, laidLooks := .later }
def PlantPartsCardSaid : Prop := Claim7.holds Tryz.pinned (.plain (OpenSpec.ofChange plantPartsSpec)) plantPartsCard

/-- THE TIED CARD OF 'spillagelaw10.PlantTurns'. -/
def plantTurnsCard : Claim7 := { stood := { row := plantTurnsRow, standIns := [], harness := (true, "924d0b46f5128e1a4f45b88e6678815c16467893e8f21074da9e48a568df30b9"), looks := false }, kinds := [], alts := [], laidByText := true, laidKinds := [.data, .data, .data, .data, .pinned], laidTests := true, laidLooks := .later }
def PlantTurnsCardSaid : Prop := Claim7.holds Tryz.pinned (.plain (OpenSpec.ofChange plantTurnsSpec)) plantTurnsCard

/-- THE TIED CARD OF 'spillagelaw10.PlantLogs'. -/
def plantLogsCard : Claim7 := { stood := { row := plantLogsRow, standIns := [], harness := (true, "924d0b46f5128e1a4f45b88e6678815c16467893e8f21074da9e48a568df30b9"), looks := false }, kinds := [], alts := [], laidByText := true, laidKinds := [.data, .data, .data, .data, .pinned], laidTests := true, laidLooks := .later }
def PlantLogsCardSaid : Prop := Claim7.holds Tryz.pinned (.plain (OpenSpec.ofChange plantLogsSpec)) plantLogsCard

/-- THE TIED CARD OF 'spillagelaw10.PlantSessions'. -/
def plantSessionsCard : Claim7 := { stood := { row := plantSessionsRow, standIns := [], harness := (true, "924d0b46f5128e1a4f45b88e6678815c16467893e8f21074da9e48a568df30b9"), looks := false }, kinds := [], alts := [], laidByText := true, laidKinds := [.data, .data, .data, .data, .pinned], laidTests := true, laidLooks := .later }
def PlantSessionsCardSaid : Prop := Claim7.holds Tryz.pinned (.plain (OpenSpec.ofChange plantSessionsSpec)) plantSessionsCard

/-- THE TIED CARD OF 'spillagelaw10.PlantEvents'. -/
def plantEventsCard : Claim7 := { stood := { row := plantEventsRow, standIns := [], harness := (true, "924d0b46f5128e1a4f45b88e6678815c16467893e8f21074da9e48a568df30b9"), looks := false }, kinds := [], alts := [], laidByText := true, laidKinds := [.data, .data, .data, .data, .pinned], laidTests := true, laidLooks := .later }
def PlantEventsCardSaid : Prop := Claim7.holds Tryz.pinned (.plain (OpenSpec.ofChange plantEventsSpec)) plantEventsCard

/-- THE TIED CARD OF 'spillagelaw10.PlantTorn'. -/
def plantTornCard : Claim7 := { stood := { row := plantTornRow, standIns := [], harness := (true, "924d0b46f5128e1a4f45b88e6678815c16467893e8f21074da9e48a568df30b9"), looks := false }, kinds := [], alts := [], laidByText := true, laidKinds := [.data, .data, .data, .data, .pinned], laidTests := true, laidLooks := .later }
def PlantTornCardSaid : Prop := Claim7.holds Tryz.pinned (.plain (OpenSpec.ofChange plantTornSpec)) plantTornCard

/-- THE SECOND FORM's CARD OF 'spillagelaw10.PlantLight'. -/
def plantLightUptoCard : Claim7 := { stood := { row := plantLightUptoRow, standIns := [], harness := (true, "924d0b46f5128e1a4f45b88e6678815c16467893e8f21074da9e48a568df30b9"), looks := false }, kinds := [], alts := [], laidByText := true, laidKinds := [.data, .data, .data, .data, .pinned], laidTests := true, laidLooks := .later }
def PlantLightUptoCardSaid : Prop := Claim7.holds Tryz.pinned (.plain (OpenSpec.upto plantLightSpec)) plantLightUptoCard

/-- THE SECOND FORM's CARD OF 'spillagelaw10.PlantOffers'. -/
def plantOffersUptoCard : Claim7 := { stood := { row := plantOffersUptoRow, standIns := [], harness := (true, "924d0b46f5128e1a4f45b88e6678815c16467893e8f21074da9e48a568df30b9"), looks := false }, kinds := [], alts := [], laidByText := true, laidKinds := [.data, .data, .data, .data, .pinned], laidTests := true, laidLooks := .later }
def PlantOffersUptoCardSaid : Prop := Claim7.holds Tryz.pinned (.plain (OpenSpec.upto plantOffersSpec)) plantOffersUptoCard

/-- THE SECOND FORM's CARD OF 'spillagelaw10.PlantStories'. -/
def plantStoriesUptoCard : Claim7 := { stood := { row := plantStoriesUptoRow, standIns := [], harness := (true, "924d0b46f5128e1a4f45b88e6678815c16467893e8f21074da9e48a568df30b9"), looks := false }, kinds := [], alts := [], laidByText := true, laidKinds := [.data, .data, .data, .data, .pinned], laidTests := true, laidLooks := .later }
def PlantStoriesUptoCardSaid : Prop := Claim7.holds Tryz.pinned (.plain (OpenSpec.upto plantStoriesSpec)) plantStoriesUptoCard

/-- THE SECOND FORM's CARD OF 'spillagelaw10.PlantSafe'. -/
def plantSafeUptoCard : Claim7 := { stood := { row := plantSafeUptoRow, standIns := [], harness := (true, "924d0b46f5128e1a4f45b88e6678815c16467893e8f21074da9e48a568df30b9"), looks := false }, kinds := [], alts := [], laidByText := true, laidKinds := [.data, .data, .data, .data, .pinned], laidTests := true, laidLooks := .later }
def PlantSafeUptoCardSaid : Prop := Claim7.holds Tryz.pinned (.plain (OpenSpec.upto plantSafeSpec)) plantSafeUptoCard

/-- THE SECOND FORM's CARD OF 'spillagelaw10.PlantParts'. -/
def plantPartsUptoCard : Claim7 := { stood := { row := plantPartsUptoRow, standIns := [], harness := (true, "924d0b46f5128e1a4f45b88e6678815c16467893e8f21074da9e48a568df30b9"), looks := false }, kinds := [], alts := [], laidByText := true, laidKinds := [.data, .data, .data, .data, .pinned], laidTests := true, laidLooks := .later }
def PlantPartsUptoCardSaid : Prop := Claim7.holds Tryz.pinned (.plain (OpenSpec.upto plantPartsSpec)) plantPartsUptoCard

/-- THE SECOND FORM's CARD OF 'spillagelaw10.PlantTurns'. -/
def plantTurnsUptoCard : Claim7 := { stood := { row := plantTurnsUptoRow, standIns := [], harness := (true, "924d0b46f5128e1a4f45b88e6678815c16467893e8f21074da9e48a568df30b9"), looks := false }, kinds := [], alts := [], laidByText := true, laidKinds := [.data, .data, .data, .data, .pinned], laidTests := true, laidLooks := .later }
def PlantTurnsUptoCardSaid : Prop := Claim7.holds Tryz.pinned (.plain (OpenSpec.upto plantTurnsSpec)) plantTurnsUptoCard

/-- THE SECOND FORM's CARD OF 'spillagelaw10.PlantLogs'. -/
def plantLogsUptoCard : Claim7 := { stood := { row := plantLogsUptoRow, standIns := [], harness := (true, "924d0b46f5128e1a4f45b88e6678815c16467893e8f21074da9e48a568df30b9"), looks := false }, kinds := [], alts := [], laidByText := true, laidKinds := [.data, .data, .data, .data, .pinned], laidTests := true, laidLooks := .later }
def PlantLogsUptoCardSaid : Prop := Claim7.holds Tryz.pinned (.plain (OpenSpec.upto plantLogsSpec)) plantLogsUptoCard

/-- THE SECOND FORM's CARD OF 'spillagelaw10.PlantSessions'. -/
def plantSessionsUptoCard : Claim7 := { stood := { row := plantSessionsUptoRow, standIns := [], harness := (true, "924d0b46f5128e1a4f45b88e6678815c16467893e8f21074da9e48a568df30b9"), looks := false }, kinds := [], alts := [], laidByText := true, laidKinds := [.data, .data, .data, .data, .pinned], laidTests := true, laidLooks := .later }
def PlantSessionsUptoCardSaid : Prop := Claim7.holds Tryz.pinned (.plain (OpenSpec.upto plantSessionsSpec)) plantSessionsUptoCard

/-- THE SECOND FORM's CARD OF 'spillagelaw10.PlantEvents'. -/
def plantEventsUptoCard : Claim7 := { stood := { row := plantEventsUptoRow, standIns := [], harness := (true, "924d0b46f5128e1a4f45b88e6678815c16467893e8f21074da9e48a568df30b9"), looks := false }, kinds := [], alts := [], laidByText := true, laidKinds := [.data, .data, .data, .data, .pinned], laidTests := true, laidLooks := .later }
def PlantEventsUptoCardSaid : Prop := Claim7.holds Tryz.pinned (.plain (OpenSpec.upto plantEventsSpec)) plantEventsUptoCard

/-- THE SECOND FORM's CARD OF 'spillagelaw10.PlantTorn'. -/
def plantTornUptoCard : Claim7 := { stood := { row := plantTornUptoRow, standIns := [], harness := (true, "924d0b46f5128e1a4f45b88e6678815c16467893e8f21074da9e48a568df30b9"), looks := false }, kinds := [], alts := [], laidByText := true, laidKinds := [.data, .data, .data, .data, .pinned], laidTests := true, laidLooks := .later }
def PlantTornUptoCardSaid : Prop := Claim7.holds Tryz.pinned (.plain (OpenSpec.upto plantTornSpec)) plantTornUptoCard
end Rows
end Go.Proofs.YtljabneifpkbjaaGreatDoor
