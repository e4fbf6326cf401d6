/-
  DERIVED. GIVEN WITH THE SEED: THE CARDS: each row of YthdghjjahodkaaaGreatDoorRows.lean that lists a variable, with what it lists TIED to the program's text (the seventh form; the later family's looks); each row that meets fmt, with fmt's text TOLD by the authors' own Lean function (tested against real Go, not proved from fmt's source: count such statements apart). THE CARD IS WHAT COUNTS. Prove the row's statement (the work); the ties are given (YthdghjjahodkaaaGreatDoorTie.lean); close each card by the builder's one call (the guide's Derived/Test/ToyasCard.lean, 'card_holds'). Laid BY PROGRAM, IN A SANDBOX (cutbox-door.mjs). By AI agents, Wed Nov 11 2026. No macro, syntax, notation, axiom, sorry.
-/
import Derived.Test.YthdghjjahodkaaaGreatDoorRows
import GoSem.ClaimSeven
namespace Go.Proofs.YthdghjjahodkaaaGreatDoor
namespace Rows

/-- THE TIED CARD OF 'spillagetop.TopAnvilTrip'. -/
def topAnvilTripCard : Claim7 := { stood := { row := topAnvilTripRow, standIns := [], harness := (true, "a1eae9cace0d74ca3d74ee9f8fff924944ffc4ddbbdb9421ac1f9d228e55f7e6"), looks := false }, kinds := [], alts := [], laidByText := true, laidKinds := [.data, .data, .data, .data, .pinned], laidTests := true, laidLooks := .later }
def TopAnvilTripCardSaid : Prop := Claim7.holds Tryz.pinned (.plain (OpenSpec.ofChange topAnvilTripSpec)) topAnvilTripCard

/-- THE TIED CARD OF 'spillagetop.TopAnvilOffers'. -/
def topAnvilOffersCard : Claim7 := { stood := { row := topAnvilOffersRow, standIns := [], harness := (true, "a1eae9cace0d74ca3d74ee9f8fff924944ffc4ddbbdb9421ac1f9d228e55f7e6"), looks := false }, kinds := [], alts := [], laidByText := true, laidKinds := [.data, .data, .data, .data, .pinned], laidTests := true, laidLooks := .later }
def TopAnvilOffersCardSaid : Prop := Claim7.holds Tryz.pinned (.plain (OpenSpec.ofChange topAnvilOffersSpec)) topAnvilOffersCard

/-- THE SECOND FORM's CARD OF 'spillagetop.TopAnvilTrip'. -/
def topAnvilTripUptoCard : Claim7 := { stood := { row := topAnvilTripUptoRow, standIns := [], harness := (true, "a1eae9cace0d74ca3d74ee9f8fff924944ffc4ddbbdb9421ac1f9d228e55f7e6"), looks := false }, kinds := [], alts := [], laidByText := true, laidKinds := [.data, .data, .data, .data, .pinned], laidTests := true, laidLooks := .later }
def TopAnvilTripUptoCardSaid : Prop := Claim7.holds Tryz.pinned (.plain (OpenSpec.upto topAnvilTripSpec)) topAnvilTripUptoCard

/-- THE SECOND FORM's CARD OF 'spillagetop.TopAnvilOffers'. -/
def topAnvilOffersUptoCard : Claim7 := { stood := { row := topAnvilOffersUptoRow, standIns := [], harness := (true, "a1eae9cace0d74ca3d74ee9f8fff924944ffc4ddbbdb9421ac1f9d228e55f7e6"), looks := false }, kinds := [], alts := [], laidByText := true, laidKinds := [.data, .data, .data, .data, .pinned], laidTests := true, laidLooks := .later }
def TopAnvilOffersUptoCardSaid : Prop := Claim7.holds Tryz.pinned (.plain (OpenSpec.upto topAnvilOffersSpec)) topAnvilOffersUptoCard
end Rows
end Go.Proofs.YthdghjjahodkaaaGreatDoor
