/-
  DERIVED. GIVEN WITH THE SEED: THE CARDS: each row of YtmhkcfjajpjigaaGreatDoorRows.lean that lists a variable, with what it lists TIED to the program's text (the seventh form; the later family's looks); each row that meets fmt, with fmt's text TOLD by the authors' own Lean function (tested against real Go, not proved from fmt's source: count such statements apart). THE CARD IS WHAT COUNTS. Prove the row's statement (the work); the ties are given (YtmhkcfjajpjigaaGreatDoorTie.lean); close each card by the builder's one call (the guide's Derived/Test/ToyasCard.lean, 'card_holds'). Laid BY PROGRAM, IN A SANDBOX (cutbox-door.mjs). By AI agents, Wed Nov 11 2026. No macro, syntax, notation, axiom, sorry.
-/
import Derived.Test.YtmhkcfjajpjigaaGreatDoorRows
import GoSem.ClaimSeven
namespace Go.Proofs.YtmhkcfjajpjigaaGreatDoor
namespace Rows

/-- THE TIED CARD OF 'spillagetop.TopEmberDay'. -/
def topEmberDayCard : Claim7 := { stood := { row := topEmberDayRow, standIns := [], harness := (true, "8ec6370267705228ed29fb390cb8b0583b5ff855076ede6fc1200cdfac1cd2d2"), looks := false }, kinds := [], alts := [], laidByText := true, laidKinds := [.data, .data, .data, .data, .widerDeep, .pinned], laidTests := true, laidLooks := .later }
def TopEmberDayCardSaid : Prop := Claim7.holds Tryz.pinned (.plain (OpenSpec.ofChange topEmberDaySpec)) topEmberDayCard

/-- THE SECOND FORM's CARD OF 'spillagetop.TopEmberDay'. -/
def topEmberDayUptoCard : Claim7 := { stood := { row := topEmberDayUptoRow, standIns := [], harness := (true, "8ec6370267705228ed29fb390cb8b0583b5ff855076ede6fc1200cdfac1cd2d2"), looks := false }, kinds := [], alts := [], laidByText := true, laidKinds := [.data, .data, .data, .data, .widerDeep, .pinned], laidTests := true, laidLooks := .later }
def TopEmberDayUptoCardSaid : Prop := Claim7.holds Tryz.pinned (.plain (OpenSpec.upto topEmberDaySpec)) topEmberDayUptoCard
end Rows
end Go.Proofs.YtmhkcfjajpjigaaGreatDoor
