/-
  DERIVED. GIVEN WITH THE SEED: THE CARDS: each row of YtbjnjffckhdhgaaGreatDoorRows.lean that lists a variable, with what it lists TIED to the program's text (the seventh form; the later family's looks); each row that meets fmt, with fmt's text TOLD by the authors' own Lean function (tested against real Go, not proved from fmt's source: count such statements apart). THE CARD IS WHAT COUNTS. Prove the row's statement (the work); the ties are given (YtbjnjffckhdhgaaGreatDoorTie.lean); close each card by the builder's one call (the guide's Derived/Test/ToyasCard.lean, 'card_holds'). Laid BY PROGRAM, IN A SANDBOX (cutbox-door.mjs). By AI agents, Wed Nov 11 2026. No macro, syntax, notation, axiom, sorry.
-/
import Derived.Test.YtbjnjffckhdhgaaGreatDoorRows
import GoSem.ClaimSeven
namespace Go.Proofs.YtbjnjffckhdhgaaGreatDoor
namespace Rows

/-- THE TIED CARD OF 'spillagelaw04.FieldHolds'. -/
def fieldHoldsCard : Claim7 := { stood := { row := fieldHoldsRow, standIns := [], harness := (true, "db1550ed3152109d07585cded28b8db0b203ddc34b8ab0274c80fbe2eadd1789"), looks := false }, kinds := [], alts := [], laidByText := true, laidKinds := [.data, .data, .data, .data], laidTests := true, laidLooks := .later }
def FieldHoldsCardSaid : Prop := Claim7.holds Tryz.pinned (.plain (OpenSpec.ofChange fieldHoldsSpec)) fieldHoldsCard

/-- THE TIED CARD OF 'spillagelaw04.FieldParted'. -/
def fieldPartedCard : Claim7 := { stood := { row := fieldPartedRow, standIns := [], harness := (true, "db1550ed3152109d07585cded28b8db0b203ddc34b8ab0274c80fbe2eadd1789"), looks := false }, kinds := [], alts := [], laidByText := true, laidKinds := [.data, .data, .data, .data], laidTests := true, laidLooks := .later }
def FieldPartedCardSaid : Prop := Claim7.holds Tryz.pinned (.plain (OpenSpec.ofChange fieldPartedSpec)) fieldPartedCard

/-- THE SECOND FORM's CARD OF 'spillagelaw04.FieldHolds'. -/
def fieldHoldsUptoCard : Claim7 := { stood := { row := fieldHoldsUptoRow, standIns := [], harness := (true, "db1550ed3152109d07585cded28b8db0b203ddc34b8ab0274c80fbe2eadd1789"), looks := false }, kinds := [], alts := [], laidByText := true, laidKinds := [.data, .data, .data, .data], laidTests := true, laidLooks := .later }
def FieldHoldsUptoCardSaid : Prop := Claim7.holds Tryz.pinned (.plain (OpenSpec.upto fieldHoldsSpec)) fieldHoldsUptoCard

/-- THE SECOND FORM's CARD OF 'spillagelaw04.FieldParted'. -/
def fieldPartedUptoCard : Claim7 := { stood := { row := fieldPartedUptoRow, standIns := [], harness := (true, "db1550ed3152109d07585cded28b8db0b203ddc34b8ab0274c80fbe2eadd1789"), looks := false }, kinds := [], alts := [], laidByText := true, laidKinds := [.data, .data, .data, .data], laidTests := true, laidLooks := .later }
def FieldPartedUptoCardSaid : Prop := Claim7.holds Tryz.pinned (.plain (OpenSpec.upto fieldPartedSpec)) fieldPartedUptoCard
end Rows
end Go.Proofs.YtbjnjffckhdhgaaGreatDoor
