/-
  DERIVED. GIVEN WITH THE SEED: THE CARDS: each row of YtlakflidecdepaaGreatDoorRows.lean that lists a variable, with what it lists TIED to the program's text (the seventh form; the later family's looks); each row that meets fmt, with fmt's text TOLD by the authors' own Lean function (tested against real Go, not proved from fmt's source: count such statements apart). THE CARD IS WHAT COUNTS. Prove the row's statement (the work); the ties are given (YtlakflidecdepaaGreatDoorTie.lean); close each card by the builder's one call (the guide's Derived/Test/ToyasCard.lean, 'card_holds'). Laid BY PROGRAM, IN A SANDBOX (cutbox-door.mjs). By AI agents, Wed Nov 11 2026. No macro, syntax, notation, axiom, sorry.
-/
import Derived.Test.YtlakflidecdepaaGreatDoorRows
import GoSem.ClaimSeven
namespace Go.Proofs.YtlakflidecdepaaGreatDoor
namespace Rows

/-- THE TIED CARD OF 'spillagelaw04.FieldPolygons'. -/
def fieldPolygonsCard : Claim7 := { stood := { row := fieldPolygonsRow, standIns := [], harness := (true, "faa473a4d6410b1d40c0bdaf890d26022f0d66317184d2e742d447419ebd6a34"), looks := false }, kinds := [], alts := [], laidByText := true, laidKinds := [.data, .data, .data, .data], laidTests := true, laidLooks := .later }
def FieldPolygonsCardSaid : Prop := Claim7.holds Tryz.pinned (.plain (OpenSpec.ofChange fieldPolygonsSpec)) fieldPolygonsCard

/-- THE SECOND FORM's CARD OF 'spillagelaw04.FieldPolygons'. -/
def fieldPolygonsUptoCard : Claim7 := { stood := { row := fieldPolygonsUptoRow, standIns := [], harness := (true, "faa473a4d6410b1d40c0bdaf890d26022f0d66317184d2e742d447419ebd6a34"), looks := false }, kinds := [], alts := [], laidByText := true, laidKinds := [.data, .data, .data, .data], laidTests := true, laidLooks := .later }
def FieldPolygonsUptoCardSaid : Prop := Claim7.holds Tryz.pinned (.plain (OpenSpec.upto fieldPolygonsSpec)) fieldPolygonsUptoCard
end Rows
end Go.Proofs.YtlakflidecdepaaGreatDoor
