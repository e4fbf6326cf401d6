/-
  DERIVED. GIVEN WITH THE SEED: THE CARDS: each row of YtiefmhacicemhaaGreatDoorRows.lean that lists a variable, with what it lists TIED to the program's text (the seventh form; the later family's looks); each row that meets fmt, with fmt's text TOLD by the authors' own Lean function (tested against real Go, not proved from fmt's source: count such statements apart). THE CARD IS WHAT COUNTS. Prove the row's statement (the work); the ties are given (YtiefmhacicemhaaGreatDoorTie.lean); close each card by the builder's one call (the guide's Derived/Test/ToyasCard.lean, 'card_holds'). Laid BY PROGRAM, IN A SANDBOX (cutbox-door.mjs). By AI agents, Wed Nov 11 2026. No macro, syntax, notation, axiom, sorry.
-/
import Derived.Test.YtiefmhacicemhaaGreatDoorRows
import GoSem.ClaimSeven
namespace Go.Proofs.YtiefmhacicemhaaGreatDoor
namespace Rows

/-- THE TIED CARD OF 'spillagelaw04.FieldHulls'. -/
def fieldHullsCard : Claim7 := { stood := { row := fieldHullsRow, standIns := [], harness := (true, "b17c3a9c602015ac7e1ffda4a8f6ba9955225f553f156e48dec55f2da5f7e94a"), looks := false }, kinds := [], alts := [], laidByText := true, laidKinds := [.data, .data, .data, .data], laidTests := true, laidLooks := .later }
def FieldHullsCardSaid : Prop := Claim7.holds Tryz.pinned (.plain (OpenSpec.ofChange fieldHullsSpec)) fieldHullsCard

/-- THE SECOND FORM's CARD OF 'spillagelaw04.FieldHulls'. -/
def fieldHullsUptoCard : Claim7 := { stood := { row := fieldHullsUptoRow, standIns := [], harness := (true, "b17c3a9c602015ac7e1ffda4a8f6ba9955225f553f156e48dec55f2da5f7e94a"), looks := false }, kinds := [], alts := [], laidByText := true, laidKinds := [.data, .data, .data, .data], laidTests := true, laidLooks := .later }
def FieldHullsUptoCardSaid : Prop := Claim7.holds Tryz.pinned (.plain (OpenSpec.upto fieldHullsSpec)) fieldHullsUptoCard
end Rows
end Go.Proofs.YtiefmhacicemhaaGreatDoor
