/-
  DERIVED. GIVEN WITH THE SEED: THE CARDS: each row of YtbjibgaknkaifaaGreatDoorRows.lean that lists a variable, with what it lists TIED to the program's text (the seventh form; the later family's looks); each row that meets fmt, with fmt's text TOLD by the authors' own Lean function (tested against real Go, not proved from fmt's source: count such statements apart). THE CARD IS WHAT COUNTS. Prove the row's statement (the work); the ties are given (YtbjibgaknkaifaaGreatDoorTie.lean); close each card by the builder's one call (the guide's Derived/Test/ToyasCard.lean, 'card_holds'). Laid BY PROGRAM, IN A SANDBOX (cutbox-door.mjs). By AI agents, Wed Nov 11 2026. No macro, syntax, notation, axiom, sorry.
-/
import Derived.Test.YtbjibgaknkaifaaGreatDoorRows
import GoSem.ClaimSeven
namespace Go.Proofs.YtbjibgaknkaifaaGreatDoor
namespace Rows

/-- THE TIED CARD OF 'spillagelaw04.FieldSuns'. -/
def fieldSunsCard : Claim7 := { stood := { row := fieldSunsRow, standIns := [], harness := (true, "9f913a8711f3e5d603370861d5a8bdf5d1f985e4df7b625640e56741b9427078"), looks := false }, kinds := [], alts := [], laidByText := true, laidKinds := [.data, .data, .data, .data], laidTests := true, laidLooks := .later }
def FieldSunsCardSaid : Prop := Claim7.holds Tryz.pinned (.plain (OpenSpec.ofChange fieldSunsSpec)) fieldSunsCard

/-- THE TIED CARD OF 'spillagelaw04.FieldRays'. -/
def fieldRaysCard : Claim7 := { stood := { row := fieldRaysRow, standIns := [], harness := (true, "9f913a8711f3e5d603370861d5a8bdf5d1f985e4df7b625640e56741b9427078"), looks := false }, kinds := [], alts := [], laidByText := true, laidKinds := [.data, .data, .data, .data], laidTests := true, laidLooks := .later }
def FieldRaysCardSaid : Prop := Claim7.holds Tryz.pinned (.plain (OpenSpec.ofChange fieldRaysSpec)) fieldRaysCard

/-- THE TIED CARD OF 'spillagelaw04.FieldShares'. -/
def fieldSharesCard : Claim7 := { stood := { row := fieldSharesRow, standIns := [], harness := (true, "9f913a8711f3e5d603370861d5a8bdf5d1f985e4df7b625640e56741b9427078"), looks := false }, kinds := [], alts := [], laidByText := true, laidKinds := [.data, .data, .data, .data], laidTests := true, laidLooks := .later }
def FieldSharesCardSaid : Prop := Claim7.holds Tryz.pinned (.plain (OpenSpec.ofChange fieldSharesSpec)) fieldSharesCard

/-- THE TIED CARD OF 'spillagelaw04.FieldMirrors'. -/
def fieldMirrorsCard : Claim7 := { stood := { row := fieldMirrorsRow, standIns := [], harness := (true, "9f913a8711f3e5d603370861d5a8bdf5d1f985e4df7b625640e56741b9427078"), looks := false }, kinds := [], alts := [], laidByText := true, laidKinds := [.data, .data, .data, .data], laidTests := true, laidLooks := .later }
def FieldMirrorsCardSaid : Prop := Claim7.holds Tryz.pinned (.plain (OpenSpec.ofChange fieldMirrorsSpec)) fieldMirrorsCard

/-- THE TIED CARD OF 'spillagelaw04.FieldHidden'. -/
def fieldHiddenCard : Claim7 := { stood := { row := fieldHiddenRow, standIns := [], harness := (true, "9f913a8711f3e5d603370861d5a8bdf5d1f985e4df7b625640e56741b9427078"), looks := false }, kinds := [], alts := [], laidByText := true, laidKinds := [.data, .data, .data, .data], laidTests := true, laidLooks := .later }
def FieldHiddenCardSaid : Prop := Claim7.holds Tryz.pinned (.plain (OpenSpec.ofChange fieldHiddenSpec)) fieldHiddenCard

/-- THE SECOND FORM's CARD OF 'spillagelaw04.FieldSuns'. -/
def fieldSunsUptoCard : Claim7 := { stood := { row := fieldSunsUptoRow, standIns := [], harness := (true, "9f913a8711f3e5d603370861d5a8bdf5d1f985e4df7b625640e56741b9427078"), looks := false }, kinds := [], alts := [], laidByText := true, laidKinds := [.data, .data, .data, .data], laidTests := true, laidLooks := .later }
def FieldSunsUptoCardSaid : Prop := Claim7.holds Tryz.pinned (.plain (OpenSpec.upto fieldSunsSpec)) fieldSunsUptoCard

/-- THE SECOND FORM's CARD OF 'spillagelaw04.FieldRays'. -/
def fieldRaysUptoCard : Claim7 := { stood := { row := fieldRaysUptoRow, standIns := [], harness := (true, "9f913a8711f3e5d603370861d5a8bdf5d1f985e4df7b625640e56741b9427078"), looks := false }, kinds := [], alts := [], laidByText := true, laidKinds := [.data, .data, .data, .data], laidTests := true, laidLooks := .later }
def FieldRaysUptoCardSaid : Prop := Claim7.holds Tryz.pinned (.plain (OpenSpec.upto fieldRaysSpec)) fieldRaysUptoCard

/-- THE SECOND FORM's CARD OF 'spillagelaw04.FieldShares'. -/
def fieldSharesUptoCard : Claim7 := { stood := { row := fieldSharesUptoRow, standIns := [], harness := (true, "9f913a8711f3e5d603370861d5a8bdf5d1f985e4df7b625640e56741b9427078"), looks := false }, kinds := [], alts := [], laidByText := true, laidKinds := [.data, .data, .data, .data], laidTests := true, laidLooks := .later }
def FieldSharesUptoCardSaid : Prop := Claim7.holds Tryz.pinned (.plain (OpenSpec.upto fieldSharesSpec)) fieldSharesUptoCard

/-- THE SECOND FORM's CARD OF 'spillagelaw04.FieldMirrors'. -/
def fieldMirrorsUptoCard : Claim7 := { stood := { row := fieldMirrorsUptoRow, standIns := [], harness := (true, "9f913a8711f3e5d603370861d5a8bdf5d1f985e4df7b625640e56741b9427078"), looks := false }, kinds := [], alts := [], laidByText := true, laidKinds := [.data, .data, .data, .data], laidTests := true, laidLooks := .later }
def FieldMirrorsUptoCardSaid : Prop := Claim7.holds Tryz.pinned (.plain (OpenSpec.upto fieldMirrorsSpec)) fieldMirrorsUptoCard

/-- THE SECOND FORM's CARD OF 'spillagelaw04.FieldHidden'. -/
def fieldHiddenUptoCard : Claim7 := { stood := { row := fieldHiddenUptoRow, standIns := [], harness := (true, "9f913a8711f3e5d603370861d5a8bdf5d1f985e4df7b625640e56741b9427078"), looks := false }, kinds := [], alts := [], laidByText := true, laidKinds := [.data, .data, .data, .data], laidTests := true, laidLooks := .later }
def FieldHiddenUptoCardSaid : Prop := Claim7.holds Tryz.pinned (.plain (OpenSpec.upto fieldHiddenSpec)) fieldHiddenUptoCard
end Rows
end Go.Proofs.YtbjibgaknkaifaaGreatDoor
