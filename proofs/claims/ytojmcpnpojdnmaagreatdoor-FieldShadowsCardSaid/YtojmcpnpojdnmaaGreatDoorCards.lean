/-
  DERIVED. GIVEN WITH THE SEED: THE CARDS: each row of YtojmcpnpojdnmaaGreatDoorRows.lean that lists a variable, with what it lists TIED to the program's text (the seventh form; the later family's looks); each row that meets fmt, with fmt's text TOLD by the authors' own Lean function (tested against real Go, not proved from fmt's source: count such statements apart). THE CARD IS WHAT COUNTS. Prove the row's statement (the work); the ties are given (YtojmcpnpojdnmaaGreatDoorTie.lean); close each card by the builder's one call (the guide's Derived/Test/ToyasCard.lean, 'card_holds'). Laid BY PROGRAM, IN A SANDBOX (cutbox-door.mjs). By AI agents, Wed Nov 11 2026. No macro, syntax, notation, axiom, sorry.
-/
import Derived.Test.YtojmcpnpojdnmaaGreatDoorRows
import GoSem.ClaimSeven
namespace Go.Proofs.YtojmcpnpojdnmaaGreatDoor
namespace Rows

/-- THE TIED CARD OF 'spillagelaw04.FieldSuns'. -/
def fieldSunsCard : Claim7 := { stood := { row := fieldSunsRow, standIns := [], harness := (true, "322746a6c5ff9d764ad7180872a1a130d20c6b035323317d540e012e4f2c39ca"), looks := false }, kinds := [], alts := [], laidByText := true, laidKinds := [.data, .data, .data, .data], laidTests := true, laidLooks := .later }
def FieldSunsCardSaid : Prop := Claim7.holds Tryz.pinned (.plain (OpenSpec.ofChange fieldSunsSpec)) fieldSunsCard

/-- THE TIED CARD OF 'spillagelaw04.FieldLit'. -/
def fieldLitCard : Claim7 := { stood := { row := fieldLitRow, standIns := [], harness := (true, "322746a6c5ff9d764ad7180872a1a130d20c6b035323317d540e012e4f2c39ca"), looks := false }, kinds := [], alts := [], laidByText := true, laidKinds := [.data, .data, .data, .data], laidTests := true, laidLooks := .later }
def FieldLitCardSaid : Prop := Claim7.holds Tryz.pinned (.plain (OpenSpec.ofChange fieldLitSpec)) fieldLitCard

/-- THE TIED CARD OF 'spillagelaw04.FieldNear'. -/
def fieldNearCard : Claim7 := { stood := { row := fieldNearRow, standIns := [], harness := (true, "322746a6c5ff9d764ad7180872a1a130d20c6b035323317d540e012e4f2c39ca"), looks := false }, kinds := [], alts := [], laidByText := true, laidKinds := [.data, .data, .data, .data], laidTests := true, laidLooks := .later }
def FieldNearCardSaid : Prop := Claim7.holds Tryz.pinned (.plain (OpenSpec.ofChange fieldNearSpec)) fieldNearCard

/-- THE TIED CARD OF 'spillagelaw04.FieldShadows'. -/
def fieldShadowsCard : Claim7 := { stood := { row := fieldShadowsRow, standIns := [], harness := (true, "322746a6c5ff9d764ad7180872a1a130d20c6b035323317d540e012e4f2c39ca"), looks := false }, kinds := [], alts := [], laidByText := true, laidKinds := [.data, .data, .data, .data], laidTests := true, laidLooks := .later }
def FieldShadowsCardSaid : Prop := Claim7.holds Tryz.pinned (.plain (OpenSpec.ofChange fieldShadowsSpec)) fieldShadowsCard

/-- THE TIED CARD OF 'spillagelaw04.FieldTexts'. -/
def fieldTextsCard : Claim7 := { stood := { row := fieldTextsRow, standIns := [], harness := (true, "322746a6c5ff9d764ad7180872a1a130d20c6b035323317d540e012e4f2c39ca"), looks := false }, kinds := [], alts := [], laidByText := true, laidKinds := [.data, .data, .data, .data, .data, .pinned], laidTests := true, laidLooks := .later }
def FieldTextsCardSaid : Prop := Claim7.holds Tryz.pinned (.plain (OpenSpec.ofChange fieldTextsSpec)) fieldTextsCard

/-- THE TIED CARD OF 'spillagelaw04.FieldBack'. -/
def fieldBackCard : Claim7 := { stood := { row := fieldBackRow, standIns := [], harness := (true, "322746a6c5ff9d764ad7180872a1a130d20c6b035323317d540e012e4f2c39ca"), looks := false }, kinds := [], alts := [], laidByText := true, laidKinds := [.data, .data, .data, .data, .data, .pinned], laidTests := true, laidLooks := .later }
def FieldBackCardSaid : Prop := Claim7.holds Tryz.pinned (.plain (OpenSpec.ofChange fieldBackSpec)) fieldBackCard

/-- THE SECOND FORM's CARD OF 'spillagelaw04.FieldSuns'. -/
def fieldSunsUptoCard : Claim7 := { stood := { row := fieldSunsUptoRow, standIns := [], harness := (true, "322746a6c5ff9d764ad7180872a1a130d20c6b035323317d540e012e4f2c39ca"), looks := false }, kinds := [], alts := [], laidByText := true, laidKinds := [.data, .data, .data, .data], laidTests := true, laidLooks := .later }
def FieldSunsUptoCardSaid : Prop := Claim7.holds Tryz.pinned (.plain (OpenSpec.upto fieldSunsSpec)) fieldSunsUptoCard

/-- THE SECOND FORM's CARD OF 'spillagelaw04.FieldLit'. -/
def fieldLitUptoCard : Claim7 := { stood := { row := fieldLitUptoRow, standIns := [], harness := (true, "322746a6c5ff9d764ad7180872a1a130d20c6b035323317d540e012e4f2c39ca"), looks := false }, kinds := [], alts := [], laidByText := true, laidKinds := [.data, .data, .data, .data], laidTests := true, laidLooks := .later }
def FieldLitUptoCardSaid : Prop := Claim7.holds Tryz.pinned (.plain (OpenSpec.upto fieldLitSpec)) fieldLitUptoCard

/-- THE SECOND FORM's CARD OF 'spillagelaw04.FieldNear'. -/
def fieldNearUptoCard : Claim7 := { stood := { row := fieldNearUptoRow, standIns := [], harness := (true, "322746a6c5ff9d764ad7180872a1a130d20c6b035323317d540e012e4f2c39ca"), looks := false }, kinds := [], alts := [], laidByText := true, laidKinds := [.data, .data, .data, .data], laidTests := true, laidLooks := .later }
def FieldNearUptoCardSaid : Prop := Claim7.holds Tryz.pinned (.plain (OpenSpec.upto fieldNearSpec)) fieldNearUptoCard

/-- THE SECOND FORM's CARD OF 'spillagelaw04.FieldShadows'. -/
def fieldShadowsUptoCard : Claim7 := { stood := { row := fieldShadowsUptoRow, standIns := [], harness := (true, "322746a6c5ff9d764ad7180872a1a130d20c6b035323317d540e012e4f2c39ca"), looks := false }, kinds := [], alts := [], laidByText := true, laidKinds := [.data, .data, .data, .data], laidTests := true, laidLooks := .later }
def FieldShadowsUptoCardSaid : Prop := Claim7.holds Tryz.pinned (.plain (OpenSpec.upto fieldShadowsSpec)) fieldShadowsUptoCard

/-- THE SECOND FORM's CARD OF 'spillagelaw04.FieldTexts'. -/
def fieldTextsUptoCard : Claim7 := { stood := { row := fieldTextsUptoRow, standIns := [], harness := (true, "322746a6c5ff9d764ad7180872a1a130d20c6b035323317d540e012e4f2c39ca"), looks := false }, kinds := [], alts := [], laidByText := true, laidKinds := [.data, .data, .data, .data, .data, .pinned], laidTests := true, laidLooks := .later }
def FieldTextsUptoCardSaid : Prop := Claim7.holds Tryz.pinned (.plain (OpenSpec.upto fieldTextsSpec)) fieldTextsUptoCard

/-- THE SECOND FORM's CARD OF 'spillagelaw04.FieldBack'. -/
def fieldBackUptoCard : Claim7 := { stood := { row := fieldBackUptoRow, standIns := [], harness := (true, "322746a6c5ff9d764ad7180872a1a130d20c6b035323317d540e012e4f2c39ca"), looks := false }, kinds := [], alts := [], laidByText := true, laidKinds := [.data, .data, .data, .data, .data, .pinned], laidTests := true, laidLooks := .later }
def FieldBackUptoCardSaid : Prop := Claim7.holds Tryz.pinned (.plain (OpenSpec.upto fieldBackSpec)) fieldBackUptoCard
end Rows
end Go.Proofs.YtojmcpnpojdnmaaGreatDoor
