/- The fixed examples: what the program answers at them. An own text, printed by an own program. -/
import Derived.Test.YtabbjgnpiijghaaGreatDoorAwkD
set_option linter.unusedSimpArgs false
set_option linter.unusedVariables false
set_option linter.unnecessarySimpa false
set_option maxRecDepth 100000
namespace Go.Proofs.YtabbjgnpiijghaaGreatDoor
open Go.SX
theorem do18:DoO cx QqS:=rO (by kernel_rfl)
theorem do19:DoO cx QqR:=rO (by kernel_rfl)
theorem do20:DoO cx QqQ:=rO (by kernel_rfl)
theorem do21:DoO cx QqP:=rO (by kernel_rfl)
theorem do22:DoO cx QqO:=rO (by kernel_rfl)
theorem do23:DoO cx QqN:=rO (by kernel_rfl)
theorem do24:DoO cx QqM:=rO (by kernel_rfl)
theorem do25:DoO cx QqL:=rO (by kernel_rfl)
theorem do26:DoO cx QqK:=rO (by kernel_rfl)
theorem do27:DoO cx QqJ:=rO (by kernel_rfl)
theorem do28:DoO cx QqI:=rO (by kernel_rfl)
theorem do29:DoO cx QqH:=rO (by kernel_rfl)
theorem do30:DoO cx QqG:=rO (by kernel_rfl)
theorem do31:DoO cx QqF:=rO (by kernel_rfl)
theorem do32:DoO cx QqE:=rO (by kernel_rfl)
theorem do33:DoO cx QqD:=rO (by kernel_rfl)
end Go.Proofs.YtabbjgnpiijghaaGreatDoor
