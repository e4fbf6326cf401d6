/- The fixed examples: what the program answers at them. An own text, printed by an own program. -/
import Derived.Test.YtabbjgnpiijghaaGreatDoorAwkD
set_option linter.unusedSimpArgs false
set_option linter.unusedVariables false
set_option linter.unnecessarySimpa false
set_option maxRecDepth 100000
namespace Go.Proofs.YtabbjgnpiijghaaGreatDoor
open Go.SX
theorem do1:DoO cx stp1:=rO (by kernel_rfl)
theorem do2:DoO cx stp2:=rO (by kernel_rfl)
theorem do3:DoO cx stp3:=rO (by kernel_rfl)
theorem do4:DoO cx stp4:=rO (by kernel_rfl)
theorem do5:DoO cx stp5:=rO (by kernel_rfl)
theorem do6:DoO cx stp6:=rO (by kernel_rfl)
theorem do7:DoO cx stp7:=rO (by kernel_rfl)
theorem do8:DoO cx stp8:=rO (by kernel_rfl)
theorem do9:DoO cx stp9:=rO (by kernel_rfl)
theorem do10:DoO cx Qq0:=rO (by kernel_rfl)
theorem do11:DoO cx QqZ:=rO (by kernel_rfl)
theorem do12:DoO cx QqY:=rO (by kernel_rfl)
theorem do13:DoO cx QqX:=rO (by kernel_rfl)
theorem do14:DoO cx QqW:=rO (by kernel_rfl)
theorem do15:DoO cx QqV:=rO (by kernel_rfl)
theorem do16:DoO cx QqU:=rO (by kernel_rfl)
theorem do17:DoO cx QqT:=rO (by kernel_rfl)
end Go.Proofs.YtabbjgnpiijghaaGreatDoor
