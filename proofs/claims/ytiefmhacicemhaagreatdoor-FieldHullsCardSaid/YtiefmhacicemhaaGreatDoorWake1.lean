/- The fixed examples: what the program answers at them, by runs in which nothing is symbolic. Printed by wake.py. -/
import Derived.Test.YtiefmhacicemhaaGreatDoorKnown
set_option linter.unusedVariables false
set_option linter.unusedSimpArgs false
set_option linter.unnecessarySimpa false
set_option maxRecDepth 100000
namespace Go.Proofs.YtiefmhacicemhaaGreatDoor
open Go.SX
theorem QaC:Computes cx 15 [.lst true 2 [.agg [I 0,I 0],.agg [I 4,I 0],.agg [I 4,I 4],.agg [I 0,I 4]]] (.tup [I 32,I 0]):=Uh (n:=100000) (ob:=[]) (by kernel_rfl) trivial
theorem yK:Computes cx 17 [.lst true 2 [.agg [I 0,I 0],.agg [I 4,I 0],.agg [I 4,I 4],.agg [I 0,I 4]],.agg [I 2,I 2]] (.tup [I 1,I 0]):=Uh (n:=100000) (ob:=[]) (by kernel_rfl) trivial
theorem jl:Computes cx 17 [.lst true 2 [.agg [I 0,I 0],.agg [I 4,I 0],.agg [I 4,I 4],.agg [I 0,I 4]],.agg [I 4,I 2]] (.tup [I 0,I 0]):=Uh (n:=100000) (ob:=[]) (by kernel_rfl) trivial
theorem jk:Computes cx 17 [.lst true 2 [.agg [I 0,I 0],.agg [I 4,I 0],.agg [I 4,I 4],.agg [I 0,I 4]],.agg [I 5,I 2]] (.tup [I (-1),I 0]):=Uh (n:=100000) (ob:=[]) (by kernel_rfl) trivial
theorem QaA:Computes cx 6 [.lst true 2 [.agg [I 0,I 0],.agg [I 4,I 0],.agg [I 2,I 1],.agg [I 4,I 4],.agg [I 0,I 4],.agg [I 2,I 2]]] (.tup [.lst false 2 [.agg [I 0,I 0],.agg [I 4,I 0],.agg [I 4,I 4],.agg [I 0,I 4]],I 0]):=Uh (n:=100000) (ob:=[([.agg [I 0,I 0],.agg [I 4,I 0],.agg [I 2,I 1],.agg [I 4,I 4],.agg [I 0,I 4],.agg [I 2,I 2]]:List D)≠[]]) (by kernel_rfl) ⟨(by intro h;cases h),trivial⟩
theorem yL:Computes cx 8 [.lst true 2 [.agg [I 0,I 0],.agg [I 4,I 0],.agg [I 4,I 4],.agg [I 0,I 4]],.lst true 2 [.agg [I 4,I 0],.agg [I 8,I 0],.agg [I 8,I 4],.agg [I 4,I 4]]] (.tup [.agg [I 0,I 1],I 0]):=Uh (n:=100000) (ob:=[]) (by kernel_rfl) trivial
end Go.Proofs.YtiefmhacicemhaaGreatDoor
