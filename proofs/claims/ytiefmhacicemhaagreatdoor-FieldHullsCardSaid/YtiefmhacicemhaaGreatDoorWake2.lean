/- The fixed examples: what the program answers at them, by runs in which nothing is symbolic. Printed by wake.py. -/
import Derived.Test.YtiefmhacicemhaaGreatDoorKnown
set_option linter.unusedVariables false
set_option linter.unusedSimpArgs false
set_option linter.unnecessarySimpa false
set_option maxRecDepth 100000
namespace Go.Proofs.YtiefmhacicemhaaGreatDoor
open Go.SX
theorem ji:Computes cx 18 [.agg [.v (.string ⟨#[97]⟩),I 0,I 0,I 10,I 4,I 0,I 0,I 0,I 4,I 0]] (.tup [.agg [I 0,I 0,I 16],I 0]):=Uh (n:=100000) (ob:=[]) (by kernel_rfl) trivial
theorem zD:Computes cx 20 [.agg [.v (.string ⟨#[97]⟩),I 0,I 0,I 10,I 4,I 0,I 0,I 0,I 4,I 0]] (.tup [.agg [I (-4),I (-4),I 10,I 4,I (-4),I 10,I 4,I 4,I 10,I (-4),I 4,I 10],I 0]):=Uh (n:=100000) (ob:=[]) (by kernel_rfl) trivial
theorem jn:Computes cx 21 [.agg [.v (.string ⟨#[97]⟩),I 0,I 0,I 10,I 4,I 0,I 0,I 0,I 4,I 0],.agg [I 0,I 3,I 4]] (.tup [I 1,.agg [I 16,I 25],I 0]):=Uh (n:=100000) (ob:=[]) (by kernel_rfl) trivial
theorem jh:Computes cx 22 [.agg [.v (.string ⟨#[97]⟩),I 0,I 0,I 10,I 4,I 0,I 0,I 0,I 4,I 0],.agg [I 1,I 0,I 2]] (.tup [.lst false 2 [.agg [I (-18),I (-8)],.agg [I (-2),I (-8)],.agg [I (-2),I 8],.agg [I (-18),I 8]],I 0]):=Uh (n:=100000) (ob:=[]) (by kernel_rfl) trivial
theorem jm:Computes cx 23 [.agg [.v (.string ⟨#[97]⟩),I 0,I 0,I 10,I 4,I 0,I 0,I 0,I 4,I 0],I 2] (.tup [.lst false 3 [.agg [I (-4),I (-4),I 20],.agg [I 4,I (-4),I 20],.agg [I (-4),I 4,I 20],.agg [I 4,I 4,I 20]],I 0]):=Uh (n:=100000) (ob:=[]) (by kernel_rfl) trivial
theorem QaB:Computes cx 26 [.lst true 10 [.agg [.v (.string ⟨#[97]⟩),I 0,I 0,I 10,I 4,I 0,I 0,I 0,I 4,I 0],.agg [.v (.string ⟨#[98]⟩),I 0,I 0,I 20,I 2,I 0,I 0,I 0,I 4,I 0]],I 0,.agg [I 0,I 0,I 1],I 2] (.tup [.lst false 1 [B true,B true,B true,B true],I 0]):=Uh (n:=100000) (ob:=[]) (by kernel_rfl) trivial
theorem Qav:Computes cx 28 [.lst true 10 [.agg [.v (.string ⟨#[97]⟩),I 0,I 0,I 10,I 4,I 0,I 0,I 0,I 4,I 0],.agg [.v (.string ⟨#[98]⟩),I 0,I 0,I 20,I 2,I 0,I 0,I 0,I 4,I 0],.agg [.v (.string ⟨#[99]⟩),I 30,I 0,I 10,I 4,I 0,I 0,I 0,I 4,I 0]],I 0,I 2] (.tup [.lst false 1 [I 1,I 2],I 0]):=Uh (n:=100000) (ob:=[]) (by kernel_rfl) trivial
theorem Qco:Computes cx 30 [.lst true 2 [.agg [I 1,I 2],.agg [I 2,I 3],.agg [I 3,I 4]]] (.tup [.agg [I 1,I 4],I 0]):=Uh (n:=100000) (ob:=[]) (by kernel_rfl) trivial
theorem Qcm:Computes cx 31 [.lst true 3 [.agg [I 8,I 16,I 2],.agg [I 16,I 16,I 1]]] (.tup [.agg [I 2,I 3],I 0]):=Uh (n:=100000) (ob:=[]) (by kernel_rfl) trivial
theorem yI:Computes cx 32 [.lst true 10 [.agg [.v (.string ⟨#[97]⟩),I 0,I 0,I 10,I 4,I 0,I 0,I 0,I 4,I 0]]] (.tup [.v (.string ⟨#[109,105,114,114,111,114,32,97,32,48,32,48,32,49,48,32,52,32,48,32,48,32,48,32,52,32,48,10]⟩),I 0]):=Uh (n:=100000) (ob:=[]) (by kernel_rfl) trivial
theorem yJ:Computes cx 33 [.agg [.v (.string ⟨#[98]⟩),I 0,I 0,I 20,I 2,I 0,I 0,I 0,I 4,I 0],I 1,.agg [I 2,I 0,I 10],.agg [I 0,I 0,I 1],B false] (.tup [B true,I 0]):=Uh (n:=100000) (ob:=[]) (by kernel_rfl) trivial
theorem jj:Computes cx 33 [.agg [.v (.string ⟨#[98]⟩),I 0,I 0,I 20,I 2,I 0,I 0,I 0,I 4,I 0],I 1,.agg [I 2,I 0,I 10],.agg [I 0,I 0,I 10],B true] (.tup [B false,I 0]):=Uh (n:=100000) (ob:=[]) (by kernel_rfl) trivial
end Go.Proofs.YtiefmhacicemhaaGreatDoor
