/- The fixed examples: what the program answers at them, by runs in which nothing is symbolic. Printed by wake.py. -/
import Derived.Test.YtiefmhacicemhaaGreatDoorKnown
set_option linter.unusedVariables false
set_option linter.unusedSimpArgs false
set_option linter.unnecessarySimpa false
set_option maxRecDepth 100000
namespace Go.Proofs.YtiefmhacicemhaaGreatDoor
open Go.SX
theorem Qay:Computes cx 76 [.lst true 10 [.agg [.v (.string ⟨#[97]⟩),I 0,I 0,I 10,I 4,I 0,I 0,I 0,I 4,I 0],.agg [.v (.string ⟨#[98]⟩),I 0,I 0,I 20,I 2,I 0,I 0,I 0,I 4,I 0],.agg [.v (.string ⟨#[99]⟩),I 30,I 0,I 10,I 4,I 0,I 0,I 0,I 4,I 0]],I 0,.agg [I 0,I 0,I 1],.agg [I 100,I 0,I 60],I 4] (.agg [I 8,I 0,I 8]):=Uh (n:=100000) (ob:=[]) (by kernel_rfl) trivial
theorem Qax:Computes cx 76 [.lst true 10 [.agg [.v (.string ⟨#[97]⟩),I 0,I 0,I 10,I 4,I 0,I 0,I 0,I 4,I 0],.agg [.v (.string ⟨#[98]⟩),I 0,I 0,I 20,I 2,I 0,I 0,I 0,I 4,I 0],.agg [.v (.string ⟨#[99]⟩),I 30,I 0,I 10,I 4,I 0,I 0,I 0,I 4,I 0]],I 1,.agg [I 0,I 0,I 1],.agg [I 100,I 0,I 60],I 4] (.agg [I 0,I 0,I 16]):=Uh (n:=100000) (ob:=[]) (by kernel_rfl) trivial
theorem Qaw:Computes cx 76 [.lst true 10 [.agg [.v (.string ⟨#[97]⟩),I 0,I 0,I 10,I 4,I 0,I 0,I 0,I 4,I 0],.agg [.v (.string ⟨#[98]⟩),I 0,I 0,I 20,I 2,I 0,I 0,I 0,I 4,I 0],.agg [.v (.string ⟨#[99]⟩),I 30,I 0,I 10,I 4,I 0,I 0,I 0,I 4,I 0]],I 2,.agg [I 0,I 0,I 1],.agg [I 100,I 0,I 60],I 4] (.agg [I 0,I 0,I 16]):=Uh (n:=100000) (ob:=[]) (by kernel_rfl) trivial
end Go.Proofs.YtiefmhacicemhaaGreatDoor
