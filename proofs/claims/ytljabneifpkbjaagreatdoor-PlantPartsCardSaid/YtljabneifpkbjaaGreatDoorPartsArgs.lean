/- The arguments of PlantParts, taken apart; the law is computed, and true. An own text. -/
import Derived.Test.YtljabneifpkbjaaGreatDoorEvArgs
import Derived.Test.YtljabneifpkbjaaGreatDoorPartsLaw
set_option linter.unusedVariables false
set_option linter.unusedSimpArgs false
set_option linter.unnecessarySimpa false
namespace Go.Proofs.YtljabneifpkbjaaGreatDoor
open Go.SX
theorem QhE (Ds:jVj) (hh:okAs [(false,[.lst true [.int .i64,.str,.lst false [.str],.lst false [.int .i64],.str]])] Ds):Computes cx 7 Ds (.v (.bool true)):=by
 obtain ⟨d1,l1,rfl,p1,h1⟩:=Qcn hh
 obtain ⟨x1,rfl⟩:=QdB (Qdj p1)
 cases Qds h1
 exact Qhx (QhI x1)
end Go.Proofs.YtljabneifpkbjaaGreatDoor
