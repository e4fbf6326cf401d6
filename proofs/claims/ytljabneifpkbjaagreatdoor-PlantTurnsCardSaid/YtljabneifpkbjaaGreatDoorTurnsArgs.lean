/- The arguments of PlantTurns, taken apart; the law is computed, and true. An own text. -/
import Derived.Test.YtljabneifpkbjaaGreatDoorEvArgs
import Derived.Test.YtljabneifpkbjaaGreatDoorTurnsLaw
set_option linter.unusedVariables false
set_option linter.unusedSimpArgs false
set_option linter.unnecessarySimpa false
namespace Go.Proofs.YtljabneifpkbjaaGreatDoor
open Go.SX
theorem Qgb (Ds:jVj) (hh:okAs [(false,[.lst true [.int .i64,.str,.lst false [.str],.lst false [.int .i64],.str]]),(true,[.int .i64,.str,.lst false [.str],.lst false [.int .i64],.str])] Ds):Computes cx 8 Ds (.v (.bool true)):=by
 obtain ⟨d1,l1,rfl,p1,h1⟩:=Qcn hh
 obtain ⟨x1,rfl⟩:=QdB (Qdj p1)
 obtain ⟨d2,l2,rfl,p2,h2⟩:=Qcn h1
 obtain ⟨cs,rfl,pe⟩:=Qg3 p2
 obtain ⟨x2,he⟩:=QdV pe
 rw [he]
 cases Qds h2
 exact QfY (Qgq x1 x2)
end Go.Proofs.YtljabneifpkbjaaGreatDoor
