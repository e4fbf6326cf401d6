/- The arguments of PlantEvents, taken apart; the law is computed, and true. An own text. -/
import Derived.Test.YtljabneifpkbjaaGreatDoorEvArgs
import Derived.Test.YtljabneifpkbjaaGreatDoorEventsLaw
set_option linter.unusedVariables false
set_option linter.unusedSimpArgs false
set_option linter.unnecessarySimpa false
namespace Go.Proofs.YtljabneifpkbjaaGreatDoor
open Go.SX
theorem Qf6 (Ds:jVj) (hh:okAs [(false,[.lst true [.int .i64,.str,.lst false [.str],.lst false [.int .i64],.str]]),(true,[.int .i64,.str,.lst false [.str],.lst false [.int .i64],.str]),(false,[.int .i64])] Ds):Computes cx 11 Ds (.v (.bool true)):=by
 obtain ⟨d1,l1,rfl,p1,h1⟩:=Qcn hh
 obtain ⟨x1,rfl⟩:=QdB (Qdj p1)
 obtain ⟨d2,l2,rfl,p2,h2⟩:=Qcn h1
 obtain ⟨cs,rfl,pe⟩:=Qg3 p2
 obtain ⟨x2,he⟩:=QdV pe
 rw [he]
 obtain ⟨d3,l3,rfl,p3,h3⟩:=Qcn h2
 obtain ⟨x3,rfl,_⟩:=ok_i (Qdj p3)
 cases Qds h3
 exact QfR (Qga x1 x2 x3)
end Go.Proofs.YtljabneifpkbjaaGreatDoor
