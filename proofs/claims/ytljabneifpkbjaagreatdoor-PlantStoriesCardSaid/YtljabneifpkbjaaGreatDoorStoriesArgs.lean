/- The arguments of PlantStories, taken apart; the law is computed, and true. An own text. -/
import Derived.Test.YtljabneifpkbjaaGreatDoorEvArgs
import Derived.Test.YtljabneifpkbjaaGreatDoorStoriesLaw
set_option linter.unusedVariables false
set_option linter.unusedSimpArgs false
set_option linter.unnecessarySimpa false
namespace Go.Proofs.YtljabneifpkbjaaGreatDoor
open Go.SX
theorem Qej (Ds:List D) (hh:okAs [(false,[.lst true [.int .i64,.str,.lst false [.str],.lst false [.int .i64],.str]]),(false,[.str])] Ds):Computes cx 5 Ds (.v (.bool true)):=by
 obtain ⟨d1,l1,rfl,p1,h1⟩:=Qcn hh
 obtain ⟨x1,rfl⟩:=QdB (Qdj p1)
 obtain ⟨d2,l2,rfl,p2,h2⟩:=Qcn h1
 obtain ⟨x2,rfl,_⟩:=ok_s (Qdj p2)
 cases Qds h2
 exact Qeg (Qen x1 x2)
end Go.Proofs.YtljabneifpkbjaaGreatDoor
