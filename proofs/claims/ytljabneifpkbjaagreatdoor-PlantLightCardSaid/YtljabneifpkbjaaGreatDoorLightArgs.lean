/- The arguments of PlantLight, taken apart; the law is computed, and true. An own text. -/
import Derived.Test.YtljabneifpkbjaaGreatDoorEvArgs
import Derived.Test.YtljabneifpkbjaaGreatDoorLightLaw
set_option linter.unusedVariables false
set_option linter.unusedSimpArgs false
set_option linter.unnecessarySimpa false
namespace Go.Proofs.YtljabneifpkbjaaGreatDoor
open Go.SX
theorem zT (Ds:List D) (hh:okAs [(false,[.lst true [.int .i64,.str,.lst false [.str],.lst false [.int .i64],.str]]),(false,[.int .i64])] Ds):Computes cx 3 Ds (.v (.bool true)):=by
 obtain ⟨d1,l1,rfl,p1,h1⟩:=Qcn hh
 obtain ⟨l,rfl⟩:=QdB (Qdj p1)
 obtain ⟨d2,l2,rfl,p2,h2⟩:=Qcn h1
 obtain ⟨t,rfl,_⟩:=ok_i (Qdj p2)
 cases Qds h2
 exact EQ (wM l t)
end Go.Proofs.YtljabneifpkbjaaGreatDoor
