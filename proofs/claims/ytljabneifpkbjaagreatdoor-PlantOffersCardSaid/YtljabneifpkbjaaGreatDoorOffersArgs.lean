/- The arguments of PlantOffers, taken apart; the law is computed, and true. An own text. -/
import Derived.Test.YtljabneifpkbjaaGreatDoorEvArgs
import Derived.Test.YtljabneifpkbjaaGreatDoorOffersLaw
set_option linter.unusedVariables false
set_option linter.unusedSimpArgs false
set_option linter.unnecessarySimpa false
namespace Go.Proofs.YtljabneifpkbjaaGreatDoor
open Go.SX
theorem Qeo (Ds:List D) (hh:okAs [(false,[.lst true [.int .i64,.str,.lst false [.str],.lst false [.int .i64],.str]]),(false,[.str]),(false,[.str])] Ds):Computes cx 4 Ds (.v (.bool true)):=by
 obtain ⟨d1,l1,rfl,p1,h1⟩:=Qcn hh
 obtain ⟨x1,rfl⟩:=QdB (Qdj p1)
 obtain ⟨d2,l2,rfl,p2,h2⟩:=Qcn h1
 obtain ⟨x2,rfl,_⟩:=ok_s (Qdj p2)
 obtain ⟨d3,l3,rfl,p3,h3⟩:=Qcn h2
 obtain ⟨x3,rfl,_⟩:=ok_s (Qdj p3)
 cases Qds h3
 exact Qeh (Qes x1 x2 x3)
end Go.Proofs.YtljabneifpkbjaaGreatDoor
