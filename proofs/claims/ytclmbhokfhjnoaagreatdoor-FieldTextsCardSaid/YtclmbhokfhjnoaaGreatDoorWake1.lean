/-
  The fixed examples: what the program answers at them, by runs in which nothing is symbolic. Printed by wake.py.
-/
import Derived.Test.YtclmbhokfhjnoaaGreatDoorKnown
set_option linter.unusedVariables false
set_option linter.unusedSimpArgs false
set_option linter.unnecessarySimpa false
set_option maxRecDepth 100000
namespace Go.Proofs.YtclmbhokfhjnoaaGreatDoor
open Go.SX
theorem cl_area : Computes cx 16 [.lst true 2 [.agg [I 0, I 0], .agg [I 4, I 0], .agg [I 4, I 4], .agg [I 0, I 4]]] (.tup [I 32, I 0]) := runC (n := 100000) (ob := []) (by kernel_rfl) trivial
theorem cl_holds : Computes cx 18 [.lst true 2 [.agg [I 0, I 0], .agg [I 4, I 0], .agg [I 4, I 4], .agg [I 0, I 4]], .agg [I 2, I 2]] (.tup [I 1, I 0]) := runC (n := 100000) (ob := []) (by kernel_rfl) trivial
theorem cl_holds2 : Computes cx 18 [.lst true 2 [.agg [I 0, I 0], .agg [I 4, I 0], .agg [I 4, I 4], .agg [I 0, I 4]], .agg [I 4, I 2]] (.tup [I 0, I 0]) := runC (n := 100000) (ob := []) (by kernel_rfl) trivial
theorem cl_holds3 : Computes cx 18 [.lst true 2 [.agg [I 0, I 0], .agg [I 4, I 0], .agg [I 4, I 4], .agg [I 0, I 4]], .agg [I 5, I 2]] (.tup [I (-1), I 0]) := runC (n := 100000) (ob := []) (by kernel_rfl) trivial
theorem cl_hull : Computes cx 19 [.lst true 2 [.agg [I 0, I 0], .agg [I 4, I 0], .agg [I 2, I 1], .agg [I 4, I 4], .agg [I 0, I 4], .agg [I 2, I 2]]] (.tup [.lst false 2 [.agg [I 0, I 0], .agg [I 4, I 0], .agg [I 4, I 4], .agg [I 0, I 4]], I 0]) := runC (n := 100000) (ob := [([.agg [I 0, I 0], .agg [I 4, I 0], .agg [I 2, I 1], .agg [I 4, I 4], .agg [I 0, I 4], .agg [I 2, I 2]] : List D) ≠ []]) (by kernel_rfl) ⟨(by intro h; cases h), trivial⟩
theorem cl_apart : Computes cx 20 [.lst true 2 [.agg [I 0, I 0], .agg [I 4, I 0], .agg [I 4, I 4], .agg [I 0, I 4]], .lst true 2 [.agg [I 4, I 0], .agg [I 8, I 0], .agg [I 8, I 4], .agg [I 4, I 4]]] (.tup [.agg [I 0, I 1], I 0]) := runC (n := 100000) (ob := []) (by kernel_rfl) trivial
end Go.Proofs.YtclmbhokfhjnoaaGreatDoor
