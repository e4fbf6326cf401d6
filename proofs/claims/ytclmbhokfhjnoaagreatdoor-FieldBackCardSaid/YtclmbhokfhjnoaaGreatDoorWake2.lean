/-
  The fixed examples: what the program answers at them, by runs in which nothing is symbolic. Printed by wake.py.
-/
import Derived.Test.YtclmbhokfhjnoaaGreatDoorKnown
set_option linter.unusedVariables false
set_option linter.unusedSimpArgs false
set_option linter.unnecessarySimpa false
set_option maxRecDepth 100000
namespace Go.Proofs.YtclmbhokfhjnoaaGreatDoor
open Go.SX
theorem cl_normal : Computes cx 21 [.agg [.v (.string ⟨#[97]⟩), I 0, I 0, I 10, I 4, I 0, I 0, I 0, I 4, I 0]] (.tup [.agg [I 0, I 0, I 16], I 0]) := runC (n := 100000) (ob := []) (by kernel_rfl) trivial
theorem cl_corners : Computes cx 23 [.agg [.v (.string ⟨#[97]⟩), I 0, I 0, I 10, I 4, I 0, I 0, I 0, I 4, I 0]] (.tup [.agg [I (-4), I (-4), I 10, I 4, I (-4), I 10, I 4, I 4, I 10, I (-4), I 4, I 10], I 0]) := runC (n := 100000) (ob := []) (by kernel_rfl) trivial
theorem cl_cosine : Computes cx 24 [.agg [.v (.string ⟨#[97]⟩), I 0, I 0, I 10, I 4, I 0, I 0, I 0, I 4, I 0], .agg [I 0, I 3, I 4]] (.tup [I 1, .agg [I 16, I 25], I 0]) := runC (n := 100000) (ob := []) (by kernel_rfl) trivial
theorem cl_shadow : Computes cx 25 [.agg [.v (.string ⟨#[97]⟩), I 0, I 0, I 10, I 4, I 0, I 0, I 0, I 4, I 0], .agg [I 1, I 0, I 2]] (.tup [.lst false 2 [.agg [I (-18), I (-8)], .agg [I (-2), I (-8)], .agg [I (-2), I 8], .agg [I (-18), I 8]], I 0]) := runC (n := 100000) (ob := []) (by kernel_rfl) trivial
theorem cl_facets : Computes cx 26 [.agg [.v (.string ⟨#[97]⟩), I 0, I 0, I 10, I 4, I 0, I 0, I 0, I 4, I 0], I 2] (.tup [.lst false 3 [.agg [I (-4), I (-4), I 20], .agg [I 4, I (-4), I 20], .agg [I (-4), I 4, I 20], .agg [I 4, I 4, I 20]], I 0]) := runC (n := 100000) (ob := []) (by kernel_rfl) trivial
theorem cl_dark : Computes cx 29 [.lst true 10 [.agg [.v (.string ⟨#[97]⟩), I 0, I 0, I 10, I 4, I 0, I 0, I 0, I 4, I 0], .agg [.v (.string ⟨#[98]⟩), I 0, I 0, I 20, I 2, I 0, I 0, I 0, I 4, I 0]], I 0, .agg [I 0, I 0, I 1], I 2] (.tup [.lst false 1 [B true, B true, B true, B true], I 0]) := runC (n := 100000) (ob := []) (by kernel_rfl) trivial
theorem cl_near : Computes cx 31 [.lst true 10 [.agg [.v (.string ⟨#[97]⟩), I 0, I 0, I 10, I 4, I 0, I 0, I 0, I 4, I 0], .agg [.v (.string ⟨#[98]⟩), I 0, I 0, I 20, I 2, I 0, I 0, I 0, I 4, I 0], .agg [.v (.string ⟨#[99]⟩), I 30, I 0, I 10, I 4, I 0, I 0, I 0, I 4, I 0]], I 0, I 2] (.tup [.lst false 1 [I 1, I 2], I 0]) := runC (n := 100000) (ob := []) (by kernel_rfl) trivial
theorem cl_eff : Computes cx 33 [.lst true 2 [.agg [I 1, I 2], .agg [I 2, I 3], .agg [I 3, I 4]]] (.tup [.agg [I 1, I 4], I 0]) := runC (n := 100000) (ob := []) (by kernel_rfl) trivial
theorem cl_sum : Computes cx 34 [.lst true 3 [.agg [I 8, I 16, I 2], .agg [I 16, I 16, I 1]]] (.tup [.agg [I 2, I 3], I 0]) := runC (n := 100000) (ob := []) (by kernel_rfl) trivial
theorem cl_print : Computes cx 7 [.lst true 10 [.agg [.v (.string ⟨#[97]⟩), I 0, I 0, I 10, I 4, I 0, I 0, I 0, I 4, I 0]]] (.tup [.v (.string ⟨#[109, 105, 114, 114, 111, 114, 32, 97, 32, 48, 32, 48, 32, 49, 48, 32, 52, 32, 48, 32, 48, 32, 48, 32, 52, 32, 48, 10]⟩), I 0]) := runC (n := 100000) (ob := []) (by kernel_rfl) trivial
theorem cl_meets : Computes cx 35 [.agg [.v (.string ⟨#[98]⟩), I 0, I 0, I 20, I 2, I 0, I 0, I 0, I 4, I 0], I 1, .agg [I 2, I 0, I 10], .agg [I 0, I 0, I 1], B false] (.tup [B true, I 0]) := runC (n := 100000) (ob := []) (by kernel_rfl) trivial
theorem cl_meets2 : Computes cx 35 [.agg [.v (.string ⟨#[98]⟩), I 0, I 0, I 20, I 2, I 0, I 0, I 0, I 4, I 0], I 1, .agg [I 2, I 0, I 10], .agg [I 0, I 0, I 10], B true] (.tup [B false, I 0]) := runC (n := 100000) (ob := []) (by kernel_rfl) trivial
end Go.Proofs.YtclmbhokfhjnoaaGreatDoor
