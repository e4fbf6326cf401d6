/-
  The fixed examples: what the program answers at them, by runs in which nothing is symbolic. Printed by wake.py.
-/
import Derived.Test.YtclmbhokfhjnoaaGreatDoorWake1
import Derived.Test.YtclmbhokfhjnoaaGreatDoorWake2
import Derived.Test.YtclmbhokfhjnoaaGreatDoorWake3
import Derived.Test.YtclmbhokfhjnoaaGreatDoorWake4
set_option linter.unusedVariables false
set_option linter.unusedSimpArgs false
set_option linter.unnecessarySimpa false
set_option maxRecDepth 100000
namespace Go.Proofs.YtclmbhokfhjnoaaGreatDoor
open Go.SX
def kIn : List (Nat × List D × D) :=
  [(16, [.lst true 2 [.agg [I 0, I 0], .agg [I 4, I 0], .agg [I 4, I 4], .agg [I 0, I 4]]], .tup [I 32, I 0]),
  (18, [.lst true 2 [.agg [I 0, I 0], .agg [I 4, I 0], .agg [I 4, I 4], .agg [I 0, I 4]], .agg [I 2, I 2]], .tup [I 1, I 0]),
  (18, [.lst true 2 [.agg [I 0, I 0], .agg [I 4, I 0], .agg [I 4, I 4], .agg [I 0, I 4]], .agg [I 4, I 2]], .tup [I 0, I 0]),
  (18, [.lst true 2 [.agg [I 0, I 0], .agg [I 4, I 0], .agg [I 4, I 4], .agg [I 0, I 4]], .agg [I 5, I 2]], .tup [I (-1), I 0]),
  (19, [.lst true 2 [.agg [I 0, I 0], .agg [I 4, I 0], .agg [I 2, I 1], .agg [I 4, I 4], .agg [I 0, I 4], .agg [I 2, I 2]]], .tup [.lst false 2 [.agg [I 0, I 0], .agg [I 4, I 0], .agg [I 4, I 4], .agg [I 0, I 4]], I 0]),
  (20, [.lst true 2 [.agg [I 0, I 0], .agg [I 4, I 0], .agg [I 4, I 4], .agg [I 0, I 4]], .lst true 2 [.agg [I 4, I 0], .agg [I 8, I 0], .agg [I 8, I 4], .agg [I 4, I 4]]], .tup [.agg [I 0, I 1], I 0]),
  (21, [.agg [.v (.string ⟨#[97]⟩), I 0, I 0, I 10, I 4, I 0, I 0, I 0, I 4, I 0]], .tup [.agg [I 0, I 0, I 16], I 0]),
  (23, [.agg [.v (.string ⟨#[97]⟩), I 0, I 0, I 10, I 4, I 0, I 0, I 0, I 4, I 0]], .tup [.agg [I (-4), I (-4), I 10, I 4, I (-4), I 10, I 4, I 4, I 10, I (-4), I 4, I 10], I 0]),
  (24, [.agg [.v (.string ⟨#[97]⟩), I 0, I 0, I 10, I 4, I 0, I 0, I 0, I 4, I 0], .agg [I 0, I 3, I 4]], .tup [I 1, .agg [I 16, I 25], I 0]),
  (25, [.agg [.v (.string ⟨#[97]⟩), I 0, I 0, I 10, I 4, I 0, I 0, I 0, I 4, I 0], .agg [I 1, I 0, I 2]], .tup [.lst false 2 [.agg [I (-18), I (-8)], .agg [I (-2), I (-8)], .agg [I (-2), I 8], .agg [I (-18), I 8]], I 0]),
  (26, [.agg [.v (.string ⟨#[97]⟩), I 0, I 0, I 10, I 4, I 0, I 0, I 0, I 4, I 0], I 2], .tup [.lst false 3 [.agg [I (-4), I (-4), I 20], .agg [I 4, I (-4), I 20], .agg [I (-4), I 4, I 20], .agg [I 4, I 4, I 20]], I 0]),
  (29, [.lst true 10 [.agg [.v (.string ⟨#[97]⟩), I 0, I 0, I 10, I 4, I 0, I 0, I 0, I 4, I 0], .agg [.v (.string ⟨#[98]⟩), I 0, I 0, I 20, I 2, I 0, I 0, I 0, I 4, I 0]], I 0, .agg [I 0, I 0, I 1], I 2], .tup [.lst false 1 [B true, B true, B true, B true], I 0]),
  (31, [.lst true 10 [.agg [.v (.string ⟨#[97]⟩), I 0, I 0, I 10, I 4, I 0, I 0, I 0, I 4, I 0], .agg [.v (.string ⟨#[98]⟩), I 0, I 0, I 20, I 2, I 0, I 0, I 0, I 4, I 0], .agg [.v (.string ⟨#[99]⟩), I 30, I 0, I 10, I 4, I 0, I 0, I 0, I 4, I 0]], I 0, I 2], .tup [.lst false 1 [I 1, I 2], I 0]),
  (33, [.lst true 2 [.agg [I 1, I 2], .agg [I 2, I 3], .agg [I 3, I 4]]], .tup [.agg [I 1, I 4], I 0]),
  (34, [.lst true 3 [.agg [I 8, I 16, I 2], .agg [I 16, I 16, I 1]]], .tup [.agg [I 2, I 3], I 0]),
  (7, [.lst true 10 [.agg [.v (.string ⟨#[97]⟩), I 0, I 0, I 10, I 4, I 0, I 0, I 0, I 4, I 0]]], .tup [.v (.string ⟨#[109, 105, 114, 114, 111, 114, 32, 97, 32, 48, 32, 48, 32, 49, 48, 32, 52, 32, 48, 32, 48, 32, 48, 32, 52, 32, 48, 10]⟩), I 0]),
  (35, [.agg [.v (.string ⟨#[98]⟩), I 0, I 0, I 20, I 2, I 0, I 0, I 0, I 4, I 0], I 1, .agg [I 2, I 0, I 10], .agg [I 0, I 0, I 1], B false], .tup [B true, I 0]),
  (35, [.agg [.v (.string ⟨#[98]⟩), I 0, I 0, I 20, I 2, I 0, I 0, I 0, I 4, I 0], I 1, .agg [I 2, I 0, I 10], .agg [I 0, I 0, I 10], B true], .tup [B false, I 0]),
  (30, [.lst true 10 [.agg [.v (.string ⟨#[97]⟩), I 0, I 0, I 10, I 4, I 0, I 0, I 0, I 4, I 0], .agg [.v (.string ⟨#[98]⟩), I 0, I 0, I 20, I 2, I 0, I 0, I 0, I 4, I 0]], I 0, .agg [I 0, I 0, I 1], .agg [I 100, I 0, I 60], I 4], .tup [.agg [I 8, I 0, I 8], I 0]),
  (30, [.lst true 10 [.agg [.v (.string ⟨#[97]⟩), I 0, I 0, I 10, I 4, I 0, I 0, I 0, I 4, I 0], .agg [.v (.string ⟨#[98]⟩), I 0, I 0, I 20, I 2, I 0, I 0, I 0, I 4, I 0]], I 0, .agg [I 0, I 0, I 1], .agg [I 0, I 0, I 60], I 4], .tup [.agg [I 8, I 0, I 8], I 0]),
  (83, [.lst true 10 [.agg [.v (.string ⟨#[97]⟩), I 0, I 0, I 10, I 4, I 0, I 0, I 0, I 4, I 0], .agg [.v (.string ⟨#[98]⟩), I 0, I 0, I 20, I 2, I 0, I 0, I 0, I 4, I 0], .agg [.v (.string ⟨#[99]⟩), I 30, I 0, I 10, I 4, I 0, I 0, I 0, I 4, I 0]], I 0, .agg [I 0, I 0, I 1], .agg [I 100, I 0, I 60], I 4], .agg [I 8, I 0, I 8]),
  (83, [.lst true 10 [.agg [.v (.string ⟨#[97]⟩), I 0, I 0, I 10, I 4, I 0, I 0, I 0, I 4, I 0], .agg [.v (.string ⟨#[98]⟩), I 0, I 0, I 20, I 2, I 0, I 0, I 0, I 4, I 0], .agg [.v (.string ⟨#[99]⟩), I 30, I 0, I 10, I 4, I 0, I 0, I 0, I 4, I 0]], I 1, .agg [I 0, I 0, I 1], .agg [I 100, I 0, I 60], I 4], .agg [I 0, I 0, I 16]),
  (83, [.lst true 10 [.agg [.v (.string ⟨#[97]⟩), I 0, I 0, I 10, I 4, I 0, I 0, I 0, I 4, I 0], .agg [.v (.string ⟨#[98]⟩), I 0, I 0, I 20, I 2, I 0, I 0, I 0, I 4, I 0], .agg [.v (.string ⟨#[99]⟩), I 30, I 0, I 10, I 4, I 0, I 0, I 0, I 4, I 0]], I 2, .agg [I 0, I 0, I 1], .agg [I 100, I 0, I 60], I 4], .agg [I 0, I 0, I 16])]
theorem kIn_ok : AllK cx kIn := ⟨cl_area, cl_holds, cl_holds2, cl_holds3, cl_hull, cl_apart, cl_normal, cl_corners, cl_cosine, cl_shadow, cl_facets, cl_dark, cl_near, cl_eff, cl_sum, cl_print, cl_meets, cl_meets2, cl_lit, cl_lit2, cl_lita, cl_litb, cl_litc, trivial⟩
theorem runI {n : Nat} {f : FuncId} {args : List D} {r : D} {ob : List Prop} (h : runFn false n (cx.know (orK KF (tabK kIn))) f args [] = some (r, ob)) (ho : All ob) : Computes cx f args r := runK noAsk mixed (orK_ok kf_ok (tabK_ok kIn_ok)) h ho
theorem cl_ranked : Computes cx 32 [.lst true 10 [.agg [.v (.string ⟨#[97]⟩), I 0, I 0, I 10, I 4, I 0, I 0, I 0, I 4, I 0], .agg [.v (.string ⟨#[98]⟩), I 0, I 0, I 20, I 2, I 0, I 0, I 0, I 4, I 0], .agg [.v (.string ⟨#[99]⟩), I 30, I 0, I 10, I 4, I 0, I 0, I 0, I 4, I 0]], .agg [I 0, I 0, I 1], .agg [I 100, I 0, I 60], I 4] (.tup [.lst false 1 [I 1, I 2, I 0], I 0]) := runI (n := 100000) (ob := []) (by kernel_rfl) trivial
def kAll : List (Nat × List D × D) :=
  [(16, [.lst true 2 [.agg [I 0, I 0], .agg [I 4, I 0], .agg [I 4, I 4], .agg [I 0, I 4]]], .tup [I 32, I 0]),
  (18, [.lst true 2 [.agg [I 0, I 0], .agg [I 4, I 0], .agg [I 4, I 4], .agg [I 0, I 4]], .agg [I 2, I 2]], .tup [I 1, I 0]),
  (18, [.lst true 2 [.agg [I 0, I 0], .agg [I 4, I 0], .agg [I 4, I 4], .agg [I 0, I 4]], .agg [I 4, I 2]], .tup [I 0, I 0]),
  (18, [.lst true 2 [.agg [I 0, I 0], .agg [I 4, I 0], .agg [I 4, I 4], .agg [I 0, I 4]], .agg [I 5, I 2]], .tup [I (-1), I 0]),
  (19, [.lst true 2 [.agg [I 0, I 0], .agg [I 4, I 0], .agg [I 2, I 1], .agg [I 4, I 4], .agg [I 0, I 4], .agg [I 2, I 2]]], .tup [.lst false 2 [.agg [I 0, I 0], .agg [I 4, I 0], .agg [I 4, I 4], .agg [I 0, I 4]], I 0]),
  (20, [.lst true 2 [.agg [I 0, I 0], .agg [I 4, I 0], .agg [I 4, I 4], .agg [I 0, I 4]], .lst true 2 [.agg [I 4, I 0], .agg [I 8, I 0], .agg [I 8, I 4], .agg [I 4, I 4]]], .tup [.agg [I 0, I 1], I 0]),
  (21, [.agg [.v (.string ⟨#[97]⟩), I 0, I 0, I 10, I 4, I 0, I 0, I 0, I 4, I 0]], .tup [.agg [I 0, I 0, I 16], I 0]),
  (23, [.agg [.v (.string ⟨#[97]⟩), I 0, I 0, I 10, I 4, I 0, I 0, I 0, I 4, I 0]], .tup [.agg [I (-4), I (-4), I 10, I 4, I (-4), I 10, I 4, I 4, I 10, I (-4), I 4, I 10], I 0]),
  (24, [.agg [.v (.string ⟨#[97]⟩), I 0, I 0, I 10, I 4, I 0, I 0, I 0, I 4, I 0], .agg [I 0, I 3, I 4]], .tup [I 1, .agg [I 16, I 25], I 0]),
  (25, [.agg [.v (.string ⟨#[97]⟩), I 0, I 0, I 10, I 4, I 0, I 0, I 0, I 4, I 0], .agg [I 1, I 0, I 2]], .tup [.lst false 2 [.agg [I (-18), I (-8)], .agg [I (-2), I (-8)], .agg [I (-2), I 8], .agg [I (-18), I 8]], I 0]),
  (26, [.agg [.v (.string ⟨#[97]⟩), I 0, I 0, I 10, I 4, I 0, I 0, I 0, I 4, I 0], I 2], .tup [.lst false 3 [.agg [I (-4), I (-4), I 20], .agg [I 4, I (-4), I 20], .agg [I (-4), I 4, I 20], .agg [I 4, I 4, I 20]], I 0]),
  (29, [.lst true 10 [.agg [.v (.string ⟨#[97]⟩), I 0, I 0, I 10, I 4, I 0, I 0, I 0, I 4, I 0], .agg [.v (.string ⟨#[98]⟩), I 0, I 0, I 20, I 2, I 0, I 0, I 0, I 4, I 0]], I 0, .agg [I 0, I 0, I 1], I 2], .tup [.lst false 1 [B true, B true, B true, B true], I 0]),
  (31, [.lst true 10 [.agg [.v (.string ⟨#[97]⟩), I 0, I 0, I 10, I 4, I 0, I 0, I 0, I 4, I 0], .agg [.v (.string ⟨#[98]⟩), I 0, I 0, I 20, I 2, I 0, I 0, I 0, I 4, I 0], .agg [.v (.string ⟨#[99]⟩), I 30, I 0, I 10, I 4, I 0, I 0, I 0, I 4, I 0]], I 0, I 2], .tup [.lst false 1 [I 1, I 2], I 0]),
  (33, [.lst true 2 [.agg [I 1, I 2], .agg [I 2, I 3], .agg [I 3, I 4]]], .tup [.agg [I 1, I 4], I 0]),
  (34, [.lst true 3 [.agg [I 8, I 16, I 2], .agg [I 16, I 16, I 1]]], .tup [.agg [I 2, I 3], I 0]),
  (7, [.lst true 10 [.agg [.v (.string ⟨#[97]⟩), I 0, I 0, I 10, I 4, I 0, I 0, I 0, I 4, I 0]]], .tup [.v (.string ⟨#[109, 105, 114, 114, 111, 114, 32, 97, 32, 48, 32, 48, 32, 49, 48, 32, 52, 32, 48, 32, 48, 32, 48, 32, 52, 32, 48, 10]⟩), I 0]),
  (35, [.agg [.v (.string ⟨#[98]⟩), I 0, I 0, I 20, I 2, I 0, I 0, I 0, I 4, I 0], I 1, .agg [I 2, I 0, I 10], .agg [I 0, I 0, I 1], B false], .tup [B true, I 0]),
  (35, [.agg [.v (.string ⟨#[98]⟩), I 0, I 0, I 20, I 2, I 0, I 0, I 0, I 4, I 0], I 1, .agg [I 2, I 0, I 10], .agg [I 0, I 0, I 10], B true], .tup [B false, I 0]),
  (30, [.lst true 10 [.agg [.v (.string ⟨#[97]⟩), I 0, I 0, I 10, I 4, I 0, I 0, I 0, I 4, I 0], .agg [.v (.string ⟨#[98]⟩), I 0, I 0, I 20, I 2, I 0, I 0, I 0, I 4, I 0]], I 0, .agg [I 0, I 0, I 1], .agg [I 100, I 0, I 60], I 4], .tup [.agg [I 8, I 0, I 8], I 0]),
  (30, [.lst true 10 [.agg [.v (.string ⟨#[97]⟩), I 0, I 0, I 10, I 4, I 0, I 0, I 0, I 4, I 0], .agg [.v (.string ⟨#[98]⟩), I 0, I 0, I 20, I 2, I 0, I 0, I 0, I 4, I 0]], I 0, .agg [I 0, I 0, I 1], .agg [I 0, I 0, I 60], I 4], .tup [.agg [I 8, I 0, I 8], I 0]),
  (83, [.lst true 10 [.agg [.v (.string ⟨#[97]⟩), I 0, I 0, I 10, I 4, I 0, I 0, I 0, I 4, I 0], .agg [.v (.string ⟨#[98]⟩), I 0, I 0, I 20, I 2, I 0, I 0, I 0, I 4, I 0], .agg [.v (.string ⟨#[99]⟩), I 30, I 0, I 10, I 4, I 0, I 0, I 0, I 4, I 0]], I 0, .agg [I 0, I 0, I 1], .agg [I 100, I 0, I 60], I 4], .agg [I 8, I 0, I 8]),
  (83, [.lst true 10 [.agg [.v (.string ⟨#[97]⟩), I 0, I 0, I 10, I 4, I 0, I 0, I 0, I 4, I 0], .agg [.v (.string ⟨#[98]⟩), I 0, I 0, I 20, I 2, I 0, I 0, I 0, I 4, I 0], .agg [.v (.string ⟨#[99]⟩), I 30, I 0, I 10, I 4, I 0, I 0, I 0, I 4, I 0]], I 1, .agg [I 0, I 0, I 1], .agg [I 100, I 0, I 60], I 4], .agg [I 0, I 0, I 16]),
  (83, [.lst true 10 [.agg [.v (.string ⟨#[97]⟩), I 0, I 0, I 10, I 4, I 0, I 0, I 0, I 4, I 0], .agg [.v (.string ⟨#[98]⟩), I 0, I 0, I 20, I 2, I 0, I 0, I 0, I 4, I 0], .agg [.v (.string ⟨#[99]⟩), I 30, I 0, I 10, I 4, I 0, I 0, I 0, I 4, I 0]], I 2, .agg [I 0, I 0, I 1], .agg [I 100, I 0, I 60], I 4], .agg [I 0, I 0, I 16]),
  (32, [.lst true 10 [.agg [.v (.string ⟨#[97]⟩), I 0, I 0, I 10, I 4, I 0, I 0, I 0, I 4, I 0], .agg [.v (.string ⟨#[98]⟩), I 0, I 0, I 20, I 2, I 0, I 0, I 0, I 4, I 0], .agg [.v (.string ⟨#[99]⟩), I 30, I 0, I 10, I 4, I 0, I 0, I 0, I 4, I 0]], .agg [I 0, I 0, I 1], .agg [I 100, I 0, I 60], I 4], .tup [.lst false 1 [I 1, I 2, I 0], I 0])]
theorem kAll_ok : AllK cx kAll := ⟨cl_area, cl_holds, cl_holds2, cl_holds3, cl_hull, cl_apart, cl_normal, cl_corners, cl_cosine, cl_shadow, cl_facets, cl_dark, cl_near, cl_eff, cl_sum, cl_print, cl_meets, cl_meets2, cl_lit, cl_lit2, cl_lita, cl_litb, cl_litc, cl_ranked, trivial⟩
def F_law04_awake (n : Nat) : Option Bool := some true
theorem awake0 : Computes cx 5 [] (B true) := runK noAsk mixed (orK_ok kf_ok (tabK_ok kAll_ok)) (n := 100000) (ob := []) (by kernel_rfl) trivial
theorem c_law04_awake {n : Nat} {r : Bool} (h : F_law04_awake n = some r) : Computes cx 5 [] (B r) := by
  cases h
  exact awake0
end Go.Proofs.YtclmbhokfhjnoaaGreatDoor
