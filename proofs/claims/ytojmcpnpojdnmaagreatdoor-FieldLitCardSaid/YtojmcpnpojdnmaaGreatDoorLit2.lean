/-
  Printed by gsx.py: functions of the program as Lean functions, and that the code computes them.
-/
import Derived.Test.YtojmcpnpojdnmaaGreatDoorLit1
set_option linter.unusedVariables false
set_option linter.unusedSimpArgs false
set_option linter.unnecessarySimpa false
set_option maxRecDepth 10000
namespace Go.Proofs.YtojmcpnpojdnmaaGreatDoor
open Go.SX
/- spillage/field.dark: .lst false 10 a0, I a1, .agg [I a2, I a3, I a4], I a5 -/
def F_field_dark (n : Nat) (a0 : List D) (a1 : Int) (a2 : Int) (a3 : Int) (a4 : Int) (a5 : Int) : Option (List D) :=
  (el un_Asi9Z a0 a1).bind fun t1 =>
  (F_field_Mirror_normal n t1.1 t1.2.1 t1.2.2.1 t1.2.2.2.1 t1.2.2.2.2.1 t1.2.2.2.2.2.1 t1.2.2.2.2.2.2.1 t1.2.2.2.2.2.2.2.1 t1.2.2.2.2.2.2.2.2.1 t1.2.2.2.2.2.2.2.2.2).bind fun t2 =>
  (F_field_dot n t2.1 t2.2.1 t2.2.2 a2 a3 a4).bind fun t3 =>
  (loopF (F_field_dark_L4 n a0 a1 a2 a3 a4 a5 t1 t3) n (.inl 0)).bind fun t4 => match t4 with
    | (.inl t4) => (
      some [])
    | (.inr t4) => (
      (loopF (F_field_dark_L5 n a0 a1 a2 a3 a4 a5 t1 t3 t4) n (0, [])).bind fun t5 =>
      some t5)
theorem c_field_dark {n : Nat} {a0 : List D} {a1 : Int} {a2 : Int} {a3 : Int} {a4 : Int} {a5 : Int} {r : List D} (h : F_field_dark n a0 a1 a2 a3 a4 a5 = some r) : Computes cx 97 [.lst false 10 a0, I a1, .agg [I a2, I a3, I a4], I a5] (.lst false 1 r) := by
  unfold F_field_dark at h
  obtain ⟨t1, h1, h⟩ := bnd_of h
  obtain ⟨t2, h2, h⟩ := bnd_of h
  obtain ⟨t3, h3, h⟩ := bnd_of h
  obtain ⟨t4, h4, h⟩ := bnd_of h
  rcases t4 with t4 | t4
  · replace h := Option.some.inj h
    subst h
    exact (run (n := 100) (f := 97) (args := [.lst false 10 a0, I a1, .agg [I a2, I a3, I a4], I a5]) (orc := [.el (.agg [.v (.string t1.1), I t1.2.1, I t1.2.2.1, I t1.2.2.2.1, I t1.2.2.2.2.1, I t1.2.2.2.2.2.1, I t1.2.2.2.2.2.2.1, I t1.2.2.2.2.2.2.2.1, I t1.2.2.2.2.2.2.2.2.1, I t1.2.2.2.2.2.2.2.2.2]), .ret (.agg [I t2.1, I t2.2.1, I t2.2.2]), .ret (I t3), .br true, .br true, .br true, .lp [] [0, 1, 2, 7, 8] [0, 1, 2, 3, 9, 16, 25, 26, 34, 37] (.exit 0) [] [(0, .box (.d (.lst false 10 a0))), (1, .box (.d (I a1))), (2, .box (.d (.agg [I a2, I a3, I a4]))), (3, .box (.d (I a5))), (9, .box (.d (.agg [.v (.string t1.1), I t1.2.1, I t1.2.2.1, I t1.2.2.2.1, I t1.2.2.2.2.1, I t1.2.2.2.2.2.1, I t1.2.2.2.2.2.2.1, I t1.2.2.2.2.2.2.2.1, I t1.2.2.2.2.2.2.2.2.1, I t1.2.2.2.2.2.2.2.2.2]))), (16, .box (.d (B (decide (t3 > 0))))), (25, .box (.d (.agg [.v (.string t1.1), I t1.2.1, I t1.2.2.1, I t1.2.2.2.1, I t1.2.2.2.2.1, I t1.2.2.2.2.2.1, I t1.2.2.2.2.2.2.1, I t1.2.2.2.2.2.2.2.1, I t1.2.2.2.2.2.2.2.2.1, I t1.2.2.2.2.2.2.2.2.2]))), (26, .box (.d (I a5))), (34, .box (.d (.lst true 0 []))), (37, .loop true [(6, .fn (.func 137) [] [.ptr 26 0 0 0 0, .ptr 25 0 0 0 0]), (4, .d (.lst true 0 [])), (2, .ptr 34 0 0 0 0), (1, .fn (.func 137) [] [.ptr 26 0 0 0 0, .ptr 25 0 0 0 0]), (0, .d (.lst true 0 []))] [7] (rangeAt cx.P 136 0).1 (rangeAt cx.P 136 0).2 13)] 163, .br true, .no, .no]) (r := .lst true 0 []) (ob := [LoopN cx (loopAt cx.P 137 0) 49 38 false [(0, .own 37 0), (1, .ptr 26 0 0 0 0), (2, .ptr 25 0 0 0 0), (7, .d (I a5)), (8, .d (I 0))] [(0, .box (.d (.lst false 10 a0))), (1, .box (.d (I a1))), (2, .box (.d (.agg [I a2, I a3, I a4]))), (3, .box (.d (I a5))), (9, .box (.d (.agg [.v (.string t1.1), I t1.2.1, I t1.2.2.1, I t1.2.2.2.1, I t1.2.2.2.2.1, I t1.2.2.2.2.2.1, I t1.2.2.2.2.2.2.1, I t1.2.2.2.2.2.2.2.1, I t1.2.2.2.2.2.2.2.2.1, I t1.2.2.2.2.2.2.2.2.2]))), (16, .box (.d (B (decide (t3 > 0))))), (25, .box (.d (.agg [.v (.string t1.1), I t1.2.1, I t1.2.2.1, I t1.2.2.2.1, I t1.2.2.2.2.1, I t1.2.2.2.2.2.1, I t1.2.2.2.2.2.2.1, I t1.2.2.2.2.2.2.2.1, I t1.2.2.2.2.2.2.2.2.1, I t1.2.2.2.2.2.2.2.2.2]))), (26, .box (.d (I a5))), (34, .box (.d (.lst true 0 []))), (37, .loop true [(6, .fn (.func 137) [] [.ptr 26 0 0 0 0, .ptr 25 0 0 0 0]), (4, .d (.lst true 0 [])), (2, .ptr 34 0 0 0 0), (1, .fn (.func 137) [] [.ptr 26 0 0 0 0, .ptr 25 0 0 0 0]), (0, .d (.lst true 0 []))] [7] (rangeAt cx.P 136 0).1 (rangeAt cx.P 136 0).2 13)] (.exit 0) [] [(0, .box (.d (.lst false 10 a0))), (1, .box (.d (I a1))), (2, .box (.d (.agg [I a2, I a3, I a4]))), (3, .box (.d (I a5))), (9, .box (.d (.agg [.v (.string t1.1), I t1.2.1, I t1.2.2.1, I t1.2.2.2.1, I t1.2.2.2.2.1, I t1.2.2.2.2.2.1, I t1.2.2.2.2.2.2.1, I t1.2.2.2.2.2.2.2.1, I t1.2.2.2.2.2.2.2.2.1, I t1.2.2.2.2.2.2.2.2.2]))), (16, .box (.d (B (decide (t3 > 0))))), (25, .box (.d (.agg [.v (.string t1.1), I t1.2.1, I t1.2.2.1, I t1.2.2.2.1, I t1.2.2.2.2.1, I t1.2.2.2.2.2.1, I t1.2.2.2.2.2.2.1, I t1.2.2.2.2.2.2.2.1, I t1.2.2.2.2.2.2.2.2.1, I t1.2.2.2.2.2.2.2.2.2]))), (26, .box (.d (I a5))), (34, .box (.d (.lst true 0 []))), (37, .loop true [(6, .fn (.func 137) [] [.ptr 26 0 0 0 0, .ptr 25 0 0 0 0]), (4, .d (.lst true 0 [])), (2, .ptr 34 0 0 0 0), (1, .fn (.func 137) [] [.ptr 26 0 0 0 0, .ptr 25 0 0 0 0]), (0, .d (.lst true 0 []))] [7] (rangeAt cx.P 136 0).1 (rangeAt cx.P 136 0).2 13)], Computes cx 62 [.agg [I t2.1, I t2.2.1, I t2.2.2], .agg [I a2, I a3, I a4]] (I t3), Computes cx 63 [.agg [.v (.string t1.1), I t1.2.1, I t1.2.2.1, I t1.2.2.2.1, I t1.2.2.2.2.1, I t1.2.2.2.2.2.1, I t1.2.2.2.2.2.2.1, I t1.2.2.2.2.2.2.2.1, I t1.2.2.2.2.2.2.2.2.1, I t1.2.2.2.2.2.2.2.2.2]] (.agg [I t2.1, I t2.2.1, I t2.2.2]), (0 : Int) ≤ a1, nth (a0) (Int.toNat a1) = some (.agg [.v (.string t1.1), I t1.2.1, I t1.2.2.1, I t1.2.2.2.1, I t1.2.2.2.2.1, I t1.2.2.2.2.2.1, I t1.2.2.2.2.2.2.1, I t1.2.2.2.2.2.2.2.1, I t1.2.2.2.2.2.2.2.2.1, I t1.2.2.2.2.2.2.2.2.2])]) (by kernel_rfl) ⟨(loopF_to R_field_dark_L4 h4), (c_field_dot h3), (c_field_Mirror_normal h2), (el_ok un_Asi9Z_ok h1).1, (el_ok un_Asi9Z_ok h1).2, trivial⟩).le (LEs.refl _) (.lst _ _ _ _ _ nofun (.inl rfl))
  · obtain ⟨t5, h5, h⟩ := bnd_of h
    replace h := Option.some.inj h
    subst h
    exact run (n := 100) (f := 97) (args := [.lst false 10 a0, I a1, .agg [I a2, I a3, I a4], I a5]) (orc := [.el (.agg [.v (.string t1.1), I t1.2.1, I t1.2.2.1, I t1.2.2.2.1, I t1.2.2.2.2.1, I t1.2.2.2.2.2.1, I t1.2.2.2.2.2.2.1, I t1.2.2.2.2.2.2.2.1, I t1.2.2.2.2.2.2.2.2.1, I t1.2.2.2.2.2.2.2.2.2]), .ret (.agg [I t2.1, I t2.2.1, I t2.2.2]), .ret (I t3), .br true, .br true, .br true, .lp [] [0, 1, 2, 7, 8] [0, 1, 2, 3, 9, 16, 25, 26, 34, 37] (.exit 0) [] [(0, .box (.d (.lst false 10 a0))), (1, .box (.d (I a1))), (2, .box (.d (.agg [I a2, I a3, I a4]))), (3, .box (.d (I a5))), (9, .box (.d (.agg [.v (.string t1.1), I t1.2.1, I t1.2.2.1, I t1.2.2.2.1, I t1.2.2.2.2.1, I t1.2.2.2.2.2.1, I t1.2.2.2.2.2.2.1, I t1.2.2.2.2.2.2.2.1, I t1.2.2.2.2.2.2.2.2.1, I t1.2.2.2.2.2.2.2.2.2]))), (16, .box (.d (B (decide (t3 > 0))))), (25, .box (.d (.agg [.v (.string t1.1), I t1.2.1, I t1.2.2.1, I t1.2.2.2.1, I t1.2.2.2.2.1, I t1.2.2.2.2.2.1, I t1.2.2.2.2.2.2.1, I t1.2.2.2.2.2.2.2.1, I t1.2.2.2.2.2.2.2.2.1, I t1.2.2.2.2.2.2.2.2.2]))), (26, .box (.d (I a5))), (34, .box (.own 87 0)), (37, .loop true [(6, .fn (.func 137) [] [.ptr 26 0 0 0 0, .ptr 25 0 0 0 0]), (4, .d (.lst true 0 [])), (2, .ptr 34 0 0 0 0), (1, .fn (.func 137) [] [.ptr 26 0 0 0 0, .ptr 25 0 0 0 0]), (0, .d (.lst true 0 []))] [7] (rangeAt cx.P 136 0).1 (rangeAt cx.P 136 0).2 13), (87, .row 0 4 t4)] 163, .br true, .lp [5, 1] [1, 5, 8, 9, 10] [0, 1, 2, 3, 9, 16, 25, 26, 34, 37, 87, 170] (.exit 0) [(5, .own 170 0)] [(0, .box (.d (.lst false 10 a0))), (1, .box (.d (I a1))), (2, .box (.d (.agg [I a2, I a3, I a4]))), (3, .box (.d (I a5))), (9, .box (.d (.agg [.v (.string t1.1), I t1.2.1, I t1.2.2.1, I t1.2.2.2.1, I t1.2.2.2.2.1, I t1.2.2.2.2.2.1, I t1.2.2.2.2.2.2.1, I t1.2.2.2.2.2.2.2.1, I t1.2.2.2.2.2.2.2.2.1, I t1.2.2.2.2.2.2.2.2.2]))), (16, .box (.d (B (decide (t3 > 0))))), (25, .box (.d (.agg [.v (.string t1.1), I t1.2.1, I t1.2.2.1, I t1.2.2.2.1, I t1.2.2.2.2.1, I t1.2.2.2.2.2.1, I t1.2.2.2.2.2.2.1, I t1.2.2.2.2.2.2.2.1, I t1.2.2.2.2.2.2.2.2.1, I t1.2.2.2.2.2.2.2.2.2]))), (26, .box (.d (I a5))), (34, .box (.own 87 0)), (37, .dead), (87, .row 0 4 t4), (170, .row 0 1 t5)] 211]) (r := .lst false 1 t5) (ob := [LoopN cx (loopAt cx.P 138 0) 22 165 false [(1, .fn (.func 139) [] [.ptr 16 0 0 0 0, .ptr 0 0 0 0 0, .ptr 1 0 0 0 0, .ptr 3 0 0 0 0, .ptr 2 0 0 0 0]), (5, .own 170 0), (8, .own 87 0), (9, .d (I ((t4).length : Int))), (10, .d (I 0))] [(0, .box (.d (.lst false 10 a0))), (1, .box (.d (I a1))), (2, .box (.d (.agg [I a2, I a3, I a4]))), (3, .box (.d (I a5))), (9, .box (.d (.agg [.v (.string t1.1), I t1.2.1, I t1.2.2.1, I t1.2.2.2.1, I t1.2.2.2.2.1, I t1.2.2.2.2.2.1, I t1.2.2.2.2.2.2.1, I t1.2.2.2.2.2.2.2.1, I t1.2.2.2.2.2.2.2.2.1, I t1.2.2.2.2.2.2.2.2.2]))), (16, .box (.d (B (decide (t3 > 0))))), (25, .box (.d (.agg [.v (.string t1.1), I t1.2.1, I t1.2.2.1, I t1.2.2.2.1, I t1.2.2.2.2.1, I t1.2.2.2.2.2.1, I t1.2.2.2.2.2.2.1, I t1.2.2.2.2.2.2.2.1, I t1.2.2.2.2.2.2.2.2.1, I t1.2.2.2.2.2.2.2.2.2]))), (26, .box (.d (I a5))), (34, .box (.own 87 0)), (37, .dead), (87, .row 0 4 t4), (170, .row 0 1 [])] (.exit 0) [(5, .own 170 0)] [(0, .box (.d (.lst false 10 a0))), (1, .box (.d (I a1))), (2, .box (.d (.agg [I a2, I a3, I a4]))), (3, .box (.d (I a5))), (9, .box (.d (.agg [.v (.string t1.1), I t1.2.1, I t1.2.2.1, I t1.2.2.2.1, I t1.2.2.2.2.1, I t1.2.2.2.2.2.1, I t1.2.2.2.2.2.2.1, I t1.2.2.2.2.2.2.2.1, I t1.2.2.2.2.2.2.2.2.1, I t1.2.2.2.2.2.2.2.2.2]))), (16, .box (.d (B (decide (t3 > 0))))), (25, .box (.d (.agg [.v (.string t1.1), I t1.2.1, I t1.2.2.1, I t1.2.2.2.1, I t1.2.2.2.2.1, I t1.2.2.2.2.2.1, I t1.2.2.2.2.2.2.1, I t1.2.2.2.2.2.2.2.1, I t1.2.2.2.2.2.2.2.2.1, I t1.2.2.2.2.2.2.2.2.2]))), (26, .box (.d (I a5))), (34, .box (.own 87 0)), (37, .dead), (87, .row 0 4 t4), (170, .row 0 1 t5)], LoopN cx (loopAt cx.P 137 0) 49 38 false [(0, .own 37 0), (1, .ptr 26 0 0 0 0), (2, .ptr 25 0 0 0 0), (7, .d (I a5)), (8, .d (I 0))] [(0, .box (.d (.lst false 10 a0))), (1, .box (.d (I a1))), (2, .box (.d (.agg [I a2, I a3, I a4]))), (3, .box (.d (I a5))), (9, .box (.d (.agg [.v (.string t1.1), I t1.2.1, I t1.2.2.1, I t1.2.2.2.1, I t1.2.2.2.2.1, I t1.2.2.2.2.2.1, I t1.2.2.2.2.2.2.1, I t1.2.2.2.2.2.2.2.1, I t1.2.2.2.2.2.2.2.2.1, I t1.2.2.2.2.2.2.2.2.2]))), (16, .box (.d (B (decide (t3 > 0))))), (25, .box (.d (.agg [.v (.string t1.1), I t1.2.1, I t1.2.2.1, I t1.2.2.2.1, I t1.2.2.2.2.1, I t1.2.2.2.2.2.1, I t1.2.2.2.2.2.2.1, I t1.2.2.2.2.2.2.2.1, I t1.2.2.2.2.2.2.2.2.1, I t1.2.2.2.2.2.2.2.2.2]))), (26, .box (.d (I a5))), (34, .box (.d (.lst true 0 []))), (37, .loop true [(6, .fn (.func 137) [] [.ptr 26 0 0 0 0, .ptr 25 0 0 0 0]), (4, .d (.lst true 0 [])), (2, .ptr 34 0 0 0 0), (1, .fn (.func 137) [] [.ptr 26 0 0 0 0, .ptr 25 0 0 0 0]), (0, .d (.lst true 0 []))] [7] (rangeAt cx.P 136 0).1 (rangeAt cx.P 136 0).2 13)] (.exit 0) [] [(0, .box (.d (.lst false 10 a0))), (1, .box (.d (I a1))), (2, .box (.d (.agg [I a2, I a3, I a4]))), (3, .box (.d (I a5))), (9, .box (.d (.agg [.v (.string t1.1), I t1.2.1, I t1.2.2.1, I t1.2.2.2.1, I t1.2.2.2.2.1, I t1.2.2.2.2.2.1, I t1.2.2.2.2.2.2.1, I t1.2.2.2.2.2.2.2.1, I t1.2.2.2.2.2.2.2.2.1, I t1.2.2.2.2.2.2.2.2.2]))), (16, .box (.d (B (decide (t3 > 0))))), (25, .box (.d (.agg [.v (.string t1.1), I t1.2.1, I t1.2.2.1, I t1.2.2.2.1, I t1.2.2.2.2.1, I t1.2.2.2.2.2.1, I t1.2.2.2.2.2.2.1, I t1.2.2.2.2.2.2.2.1, I t1.2.2.2.2.2.2.2.2.1, I t1.2.2.2.2.2.2.2.2.2]))), (26, .box (.d (I a5))), (34, .box (.own 87 0)), (37, .loop true [(6, .fn (.func 137) [] [.ptr 26 0 0 0 0, .ptr 25 0 0 0 0]), (4, .d (.lst true 0 [])), (2, .ptr 34 0 0 0 0), (1, .fn (.func 137) [] [.ptr 26 0 0 0 0, .ptr 25 0 0 0 0]), (0, .d (.lst true 0 []))] [7] (rangeAt cx.P 136 0).1 (rangeAt cx.P 136 0).2 13), (87, .row 0 4 t4)], Computes cx 62 [.agg [I t2.1, I t2.2.1, I t2.2.2], .agg [I a2, I a3, I a4]] (I t3), Computes cx 63 [.agg [.v (.string t1.1), I t1.2.1, I t1.2.2.1, I t1.2.2.2.1, I t1.2.2.2.2.1, I t1.2.2.2.2.2.1, I t1.2.2.2.2.2.2.1, I t1.2.2.2.2.2.2.2.1, I t1.2.2.2.2.2.2.2.2.1, I t1.2.2.2.2.2.2.2.2.2]] (.agg [I t2.1, I t2.2.1, I t2.2.2]), (0 : Int) ≤ a1, nth (a0) (Int.toNat a1) = some (.agg [.v (.string t1.1), I t1.2.1, I t1.2.2.1, I t1.2.2.2.1, I t1.2.2.2.2.1, I t1.2.2.2.2.2.1, I t1.2.2.2.2.2.2.1, I t1.2.2.2.2.2.2.2.1, I t1.2.2.2.2.2.2.2.2.1, I t1.2.2.2.2.2.2.2.2.2])]) (by kernel_rfl) ⟨(loopF_to R_field_dark_L5 h5), (loopF_to R_field_dark_L4 h4), (c_field_dot h3), (c_field_Mirror_normal h2), (el_ok un_Asi9Z_ok h1).1, (el_ok un_Asi9Z_ok h1).2, trivial⟩
def F_field_lit_L1 (n : Nat) (t1 : List D) (t2 : List D) (sa : (Int × Int × Int × Int)) : Option (((Int × Int × Int × Int)) ⊕ ((Int × Int × Int))) :=
  if sa.1 < ((t2).length : Int) then
    (el un_b t2 sa.1).bind fun ta2 =>
    if ta2 = true then
      if inI64 (sa.2.1 + 1) then
      if inI64 (sa.1 + 1) then
      some (.inl ((sa.1 + 1), (sa.2.1 + 1), sa.2.2.1, sa.2.2.2))
      else none
      else none
    else
    (el un_b t1 sa.1).bind fun ta4 =>
    if ta4 = true then
      if inI64 (sa.2.2.1 + 1) then
      if inI64 (sa.1 + 1) then
      some (.inl ((sa.1 + 1), sa.2.1, (sa.2.2.1 + 1), sa.2.2.2))
      else none
      else none
    else
    if inI64 (sa.2.2.2 + 1) then
    if inI64 (sa.1 + 1) then
    some (.inl ((sa.1 + 1), sa.2.1, sa.2.2.1, (sa.2.2.2 + 1)))
    else none
    else none
  else
  some (.inr (sa.2.1, sa.2.2.1, sa.2.2.2))
noncomputable def T_field_lit_L1 (t1 : List D) (t2 : List D) (sa : (Int × Int × Int × Int)) : List (Nat × AV) := [(10, .ptr 2 0 0 0 0), (11, .ptr 3 0 0 0 0), (12, .d (.lst false 1 t1)), (24, .d (.lst false 1 t2)), (25, .d (I ((t2).length : Int))), (26, .d (I sa.1))]
noncomputable def H_field_lit_L1 (t1 : List D) (t2 : List D) (sa : (Int × Int × Int × Int)) : List (Nat × Blk) := [(2, .box (.d (.agg [I 0, I 0, I 0]))), (3, .box (.d (.agg [I sa.2.1, I sa.2.2.1, I sa.2.2.2])))]
noncomputable def X_field_lit_L1 (t1 : List D) (t2 : List D) (e : (Int × Int × Int)) : Ex := (.exit 0)
noncomputable def XT_field_lit_L1 (t1 : List D) (t2 : List D) (e : (Int × Int × Int)) : List (Nat × AV) := [(10, .ptr 2 0 0 0 0), (11, .ptr 3 0 0 0 0)]
noncomputable def XH_field_lit_L1 (t1 : List D) (t2 : List D) (e : (Int × Int × Int)) : List (Nat × Blk) := [(2, .box (.d (.agg [I 0, I 0, I 0]))), (3, .box (.d (.agg [I e.1, I e.2.1, I e.2.2])))]
theorem R_field_lit_L1 {n : Nat} {t1 : List D} {t2 : List D} (sa : (Int × Int × Int × Int)) (r) (h : F_field_lit_L1 n t1 t2 sa = some r) : Rd cx (loopAt cx.P 83 0) 52 0 false (T_field_lit_L1 t1 t2) (H_field_lit_L1 t1 t2) (X_field_lit_L1 t1 t2) (XT_field_lit_L1 t1 t2) (XH_field_lit_L1 t1 t2) sa r := by
  unfold F_field_lit_L1 at h
  by_cases ha1 : sa.1 < ((t2).length : Int)
  · replace h := ite_t h ha1
    obtain ⟨ta2, ha2, h⟩ := bnd_of h
    by_cases ha3 : ta2 = true
    · replace h := ite_t h ha3
      obtain ⟨ha4, h⟩ := grd_of h
      obtain ⟨ha5, h⟩ := grd_of h
      replace h := Option.some.inj h
      subst h
      exact ⟨100, 17, [.br true, .el (B ta2), .br true], [], [10, 11, 12, 24, 25, 26], [2, 3], round_of (ob := [inI64 (sa.1 + 1), inI64 (sa.2.1 + 1), ta2 = true, (0 : Int) ≤ sa.1, nth (t2) (Int.toNat sa.1) = some (B ta2), (decide (sa.1 < ((t2).length : Int))) = true]) (by kernel_rfl) ⟨ha5, ha4, ha3, (el_ok un_b_ok ha2).1, (el_ok un_b_ok ha2).2, (decide_eq_true ha1), trivial⟩⟩
    · replace h := ite_f h ha3
      obtain ⟨ta4, ha4, h⟩ := bnd_of h
      by_cases ha5 : ta4 = true
      · replace h := ite_t h ha5
        obtain ⟨ha6, h⟩ := grd_of h
        obtain ⟨ha7, h⟩ := grd_of h
        replace h := Option.some.inj h
        subst h
        exact ⟨100, 17, [.br true, .el (B ta2), .br false, .el (B ta4), .br true], [], [10, 11, 12, 24, 25, 26], [2, 3], round_of (ob := [inI64 (sa.1 + 1), inI64 (sa.2.2.1 + 1), ta4 = true, (0 : Int) ≤ sa.1, nth (t1) (Int.toNat sa.1) = some (B ta4), ta2 = false, (0 : Int) ≤ sa.1, nth (t2) (Int.toNat sa.1) = some (B ta2), (decide (sa.1 < ((t2).length : Int))) = true]) (by kernel_rfl) ⟨ha7, ha6, ha5, (el_ok un_b_ok ha4).1, (el_ok un_b_ok ha4).2, (bfalse ha3), (el_ok un_b_ok ha2).1, (el_ok un_b_ok ha2).2, (decide_eq_true ha1), trivial⟩⟩
      · replace h := ite_f h ha5
        obtain ⟨ha6, h⟩ := grd_of h
        obtain ⟨ha7, h⟩ := grd_of h
        replace h := Option.some.inj h
        subst h
        exact ⟨100, 17, [.br true, .el (B ta2), .br false, .el (B ta4), .br false], [], [10, 11, 12, 24, 25, 26], [2, 3], round_of (ob := [inI64 (sa.1 + 1), inI64 (sa.2.2.2 + 1), ta4 = false, (0 : Int) ≤ sa.1, nth (t1) (Int.toNat sa.1) = some (B ta4), ta2 = false, (0 : Int) ≤ sa.1, nth (t2) (Int.toNat sa.1) = some (B ta2), (decide (sa.1 < ((t2).length : Int))) = true]) (by kernel_rfl) ⟨ha7, ha6, (bfalse ha5), (el_ok un_b_ok ha4).1, (el_ok un_b_ok ha4).2, (bfalse ha3), (el_ok un_b_ok ha2).1, (el_ok un_b_ok ha2).2, (decide_eq_true ha1), trivial⟩⟩
  · replace h := ite_f h ha1
    replace h := Option.some.inj h
    subst h
    exact ⟨⟨100, 17, [.br false], [], [10, 11], [2, 3], round_of (ob := [(decide (sa.1 < ((t2).length : Int))) = false]) (by kernel_rfl) ⟨(decide_eq_false ha1), trivial⟩⟩, nofun⟩
/- spillage/field.lit: .lst false 10 a0, I a1, .agg [I a2, I a3, I a4], .agg [I a5, I a6, I a7], I a8 -/
def F_field_lit (n : Nat) (a0 : List D) (a1 : Int) (a2 : Int) (a3 : Int) (a4 : Int) (a5 : Int) (a6 : Int) (a7 : Int) (a8 : Int) : Option (Int × Int × Int) :=
  (F_field_blocked n a0 a1 a5 a6 a7 a8).bind fun t1 =>
  (F_field_dark n a0 a1 a2 a3 a4 a8).bind fun t2 =>
  (loopF (F_field_lit_L1 n t1 t2) n (0, 0, 0, 0)).bind fun t3 =>
  some (t3.1, t3.2.1, t3.2.2)
theorem c_field_lit {n : Nat} {a0 : List D} {a1 : Int} {a2 : Int} {a3 : Int} {a4 : Int} {a5 : Int} {a6 : Int} {a7 : Int} {a8 : Int} {r : Int × Int × Int} (h : F_field_lit n a0 a1 a2 a3 a4 a5 a6 a7 a8 = some r) : Computes cx 83 [.lst false 10 a0, I a1, .agg [I a2, I a3, I a4], .agg [I a5, I a6, I a7], I a8] (.agg [I r.1, I r.2.1, I r.2.2]) := by
  unfold F_field_lit at h
  obtain ⟨t1, h1, h⟩ := bnd_of h
  obtain ⟨t2, h2, h⟩ := bnd_of h
  obtain ⟨t3, h3, h⟩ := bnd_of h
  replace h := Option.some.inj h
  subst h
  exact run (n := 100) (f := 83) (args := [.lst false 10 a0, I a1, .agg [I a2, I a3, I a4], .agg [I a5, I a6, I a7], I a8]) (orc := [.ret (.lst false 1 t1), .ret (.lst false 1 t2), .lp [] [10, 11, 12, 24, 25, 26] [2, 3] (.exit 0) [(10, .ptr 2 0 0 0 0), (11, .ptr 3 0 0 0 0)] [(2, .box (.d (.agg [I 0, I 0, I 0]))), (3, .box (.d (.agg [I t3.1, I t3.2.1, I t3.2.2])))] 48]) (r := .agg [I t3.1, I t3.2.1, I t3.2.2]) (ob := [LoopN cx (loopAt cx.P 83 0) 52 0 false [(10, .ptr 2 0 0 0 0), (11, .ptr 3 0 0 0 0), (12, .d (.lst false 1 t1)), (24, .d (.lst false 1 t2)), (25, .d (I ((t2).length : Int))), (26, .d (I 0))] [(2, .box (.d (.agg [I 0, I 0, I 0]))), (3, .box (.d (.agg [I 0, I 0, I 0])))] (.exit 0) [(10, .ptr 2 0 0 0 0), (11, .ptr 3 0 0 0 0)] [(2, .box (.d (.agg [I 0, I 0, I 0]))), (3, .box (.d (.agg [I t3.1, I t3.2.1, I t3.2.2])))], Computes cx 97 [.lst false 10 a0, I a1, .agg [I a2, I a3, I a4], I a8] (.lst false 1 t2), Computes cx 129 [.lst false 10 a0, I a1, .agg [I a5, I a6, I a7], I a8] (.lst false 1 t1)]) (by kernel_rfl) ⟨(loopF_to R_field_lit_L1 h3), (c_field_dark h2), (c_field_blocked h1), trivial⟩
/- spillage/field.Lit: .lst false 10 a0, I a1, .agg [I a2, I a3, I a4], .agg [I a5, I a6, I a7], I a8 -/
def F_field_Lit (n : Nat) (a0 : List D) (a1 : Int) (a2 : Int) (a3 : Int) (a4 : Int) (a5 : Int) (a6 : Int) (a7 : Int) (a8 : Int) : Option (Int × Int × Int × Int) :=
  (F_field_checkIndex n a0 a1).bind fun t1 =>
  (F_field_checkDirection n a2 a3 a4 1024).bind fun t2 =>
  (F_field_checkParts n a5 a6 a7 4096).bind fun t3 =>
  (F_field_checkK n a8).bind fun t4 =>
  (F_field_first n ([I t1, I t2, I t3, I t4])).bind fun t5 =>
  if t5 = 0 then
    (F_field_lit n a0 a1 a2 a3 a4 a5 a6 a7 a8).bind fun t7 =>
    some (t7.1, t7.2.1, t7.2.2, 0)
  else
  some (0, 0, 0, t5)
theorem c_field_Lit {n : Nat} {a0 : List D} {a1 : Int} {a2 : Int} {a3 : Int} {a4 : Int} {a5 : Int} {a6 : Int} {a7 : Int} {a8 : Int} {r : Int × Int × Int × Int} (h : F_field_Lit n a0 a1 a2 a3 a4 a5 a6 a7 a8 = some r) : Computes cx 21 [.lst false 10 a0, I a1, .agg [I a2, I a3, I a4], .agg [I a5, I a6, I a7], I a8] (.tup [.agg [I r.1, I r.2.1, I r.2.2.1], I r.2.2.2]) := by
  unfold F_field_Lit at h
  obtain ⟨t1, h1, h⟩ := bnd_of h
  obtain ⟨t2, h2, h⟩ := bnd_of h
  obtain ⟨t3, h3, h⟩ := bnd_of h
  obtain ⟨t4, h4, h⟩ := bnd_of h
  obtain ⟨t5, h5, h⟩ := bnd_of h
  by_cases h6 : t5 = 0
  · replace h := ite_t h h6
    obtain ⟨t7, h7, h⟩ := bnd_of h
    replace h := Option.some.inj h
    subst h
    exact run (n := 100) (f := 21) (args := [.lst false 10 a0, I a1, .agg [I a2, I a3, I a4], .agg [I a5, I a6, I a7], I a8]) (orc := [.ret (I t1), .ret (I t2), .ret (I t3), .ret (I t4), .ret (I t5), .br false, .ret (.agg [I t7.1, I t7.2.1, I t7.2.2])]) (r := .tup [.agg [I t7.1, I t7.2.1, I t7.2.2], I 0]) (ob := [Computes cx 83 [.lst false 10 a0, I a1, .agg [I a2, I a3, I a4], .agg [I a5, I a6, I a7], I a8] (.agg [I t7.1, I t7.2.1, I t7.2.2]), (t5 != 0) = false, Computes cx 59 [.lst true 1 [I t1, I t2, I t3, I t4]] (I t5), Computes cx 82 [I a8] (I t4), Computes cx 81 [.agg [I a5, I a6, I a7], I 4096] (I t3), Computes cx 61 [.agg [I a2, I a3, I a4], I 1024] (I t2), Computes cx 80 [.lst false 10 a0, I a1] (I t1)]) (by kernel_rfl) ⟨(c_field_lit h7), (nef h6), ((c_field_first h5).le (.cons (.full _ _ _) (.nil)) (.refl _)), (c_field_checkK h4), (c_field_checkParts h3), (c_field_checkDirection h2), (c_field_checkIndex h1), trivial⟩
  · replace h := ite_f h h6
    replace h := Option.some.inj h
    subst h
    exact run (n := 100) (f := 21) (args := [.lst false 10 a0, I a1, .agg [I a2, I a3, I a4], .agg [I a5, I a6, I a7], I a8]) (orc := [.ret (I t1), .ret (I t2), .ret (I t3), .ret (I t4), .ret (I t5), .br true]) (r := .tup [.agg [I 0, I 0, I 0], I t5]) (ob := [(t5 != 0) = true, Computes cx 59 [.lst true 1 [I t1, I t2, I t3, I t4]] (I t5), Computes cx 82 [I a8] (I t4), Computes cx 81 [.agg [I a5, I a6, I a7], I 4096] (I t3), Computes cx 61 [.agg [I a2, I a3, I a4], I 1024] (I t2), Computes cx 80 [.lst false 10 a0, I a1] (I t1)]) (by kernel_rfl) ⟨(net h6), ((c_field_first h5).le (.cons (.full _ _ _) (.nil)) (.refl _)), (c_field_checkK h4), (c_field_checkParts h3), (c_field_checkDirection h2), (c_field_checkIndex h1), trivial⟩
def F_field_Ranked_L1 (n : Nat) (a0 : List D) (a1 : Int) (a2 : Int) (a3 : Int) (a4 : Int) (a5 : Int) (a6 : Int) (a7 : Int) (sa : (Int × List D)) : Option (((Int × List D)) ⊕ ((List D))) :=
  if sa.1 < ((a0).length : Int) then
    (el un_Asi9Z a0 sa.1).bind fun ta2 =>
    (F_field_lit n a0 sa.1 a1 a2 a3 a4 a5 a6 a7).bind fun ta3 =>
    if roomP 104 ((sa.2).length + 1) then
    if inI64 (sa.1 + 1) then
    some (.inl ((sa.1 + 1), (sa.2 ++ ([.agg [.v (.string ta2.1), I ta2.2.1, I ta2.2.2.1, I ta2.2.2.2.1, I ta2.2.2.2.2.1, I ta2.2.2.2.2.2.1, I ta2.2.2.2.2.2.2.1, I ta2.2.2.2.2.2.2.2.1, I ta2.2.2.2.2.2.2.2.2.1, I ta2.2.2.2.2.2.2.2.2.2, I (IntKind.wrap .i64 (0 - ta3.2.2)), I sa.1]] : List D))))
    else none
    else none
  else
  some (.inr sa.2)
noncomputable def T_field_Ranked_L1 (a0 : List D) (a1 : Int) (a2 : Int) (a3 : Int) (a4 : Int) (a5 : Int) (a6 : Int) (a7 : Int) (sa : (Int × List D)) : List (Nat × AV) := [(0, .d (.lst false 10 a0)), (3, .d (I a7)), (5, .ptr 0 0 0 0 0), (6, .ptr 1 0 0 0 0), (11, .own 21 0), (27, .d (.lst false 10 a0)), (28, .d (I ((a0).length : Int))), (29, .d (I sa.1))]
noncomputable def H_field_Ranked_L1 (a0 : List D) (a1 : Int) (a2 : Int) (a3 : Int) (a4 : Int) (a5 : Int) (a6 : Int) (a7 : Int) (sa : (Int × List D)) : List (Nat × Blk) := [(0, .box (.d (.agg [I a1, I a2, I a3]))), (1, .box (.d (.agg [I a4, I a5, I a6]))), (21, .row 0 12 sa.2)]
noncomputable def X_field_Ranked_L1 (a0 : List D) (a1 : Int) (a2 : Int) (a3 : Int) (a4 : Int) (a5 : Int) (a6 : Int) (a7 : Int) (e : (List D)) : Ex := (.exit 0)
noncomputable def XT_field_Ranked_L1 (a0 : List D) (a1 : Int) (a2 : Int) (a3 : Int) (a4 : Int) (a5 : Int) (a6 : Int) (a7 : Int) (e : (List D)) : List (Nat × AV) := [(11, .own 21 0)]
noncomputable def XH_field_Ranked_L1 (a0 : List D) (a1 : Int) (a2 : Int) (a3 : Int) (a4 : Int) (a5 : Int) (a6 : Int) (a7 : Int) (e : (List D)) : List (Nat × Blk) := [(21, .row 0 12 e)]
theorem R_field_Ranked_L1 {n : Nat} {a0 : List D} {a1 : Int} {a2 : Int} {a3 : Int} {a4 : Int} {a5 : Int} {a6 : Int} {a7 : Int} (sa : (Int × List D)) (r) (h : F_field_Ranked_L1 n a0 a1 a2 a3 a4 a5 a6 a7 sa = some r) : Rd cx (loopAt cx.P 23 0) 51 0 false (T_field_Ranked_L1 a0 a1 a2 a3 a4 a5 a6 a7) (H_field_Ranked_L1 a0 a1 a2 a3 a4 a5 a6 a7) (X_field_Ranked_L1 a0 a1 a2 a3 a4 a5 a6 a7) (XT_field_Ranked_L1 a0 a1 a2 a3 a4 a5 a6 a7) (XH_field_Ranked_L1 a0 a1 a2 a3 a4 a5 a6 a7) sa r := by
  unfold F_field_Ranked_L1 at h
  by_cases ha1 : sa.1 < ((a0).length : Int)
  · replace h := ite_t h ha1
    obtain ⟨ta2, ha2, h⟩ := bnd_of h
    obtain ⟨ta3, ha3, h⟩ := bnd_of h
    obtain ⟨ha4, h⟩ := grd_of h
    obtain ⟨ha5, h⟩ := grd_of h
    replace h := Option.some.inj h
    subst h
    exact ⟨100, 22, [.br true, .el (.agg [.v (.string ta2.1), I ta2.2.1, I ta2.2.2.1, I ta2.2.2.2.1, I ta2.2.2.2.2.1, I ta2.2.2.2.2.2.1, I ta2.2.2.2.2.2.2.1, I ta2.2.2.2.2.2.2.2.1, I ta2.2.2.2.2.2.2.2.2.1, I ta2.2.2.2.2.2.2.2.2.2]), .ret (.agg [I ta3.1, I ta3.2.1, I ta3.2.2]), .br true], [], [0, 3, 5, 6, 11, 27, 28, 29], [0, 1, 21], round_of (ob := [inI64 (sa.1 + 1), room cx 143 ((sa.2).length + 1), Computes cx 83 [.lst false 10 a0, I sa.1, .agg [I a1, I a2, I a3], .agg [I a4, I a5, I a6], I a7] (.agg [I ta3.1, I ta3.2.1, I ta3.2.2]), (0 : Int) ≤ sa.1, nth (a0) (Int.toNat sa.1) = some (.agg [.v (.string ta2.1), I ta2.2.1, I ta2.2.2.1, I ta2.2.2.2.1, I ta2.2.2.2.2.1, I ta2.2.2.2.2.2.1, I ta2.2.2.2.2.2.2.1, I ta2.2.2.2.2.2.2.2.1, I ta2.2.2.2.2.2.2.2.2.1, I ta2.2.2.2.2.2.2.2.2.2]), (decide (sa.1 < ((a0).length : Int))) = true]) (by kernel_rfl) ⟨ha5, (room_of (b := 104) (by kernel_rfl) (by decide) ha4), (c_field_lit ha3), (el_ok un_Asi9Z_ok ha2).1, (el_ok un_Asi9Z_ok ha2).2, (decide_eq_true ha1), trivial⟩⟩
  · replace h := ite_f h ha1
    replace h := Option.some.inj h
    subst h
    exact ⟨⟨100, 22, [.br false], [], [11], [21], round_of (ob := [(decide (sa.1 < ((a0).length : Int))) = false]) (by kernel_rfl) ⟨(decide_eq_false ha1), trivial⟩⟩, nofun⟩
/- spillage/field.Ranked: .lst false 10 a0, .agg [I a1, I a2, I a3], .agg [I a4, I a5, I a6], I a7 -/
def F_field_Ranked (n : Nat) (a0 : List D) (a1 : Int) (a2 : Int) (a3 : Int) (a4 : Int) (a5 : Int) (a6 : Int) (a7 : Int) : Option (List D × Int) :=
  (F_field_CheckMirrors n a0).bind fun t1 =>
  (F_field_checkDirection n a1 a2 a3 1024).bind fun t2 =>
  (F_field_checkParts n a4 a5 a6 4096).bind fun t3 =>
  (F_field_checkK n a7).bind fun t4 =>
  (F_field_first n ([I t1, I t2, I t3, I t4])).bind fun t5 =>
  if t5 = 0 then
    (loopF (F_field_Ranked_L1 n a0 a1 a2 a3 a4 a5 a6 a7) n (0, [])).bind fun t7 =>
    (F_field_indices n t7).bind fun t8 =>
    some (t8, 0)
  else
  some ([], t5)
theorem c_field_Ranked {n : Nat} {a0 : List D} {a1 : Int} {a2 : Int} {a3 : Int} {a4 : Int} {a5 : Int} {a6 : Int} {a7 : Int} {r : List D × Int} (h : F_field_Ranked n a0 a1 a2 a3 a4 a5 a6 a7 = some r) : Computes cx 23 [.lst false 10 a0, .agg [I a1, I a2, I a3], .agg [I a4, I a5, I a6], I a7] (.tup [.lst false 1 r.1, I r.2]) := by
  unfold F_field_Ranked at h
  obtain ⟨t1, h1, h⟩ := bnd_of h
  obtain ⟨t2, h2, h⟩ := bnd_of h
  obtain ⟨t3, h3, h⟩ := bnd_of h
  obtain ⟨t4, h4, h⟩ := bnd_of h
  obtain ⟨t5, h5, h⟩ := bnd_of h
  by_cases h6 : t5 = 0
  · replace h := ite_t h h6
    obtain ⟨t7, h7, h⟩ := bnd_of h
    obtain ⟨t8, h8, h⟩ := bnd_of h
    replace h := Option.some.inj h
    subst h
    exact run (n := 100) (f := 23) (args := [.lst false 10 a0, .agg [I a1, I a2, I a3], .agg [I a4, I a5, I a6], I a7]) (orc := [.ret (I t1), .ret (I t2), .ret (I t3), .ret (I t4), .ret (I t5), .br false, .lp [11, 12] [0, 3, 5, 6, 11, 27, 28, 29] [0, 1, 21] (.exit 0) [(11, .own 21 0)] [(21, .row 0 12 t7)] 57, .ret (.lst false 1 t8)]) (r := .tup [.lst false 1 t8, I 0]) (ob := [Computes cx 85 [.lst false 12 t7] (.lst false 1 t8), LoopN cx (loopAt cx.P 23 0) 51 0 false [(0, .d (.lst false 10 a0)), (3, .d (I a7)), (5, .ptr 0 0 0 0 0), (6, .ptr 1 0 0 0 0), (11, .own 21 0), (27, .d (.lst false 10 a0)), (28, .d (I ((a0).length : Int))), (29, .d (I 0))] [(0, .box (.d (.agg [I a1, I a2, I a3]))), (1, .box (.d (.agg [I a4, I a5, I a6]))), (21, .row 0 12 [])] (.exit 0) [(11, .own 21 0)] [(21, .row 0 12 t7)], (t5 != 0) = false, Computes cx 59 [.lst true 1 [I t1, I t2, I t3, I t4]] (I t5), Computes cx 82 [I a7] (I t4), Computes cx 81 [.agg [I a4, I a5, I a6], I 4096] (I t3), Computes cx 61 [.agg [I a1, I a2, I a3], I 1024] (I t2), Computes cx 84 [.lst false 10 a0] (I t1)]) (by kernel_rfl) ⟨(c_field_indices h8), (loopF_to R_field_Ranked_L1 h7), (nef h6), ((c_field_first h5).le (.cons (.full _ _ _) (.nil)) (.refl _)), (c_field_checkK h4), (c_field_checkParts h3), (c_field_checkDirection h2), (c_field_CheckMirrors h1), trivial⟩
  · replace h := ite_f h h6
    replace h := Option.some.inj h
    subst h
    exact (run (n := 100) (f := 23) (args := [.lst false 10 a0, .agg [I a1, I a2, I a3], .agg [I a4, I a5, I a6], I a7]) (orc := [.ret (I t1), .ret (I t2), .ret (I t3), .ret (I t4), .ret (I t5), .br true]) (r := .tup [.lst true 0 [], I t5]) (ob := [(t5 != 0) = true, Computes cx 59 [.lst true 1 [I t1, I t2, I t3, I t4]] (I t5), Computes cx 82 [I a7] (I t4), Computes cx 81 [.agg [I a4, I a5, I a6], I 4096] (I t3), Computes cx 61 [.agg [I a1, I a2, I a3], I 1024] (I t2), Computes cx 84 [.lst false 10 a0] (I t1)]) (by kernel_rfl) ⟨(net h6), ((c_field_first h5).le (.cons (.full _ _ _) (.nil)) (.refl _)), (c_field_checkK h4), (c_field_checkParts h3), (c_field_checkDirection h2), (c_field_CheckMirrors h1), trivial⟩).le (LEs.refl _) (.tups (.cons (.lst _ _ _ _ _ nofun (.inl rfl)) (.cons (.refl _) (.nil))))
/- spillage/spillageref04.CheckTarget: .agg [I a0, I a1, I a2] -/
def F_ref04_CheckTarget (n : Nat) (a0 : Int) (a1 : Int) (a2 : Int) : Option (Int) :=
  (F_ref04_checkParts n a0 a1 a2 4096).bind fun t1 =>
  some t1
theorem c_ref04_CheckTarget {n : Nat} {a0 : Int} {a1 : Int} {a2 : Int} {r : Int} (h : F_ref04_CheckTarget n a0 a1 a2 = some r) : Computes cx 24 [.agg [I a0, I a1, I a2]] (I r) := by
  unfold F_ref04_CheckTarget at h
  obtain ⟨t1, h1, h⟩ := bnd_of h
  replace h := Option.some.inj h
  subst h
  exact run (n := 100) (f := 24) (args := [.agg [I a0, I a1, I a2]]) (orc := [.ret (I t1)]) (r := I t1) (ob := [Computes cx 73 [.agg [I a0, I a1, I a2], I 4096] (I t1)]) (by kernel_rfl) ⟨(c_ref04_checkParts h1), trivial⟩
/- spillage/spillageref04.CheckFacets: I a0 -/
def F_ref04_CheckFacets (n : Nat) (a0 : Int) : Option (Int) :=
  (F_ref01_CheckRange n a0 1 8).bind fun t1 =>
  some t1
theorem c_ref04_CheckFacets {n : Nat} {a0 : Int} {r : Int} (h : F_ref04_CheckFacets n a0 = some r) : Computes cx 25 [I a0] (I r) := by
  unfold F_ref04_CheckFacets at h
  obtain ⟨t1, h1, h⟩ := bnd_of h
  replace h := Option.some.inj h
  subst h
  exact run (n := 100) (f := 25) (args := [I a0]) (orc := [.ret (I t1)]) (r := I t1) (ob := [Computes cx 32 [I a0, I 1, I 8] (I t1)]) (by kernel_rfl) ⟨(c_ref01_CheckRange h1), trivial⟩
def F_ref04_Facets_L2 (n : Nat) (a0 : ByteArray) (a1 : Int) (a2 : Int) (a3 : Int) (a4 : Int) (a5 : Int) (a6 : Int) (a7 : Int) (a8 : Int) (a9 : Int) (a10 : Int) (sa : Int × List D) (sb : (Int × List D)) : Option (((Int × List D)) ⊕ ((List D))) :=
  if sb.1 < a10 then
    (F_ref04_times n a10 a1 a2 a3).bind fun tb2 =>
    if inI64 (2 * sb.1) then
    if inI64 ((2 * sb.1) + 1) then
    if inI64 (((2 * sb.1) + 1) - a10) then
    (F_ref04_times n (((2 * sb.1) + 1) - a10) a4 a5 a6).bind fun tb6 =>
    if inI64 (2 * sa.1) then
    if inI64 ((2 * sa.1) + 1) then
    if inI64 (((2 * sa.1) + 1) - a10) then
    (F_ref04_times n (((2 * sa.1) + 1) - a10) a7 a8 a9).bind fun tb10 =>
    (F_ref04_plus n tb6.1 tb6.2.1 tb6.2.2 tb10.1 tb10.2.1 tb10.2.2).bind fun tb11 =>
    (F_ref04_plus n tb2.1 tb2.2.1 tb2.2.2 tb11.1 tb11.2.1 tb11.2.2).bind fun tb12 =>
    if roomP 24 ((sb.2).length + 1) then
    if inI64 (sb.1 + 1) then
    some (.inl ((sb.1 + 1), (sb.2 ++ ([.agg [I tb12.1, I tb12.2.1, I tb12.2.2]] : List D))))
    else none
    else none
    else none
    else none
    else none
    else none
    else none
    else none
  else
  some (.inr sb.2)
noncomputable def T_ref04_Facets_L2 (a0 : ByteArray) (a1 : Int) (a2 : Int) (a3 : Int) (a4 : Int) (a5 : Int) (a6 : Int) (a7 : Int) (a8 : Int) (a9 : Int) (a10 : Int) (sa : Int × List D) (sb : (Int × List D)) : List (Nat × AV) := [(1, .d (I a10)), (2, .ptr 0 0 0 0 0), (5, .own 4 0), (6, .d (I sa.1)), (7, .d (I sb.1))]
noncomputable def H_ref04_Facets_L2 (a0 : ByteArray) (a1 : Int) (a2 : Int) (a3 : Int) (a4 : Int) (a5 : Int) (a6 : Int) (a7 : Int) (a8 : Int) (a9 : Int) (a10 : Int) (sa : Int × List D) (sb : (Int × List D)) : List (Nat × Blk) := [(0, .box (.d (.agg [.v (.string a0), I a1, I a2, I a3, I a4, I a5, I a6, I a7, I a8, I a9]))), (4, .row 0 3 sb.2)]
noncomputable def X_ref04_Facets_L2 (a0 : ByteArray) (a1 : Int) (a2 : Int) (a3 : Int) (a4 : Int) (a5 : Int) (a6 : Int) (a7 : Int) (a8 : Int) (a9 : Int) (a10 : Int) (sa : Int × List D) (e : (List D)) : Ex := (.exit 2)
noncomputable def XT_ref04_Facets_L2 (a0 : ByteArray) (a1 : Int) (a2 : Int) (a3 : Int) (a4 : Int) (a5 : Int) (a6 : Int) (a7 : Int) (a8 : Int) (a9 : Int) (a10 : Int) (sa : Int × List D) (e : (List D)) : List (Nat × AV) := [(1, .d (I a10)), (2, .ptr 0 0 0 0 0), (5, .own 4 0), (6, .d (I sa.1))]
noncomputable def XH_ref04_Facets_L2 (a0 : ByteArray) (a1 : Int) (a2 : Int) (a3 : Int) (a4 : Int) (a5 : Int) (a6 : Int) (a7 : Int) (a8 : Int) (a9 : Int) (a10 : Int) (sa : Int × List D) (e : (List D)) : List (Nat × Blk) := [(0, .box (.d (.agg [.v (.string a0), I a1, I a2, I a3, I a4, I a5, I a6, I a7, I a8, I a9]))), (4, .row 0 3 e)]
theorem R_ref04_Facets_L2 {n : Nat} {a0 : ByteArray} {a1 : Int} {a2 : Int} {a3 : Int} {a4 : Int} {a5 : Int} {a6 : Int} {a7 : Int} {a8 : Int} {a9 : Int} {a10 : Int} {sa : Int × List D} (sb : (Int × List D)) (r) (h : F_ref04_Facets_L2 n a0 a1 a2 a3 a4 a5 a6 a7 a8 a9 a10 sa sb = some r) : Rd cx (loopAt cx.P 134 1) 44 0 false (T_ref04_Facets_L2 a0 a1 a2 a3 a4 a5 a6 a7 a8 a9 a10 sa) (H_ref04_Facets_L2 a0 a1 a2 a3 a4 a5 a6 a7 a8 a9 a10 sa) (X_ref04_Facets_L2 a0 a1 a2 a3 a4 a5 a6 a7 a8 a9 a10 sa) (XT_ref04_Facets_L2 a0 a1 a2 a3 a4 a5 a6 a7 a8 a9 a10 sa) (XH_ref04_Facets_L2 a0 a1 a2 a3 a4 a5 a6 a7 a8 a9 a10 sa) sb r := by
  unfold F_ref04_Facets_L2 at h
  by_cases hb1 : sb.1 < a10
  · replace h := ite_t h hb1
    obtain ⟨tb2, hb2, h⟩ := bnd_of h
    obtain ⟨hb3, h⟩ := grd_of h
    obtain ⟨hb4, h⟩ := grd_of h
    obtain ⟨hb5, h⟩ := grd_of h
    obtain ⟨tb6, hb6, h⟩ := bnd_of h
    obtain ⟨hb7, h⟩ := grd_of h
    obtain ⟨hb8, h⟩ := grd_of h
    obtain ⟨hb9, h⟩ := grd_of h
    obtain ⟨tb10, hb10, h⟩ := bnd_of h
    obtain ⟨tb11, hb11, h⟩ := bnd_of h
    obtain ⟨tb12, hb12, h⟩ := bnd_of h
    obtain ⟨hb13, h⟩ := grd_of h
    obtain ⟨hb14, h⟩ := grd_of h
    replace h := Option.some.inj h
    subst h
    exact ⟨100, 9, [.br true, .ret (.agg [I tb2.1, I tb2.2.1, I tb2.2.2]), .ret (.agg [I tb6.1, I tb6.2.1, I tb6.2.2]), .ret (.agg [I tb10.1, I tb10.2.1, I tb10.2.2]), .ret (.agg [I tb11.1, I tb11.2.1, I tb11.2.2]), .ret (.agg [I tb12.1, I tb12.2.1, I tb12.2.2]), .br true], [], [1, 2, 5, 6, 7], [0, 4], round_of (ob := [inI64 (sb.1 + 1), room cx 23 ((sb.2).length + 1), Computes cx 126 [.agg [I tb2.1, I tb2.2.1, I tb2.2.2], .agg [I tb11.1, I tb11.2.1, I tb11.2.2]] (.agg [I tb12.1, I tb12.2.1, I tb12.2.2]), Computes cx 126 [.agg [I tb6.1, I tb6.2.1, I tb6.2.2], .agg [I tb10.1, I tb10.2.1, I tb10.2.2]] (.agg [I tb11.1, I tb11.2.1, I tb11.2.2]), Computes cx 127 [I (((2 * sa.1) + 1) - a10), .agg [I a7, I a8, I a9]] (.agg [I tb10.1, I tb10.2.1, I tb10.2.2]), inI64 (((2 * sa.1) + 1) - a10), inI64 ((2 * sa.1) + 1), inI64 (2 * sa.1), Computes cx 127 [I (((2 * sb.1) + 1) - a10), .agg [I a4, I a5, I a6]] (.agg [I tb6.1, I tb6.2.1, I tb6.2.2]), inI64 (((2 * sb.1) + 1) - a10), inI64 ((2 * sb.1) + 1), inI64 (2 * sb.1), Computes cx 127 [I a10, .agg [I a1, I a2, I a3]] (.agg [I tb2.1, I tb2.2.1, I tb2.2.2]), (decide (sb.1 < a10)) = true]) (by kernel_rfl) ⟨hb14, (room_of (b := 24) (by kernel_rfl) (by decide) hb13), (c_ref04_plus hb12), (c_ref04_plus hb11), (c_ref04_times hb10), hb9, hb8, hb7, (c_ref04_times hb6), hb5, hb4, hb3, (c_ref04_times hb2), (decide_eq_true hb1), trivial⟩⟩
  · replace h := ite_f h hb1
    replace h := Option.some.inj h
    subst h
    exact ⟨⟨100, 9, [.br false], [], [1, 2, 5, 6], [0, 4], round_of (ob := [(decide (sb.1 < a10)) = false]) (by kernel_rfl) ⟨(decide_eq_false hb1), trivial⟩⟩, nofun⟩
def F_ref04_Facets_L3 (n : Nat) (a0 : ByteArray) (a1 : Int) (a2 : Int) (a3 : Int) (a4 : Int) (a5 : Int) (a6 : Int) (a7 : Int) (a8 : Int) (a9 : Int) (a10 : Int) (sa : (Int × List D)) : Option (((Int × List D)) ⊕ ((List D))) :=
  if sa.1 < a10 then
    (loopF (F_ref04_Facets_L2 n a0 a1 a2 a3 a4 a5 a6 a7 a8 a9 a10 sa) n (0, sa.2)).bind fun ta2 =>
    if inI64 (sa.1 + 1) then
    some (.inl ((sa.1 + 1), ta2))
    else none
  else
  some (.inr sa.2)
noncomputable def T_ref04_Facets_L3 (a0 : ByteArray) (a1 : Int) (a2 : Int) (a3 : Int) (a4 : Int) (a5 : Int) (a6 : Int) (a7 : Int) (a8 : Int) (a9 : Int) (a10 : Int) (sa : (Int × List D)) : List (Nat × AV) := [(1, .d (I a10)), (2, .ptr 0 0 0 0 0), (5, .own 4 0), (6, .d (I sa.1))]
noncomputable def H_ref04_Facets_L3 (a0 : ByteArray) (a1 : Int) (a2 : Int) (a3 : Int) (a4 : Int) (a5 : Int) (a6 : Int) (a7 : Int) (a8 : Int) (a9 : Int) (a10 : Int) (sa : (Int × List D)) : List (Nat × Blk) := [(0, .box (.d (.agg [.v (.string a0), I a1, I a2, I a3, I a4, I a5, I a6, I a7, I a8, I a9]))), (4, .row 0 3 sa.2)]
noncomputable def X_ref04_Facets_L3 (a0 : ByteArray) (a1 : Int) (a2 : Int) (a3 : Int) (a4 : Int) (a5 : Int) (a6 : Int) (a7 : Int) (a8 : Int) (a9 : Int) (a10 : Int) (e : (List D)) : Ex := (.exit 0)
noncomputable def XT_ref04_Facets_L3 (a0 : ByteArray) (a1 : Int) (a2 : Int) (a3 : Int) (a4 : Int) (a5 : Int) (a6 : Int) (a7 : Int) (a8 : Int) (a9 : Int) (a10 : Int) (e : (List D)) : List (Nat × AV) := [(5, .own 4 0)]
noncomputable def XH_ref04_Facets_L3 (a0 : ByteArray) (a1 : Int) (a2 : Int) (a3 : Int) (a4 : Int) (a5 : Int) (a6 : Int) (a7 : Int) (a8 : Int) (a9 : Int) (a10 : Int) (e : (List D)) : List (Nat × Blk) := [(4, .row 0 3 e)]
theorem R_ref04_Facets_L3 {n : Nat} {a0 : ByteArray} {a1 : Int} {a2 : Int} {a3 : Int} {a4 : Int} {a5 : Int} {a6 : Int} {a7 : Int} {a8 : Int} {a9 : Int} {a10 : Int} (sa : (Int × List D)) (r) (h : F_ref04_Facets_L3 n a0 a1 a2 a3 a4 a5 a6 a7 a8 a9 a10 sa = some r) : Rd cx (loopAt cx.P 134 0) 44 0 false (T_ref04_Facets_L3 a0 a1 a2 a3 a4 a5 a6 a7 a8 a9 a10) (H_ref04_Facets_L3 a0 a1 a2 a3 a4 a5 a6 a7 a8 a9 a10) (X_ref04_Facets_L3 a0 a1 a2 a3 a4 a5 a6 a7 a8 a9 a10) (XT_ref04_Facets_L3 a0 a1 a2 a3 a4 a5 a6 a7 a8 a9 a10) (XH_ref04_Facets_L3 a0 a1 a2 a3 a4 a5 a6 a7 a8 a9 a10) sa r := by
  unfold F_ref04_Facets_L3 at h
  by_cases ha1 : sa.1 < a10
  · replace h := ite_t h ha1
    obtain ⟨ta2, ha2, h⟩ := bnd_of h
    obtain ⟨ha3, h⟩ := grd_of h
    replace h := Option.some.inj h
    subst h
    exact ⟨100, 5, [.br true, .lp [] [1, 2, 5, 6, 7] [0, 4] (.exit 2) [(1, .d (I a10)), (2, .ptr 0 0 0 0 0), (5, .own 4 0), (6, .d (I sa.1))] [(0, .box (.d (.agg [.v (.string a0), I a1, I a2, I a3, I a4, I a5, I a6, I a7, I a8, I a9]))), (4, .row 0 3 ta2)] 52], [], [1, 2, 5, 6], [0, 4], round_of (ob := [inI64 (sa.1 + 1), LoopN cx (loopAt cx.P 134 1) 44 0 false [(1, .d (I a10)), (2, .ptr 0 0 0 0 0), (5, .own 4 0), (6, .d (I sa.1)), (7, .d (I 0))] [(0, .box (.d (.agg [.v (.string a0), I a1, I a2, I a3, I a4, I a5, I a6, I a7, I a8, I a9]))), (4, .row 0 3 sa.2)] (.exit 2) [(1, .d (I a10)), (2, .ptr 0 0 0 0 0), (5, .own 4 0), (6, .d (I sa.1))] [(0, .box (.d (.agg [.v (.string a0), I a1, I a2, I a3, I a4, I a5, I a6, I a7, I a8, I a9]))), (4, .row 0 3 ta2)], (decide (sa.1 < a10)) = true]) (by kernel_rfl) ⟨ha3, (loopF_to R_ref04_Facets_L2 ha2), (decide_eq_true ha1), trivial⟩⟩
  · replace h := ite_f h ha1
    replace h := Option.some.inj h
    subst h
    exact ⟨⟨100, 5, [.br false], [], [5], [4], round_of (ob := [(decide (sa.1 < a10)) = false]) (by kernel_rfl) ⟨(decide_eq_false ha1), trivial⟩⟩, nofun⟩
/- spillage/spillageref04.Facets: .agg [.v (.string a0), I a1, I a2, I a3, I a4, I a5, I a6, I a7, I a8, I a9], I a10 -/
def F_ref04_Facets (n : Nat) (a0 : ByteArray) (a1 : Int) (a2 : Int) (a3 : Int) (a4 : Int) (a5 : Int) (a6 : Int) (a7 : Int) (a8 : Int) (a9 : Int) (a10 : Int) : Option (List D) :=
  (loopF (F_ref04_Facets_L3 n a0 a1 a2 a3 a4 a5 a6 a7 a8 a9 a10) n (0, [])).bind fun t1 =>
  some t1
theorem c_ref04_Facets {n : Nat} {a0 : ByteArray} {a1 : Int} {a2 : Int} {a3 : Int} {a4 : Int} {a5 : Int} {a6 : Int} {a7 : Int} {a8 : Int} {a9 : Int} {a10 : Int} {r : List D} (h : F_ref04_Facets n a0 a1 a2 a3 a4 a5 a6 a7 a8 a9 a10 = some r) : Computes cx 134 [.agg [.v (.string a0), I a1, I a2, I a3, I a4, I a5, I a6, I a7, I a8, I a9], I a10] (.lst false 3 r) := by
  unfold F_ref04_Facets at h
  obtain ⟨t1, h1, h⟩ := bnd_of h
  replace h := Option.some.inj h
  subst h
  exact run (n := 100) (f := 134) (args := [.agg [.v (.string a0), I a1, I a2, I a3, I a4, I a5, I a6, I a7, I a8, I a9], I a10]) (orc := [.lp [5, 3] [1, 2, 5, 6] [0, 4] (.exit 0) [(5, .own 4 0)] [(4, .row 0 3 t1)] 66]) (r := .lst false 3 t1) (ob := [LoopN cx (loopAt cx.P 134 0) 44 0 false [(1, .d (I a10)), (2, .ptr 0 0 0 0 0), (5, .own 4 0), (6, .d (I 0))] [(0, .box (.d (.agg [.v (.string a0), I a1, I a2, I a3, I a4, I a5, I a6, I a7, I a8, I a9]))), (4, .row 0 3 [])] (.exit 0) [(5, .own 4 0)] [(4, .row 0 3 t1)]]) (by kernel_rfl) ⟨(loopF_to R_ref04_Facets_L3 h1), trivial⟩
def enc_Ai3Z (x : Int × Int × Int) : D := .agg [I x.1, I x.2.1, I x.2.2]
def un_Ai3Z : D → Option (Int × Int × Int)
  | .agg [c0, c1, c2] => (un_int .i64 c0).bind fun y0 => (un_int .i64 c1).bind fun y1 => (un_int .i64 c2).bind fun y2 => some (y0, y1, y2)
  | _ => none
theorem un_Ai3Z_ok {d : D} {x : Int × Int × Int} (h : un_Ai3Z d = some x) : d = enc_Ai3Z x := by
  unfold un_Ai3Z at h
  split at h
  case h_2 => cases h
  obtain ⟨y0, h0, h⟩ := bnd_of h
  obtain ⟨y1, h1, h⟩ := bnd_of h
  obtain ⟨y2, h2, h⟩ := bnd_of h
  cases h
  have e0 := un_int_ok h0
  have e1 := un_int_ok h1
  have e2 := un_int_ok h2
  rw [e0, e1, e2]; rfl
/- spillage/spillageref04.abs: I a0 -/
def F_ref04_abs (n : Nat) (a0 : Int) : Option (Int) :=
  if inI64 (0 - a0) then
  some (maxI a0 (0 - a0))
  else none
theorem c_ref04_abs {n : Nat} {a0 : Int} {r : Int} (h : F_ref04_abs n a0 = some r) : Computes cx 193 [I a0] (I r) := by
  unfold F_ref04_abs at h
  obtain ⟨h1, h⟩ := grd_of h
  replace h := Option.some.inj h
  subst h
  exact run (n := 100) (f := 193) (args := [I a0]) (orc := []) (r := I (maxI a0 (0 - a0))) (ob := [inI64 (0 - a0)]) (by kernel_rfl) ⟨h1, trivial⟩
theorem e_ref04_Meets_0 (a0 : ByteArray) (a1 : Int) (a2 : Int) (a3 : Int) (a4 : Int) (a5 : Int) (a6 : Int) (a7 : Int) (a8 : Int) (a9 : Int) (a10 : Int) (a11 : Int) (a12 : Int) (a13 : Int) (a14 : Int) (a15 : Int) (a16 : Int) (a17 : Bool) (t1 : Int × Int × Int) (t2 : Int) : runFn true 100 cx 163 [.agg [.v (.string a0), I a1, I a2, I a3, I a4, I a5, I a6, I a7, I a8, I a9], I a10, .agg [I a11, I a12, I a13], .agg [I a14, I a15, I a16], B a17] [.ret (.agg [I t1.1, I t1.2.1, I t1.2.2]), .ret (I t2), .br true] = some (B false, [(t2 == 0) = true, Computes cx 76 [.agg [I a14, I a15, I a16], .agg [I t1.1, I t1.2.1, I t1.2.2]] (I t2), Computes cx 75 [.agg [.v (.string a0), I a1, I a2, I a3, I a4, I a5, I a6, I a7, I a8, I a9]] (.agg [I t1.1, I t1.2.1, I t1.2.2])]) := by kernel_rfl
theorem e_ref04_Meets_1 (a0 : ByteArray) (a1 : Int) (a2 : Int) (a3 : Int) (a4 : Int) (a5 : Int) (a6 : Int) (a7 : Int) (a8 : Int) (a9 : Int) (a10 : Int) (a11 : Int) (a12 : Int) (a13 : Int) (a14 : Int) (a15 : Int) (a16 : Int) (a17 : Bool) (t1 : Int × Int × Int) (t2 : Int) (t4 : Int × Int × Int) (t5 : Int × Int × Int) (t6 : Int × Int × Int) (t7 : Int) (t8 : Int × Int × Int) (t9 : Int) (t11 : Int) (t18 : Int) (t21 : Int) : runFn true 100 cx 163 [.agg [.v (.string a0), I a1, I a2, I a3, I a4, I a5, I a6, I a7, I a8, I a9], I a10, .agg [I a11, I a12, I a13], .agg [I a14, I a15, I a16], B a17] [.ret (.agg [I t1.1, I t1.2.1, I t1.2.2]), .ret (I t2), .br false, .ret (.agg [I t4.1, I t4.2.1, I t4.2.2]), .ret (.agg [I t5.1, I t5.2.1, I t5.2.2]), .ret (.agg [I t6.1, I t6.2.1, I t6.2.2]), .ret (.agg [I t1.1, I t1.2.1, I t1.2.2]), .ret (I t7), .ret (.agg [I t8.1, I t8.2.1, I t8.2.2]), .ret (I t9), .ret (.agg [I t8.1, I t8.2.1, I t8.2.2]), .ret (I t11), .br true, .br true, .br false, .br true, .ret (I t18), .br true, .ret (I t21)] = some (B (decide (t21 ≤ (a10 * (0 - t2)))), [inI64 (a10 * (0 - t2)), Computes cx 193 [I t11] (I t21), (decide (t18 ≤ (a10 * (0 - t2)))) = true, inI64 (a10 * (0 - t2)), Computes cx 193 [I (0 - t9)] (I t18), (decide ((0 - t7) < (0 - t2))) = true, (!a17) = false, (decide ((0 - t7) > 0)) = true, inI64 (0 - t7), inI64 (0 - t2), (decide (t2 < 0)) = true, Computes cx 76 [.agg [I t8.1, I t8.2.1, I t8.2.2], .agg [I a4, I a5, I a6]] (I t11), Computes cx 74 [.agg [I a14, I a15, I a16], .agg [I t6.1, I t6.2.1, I t6.2.2]] (.agg [I t8.1, I t8.2.1, I t8.2.2]), inI64 (0 - t9), Computes cx 76 [.agg [I t8.1, I t8.2.1, I t8.2.2], .agg [I a7, I a8, I a9]] (I t9), Computes cx 74 [.agg [I a14, I a15, I a16], .agg [I t6.1, I t6.2.1, I t6.2.2]] (.agg [I t8.1, I t8.2.1, I t8.2.2]), Computes cx 76 [.agg [I t6.1, I t6.2.1, I t6.2.2], .agg [I t1.1, I t1.2.1, I t1.2.2]] (I t7), Computes cx 75 [.agg [.v (.string a0), I a1, I a2, I a3, I a4, I a5, I a6, I a7, I a8, I a9]] (.agg [I t1.1, I t1.2.1, I t1.2.2]), Computes cx 126 [.agg [I t4.1, I t4.2.1, I t4.2.2], .agg [I t5.1, I t5.2.1, I t5.2.2]] (.agg [I t6.1, I t6.2.1, I t6.2.2]), Computes cx 127 [I (-1), .agg [I a11, I a12, I a13]] (.agg [I t5.1, I t5.2.1, I t5.2.2]), Computes cx 127 [I a10, .agg [I a1, I a2, I a3]] (.agg [I t4.1, I t4.2.1, I t4.2.2]), (t2 == 0) = false, Computes cx 76 [.agg [I a14, I a15, I a16], .agg [I t1.1, I t1.2.1, I t1.2.2]] (I t2), Computes cx 75 [.agg [.v (.string a0), I a1, I a2, I a3, I a4, I a5, I a6, I a7, I a8, I a9]] (.agg [I t1.1, I t1.2.1, I t1.2.2])]) := by kernel_rfl
theorem e_ref04_Meets_2 (a0 : ByteArray) (a1 : Int) (a2 : Int) (a3 : Int) (a4 : Int) (a5 : Int) (a6 : Int) (a7 : Int) (a8 : Int) (a9 : Int) (a10 : Int) (a11 : Int) (a12 : Int) (a13 : Int) (a14 : Int) (a15 : Int) (a16 : Int) (a17 : Bool) (t1 : Int × Int × Int) (t2 : Int) (t4 : Int × Int × Int) (t5 : Int × Int × Int) (t6 : Int × Int × Int) (t7 : Int) (t8 : Int × Int × Int) (t9 : Int) (t11 : Int) (t18 : Int) : runFn true 100 cx 163 [.agg [.v (.string a0), I a1, I a2, I a3, I a4, I a5, I a6, I a7, I a8, I a9], I a10, .agg [I a11, I a12, I a13], .agg [I a14, I a15, I a16], B a17] [.ret (.agg [I t1.1, I t1.2.1, I t1.2.2]), .ret (I t2), .br false, .ret (.agg [I t4.1, I t4.2.1, I t4.2.2]), .ret (.agg [I t5.1, I t5.2.1, I t5.2.2]), .ret (.agg [I t6.1, I t6.2.1, I t6.2.2]), .ret (.agg [I t1.1, I t1.2.1, I t1.2.2]), .ret (I t7), .ret (.agg [I t8.1, I t8.2.1, I t8.2.2]), .ret (I t9), .ret (.agg [I t8.1, I t8.2.1, I t8.2.2]), .ret (I t11), .br true, .br true, .br false, .br true, .ret (I t18), .br false] = some (B false, [(decide (t18 ≤ (a10 * (0 - t2)))) = false, inI64 (a10 * (0 - t2)), Computes cx 193 [I (0 - t9)] (I t18), (decide ((0 - t7) < (0 - t2))) = true, (!a17) = false, (decide ((0 - t7) > 0)) = true, inI64 (0 - t7), inI64 (0 - t2), (decide (t2 < 0)) = true, Computes cx 76 [.agg [I t8.1, I t8.2.1, I t8.2.2], .agg [I a4, I a5, I a6]] (I t11), Computes cx 74 [.agg [I a14, I a15, I a16], .agg [I t6.1, I t6.2.1, I t6.2.2]] (.agg [I t8.1, I t8.2.1, I t8.2.2]), inI64 (0 - t9), Computes cx 76 [.agg [I t8.1, I t8.2.1, I t8.2.2], .agg [I a7, I a8, I a9]] (I t9), Computes cx 74 [.agg [I a14, I a15, I a16], .agg [I t6.1, I t6.2.1, I t6.2.2]] (.agg [I t8.1, I t8.2.1, I t8.2.2]), Computes cx 76 [.agg [I t6.1, I t6.2.1, I t6.2.2], .agg [I t1.1, I t1.2.1, I t1.2.2]] (I t7), Computes cx 75 [.agg [.v (.string a0), I a1, I a2, I a3, I a4, I a5, I a6, I a7, I a8, I a9]] (.agg [I t1.1, I t1.2.1, I t1.2.2]), Computes cx 126 [.agg [I t4.1, I t4.2.1, I t4.2.2], .agg [I t5.1, I t5.2.1, I t5.2.2]] (.agg [I t6.1, I t6.2.1, I t6.2.2]), Computes cx 127 [I (-1), .agg [I a11, I a12, I a13]] (.agg [I t5.1, I t5.2.1, I t5.2.2]), Computes cx 127 [I a10, .agg [I a1, I a2, I a3]] (.agg [I t4.1, I t4.2.1, I t4.2.2]), (t2 == 0) = false, Computes cx 76 [.agg [I a14, I a15, I a16], .agg [I t1.1, I t1.2.1, I t1.2.2]] (I t2), Computes cx 75 [.agg [.v (.string a0), I a1, I a2, I a3, I a4, I a5, I a6, I a7, I a8, I a9]] (.agg [I t1.1, I t1.2.1, I t1.2.2])]) := by kernel_rfl
theorem e_ref04_Meets_3 (a0 : ByteArray) (a1 : Int) (a2 : Int) (a3 : Int) (a4 : Int) (a5 : Int) (a6 : Int) (a7 : Int) (a8 : Int) (a9 : Int) (a10 : Int) (a11 : Int) (a12 : Int) (a13 : Int) (a14 : Int) (a15 : Int) (a16 : Int) (a17 : Bool) (t1 : Int × Int × Int) (t2 : Int) (t4 : Int × Int × Int) (t5 : Int × Int × Int) (t6 : Int × Int × Int) (t7 : Int) (t8 : Int × Int × Int) (t9 : Int) (t11 : Int) : runFn true 100 cx 163 [.agg [.v (.string a0), I a1, I a2, I a3, I a4, I a5, I a6, I a7, I a8, I a9], I a10, .agg [I a11, I a12, I a13], .agg [I a14, I a15, I a16], B a17] [.ret (.agg [I t1.1, I t1.2.1, I t1.2.2]), .ret (I t2), .br false, .ret (.agg [I t4.1, I t4.2.1, I t4.2.2]), .ret (.agg [I t5.1, I t5.2.1, I t5.2.2]), .ret (.agg [I t6.1, I t6.2.1, I t6.2.2]), .ret (.agg [I t1.1, I t1.2.1, I t1.2.2]), .ret (I t7), .ret (.agg [I t8.1, I t8.2.1, I t8.2.2]), .ret (I t9), .ret (.agg [I t8.1, I t8.2.1, I t8.2.2]), .ret (I t11), .br true, .br true, .br false, .br false, .no] = some (B false, [(decide ((0 - t7) < (0 - t2))) = false, (!a17) = false, (decide ((0 - t7) > 0)) = true, inI64 (0 - t7), inI64 (0 - t2), (decide (t2 < 0)) = true, Computes cx 76 [.agg [I t8.1, I t8.2.1, I t8.2.2], .agg [I a4, I a5, I a6]] (I t11), Computes cx 74 [.agg [I a14, I a15, I a16], .agg [I t6.1, I t6.2.1, I t6.2.2]] (.agg [I t8.1, I t8.2.1, I t8.2.2]), inI64 (0 - t9), Computes cx 76 [.agg [I t8.1, I t8.2.1, I t8.2.2], .agg [I a7, I a8, I a9]] (I t9), Computes cx 74 [.agg [I a14, I a15, I a16], .agg [I t6.1, I t6.2.1, I t6.2.2]] (.agg [I t8.1, I t8.2.1, I t8.2.2]), Computes cx 76 [.agg [I t6.1, I t6.2.1, I t6.2.2], .agg [I t1.1, I t1.2.1, I t1.2.2]] (I t7), Computes cx 75 [.agg [.v (.string a0), I a1, I a2, I a3, I a4, I a5, I a6, I a7, I a8, I a9]] (.agg [I t1.1, I t1.2.1, I t1.2.2]), Computes cx 126 [.agg [I t4.1, I t4.2.1, I t4.2.2], .agg [I t5.1, I t5.2.1, I t5.2.2]] (.agg [I t6.1, I t6.2.1, I t6.2.2]), Computes cx 127 [I (-1), .agg [I a11, I a12, I a13]] (.agg [I t5.1, I t5.2.1, I t5.2.2]), Computes cx 127 [I a10, .agg [I a1, I a2, I a3]] (.agg [I t4.1, I t4.2.1, I t4.2.2]), (t2 == 0) = false, Computes cx 76 [.agg [I a14, I a15, I a16], .agg [I t1.1, I t1.2.1, I t1.2.2]] (I t2), Computes cx 75 [.agg [.v (.string a0), I a1, I a2, I a3, I a4, I a5, I a6, I a7, I a8, I a9]] (.agg [I t1.1, I t1.2.1, I t1.2.2])]) := by kernel_rfl
theorem e_ref04_Meets_4 (a0 : ByteArray) (a1 : Int) (a2 : Int) (a3 : Int) (a4 : Int) (a5 : Int) (a6 : Int) (a7 : Int) (a8 : Int) (a9 : Int) (a10 : Int) (a11 : Int) (a12 : Int) (a13 : Int) (a14 : Int) (a15 : Int) (a16 : Int) (a17 : Bool) (t1 : Int × Int × Int) (t2 : Int) (t4 : Int × Int × Int) (t5 : Int × Int × Int) (t6 : Int × Int × Int) (t7 : Int) (t8 : Int × Int × Int) (t9 : Int) (t11 : Int) (t17 : Int) (t20 : Int) : runFn true 100 cx 163 [.agg [.v (.string a0), I a1, I a2, I a3, I a4, I a5, I a6, I a7, I a8, I a9], I a10, .agg [I a11, I a12, I a13], .agg [I a14, I a15, I a16], B a17] [.ret (.agg [I t1.1, I t1.2.1, I t1.2.2]), .ret (I t2), .br false, .ret (.agg [I t4.1, I t4.2.1, I t4.2.2]), .ret (.agg [I t5.1, I t5.2.1, I t5.2.2]), .ret (.agg [I t6.1, I t6.2.1, I t6.2.2]), .ret (.agg [I t1.1, I t1.2.1, I t1.2.2]), .ret (I t7), .ret (.agg [I t8.1, I t8.2.1, I t8.2.2]), .ret (I t9), .ret (.agg [I t8.1, I t8.2.1, I t8.2.2]), .ret (I t11), .br true, .br true, .br true, .no, .ret (I t17), .br true, .ret (I t20)] = some (B (decide (t20 ≤ (a10 * (0 - t2)))), [inI64 (a10 * (0 - t2)), Computes cx 193 [I t11] (I t20), (decide (t17 ≤ (a10 * (0 - t2)))) = true, inI64 (a10 * (0 - t2)), Computes cx 193 [I (0 - t9)] (I t17), (!a17) = true, (decide ((0 - t7) > 0)) = true, inI64 (0 - t7), inI64 (0 - t2), (decide (t2 < 0)) = true, Computes cx 76 [.agg [I t8.1, I t8.2.1, I t8.2.2], .agg [I a4, I a5, I a6]] (I t11), Computes cx 74 [.agg [I a14, I a15, I a16], .agg [I t6.1, I t6.2.1, I t6.2.2]] (.agg [I t8.1, I t8.2.1, I t8.2.2]), inI64 (0 - t9), Computes cx 76 [.agg [I t8.1, I t8.2.1, I t8.2.2], .agg [I a7, I a8, I a9]] (I t9), Computes cx 74 [.agg [I a14, I a15, I a16], .agg [I t6.1, I t6.2.1, I t6.2.2]] (.agg [I t8.1, I t8.2.1, I t8.2.2]), Computes cx 76 [.agg [I t6.1, I t6.2.1, I t6.2.2], .agg [I t1.1, I t1.2.1, I t1.2.2]] (I t7), Computes cx 75 [.agg [.v (.string a0), I a1, I a2, I a3, I a4, I a5, I a6, I a7, I a8, I a9]] (.agg [I t1.1, I t1.2.1, I t1.2.2]), Computes cx 126 [.agg [I t4.1, I t4.2.1, I t4.2.2], .agg [I t5.1, I t5.2.1, I t5.2.2]] (.agg [I t6.1, I t6.2.1, I t6.2.2]), Computes cx 127 [I (-1), .agg [I a11, I a12, I a13]] (.agg [I t5.1, I t5.2.1, I t5.2.2]), Computes cx 127 [I a10, .agg [I a1, I a2, I a3]] (.agg [I t4.1, I t4.2.1, I t4.2.2]), (t2 == 0) = false, Computes cx 76 [.agg [I a14, I a15, I a16], .agg [I t1.1, I t1.2.1, I t1.2.2]] (I t2), Computes cx 75 [.agg [.v (.string a0), I a1, I a2, I a3, I a4, I a5, I a6, I a7, I a8, I a9]] (.agg [I t1.1, I t1.2.1, I t1.2.2])]) := by kernel_rfl
theorem e_ref04_Meets_5 (a0 : ByteArray) (a1 : Int) (a2 : Int) (a3 : Int) (a4 : Int) (a5 : Int) (a6 : Int) (a7 : Int) (a8 : Int) (a9 : Int) (a10 : Int) (a11 : Int) (a12 : Int) (a13 : Int) (a14 : Int) (a15 : Int) (a16 : Int) (a17 : Bool) (t1 : Int × Int × Int) (t2 : Int) (t4 : Int × Int × Int) (t5 : Int × Int × Int) (t6 : Int × Int × Int) (t7 : Int) (t8 : Int × Int × Int) (t9 : Int) (t11 : Int) (t17 : Int) : runFn true 100 cx 163 [.agg [.v (.string a0), I a1, I a2, I a3, I a4, I a5, I a6, I a7, I a8, I a9], I a10, .agg [I a11, I a12, I a13], .agg [I a14, I a15, I a16], B a17] [.ret (.agg [I t1.1, I t1.2.1, I t1.2.2]), .ret (I t2), .br false, .ret (.agg [I t4.1, I t4.2.1, I t4.2.2]), .ret (.agg [I t5.1, I t5.2.1, I t5.2.2]), .ret (.agg [I t6.1, I t6.2.1, I t6.2.2]), .ret (.agg [I t1.1, I t1.2.1, I t1.2.2]), .ret (I t7), .ret (.agg [I t8.1, I t8.2.1, I t8.2.2]), .ret (I t9), .ret (.agg [I t8.1, I t8.2.1, I t8.2.2]), .ret (I t11), .br true, .br true, .br true, .no, .ret (I t17), .br false] = some (B false, [(decide (t17 ≤ (a10 * (0 - t2)))) = false, inI64 (a10 * (0 - t2)), Computes cx 193 [I (0 - t9)] (I t17), (!a17) = true, (decide ((0 - t7) > 0)) = true, inI64 (0 - t7), inI64 (0 - t2), (decide (t2 < 0)) = true, Computes cx 76 [.agg [I t8.1, I t8.2.1, I t8.2.2], .agg [I a4, I a5, I a6]] (I t11), Computes cx 74 [.agg [I a14, I a15, I a16], .agg [I t6.1, I t6.2.1, I t6.2.2]] (.agg [I t8.1, I t8.2.1, I t8.2.2]), inI64 (0 - t9), Computes cx 76 [.agg [I t8.1, I t8.2.1, I t8.2.2], .agg [I a7, I a8, I a9]] (I t9), Computes cx 74 [.agg [I a14, I a15, I a16], .agg [I t6.1, I t6.2.1, I t6.2.2]] (.agg [I t8.1, I t8.2.1, I t8.2.2]), Computes cx 76 [.agg [I t6.1, I t6.2.1, I t6.2.2], .agg [I t1.1, I t1.2.1, I t1.2.2]] (I t7), Computes cx 75 [.agg [.v (.string a0), I a1, I a2, I a3, I a4, I a5, I a6, I a7, I a8, I a9]] (.agg [I t1.1, I t1.2.1, I t1.2.2]), Computes cx 126 [.agg [I t4.1, I t4.2.1, I t4.2.2], .agg [I t5.1, I t5.2.1, I t5.2.2]] (.agg [I t6.1, I t6.2.1, I t6.2.2]), Computes cx 127 [I (-1), .agg [I a11, I a12, I a13]] (.agg [I t5.1, I t5.2.1, I t5.2.2]), Computes cx 127 [I a10, .agg [I a1, I a2, I a3]] (.agg [I t4.1, I t4.2.1, I t4.2.2]), (t2 == 0) = false, Computes cx 76 [.agg [I a14, I a15, I a16], .agg [I t1.1, I t1.2.1, I t1.2.2]] (I t2), Computes cx 75 [.agg [.v (.string a0), I a1, I a2, I a3, I a4, I a5, I a6, I a7, I a8, I a9]] (.agg [I t1.1, I t1.2.1, I t1.2.2])]) := by kernel_rfl
theorem e_ref04_Meets_6 (a0 : ByteArray) (a1 : Int) (a2 : Int) (a3 : Int) (a4 : Int) (a5 : Int) (a6 : Int) (a7 : Int) (a8 : Int) (a9 : Int) (a10 : Int) (a11 : Int) (a12 : Int) (a13 : Int) (a14 : Int) (a15 : Int) (a16 : Int) (a17 : Bool) (t1 : Int × Int × Int) (t2 : Int) (t4 : Int × Int × Int) (t5 : Int × Int × Int) (t6 : Int × Int × Int) (t7 : Int) (t8 : Int × Int × Int) (t9 : Int) (t11 : Int) : runFn true 100 cx 163 [.agg [.v (.string a0), I a1, I a2, I a3, I a4, I a5, I a6, I a7, I a8, I a9], I a10, .agg [I a11, I a12, I a13], .agg [I a14, I a15, I a16], B a17] [.ret (.agg [I t1.1, I t1.2.1, I t1.2.2]), .ret (I t2), .br false, .ret (.agg [I t4.1, I t4.2.1, I t4.2.2]), .ret (.agg [I t5.1, I t5.2.1, I t5.2.2]), .ret (.agg [I t6.1, I t6.2.1, I t6.2.2]), .ret (.agg [I t1.1, I t1.2.1, I t1.2.2]), .ret (I t7), .ret (.agg [I t8.1, I t8.2.1, I t8.2.2]), .ret (I t9), .ret (.agg [I t8.1, I t8.2.1, I t8.2.2]), .ret (I t11), .br true, .br false, .no, .no] = some (B false, [(decide ((0 - t7) > 0)) = false, inI64 (0 - t7), inI64 (0 - t2), (decide (t2 < 0)) = true, Computes cx 76 [.agg [I t8.1, I t8.2.1, I t8.2.2], .agg [I a4, I a5, I a6]] (I t11), Computes cx 74 [.agg [I a14, I a15, I a16], .agg [I t6.1, I t6.2.1, I t6.2.2]] (.agg [I t8.1, I t8.2.1, I t8.2.2]), inI64 (0 - t9), Computes cx 76 [.agg [I t8.1, I t8.2.1, I t8.2.2], .agg [I a7, I a8, I a9]] (I t9), Computes cx 74 [.agg [I a14, I a15, I a16], .agg [I t6.1, I t6.2.1, I t6.2.2]] (.agg [I t8.1, I t8.2.1, I t8.2.2]), Computes cx 76 [.agg [I t6.1, I t6.2.1, I t6.2.2], .agg [I t1.1, I t1.2.1, I t1.2.2]] (I t7), Computes cx 75 [.agg [.v (.string a0), I a1, I a2, I a3, I a4, I a5, I a6, I a7, I a8, I a9]] (.agg [I t1.1, I t1.2.1, I t1.2.2]), Computes cx 126 [.agg [I t4.1, I t4.2.1, I t4.2.2], .agg [I t5.1, I t5.2.1, I t5.2.2]] (.agg [I t6.1, I t6.2.1, I t6.2.2]), Computes cx 127 [I (-1), .agg [I a11, I a12, I a13]] (.agg [I t5.1, I t5.2.1, I t5.2.2]), Computes cx 127 [I a10, .agg [I a1, I a2, I a3]] (.agg [I t4.1, I t4.2.1, I t4.2.2]), (t2 == 0) = false, Computes cx 76 [.agg [I a14, I a15, I a16], .agg [I t1.1, I t1.2.1, I t1.2.2]] (I t2), Computes cx 75 [.agg [.v (.string a0), I a1, I a2, I a3, I a4, I a5, I a6, I a7, I a8, I a9]] (.agg [I t1.1, I t1.2.1, I t1.2.2])]) := by kernel_rfl
theorem e_ref04_Meets_7 (a0 : ByteArray) (a1 : Int) (a2 : Int) (a3 : Int) (a4 : Int) (a5 : Int) (a6 : Int) (a7 : Int) (a8 : Int) (a9 : Int) (a10 : Int) (a11 : Int) (a12 : Int) (a13 : Int) (a14 : Int) (a15 : Int) (a16 : Int) (a17 : Bool) (t1 : Int × Int × Int) (t2 : Int) (t4 : Int × Int × Int) (t5 : Int × Int × Int) (t6 : Int × Int × Int) (t7 : Int) (t8 : Int × Int × Int) (t9 : Int) (t11 : Int) (t16 : Int) (t19 : Int) : runFn true 100 cx 163 [.agg [.v (.string a0), I a1, I a2, I a3, I a4, I a5, I a6, I a7, I a8, I a9], I a10, .agg [I a11, I a12, I a13], .agg [I a14, I a15, I a16], B a17] [.ret (.agg [I t1.1, I t1.2.1, I t1.2.2]), .ret (I t2), .br false, .ret (.agg [I t4.1, I t4.2.1, I t4.2.2]), .ret (.agg [I t5.1, I t5.2.1, I t5.2.2]), .ret (.agg [I t6.1, I t6.2.1, I t6.2.2]), .ret (.agg [I t1.1, I t1.2.1, I t1.2.2]), .ret (I t7), .ret (.agg [I t8.1, I t8.2.1, I t8.2.2]), .ret (I t9), .ret (.agg [I t8.1, I t8.2.1, I t8.2.2]), .ret (I t11), .br false, .br true, .br false, .br true, .ret (I t16), .br true, .ret (I t19)] = some (B (decide (t19 ≤ (a10 * t2))), [inI64 (a10 * t2), Computes cx 193 [I t11] (I t19), (decide (t16 ≤ (a10 * t2))) = true, inI64 (a10 * t2), Computes cx 193 [I (0 - t9)] (I t16), (decide (t7 < t2)) = true, (!a17) = false, (decide (t7 > 0)) = true, (decide (t2 < 0)) = false, Computes cx 76 [.agg [I t8.1, I t8.2.1, I t8.2.2], .agg [I a4, I a5, I a6]] (I t11), Computes cx 74 [.agg [I a14, I a15, I a16], .agg [I t6.1, I t6.2.1, I t6.2.2]] (.agg [I t8.1, I t8.2.1, I t8.2.2]), inI64 (0 - t9), Computes cx 76 [.agg [I t8.1, I t8.2.1, I t8.2.2], .agg [I a7, I a8, I a9]] (I t9), Computes cx 74 [.agg [I a14, I a15, I a16], .agg [I t6.1, I t6.2.1, I t6.2.2]] (.agg [I t8.1, I t8.2.1, I t8.2.2]), Computes cx 76 [.agg [I t6.1, I t6.2.1, I t6.2.2], .agg [I t1.1, I t1.2.1, I t1.2.2]] (I t7), Computes cx 75 [.agg [.v (.string a0), I a1, I a2, I a3, I a4, I a5, I a6, I a7, I a8, I a9]] (.agg [I t1.1, I t1.2.1, I t1.2.2]), Computes cx 126 [.agg [I t4.1, I t4.2.1, I t4.2.2], .agg [I t5.1, I t5.2.1, I t5.2.2]] (.agg [I t6.1, I t6.2.1, I t6.2.2]), Computes cx 127 [I (-1), .agg [I a11, I a12, I a13]] (.agg [I t5.1, I t5.2.1, I t5.2.2]), Computes cx 127 [I a10, .agg [I a1, I a2, I a3]] (.agg [I t4.1, I t4.2.1, I t4.2.2]), (t2 == 0) = false, Computes cx 76 [.agg [I a14, I a15, I a16], .agg [I t1.1, I t1.2.1, I t1.2.2]] (I t2), Computes cx 75 [.agg [.v (.string a0), I a1, I a2, I a3, I a4, I a5, I a6, I a7, I a8, I a9]] (.agg [I t1.1, I t1.2.1, I t1.2.2])]) := by kernel_rfl
theorem e_ref04_Meets_8 (a0 : ByteArray) (a1 : Int) (a2 : Int) (a3 : Int) (a4 : Int) (a5 : Int) (a6 : Int) (a7 : Int) (a8 : Int) (a9 : Int) (a10 : Int) (a11 : Int) (a12 : Int) (a13 : Int) (a14 : Int) (a15 : Int) (a16 : Int) (a17 : Bool) (t1 : Int × Int × Int) (t2 : Int) (t4 : Int × Int × Int) (t5 : Int × Int × Int) (t6 : Int × Int × Int) (t7 : Int) (t8 : Int × Int × Int) (t9 : Int) (t11 : Int) (t16 : Int) : runFn true 100 cx 163 [.agg [.v (.string a0), I a1, I a2, I a3, I a4, I a5, I a6, I a7, I a8, I a9], I a10, .agg [I a11, I a12, I a13], .agg [I a14, I a15, I a16], B a17] [.ret (.agg [I t1.1, I t1.2.1, I t1.2.2]), .ret (I t2), .br false, .ret (.agg [I t4.1, I t4.2.1, I t4.2.2]), .ret (.agg [I t5.1, I t5.2.1, I t5.2.2]), .ret (.agg [I t6.1, I t6.2.1, I t6.2.2]), .ret (.agg [I t1.1, I t1.2.1, I t1.2.2]), .ret (I t7), .ret (.agg [I t8.1, I t8.2.1, I t8.2.2]), .ret (I t9), .ret (.agg [I t8.1, I t8.2.1, I t8.2.2]), .ret (I t11), .br false, .br true, .br false, .br true, .ret (I t16), .br false] = some (B false, [(decide (t16 ≤ (a10 * t2))) = false, inI64 (a10 * t2), Computes cx 193 [I (0 - t9)] (I t16), (decide (t7 < t2)) = true, (!a17) = false, (decide (t7 > 0)) = true, (decide (t2 < 0)) = false, Computes cx 76 [.agg [I t8.1, I t8.2.1, I t8.2.2], .agg [I a4, I a5, I a6]] (I t11), Computes cx 74 [.agg [I a14, I a15, I a16], .agg [I t6.1, I t6.2.1, I t6.2.2]] (.agg [I t8.1, I t8.2.1, I t8.2.2]), inI64 (0 - t9), Computes cx 76 [.agg [I t8.1, I t8.2.1, I t8.2.2], .agg [I a7, I a8, I a9]] (I t9), Computes cx 74 [.agg [I a14, I a15, I a16], .agg [I t6.1, I t6.2.1, I t6.2.2]] (.agg [I t8.1, I t8.2.1, I t8.2.2]), Computes cx 76 [.agg [I t6.1, I t6.2.1, I t6.2.2], .agg [I t1.1, I t1.2.1, I t1.2.2]] (I t7), Computes cx 75 [.agg [.v (.string a0), I a1, I a2, I a3, I a4, I a5, I a6, I a7, I a8, I a9]] (.agg [I t1.1, I t1.2.1, I t1.2.2]), Computes cx 126 [.agg [I t4.1, I t4.2.1, I t4.2.2], .agg [I t5.1, I t5.2.1, I t5.2.2]] (.agg [I t6.1, I t6.2.1, I t6.2.2]), Computes cx 127 [I (-1), .agg [I a11, I a12, I a13]] (.agg [I t5.1, I t5.2.1, I t5.2.2]), Computes cx 127 [I a10, .agg [I a1, I a2, I a3]] (.agg [I t4.1, I t4.2.1, I t4.2.2]), (t2 == 0) = false, Computes cx 76 [.agg [I a14, I a15, I a16], .agg [I t1.1, I t1.2.1, I t1.2.2]] (I t2), Computes cx 75 [.agg [.v (.string a0), I a1, I a2, I a3, I a4, I a5, I a6, I a7, I a8, I a9]] (.agg [I t1.1, I t1.2.1, I t1.2.2])]) := by kernel_rfl
theorem e_ref04_Meets_9 (a0 : ByteArray) (a1 : Int) (a2 : Int) (a3 : Int) (a4 : Int) (a5 : Int) (a6 : Int) (a7 : Int) (a8 : Int) (a9 : Int) (a10 : Int) (a11 : Int) (a12 : Int) (a13 : Int) (a14 : Int) (a15 : Int) (a16 : Int) (a17 : Bool) (t1 : Int × Int × Int) (t2 : Int) (t4 : Int × Int × Int) (t5 : Int × Int × Int) (t6 : Int × Int × Int) (t7 : Int) (t8 : Int × Int × Int) (t9 : Int) (t11 : Int) : runFn true 100 cx 163 [.agg [.v (.string a0), I a1, I a2, I a3, I a4, I a5, I a6, I a7, I a8, I a9], I a10, .agg [I a11, I a12, I a13], .agg [I a14, I a15, I a16], B a17] [.ret (.agg [I t1.1, I t1.2.1, I t1.2.2]), .ret (I t2), .br false, .ret (.agg [I t4.1, I t4.2.1, I t4.2.2]), .ret (.agg [I t5.1, I t5.2.1, I t5.2.2]), .ret (.agg [I t6.1, I t6.2.1, I t6.2.2]), .ret (.agg [I t1.1, I t1.2.1, I t1.2.2]), .ret (I t7), .ret (.agg [I t8.1, I t8.2.1, I t8.2.2]), .ret (I t9), .ret (.agg [I t8.1, I t8.2.1, I t8.2.2]), .ret (I t11), .br false, .br true, .br false, .br false, .no] = some (B false, [(decide (t7 < t2)) = false, (!a17) = false, (decide (t7 > 0)) = true, (decide (t2 < 0)) = false, Computes cx 76 [.agg [I t8.1, I t8.2.1, I t8.2.2], .agg [I a4, I a5, I a6]] (I t11), Computes cx 74 [.agg [I a14, I a15, I a16], .agg [I t6.1, I t6.2.1, I t6.2.2]] (.agg [I t8.1, I t8.2.1, I t8.2.2]), inI64 (0 - t9), Computes cx 76 [.agg [I t8.1, I t8.2.1, I t8.2.2], .agg [I a7, I a8, I a9]] (I t9), Computes cx 74 [.agg [I a14, I a15, I a16], .agg [I t6.1, I t6.2.1, I t6.2.2]] (.agg [I t8.1, I t8.2.1, I t8.2.2]), Computes cx 76 [.agg [I t6.1, I t6.2.1, I t6.2.2], .agg [I t1.1, I t1.2.1, I t1.2.2]] (I t7), Computes cx 75 [.agg [.v (.string a0), I a1, I a2, I a3, I a4, I a5, I a6, I a7, I a8, I a9]] (.agg [I t1.1, I t1.2.1, I t1.2.2]), Computes cx 126 [.agg [I t4.1, I t4.2.1, I t4.2.2], .agg [I t5.1, I t5.2.1, I t5.2.2]] (.agg [I t6.1, I t6.2.1, I t6.2.2]), Computes cx 127 [I (-1), .agg [I a11, I a12, I a13]] (.agg [I t5.1, I t5.2.1, I t5.2.2]), Computes cx 127 [I a10, .agg [I a1, I a2, I a3]] (.agg [I t4.1, I t4.2.1, I t4.2.2]), (t2 == 0) = false, Computes cx 76 [.agg [I a14, I a15, I a16], .agg [I t1.1, I t1.2.1, I t1.2.2]] (I t2), Computes cx 75 [.agg [.v (.string a0), I a1, I a2, I a3, I a4, I a5, I a6, I a7, I a8, I a9]] (.agg [I t1.1, I t1.2.1, I t1.2.2])]) := by kernel_rfl
theorem e_ref04_Meets_10 (a0 : ByteArray) (a1 : Int) (a2 : Int) (a3 : Int) (a4 : Int) (a5 : Int) (a6 : Int) (a7 : Int) (a8 : Int) (a9 : Int) (a10 : Int) (a11 : Int) (a12 : Int) (a13 : Int) (a14 : Int) (a15 : Int) (a16 : Int) (a17 : Bool) (t1 : Int × Int × Int) (t2 : Int) (t4 : Int × Int × Int) (t5 : Int × Int × Int) (t6 : Int × Int × Int) (t7 : Int) (t8 : Int × Int × Int) (t9 : Int) (t11 : Int) (t15 : Int) (t18 : Int) : runFn true 100 cx 163 [.agg [.v (.string a0), I a1, I a2, I a3, I a4, I a5, I a6, I a7, I a8, I a9], I a10, .agg [I a11, I a12, I a13], .agg [I a14, I a15, I a16], B a17] [.ret (.agg [I t1.1, I t1.2.1, I t1.2.2]), .ret (I t2), .br false, .ret (.agg [I t4.1, I t4.2.1, I t4.2.2]), .ret (.agg [I t5.1, I t5.2.1, I t5.2.2]), .ret (.agg [I t6.1, I t6.2.1, I t6.2.2]), .ret (.agg [I t1.1, I t1.2.1, I t1.2.2]), .ret (I t7), .ret (.agg [I t8.1, I t8.2.1, I t8.2.2]), .ret (I t9), .ret (.agg [I t8.1, I t8.2.1, I t8.2.2]), .ret (I t11), .br false, .br true, .br true, .no, .ret (I t15), .br true, .ret (I t18)] = some (B (decide (t18 ≤ (a10 * t2))), [inI64 (a10 * t2), Computes cx 193 [I t11] (I t18), (decide (t15 ≤ (a10 * t2))) = true, inI64 (a10 * t2), Computes cx 193 [I (0 - t9)] (I t15), (!a17) = true, (decide (t7 > 0)) = true, (decide (t2 < 0)) = false, Computes cx 76 [.agg [I t8.1, I t8.2.1, I t8.2.2], .agg [I a4, I a5, I a6]] (I t11), Computes cx 74 [.agg [I a14, I a15, I a16], .agg [I t6.1, I t6.2.1, I t6.2.2]] (.agg [I t8.1, I t8.2.1, I t8.2.2]), inI64 (0 - t9), Computes cx 76 [.agg [I t8.1, I t8.2.1, I t8.2.2], .agg [I a7, I a8, I a9]] (I t9), Computes cx 74 [.agg [I a14, I a15, I a16], .agg [I t6.1, I t6.2.1, I t6.2.2]] (.agg [I t8.1, I t8.2.1, I t8.2.2]), Computes cx 76 [.agg [I t6.1, I t6.2.1, I t6.2.2], .agg [I t1.1, I t1.2.1, I t1.2.2]] (I t7), Computes cx 75 [.agg [.v (.string a0), I a1, I a2, I a3, I a4, I a5, I a6, I a7, I a8, I a9]] (.agg [I t1.1, I t1.2.1, I t1.2.2]), Computes cx 126 [.agg [I t4.1, I t4.2.1, I t4.2.2], .agg [I t5.1, I t5.2.1, I t5.2.2]] (.agg [I t6.1, I t6.2.1, I t6.2.2]), Computes cx 127 [I (-1), .agg [I a11, I a12, I a13]] (.agg [I t5.1, I t5.2.1, I t5.2.2]), Computes cx 127 [I a10, .agg [I a1, I a2, I a3]] (.agg [I t4.1, I t4.2.1, I t4.2.2]), (t2 == 0) = false, Computes cx 76 [.agg [I a14, I a15, I a16], .agg [I t1.1, I t1.2.1, I t1.2.2]] (I t2), Computes cx 75 [.agg [.v (.string a0), I a1, I a2, I a3, I a4, I a5, I a6, I a7, I a8, I a9]] (.agg [I t1.1, I t1.2.1, I t1.2.2])]) := by kernel_rfl
theorem e_ref04_Meets_11 (a0 : ByteArray) (a1 : Int) (a2 : Int) (a3 : Int) (a4 : Int) (a5 : Int) (a6 : Int) (a7 : Int) (a8 : Int) (a9 : Int) (a10 : Int) (a11 : Int) (a12 : Int) (a13 : Int) (a14 : Int) (a15 : Int) (a16 : Int) (a17 : Bool) (t1 : Int × Int × Int) (t2 : Int) (t4 : Int × Int × Int) (t5 : Int × Int × Int) (t6 : Int × Int × Int) (t7 : Int) (t8 : Int × Int × Int) (t9 : Int) (t11 : Int) (t15 : Int) : runFn true 100 cx 163 [.agg [.v (.string a0), I a1, I a2, I a3, I a4, I a5, I a6, I a7, I a8, I a9], I a10, .agg [I a11, I a12, I a13], .agg [I a14, I a15, I a16], B a17] [.ret (.agg [I t1.1, I t1.2.1, I t1.2.2]), .ret (I t2), .br false, .ret (.agg [I t4.1, I t4.2.1, I t4.2.2]), .ret (.agg [I t5.1, I t5.2.1, I t5.2.2]), .ret (.agg [I t6.1, I t6.2.1, I t6.2.2]), .ret (.agg [I t1.1, I t1.2.1, I t1.2.2]), .ret (I t7), .ret (.agg [I t8.1, I t8.2.1, I t8.2.2]), .ret (I t9), .ret (.agg [I t8.1, I t8.2.1, I t8.2.2]), .ret (I t11), .br false, .br true, .br true, .no, .ret (I t15), .br false] = some (B false, [(decide (t15 ≤ (a10 * t2))) = false, inI64 (a10 * t2), Computes cx 193 [I (0 - t9)] (I t15), (!a17) = true, (decide (t7 > 0)) = true, (decide (t2 < 0)) = false, Computes cx 76 [.agg [I t8.1, I t8.2.1, I t8.2.2], .agg [I a4, I a5, I a6]] (I t11), Computes cx 74 [.agg [I a14, I a15, I a16], .agg [I t6.1, I t6.2.1, I t6.2.2]] (.agg [I t8.1, I t8.2.1, I t8.2.2]), inI64 (0 - t9), Computes cx 76 [.agg [I t8.1, I t8.2.1, I t8.2.2], .agg [I a7, I a8, I a9]] (I t9), Computes cx 74 [.agg [I a14, I a15, I a16], .agg [I t6.1, I t6.2.1, I t6.2.2]] (.agg [I t8.1, I t8.2.1, I t8.2.2]), Computes cx 76 [.agg [I t6.1, I t6.2.1, I t6.2.2], .agg [I t1.1, I t1.2.1, I t1.2.2]] (I t7), Computes cx 75 [.agg [.v (.string a0), I a1, I a2, I a3, I a4, I a5, I a6, I a7, I a8, I a9]] (.agg [I t1.1, I t1.2.1, I t1.2.2]), Computes cx 126 [.agg [I t4.1, I t4.2.1, I t4.2.2], .agg [I t5.1, I t5.2.1, I t5.2.2]] (.agg [I t6.1, I t6.2.1, I t6.2.2]), Computes cx 127 [I (-1), .agg [I a11, I a12, I a13]] (.agg [I t5.1, I t5.2.1, I t5.2.2]), Computes cx 127 [I a10, .agg [I a1, I a2, I a3]] (.agg [I t4.1, I t4.2.1, I t4.2.2]), (t2 == 0) = false, Computes cx 76 [.agg [I a14, I a15, I a16], .agg [I t1.1, I t1.2.1, I t1.2.2]] (I t2), Computes cx 75 [.agg [.v (.string a0), I a1, I a2, I a3, I a4, I a5, I a6, I a7, I a8, I a9]] (.agg [I t1.1, I t1.2.1, I t1.2.2])]) := by kernel_rfl
theorem e_ref04_Meets_12 (a0 : ByteArray) (a1 : Int) (a2 : Int) (a3 : Int) (a4 : Int) (a5 : Int) (a6 : Int) (a7 : Int) (a8 : Int) (a9 : Int) (a10 : Int) (a11 : Int) (a12 : Int) (a13 : Int) (a14 : Int) (a15 : Int) (a16 : Int) (a17 : Bool) (t1 : Int × Int × Int) (t2 : Int) (t4 : Int × Int × Int) (t5 : Int × Int × Int) (t6 : Int × Int × Int) (t7 : Int) (t8 : Int × Int × Int) (t9 : Int) (t11 : Int) : runFn true 100 cx 163 [.agg [.v (.string a0), I a1, I a2, I a3, I a4, I a5, I a6, I a7, I a8, I a9], I a10, .agg [I a11, I a12, I a13], .agg [I a14, I a15, I a16], B a17] [.ret (.agg [I t1.1, I t1.2.1, I t1.2.2]), .ret (I t2), .br false, .ret (.agg [I t4.1, I t4.2.1, I t4.2.2]), .ret (.agg [I t5.1, I t5.2.1, I t5.2.2]), .ret (.agg [I t6.1, I t6.2.1, I t6.2.2]), .ret (.agg [I t1.1, I t1.2.1, I t1.2.2]), .ret (I t7), .ret (.agg [I t8.1, I t8.2.1, I t8.2.2]), .ret (I t9), .ret (.agg [I t8.1, I t8.2.1, I t8.2.2]), .ret (I t11), .br false, .br false, .no, .no] = some (B false, [(decide (t7 > 0)) = false, (decide (t2 < 0)) = false, Computes cx 76 [.agg [I t8.1, I t8.2.1, I t8.2.2], .agg [I a4, I a5, I a6]] (I t11), Computes cx 74 [.agg [I a14, I a15, I a16], .agg [I t6.1, I t6.2.1, I t6.2.2]] (.agg [I t8.1, I t8.2.1, I t8.2.2]), inI64 (0 - t9), Computes cx 76 [.agg [I t8.1, I t8.2.1, I t8.2.2], .agg [I a7, I a8, I a9]] (I t9), Computes cx 74 [.agg [I a14, I a15, I a16], .agg [I t6.1, I t6.2.1, I t6.2.2]] (.agg [I t8.1, I t8.2.1, I t8.2.2]), Computes cx 76 [.agg [I t6.1, I t6.2.1, I t6.2.2], .agg [I t1.1, I t1.2.1, I t1.2.2]] (I t7), Computes cx 75 [.agg [.v (.string a0), I a1, I a2, I a3, I a4, I a5, I a6, I a7, I a8, I a9]] (.agg [I t1.1, I t1.2.1, I t1.2.2]), Computes cx 126 [.agg [I t4.1, I t4.2.1, I t4.2.2], .agg [I t5.1, I t5.2.1, I t5.2.2]] (.agg [I t6.1, I t6.2.1, I t6.2.2]), Computes cx 127 [I (-1), .agg [I a11, I a12, I a13]] (.agg [I t5.1, I t5.2.1, I t5.2.2]), Computes cx 127 [I a10, .agg [I a1, I a2, I a3]] (.agg [I t4.1, I t4.2.1, I t4.2.2]), (t2 == 0) = false, Computes cx 76 [.agg [I a14, I a15, I a16], .agg [I t1.1, I t1.2.1, I t1.2.2]] (I t2), Computes cx 75 [.agg [.v (.string a0), I a1, I a2, I a3, I a4, I a5, I a6, I a7, I a8, I a9]] (.agg [I t1.1, I t1.2.1, I t1.2.2])]) := by kernel_rfl
/- spillage/spillageref04.Meets: .agg [.v (.string a0), I a1, I a2, I a3, I a4, I a5, I a6, I a7, I a8, I a9], I a10, .agg [I a11, I a12, I a13], .agg [I a14, I a15, I a16], B a17 -/
def F_ref04_Meets (n : Nat) (a0 : ByteArray) (a1 : Int) (a2 : Int) (a3 : Int) (a4 : Int) (a5 : Int) (a6 : Int) (a7 : Int) (a8 : Int) (a9 : Int) (a10 : Int) (a11 : Int) (a12 : Int) (a13 : Int) (a14 : Int) (a15 : Int) (a16 : Int) (a17 : Bool) : Option (Bool) :=
  (F_ref04_Normal n a0 a1 a2 a3 a4 a5 a6 a7 a8 a9).bind fun t1 =>
  (F_ref04_Dot n a14 a15 a16 t1.1 t1.2.1 t1.2.2).bind fun t2 =>
  if t2 = 0 then
    some false
  else
  (F_ref04_times n a10 a1 a2 a3).bind fun t4 =>
  (F_ref04_times n (-1) a11 a12 a13).bind fun t5 =>
  (F_ref04_plus n t4.1 t4.2.1 t4.2.2 t5.1 t5.2.1 t5.2.2).bind fun t6 =>
  (F_ref04_Dot n t6.1 t6.2.1 t6.2.2 t1.1 t1.2.1 t1.2.2).bind fun t7 =>
  (F_ref04_Cross n a14 a15 a16 t6.1 t6.2.1 t6.2.2).bind fun t8 =>
  (F_ref04_Dot n t8.1 t8.2.1 t8.2.2 a7 a8 a9).bind fun t9 =>
  if inI64 (0 - t9) then
  (F_ref04_Dot n t8.1 t8.2.1 t8.2.2 a4 a5 a6).bind fun t11 =>
  if t2 < 0 then
    if inI64 (0 - t2) then
    if inI64 (0 - t7) then
    if (0 - t7) > 0 then
      if a17 = true then
        if (0 - t7) < (0 - t2) then
          (F_ref04_abs n (0 - t9)).bind fun t18 =>
          if inI64 (a10 * (0 - t2)) then
          if t18 ≤ (a10 * (0 - t2)) then
            (F_ref04_abs n t11).bind fun t21 =>
            some (decide (t21 ≤ (a10 * (0 - t2))))
          else
          some false
          else none
        else
        some false
      else
      (F_ref04_abs n (0 - t9)).bind fun t17 =>
      if inI64 (a10 * (0 - t2)) then
      if t17 ≤ (a10 * (0 - t2)) then
        (F_ref04_abs n t11).bind fun t20 =>
        some (decide (t20 ≤ (a10 * (0 - t2))))
      else
      some false
      else none
    else
    some false
    else none
    else none
  else
  if t7 > 0 then
    if a17 = true then
      if t7 < t2 then
        (F_ref04_abs n (0 - t9)).bind fun t16 =>
        if inI64 (a10 * t2) then
        if t16 ≤ (a10 * t2) then
          (F_ref04_abs n t11).bind fun t19 =>
          some (decide (t19 ≤ (a10 * t2)))
        else
        some false
        else none
      else
      some false
    else
    (F_ref04_abs n (0 - t9)).bind fun t15 =>
    if inI64 (a10 * t2) then
    if t15 ≤ (a10 * t2) then
      (F_ref04_abs n t11).bind fun t18 =>
      some (decide (t18 ≤ (a10 * t2)))
    else
    some false
    else none
  else
  some false
  else none
theorem c_ref04_Meets {n : Nat} {a0 : ByteArray} {a1 : Int} {a2 : Int} {a3 : Int} {a4 : Int} {a5 : Int} {a6 : Int} {a7 : Int} {a8 : Int} {a9 : Int} {a10 : Int} {a11 : Int} {a12 : Int} {a13 : Int} {a14 : Int} {a15 : Int} {a16 : Int} {a17 : Bool} {r : Bool} (h : F_ref04_Meets n a0 a1 a2 a3 a4 a5 a6 a7 a8 a9 a10 a11 a12 a13 a14 a15 a16 a17 = some r) : Computes cx 163 [.agg [.v (.string a0), I a1, I a2, I a3, I a4, I a5, I a6, I a7, I a8, I a9], I a10, .agg [I a11, I a12, I a13], .agg [I a14, I a15, I a16], B a17] (B r) := by
  unfold F_ref04_Meets at h
  obtain ⟨t1, h1, h⟩ := bnd_of h
  obtain ⟨t2, h2, h⟩ := bnd_of h
  by_cases h3 : t2 = 0
  · replace h := ite_t h h3
    replace h := Option.some.inj h
    subst h
    exact run (n := 100) (f := 163) (args := [.agg [.v (.string a0), I a1, I a2, I a3, I a4, I a5, I a6, I a7, I a8, I a9], I a10, .agg [I a11, I a12, I a13], .agg [I a14, I a15, I a16], B a17]) (orc := [.ret (.agg [I t1.1, I t1.2.1, I t1.2.2]), .ret (I t2), .br true]) (r := B false) (ob := [(t2 == 0) = true, Computes cx 76 [.agg [I a14, I a15, I a16], .agg [I t1.1, I t1.2.1, I t1.2.2]] (I t2), Computes cx 75 [.agg [.v (.string a0), I a1, I a2, I a3, I a4, I a5, I a6, I a7, I a8, I a9]] (.agg [I t1.1, I t1.2.1, I t1.2.2])]) (e_ref04_Meets_0 a0 a1 a2 a3 a4 a5 a6 a7 a8 a9 a10 a11 a12 a13 a14 a15 a16 a17 t1 t2) ⟨(eqt h3), (c_ref04_Dot h2), (c_ref04_Normal h1), trivial⟩
  · replace h := ite_f h h3
    obtain ⟨t4, h4, h⟩ := bnd_of h
    obtain ⟨t5, h5, h⟩ := bnd_of h
    obtain ⟨t6, h6, h⟩ := bnd_of h
    obtain ⟨t7, h7, h⟩ := bnd_of h
    obtain ⟨t8, h8, h⟩ := bnd_of h
    obtain ⟨t9, h9, h⟩ := bnd_of h
    obtain ⟨h10, h⟩ := grd_of h
    obtain ⟨t11, h11, h⟩ := bnd_of h
    by_cases h12 : t2 < 0
    · replace h := ite_t h h12
      obtain ⟨h13, h⟩ := grd_of h
      obtain ⟨h14, h⟩ := grd_of h
      by_cases h15 : (0 - t7) > 0
      · replace h := ite_t h h15
        by_cases h16 : a17 = true
        · replace h := ite_t h h16
          by_cases h17 : (0 - t7) < (0 - t2)
          · replace h := ite_t h h17
            obtain ⟨t18, h18, h⟩ := bnd_of h
            obtain ⟨h19, h⟩ := grd_of h
            by_cases h20 : t18 ≤ (a10 * (0 - t2))
            · replace h := ite_t h h20
              obtain ⟨t21, h21, h⟩ := bnd_of h
              replace h := Option.some.inj h
              subst h
              exact run (n := 100) (f := 163) (args := [.agg [.v (.string a0), I a1, I a2, I a3, I a4, I a5, I a6, I a7, I a8, I a9], I a10, .agg [I a11, I a12, I a13], .agg [I a14, I a15, I a16], B a17]) (orc := [.ret (.agg [I t1.1, I t1.2.1, I t1.2.2]), .ret (I t2), .br false, .ret (.agg [I t4.1, I t4.2.1, I t4.2.2]), .ret (.agg [I t5.1, I t5.2.1, I t5.2.2]), .ret (.agg [I t6.1, I t6.2.1, I t6.2.2]), .ret (.agg [I t1.1, I t1.2.1, I t1.2.2]), .ret (I t7), .ret (.agg [I t8.1, I t8.2.1, I t8.2.2]), .ret (I t9), .ret (.agg [I t8.1, I t8.2.1, I t8.2.2]), .ret (I t11), .br true, .br true, .br false, .br true, .ret (I t18), .br true, .ret (I t21)]) (r := B (decide (t21 ≤ (a10 * (0 - t2))))) (ob := [inI64 (a10 * (0 - t2)), Computes cx 193 [I t11] (I t21), (decide (t18 ≤ (a10 * (0 - t2)))) = true, inI64 (a10 * (0 - t2)), Computes cx 193 [I (0 - t9)] (I t18), (decide ((0 - t7) < (0 - t2))) = true, (!a17) = false, (decide ((0 - t7) > 0)) = true, inI64 (0 - t7), inI64 (0 - t2), (decide (t2 < 0)) = true, Computes cx 76 [.agg [I t8.1, I t8.2.1, I t8.2.2], .agg [I a4, I a5, I a6]] (I t11), Computes cx 74 [.agg [I a14, I a15, I a16], .agg [I t6.1, I t6.2.1, I t6.2.2]] (.agg [I t8.1, I t8.2.1, I t8.2.2]), inI64 (0 - t9), Computes cx 76 [.agg [I t8.1, I t8.2.1, I t8.2.2], .agg [I a7, I a8, I a9]] (I t9), Computes cx 74 [.agg [I a14, I a15, I a16], .agg [I t6.1, I t6.2.1, I t6.2.2]] (.agg [I t8.1, I t8.2.1, I t8.2.2]), Computes cx 76 [.agg [I t6.1, I t6.2.1, I t6.2.2], .agg [I t1.1, I t1.2.1, I t1.2.2]] (I t7), Computes cx 75 [.agg [.v (.string a0), I a1, I a2, I a3, I a4, I a5, I a6, I a7, I a8, I a9]] (.agg [I t1.1, I t1.2.1, I t1.2.2]), Computes cx 126 [.agg [I t4.1, I t4.2.1, I t4.2.2], .agg [I t5.1, I t5.2.1, I t5.2.2]] (.agg [I t6.1, I t6.2.1, I t6.2.2]), Computes cx 127 [I (-1), .agg [I a11, I a12, I a13]] (.agg [I t5.1, I t5.2.1, I t5.2.2]), Computes cx 127 [I a10, .agg [I a1, I a2, I a3]] (.agg [I t4.1, I t4.2.1, I t4.2.2]), (t2 == 0) = false, Computes cx 76 [.agg [I a14, I a15, I a16], .agg [I t1.1, I t1.2.1, I t1.2.2]] (I t2), Computes cx 75 [.agg [.v (.string a0), I a1, I a2, I a3, I a4, I a5, I a6, I a7, I a8, I a9]] (.agg [I t1.1, I t1.2.1, I t1.2.2])]) (e_ref04_Meets_1 a0 a1 a2 a3 a4 a5 a6 a7 a8 a9 a10 a11 a12 a13 a14 a15 a16 a17 t1 t2 t4 t5 t6 t7 t8 t9 t11 t18 t21) ⟨h19, (c_ref04_abs h21), (decide_eq_true h20), h19, (c_ref04_abs h18), (decide_eq_true h17), (notf h16), (decide_eq_true h15), h14, h13, (decide_eq_true h12), (c_ref04_Dot h11), (c_ref04_Cross h8), h10, (c_ref04_Dot h9), (c_ref04_Cross h8), (c_ref04_Dot h7), (c_ref04_Normal h1), (c_ref04_plus h6), (c_ref04_times h5), (c_ref04_times h4), (eqf h3), (c_ref04_Dot h2), (c_ref04_Normal h1), trivial⟩
            · replace h := ite_f h h20
              replace h := Option.some.inj h
              subst h
              exact run (n := 100) (f := 163) (args := [.agg [.v (.string a0), I a1, I a2, I a3, I a4, I a5, I a6, I a7, I a8, I a9], I a10, .agg [I a11, I a12, I a13], .agg [I a14, I a15, I a16], B a17]) (orc := [.ret (.agg [I t1.1, I t1.2.1, I t1.2.2]), .ret (I t2), .br false, .ret (.agg [I t4.1, I t4.2.1, I t4.2.2]), .ret (.agg [I t5.1, I t5.2.1, I t5.2.2]), .ret (.agg [I t6.1, I t6.2.1, I t6.2.2]), .ret (.agg [I t1.1, I t1.2.1, I t1.2.2]), .ret (I t7), .ret (.agg [I t8.1, I t8.2.1, I t8.2.2]), .ret (I t9), .ret (.agg [I t8.1, I t8.2.1, I t8.2.2]), .ret (I t11), .br true, .br true, .br false, .br true, .ret (I t18), .br false]) (r := B false) (ob := [(decide (t18 ≤ (a10 * (0 - t2)))) = false, inI64 (a10 * (0 - t2)), Computes cx 193 [I (0 - t9)] (I t18), (decide ((0 - t7) < (0 - t2))) = true, (!a17) = false, (decide ((0 - t7) > 0)) = true, inI64 (0 - t7), inI64 (0 - t2), (decide (t2 < 0)) = true, Computes cx 76 [.agg [I t8.1, I t8.2.1, I t8.2.2], .agg [I a4, I a5, I a6]] (I t11), Computes cx 74 [.agg [I a14, I a15, I a16], .agg [I t6.1, I t6.2.1, I t6.2.2]] (.agg [I t8.1, I t8.2.1, I t8.2.2]), inI64 (0 - t9), Computes cx 76 [.agg [I t8.1, I t8.2.1, I t8.2.2], .agg [I a7, I a8, I a9]] (I t9), Computes cx 74 [.agg [I a14, I a15, I a16], .agg [I t6.1, I t6.2.1, I t6.2.2]] (.agg [I t8.1, I t8.2.1, I t8.2.2]), Computes cx 76 [.agg [I t6.1, I t6.2.1, I t6.2.2], .agg [I t1.1, I t1.2.1, I t1.2.2]] (I t7), Computes cx 75 [.agg [.v (.string a0), I a1, I a2, I a3, I a4, I a5, I a6, I a7, I a8, I a9]] (.agg [I t1.1, I t1.2.1, I t1.2.2]), Computes cx 126 [.agg [I t4.1, I t4.2.1, I t4.2.2], .agg [I t5.1, I t5.2.1, I t5.2.2]] (.agg [I t6.1, I t6.2.1, I t6.2.2]), Computes cx 127 [I (-1), .agg [I a11, I a12, I a13]] (.agg [I t5.1, I t5.2.1, I t5.2.2]), Computes cx 127 [I a10, .agg [I a1, I a2, I a3]] (.agg [I t4.1, I t4.2.1, I t4.2.2]), (t2 == 0) = false, Computes cx 76 [.agg [I a14, I a15, I a16], .agg [I t1.1, I t1.2.1, I t1.2.2]] (I t2), Computes cx 75 [.agg [.v (.string a0), I a1, I a2, I a3, I a4, I a5, I a6, I a7, I a8, I a9]] (.agg [I t1.1, I t1.2.1, I t1.2.2])]) (e_ref04_Meets_2 a0 a1 a2 a3 a4 a5 a6 a7 a8 a9 a10 a11 a12 a13 a14 a15 a16 a17 t1 t2 t4 t5 t6 t7 t8 t9 t11 t18) ⟨(decide_eq_false h20), h19, (c_ref04_abs h18), (decide_eq_true h17), (notf h16), (decide_eq_true h15), h14, h13, (decide_eq_true h12), (c_ref04_Dot h11), (c_ref04_Cross h8), h10, (c_ref04_Dot h9), (c_ref04_Cross h8), (c_ref04_Dot h7), (c_ref04_Normal h1), (c_ref04_plus h6), (c_ref04_times h5), (c_ref04_times h4), (eqf h3), (c_ref04_Dot h2), (c_ref04_Normal h1), trivial⟩
          · replace h := ite_f h h17
            replace h := Option.some.inj h
            subst h
            exact run (n := 100) (f := 163) (args := [.agg [.v (.string a0), I a1, I a2, I a3, I a4, I a5, I a6, I a7, I a8, I a9], I a10, .agg [I a11, I a12, I a13], .agg [I a14, I a15, I a16], B a17]) (orc := [.ret (.agg [I t1.1, I t1.2.1, I t1.2.2]), .ret (I t2), .br false, .ret (.agg [I t4.1, I t4.2.1, I t4.2.2]), .ret (.agg [I t5.1, I t5.2.1, I t5.2.2]), .ret (.agg [I t6.1, I t6.2.1, I t6.2.2]), .ret (.agg [I t1.1, I t1.2.1, I t1.2.2]), .ret (I t7), .ret (.agg [I t8.1, I t8.2.1, I t8.2.2]), .ret (I t9), .ret (.agg [I t8.1, I t8.2.1, I t8.2.2]), .ret (I t11), .br true, .br true, .br false, .br false, .no]) (r := B false) (ob := [(decide ((0 - t7) < (0 - t2))) = false, (!a17) = false, (decide ((0 - t7) > 0)) = true, inI64 (0 - t7), inI64 (0 - t2), (decide (t2 < 0)) = true, Computes cx 76 [.agg [I t8.1, I t8.2.1, I t8.2.2], .agg [I a4, I a5, I a6]] (I t11), Computes cx 74 [.agg [I a14, I a15, I a16], .agg [I t6.1, I t6.2.1, I t6.2.2]] (.agg [I t8.1, I t8.2.1, I t8.2.2]), inI64 (0 - t9), Computes cx 76 [.agg [I t8.1, I t8.2.1, I t8.2.2], .agg [I a7, I a8, I a9]] (I t9), Computes cx 74 [.agg [I a14, I a15, I a16], .agg [I t6.1, I t6.2.1, I t6.2.2]] (.agg [I t8.1, I t8.2.1, I t8.2.2]), Computes cx 76 [.agg [I t6.1, I t6.2.1, I t6.2.2], .agg [I t1.1, I t1.2.1, I t1.2.2]] (I t7), Computes cx 75 [.agg [.v (.string a0), I a1, I a2, I a3, I a4, I a5, I a6, I a7, I a8, I a9]] (.agg [I t1.1, I t1.2.1, I t1.2.2]), Computes cx 126 [.agg [I t4.1, I t4.2.1, I t4.2.2], .agg [I t5.1, I t5.2.1, I t5.2.2]] (.agg [I t6.1, I t6.2.1, I t6.2.2]), Computes cx 127 [I (-1), .agg [I a11, I a12, I a13]] (.agg [I t5.1, I t5.2.1, I t5.2.2]), Computes cx 127 [I a10, .agg [I a1, I a2, I a3]] (.agg [I t4.1, I t4.2.1, I t4.2.2]), (t2 == 0) = false, Computes cx 76 [.agg [I a14, I a15, I a16], .agg [I t1.1, I t1.2.1, I t1.2.2]] (I t2), Computes cx 75 [.agg [.v (.string a0), I a1, I a2, I a3, I a4, I a5, I a6, I a7, I a8, I a9]] (.agg [I t1.1, I t1.2.1, I t1.2.2])]) (e_ref04_Meets_3 a0 a1 a2 a3 a4 a5 a6 a7 a8 a9 a10 a11 a12 a13 a14 a15 a16 a17 t1 t2 t4 t5 t6 t7 t8 t9 t11) ⟨(decide_eq_false h17), (notf h16), (decide_eq_true h15), h14, h13, (decide_eq_true h12), (c_ref04_Dot h11), (c_ref04_Cross h8), h10, (c_ref04_Dot h9), (c_ref04_Cross h8), (c_ref04_Dot h7), (c_ref04_Normal h1), (c_ref04_plus h6), (c_ref04_times h5), (c_ref04_times h4), (eqf h3), (c_ref04_Dot h2), (c_ref04_Normal h1), trivial⟩
        · replace h := ite_f h h16
          obtain ⟨t17, h17, h⟩ := bnd_of h
          obtain ⟨h18, h⟩ := grd_of h
          by_cases h19 : t17 ≤ (a10 * (0 - t2))
          · replace h := ite_t h h19
            obtain ⟨t20, h20, h⟩ := bnd_of h
            replace h := Option.some.inj h
            subst h
            exact run (n := 100) (f := 163) (args := [.agg [.v (.string a0), I a1, I a2, I a3, I a4, I a5, I a6, I a7, I a8, I a9], I a10, .agg [I a11, I a12, I a13], .agg [I a14, I a15, I a16], B a17]) (orc := [.ret (.agg [I t1.1, I t1.2.1, I t1.2.2]), .ret (I t2), .br false, .ret (.agg [I t4.1, I t4.2.1, I t4.2.2]), .ret (.agg [I t5.1, I t5.2.1, I t5.2.2]), .ret (.agg [I t6.1, I t6.2.1, I t6.2.2]), .ret (.agg [I t1.1, I t1.2.1, I t1.2.2]), .ret (I t7), .ret (.agg [I t8.1, I t8.2.1, I t8.2.2]), .ret (I t9), .ret (.agg [I t8.1, I t8.2.1, I t8.2.2]), .ret (I t11), .br true, .br true, .br true, .no, .ret (I t17), .br true, .ret (I t20)]) (r := B (decide (t20 ≤ (a10 * (0 - t2))))) (ob := [inI64 (a10 * (0 - t2)), Computes cx 193 [I t11] (I t20), (decide (t17 ≤ (a10 * (0 - t2)))) = true, inI64 (a10 * (0 - t2)), Computes cx 193 [I (0 - t9)] (I t17), (!a17) = true, (decide ((0 - t7) > 0)) = true, inI64 (0 - t7), inI64 (0 - t2), (decide (t2 < 0)) = true, Computes cx 76 [.agg [I t8.1, I t8.2.1, I t8.2.2], .agg [I a4, I a5, I a6]] (I t11), Computes cx 74 [.agg [I a14, I a15, I a16], .agg [I t6.1, I t6.2.1, I t6.2.2]] (.agg [I t8.1, I t8.2.1, I t8.2.2]), inI64 (0 - t9), Computes cx 76 [.agg [I t8.1, I t8.2.1, I t8.2.2], .agg [I a7, I a8, I a9]] (I t9), Computes cx 74 [.agg [I a14, I a15, I a16], .agg [I t6.1, I t6.2.1, I t6.2.2]] (.agg [I t8.1, I t8.2.1, I t8.2.2]), Computes cx 76 [.agg [I t6.1, I t6.2.1, I t6.2.2], .agg [I t1.1, I t1.2.1, I t1.2.2]] (I t7), Computes cx 75 [.agg [.v (.string a0), I a1, I a2, I a3, I a4, I a5, I a6, I a7, I a8, I a9]] (.agg [I t1.1, I t1.2.1, I t1.2.2]), Computes cx 126 [.agg [I t4.1, I t4.2.1, I t4.2.2], .agg [I t5.1, I t5.2.1, I t5.2.2]] (.agg [I t6.1, I t6.2.1, I t6.2.2]), Computes cx 127 [I (-1), .agg [I a11, I a12, I a13]] (.agg [I t5.1, I t5.2.1, I t5.2.2]), Computes cx 127 [I a10, .agg [I a1, I a2, I a3]] (.agg [I t4.1, I t4.2.1, I t4.2.2]), (t2 == 0) = false, Computes cx 76 [.agg [I a14, I a15, I a16], .agg [I t1.1, I t1.2.1, I t1.2.2]] (I t2), Computes cx 75 [.agg [.v (.string a0), I a1, I a2, I a3, I a4, I a5, I a6, I a7, I a8, I a9]] (.agg [I t1.1, I t1.2.1, I t1.2.2])]) (e_ref04_Meets_4 a0 a1 a2 a3 a4 a5 a6 a7 a8 a9 a10 a11 a12 a13 a14 a15 a16 a17 t1 t2 t4 t5 t6 t7 t8 t9 t11 t17 t20) ⟨h18, (c_ref04_abs h20), (decide_eq_true h19), h18, (c_ref04_abs h17), (nott (bfalse h16)), (decide_eq_true h15), h14, h13, (decide_eq_true h12), (c_ref04_Dot h11), (c_ref04_Cross h8), h10, (c_ref04_Dot h9), (c_ref04_Cross h8), (c_ref04_Dot h7), (c_ref04_Normal h1), (c_ref04_plus h6), (c_ref04_times h5), (c_ref04_times h4), (eqf h3), (c_ref04_Dot h2), (c_ref04_Normal h1), trivial⟩
          · replace h := ite_f h h19
            replace h := Option.some.inj h
            subst h
            exact run (n := 100) (f := 163) (args := [.agg [.v (.string a0), I a1, I a2, I a3, I a4, I a5, I a6, I a7, I a8, I a9], I a10, .agg [I a11, I a12, I a13], .agg [I a14, I a15, I a16], B a17]) (orc := [.ret (.agg [I t1.1, I t1.2.1, I t1.2.2]), .ret (I t2), .br false, .ret (.agg [I t4.1, I t4.2.1, I t4.2.2]), .ret (.agg [I t5.1, I t5.2.1, I t5.2.2]), .ret (.agg [I t6.1, I t6.2.1, I t6.2.2]), .ret (.agg [I t1.1, I t1.2.1, I t1.2.2]), .ret (I t7), .ret (.agg [I t8.1, I t8.2.1, I t8.2.2]), .ret (I t9), .ret (.agg [I t8.1, I t8.2.1, I t8.2.2]), .ret (I t11), .br true, .br true, .br true, .no, .ret (I t17), .br false]) (r := B false) (ob := [(decide (t17 ≤ (a10 * (0 - t2)))) = false, inI64 (a10 * (0 - t2)), Computes cx 193 [I (0 - t9)] (I t17), (!a17) = true, (decide ((0 - t7) > 0)) = true, inI64 (0 - t7), inI64 (0 - t2), (decide (t2 < 0)) = true, Computes cx 76 [.agg [I t8.1, I t8.2.1, I t8.2.2], .agg [I a4, I a5, I a6]] (I t11), Computes cx 74 [.agg [I a14, I a15, I a16], .agg [I t6.1, I t6.2.1, I t6.2.2]] (.agg [I t8.1, I t8.2.1, I t8.2.2]), inI64 (0 - t9), Computes cx 76 [.agg [I t8.1, I t8.2.1, I t8.2.2], .agg [I a7, I a8, I a9]] (I t9), Computes cx 74 [.agg [I a14, I a15, I a16], .agg [I t6.1, I t6.2.1, I t6.2.2]] (.agg [I t8.1, I t8.2.1, I t8.2.2]), Computes cx 76 [.agg [I t6.1, I t6.2.1, I t6.2.2], .agg [I t1.1, I t1.2.1, I t1.2.2]] (I t7), Computes cx 75 [.agg [.v (.string a0), I a1, I a2, I a3, I a4, I a5, I a6, I a7, I a8, I a9]] (.agg [I t1.1, I t1.2.1, I t1.2.2]), Computes cx 126 [.agg [I t4.1, I t4.2.1, I t4.2.2], .agg [I t5.1, I t5.2.1, I t5.2.2]] (.agg [I t6.1, I t6.2.1, I t6.2.2]), Computes cx 127 [I (-1), .agg [I a11, I a12, I a13]] (.agg [I t5.1, I t5.2.1, I t5.2.2]), Computes cx 127 [I a10, .agg [I a1, I a2, I a3]] (.agg [I t4.1, I t4.2.1, I t4.2.2]), (t2 == 0) = false, Computes cx 76 [.agg [I a14, I a15, I a16], .agg [I t1.1, I t1.2.1, I t1.2.2]] (I t2), Computes cx 75 [.agg [.v (.string a0), I a1, I a2, I a3, I a4, I a5, I a6, I a7, I a8, I a9]] (.agg [I t1.1, I t1.2.1, I t1.2.2])]) (e_ref04_Meets_5 a0 a1 a2 a3 a4 a5 a6 a7 a8 a9 a10 a11 a12 a13 a14 a15 a16 a17 t1 t2 t4 t5 t6 t7 t8 t9 t11 t17) ⟨(decide_eq_false h19), h18, (c_ref04_abs h17), (nott (bfalse h16)), (decide_eq_true h15), h14, h13, (decide_eq_true h12), (c_ref04_Dot h11), (c_ref04_Cross h8), h10, (c_ref04_Dot h9), (c_ref04_Cross h8), (c_ref04_Dot h7), (c_ref04_Normal h1), (c_ref04_plus h6), (c_ref04_times h5), (c_ref04_times h4), (eqf h3), (c_ref04_Dot h2), (c_ref04_Normal h1), trivial⟩
      · replace h := ite_f h h15
        replace h := Option.some.inj h
        subst h
        exact run (n := 100) (f := 163) (args := [.agg [.v (.string a0), I a1, I a2, I a3, I a4, I a5, I a6, I a7, I a8, I a9], I a10, .agg [I a11, I a12, I a13], .agg [I a14, I a15, I a16], B a17]) (orc := [.ret (.agg [I t1.1, I t1.2.1, I t1.2.2]), .ret (I t2), .br false, .ret (.agg [I t4.1, I t4.2.1, I t4.2.2]), .ret (.agg [I t5.1, I t5.2.1, I t5.2.2]), .ret (.agg [I t6.1, I t6.2.1, I t6.2.2]), .ret (.agg [I t1.1, I t1.2.1, I t1.2.2]), .ret (I t7), .ret (.agg [I t8.1, I t8.2.1, I t8.2.2]), .ret (I t9), .ret (.agg [I t8.1, I t8.2.1, I t8.2.2]), .ret (I t11), .br true, .br false, .no, .no]) (r := B false) (ob := [(decide ((0 - t7) > 0)) = false, inI64 (0 - t7), inI64 (0 - t2), (decide (t2 < 0)) = true, Computes cx 76 [.agg [I t8.1, I t8.2.1, I t8.2.2], .agg [I a4, I a5, I a6]] (I t11), Computes cx 74 [.agg [I a14, I a15, I a16], .agg [I t6.1, I t6.2.1, I t6.2.2]] (.agg [I t8.1, I t8.2.1, I t8.2.2]), inI64 (0 - t9), Computes cx 76 [.agg [I t8.1, I t8.2.1, I t8.2.2], .agg [I a7, I a8, I a9]] (I t9), Computes cx 74 [.agg [I a14, I a15, I a16], .agg [I t6.1, I t6.2.1, I t6.2.2]] (.agg [I t8.1, I t8.2.1, I t8.2.2]), Computes cx 76 [.agg [I t6.1, I t6.2.1, I t6.2.2], .agg [I t1.1, I t1.2.1, I t1.2.2]] (I t7), Computes cx 75 [.agg [.v (.string a0), I a1, I a2, I a3, I a4, I a5, I a6, I a7, I a8, I a9]] (.agg [I t1.1, I t1.2.1, I t1.2.2]), Computes cx 126 [.agg [I t4.1, I t4.2.1, I t4.2.2], .agg [I t5.1, I t5.2.1, I t5.2.2]] (.agg [I t6.1, I t6.2.1, I t6.2.2]), Computes cx 127 [I (-1), .agg [I a11, I a12, I a13]] (.agg [I t5.1, I t5.2.1, I t5.2.2]), Computes cx 127 [I a10, .agg [I a1, I a2, I a3]] (.agg [I t4.1, I t4.2.1, I t4.2.2]), (t2 == 0) = false, Computes cx 76 [.agg [I a14, I a15, I a16], .agg [I t1.1, I t1.2.1, I t1.2.2]] (I t2), Computes cx 75 [.agg [.v (.string a0), I a1, I a2, I a3, I a4, I a5, I a6, I a7, I a8, I a9]] (.agg [I t1.1, I t1.2.1, I t1.2.2])]) (e_ref04_Meets_6 a0 a1 a2 a3 a4 a5 a6 a7 a8 a9 a10 a11 a12 a13 a14 a15 a16 a17 t1 t2 t4 t5 t6 t7 t8 t9 t11) ⟨(decide_eq_false h15), h14, h13, (decide_eq_true h12), (c_ref04_Dot h11), (c_ref04_Cross h8), h10, (c_ref04_Dot h9), (c_ref04_Cross h8), (c_ref04_Dot h7), (c_ref04_Normal h1), (c_ref04_plus h6), (c_ref04_times h5), (c_ref04_times h4), (eqf h3), (c_ref04_Dot h2), (c_ref04_Normal h1), trivial⟩
    · replace h := ite_f h h12
      by_cases h13 : t7 > 0
      · replace h := ite_t h h13
        by_cases h14 : a17 = true
        · replace h := ite_t h h14
          by_cases h15 : t7 < t2
          · replace h := ite_t h h15
            obtain ⟨t16, h16, h⟩ := bnd_of h
            obtain ⟨h17, h⟩ := grd_of h
            by_cases h18 : t16 ≤ (a10 * t2)
            · replace h := ite_t h h18
              obtain ⟨t19, h19, h⟩ := bnd_of h
              replace h := Option.some.inj h
              subst h
              exact run (n := 100) (f := 163) (args := [.agg [.v (.string a0), I a1, I a2, I a3, I a4, I a5, I a6, I a7, I a8, I a9], I a10, .agg [I a11, I a12, I a13], .agg [I a14, I a15, I a16], B a17]) (orc := [.ret (.agg [I t1.1, I t1.2.1, I t1.2.2]), .ret (I t2), .br false, .ret (.agg [I t4.1, I t4.2.1, I t4.2.2]), .ret (.agg [I t5.1, I t5.2.1, I t5.2.2]), .ret (.agg [I t6.1, I t6.2.1, I t6.2.2]), .ret (.agg [I t1.1, I t1.2.1, I t1.2.2]), .ret (I t7), .ret (.agg [I t8.1, I t8.2.1, I t8.2.2]), .ret (I t9), .ret (.agg [I t8.1, I t8.2.1, I t8.2.2]), .ret (I t11), .br false, .br true, .br false, .br true, .ret (I t16), .br true, .ret (I t19)]) (r := B (decide (t19 ≤ (a10 * t2)))) (ob := [inI64 (a10 * t2), Computes cx 193 [I t11] (I t19), (decide (t16 ≤ (a10 * t2))) = true, inI64 (a10 * t2), Computes cx 193 [I (0 - t9)] (I t16), (decide (t7 < t2)) = true, (!a17) = false, (decide (t7 > 0)) = true, (decide (t2 < 0)) = false, Computes cx 76 [.agg [I t8.1, I t8.2.1, I t8.2.2], .agg [I a4, I a5, I a6]] (I t11), Computes cx 74 [.agg [I a14, I a15, I a16], .agg [I t6.1, I t6.2.1, I t6.2.2]] (.agg [I t8.1, I t8.2.1, I t8.2.2]), inI64 (0 - t9), Computes cx 76 [.agg [I t8.1, I t8.2.1, I t8.2.2], .agg [I a7, I a8, I a9]] (I t9), Computes cx 74 [.agg [I a14, I a15, I a16], .agg [I t6.1, I t6.2.1, I t6.2.2]] (.agg [I t8.1, I t8.2.1, I t8.2.2]), Computes cx 76 [.agg [I t6.1, I t6.2.1, I t6.2.2], .agg [I t1.1, I t1.2.1, I t1.2.2]] (I t7), Computes cx 75 [.agg [.v (.string a0), I a1, I a2, I a3, I a4, I a5, I a6, I a7, I a8, I a9]] (.agg [I t1.1, I t1.2.1, I t1.2.2]), Computes cx 126 [.agg [I t4.1, I t4.2.1, I t4.2.2], .agg [I t5.1, I t5.2.1, I t5.2.2]] (.agg [I t6.1, I t6.2.1, I t6.2.2]), Computes cx 127 [I (-1), .agg [I a11, I a12, I a13]] (.agg [I t5.1, I t5.2.1, I t5.2.2]), Computes cx 127 [I a10, .agg [I a1, I a2, I a3]] (.agg [I t4.1, I t4.2.1, I t4.2.2]), (t2 == 0) = false, Computes cx 76 [.agg [I a14, I a15, I a16], .agg [I t1.1, I t1.2.1, I t1.2.2]] (I t2), Computes cx 75 [.agg [.v (.string a0), I a1, I a2, I a3, I a4, I a5, I a6, I a7, I a8, I a9]] (.agg [I t1.1, I t1.2.1, I t1.2.2])]) (e_ref04_Meets_7 a0 a1 a2 a3 a4 a5 a6 a7 a8 a9 a10 a11 a12 a13 a14 a15 a16 a17 t1 t2 t4 t5 t6 t7 t8 t9 t11 t16 t19) ⟨h17, (c_ref04_abs h19), (decide_eq_true h18), h17, (c_ref04_abs h16), (decide_eq_true h15), (notf h14), (decide_eq_true h13), (decide_eq_false h12), (c_ref04_Dot h11), (c_ref04_Cross h8), h10, (c_ref04_Dot h9), (c_ref04_Cross h8), (c_ref04_Dot h7), (c_ref04_Normal h1), (c_ref04_plus h6), (c_ref04_times h5), (c_ref04_times h4), (eqf h3), (c_ref04_Dot h2), (c_ref04_Normal h1), trivial⟩
            · replace h := ite_f h h18
              replace h := Option.some.inj h
              subst h
              exact run (n := 100) (f := 163) (args := [.agg [.v (.string a0), I a1, I a2, I a3, I a4, I a5, I a6, I a7, I a8, I a9], I a10, .agg [I a11, I a12, I a13], .agg [I a14, I a15, I a16], B a17]) (orc := [.ret (.agg [I t1.1, I t1.2.1, I t1.2.2]), .ret (I t2), .br false, .ret (.agg [I t4.1, I t4.2.1, I t4.2.2]), .ret (.agg [I t5.1, I t5.2.1, I t5.2.2]), .ret (.agg [I t6.1, I t6.2.1, I t6.2.2]), .ret (.agg [I t1.1, I t1.2.1, I t1.2.2]), .ret (I t7), .ret (.agg [I t8.1, I t8.2.1, I t8.2.2]), .ret (I t9), .ret (.agg [I t8.1, I t8.2.1, I t8.2.2]), .ret (I t11), .br false, .br true, .br false, .br true, .ret (I t16), .br false]) (r := B false) (ob := [(decide (t16 ≤ (a10 * t2))) = false, inI64 (a10 * t2), Computes cx 193 [I (0 - t9)] (I t16), (decide (t7 < t2)) = true, (!a17) = false, (decide (t7 > 0)) = true, (decide (t2 < 0)) = false, Computes cx 76 [.agg [I t8.1, I t8.2.1, I t8.2.2], .agg [I a4, I a5, I a6]] (I t11), Computes cx 74 [.agg [I a14, I a15, I a16], .agg [I t6.1, I t6.2.1, I t6.2.2]] (.agg [I t8.1, I t8.2.1, I t8.2.2]), inI64 (0 - t9), Computes cx 76 [.agg [I t8.1, I t8.2.1, I t8.2.2], .agg [I a7, I a8, I a9]] (I t9), Computes cx 74 [.agg [I a14, I a15, I a16], .agg [I t6.1, I t6.2.1, I t6.2.2]] (.agg [I t8.1, I t8.2.1, I t8.2.2]), Computes cx 76 [.agg [I t6.1, I t6.2.1, I t6.2.2], .agg [I t1.1, I t1.2.1, I t1.2.2]] (I t7), Computes cx 75 [.agg [.v (.string a0), I a1, I a2, I a3, I a4, I a5, I a6, I a7, I a8, I a9]] (.agg [I t1.1, I t1.2.1, I t1.2.2]), Computes cx 126 [.agg [I t4.1, I t4.2.1, I t4.2.2], .agg [I t5.1, I t5.2.1, I t5.2.2]] (.agg [I t6.1, I t6.2.1, I t6.2.2]), Computes cx 127 [I (-1), .agg [I a11, I a12, I a13]] (.agg [I t5.1, I t5.2.1, I t5.2.2]), Computes cx 127 [I a10, .agg [I a1, I a2, I a3]] (.agg [I t4.1, I t4.2.1, I t4.2.2]), (t2 == 0) = false, Computes cx 76 [.agg [I a14, I a15, I a16], .agg [I t1.1, I t1.2.1, I t1.2.2]] (I t2), Computes cx 75 [.agg [.v (.string a0), I a1, I a2, I a3, I a4, I a5, I a6, I a7, I a8, I a9]] (.agg [I t1.1, I t1.2.1, I t1.2.2])]) (e_ref04_Meets_8 a0 a1 a2 a3 a4 a5 a6 a7 a8 a9 a10 a11 a12 a13 a14 a15 a16 a17 t1 t2 t4 t5 t6 t7 t8 t9 t11 t16) ⟨(decide_eq_false h18), h17, (c_ref04_abs h16), (decide_eq_true h15), (notf h14), (decide_eq_true h13), (decide_eq_false h12), (c_ref04_Dot h11), (c_ref04_Cross h8), h10, (c_ref04_Dot h9), (c_ref04_Cross h8), (c_ref04_Dot h7), (c_ref04_Normal h1), (c_ref04_plus h6), (c_ref04_times h5), (c_ref04_times h4), (eqf h3), (c_ref04_Dot h2), (c_ref04_Normal h1), trivial⟩
          · replace h := ite_f h h15
            replace h := Option.some.inj h
            subst h
            exact run (n := 100) (f := 163) (args := [.agg [.v (.string a0), I a1, I a2, I a3, I a4, I a5, I a6, I a7, I a8, I a9], I a10, .agg [I a11, I a12, I a13], .agg [I a14, I a15, I a16], B a17]) (orc := [.ret (.agg [I t1.1, I t1.2.1, I t1.2.2]), .ret (I t2), .br false, .ret (.agg [I t4.1, I t4.2.1, I t4.2.2]), .ret (.agg [I t5.1, I t5.2.1, I t5.2.2]), .ret (.agg [I t6.1, I t6.2.1, I t6.2.2]), .ret (.agg [I t1.1, I t1.2.1, I t1.2.2]), .ret (I t7), .ret (.agg [I t8.1, I t8.2.1, I t8.2.2]), .ret (I t9), .ret (.agg [I t8.1, I t8.2.1, I t8.2.2]), .ret (I t11), .br false, .br true, .br false, .br false, .no]) (r := B false) (ob := [(decide (t7 < t2)) = false, (!a17) = false, (decide (t7 > 0)) = true, (decide (t2 < 0)) = false, Computes cx 76 [.agg [I t8.1, I t8.2.1, I t8.2.2], .agg [I a4, I a5, I a6]] (I t11), Computes cx 74 [.agg [I a14, I a15, I a16], .agg [I t6.1, I t6.2.1, I t6.2.2]] (.agg [I t8.1, I t8.2.1, I t8.2.2]), inI64 (0 - t9), Computes cx 76 [.agg [I t8.1, I t8.2.1, I t8.2.2], .agg [I a7, I a8, I a9]] (I t9), Computes cx 74 [.agg [I a14, I a15, I a16], .agg [I t6.1, I t6.2.1, I t6.2.2]] (.agg [I t8.1, I t8.2.1, I t8.2.2]), Computes cx 76 [.agg [I t6.1, I t6.2.1, I t6.2.2], .agg [I t1.1, I t1.2.1, I t1.2.2]] (I t7), Computes cx 75 [.agg [.v (.string a0), I a1, I a2, I a3, I a4, I a5, I a6, I a7, I a8, I a9]] (.agg [I t1.1, I t1.2.1, I t1.2.2]), Computes cx 126 [.agg [I t4.1, I t4.2.1, I t4.2.2], .agg [I t5.1, I t5.2.1, I t5.2.2]] (.agg [I t6.1, I t6.2.1, I t6.2.2]), Computes cx 127 [I (-1), .agg [I a11, I a12, I a13]] (.agg [I t5.1, I t5.2.1, I t5.2.2]), Computes cx 127 [I a10, .agg [I a1, I a2, I a3]] (.agg [I t4.1, I t4.2.1, I t4.2.2]), (t2 == 0) = false, Computes cx 76 [.agg [I a14, I a15, I a16], .agg [I t1.1, I t1.2.1, I t1.2.2]] (I t2), Computes cx 75 [.agg [.v (.string a0), I a1, I a2, I a3, I a4, I a5, I a6, I a7, I a8, I a9]] (.agg [I t1.1, I t1.2.1, I t1.2.2])]) (e_ref04_Meets_9 a0 a1 a2 a3 a4 a5 a6 a7 a8 a9 a10 a11 a12 a13 a14 a15 a16 a17 t1 t2 t4 t5 t6 t7 t8 t9 t11) ⟨(decide_eq_false h15), (notf h14), (decide_eq_true h13), (decide_eq_false h12), (c_ref04_Dot h11), (c_ref04_Cross h8), h10, (c_ref04_Dot h9), (c_ref04_Cross h8), (c_ref04_Dot h7), (c_ref04_Normal h1), (c_ref04_plus h6), (c_ref04_times h5), (c_ref04_times h4), (eqf h3), (c_ref04_Dot h2), (c_ref04_Normal h1), trivial⟩
        · replace h := ite_f h h14
          obtain ⟨t15, h15, h⟩ := bnd_of h
          obtain ⟨h16, h⟩ := grd_of h
          by_cases h17 : t15 ≤ (a10 * t2)
          · replace h := ite_t h h17
            obtain ⟨t18, h18, h⟩ := bnd_of h
            replace h := Option.some.inj h
            subst h
            exact run (n := 100) (f := 163) (args := [.agg [.v (.string a0), I a1, I a2, I a3, I a4, I a5, I a6, I a7, I a8, I a9], I a10, .agg [I a11, I a12, I a13], .agg [I a14, I a15, I a16], B a17]) (orc := [.ret (.agg [I t1.1, I t1.2.1, I t1.2.2]), .ret (I t2), .br false, .ret (.agg [I t4.1, I t4.2.1, I t4.2.2]), .ret (.agg [I t5.1, I t5.2.1, I t5.2.2]), .ret (.agg [I t6.1, I t6.2.1, I t6.2.2]), .ret (.agg [I t1.1, I t1.2.1, I t1.2.2]), .ret (I t7), .ret (.agg [I t8.1, I t8.2.1, I t8.2.2]), .ret (I t9), .ret (.agg [I t8.1, I t8.2.1, I t8.2.2]), .ret (I t11), .br false, .br true, .br true, .no, .ret (I t15), .br true, .ret (I t18)]) (r := B (decide (t18 ≤ (a10 * t2)))) (ob := [inI64 (a10 * t2), Computes cx 193 [I t11] (I t18), (decide (t15 ≤ (a10 * t2))) = true, inI64 (a10 * t2), Computes cx 193 [I (0 - t9)] (I t15), (!a17) = true, (decide (t7 > 0)) = true, (decide (t2 < 0)) = false, Computes cx 76 [.agg [I t8.1, I t8.2.1, I t8.2.2], .agg [I a4, I a5, I a6]] (I t11), Computes cx 74 [.agg [I a14, I a15, I a16], .agg [I t6.1, I t6.2.1, I t6.2.2]] (.agg [I t8.1, I t8.2.1, I t8.2.2]), inI64 (0 - t9), Computes cx 76 [.agg [I t8.1, I t8.2.1, I t8.2.2], .agg [I a7, I a8, I a9]] (I t9), Computes cx 74 [.agg [I a14, I a15, I a16], .agg [I t6.1, I t6.2.1, I t6.2.2]] (.agg [I t8.1, I t8.2.1, I t8.2.2]), Computes cx 76 [.agg [I t6.1, I t6.2.1, I t6.2.2], .agg [I t1.1, I t1.2.1, I t1.2.2]] (I t7), Computes cx 75 [.agg [.v (.string a0), I a1, I a2, I a3, I a4, I a5, I a6, I a7, I a8, I a9]] (.agg [I t1.1, I t1.2.1, I t1.2.2]), Computes cx 126 [.agg [I t4.1, I t4.2.1, I t4.2.2], .agg [I t5.1, I t5.2.1, I t5.2.2]] (.agg [I t6.1, I t6.2.1, I t6.2.2]), Computes cx 127 [I (-1), .agg [I a11, I a12, I a13]] (.agg [I t5.1, I t5.2.1, I t5.2.2]), Computes cx 127 [I a10, .agg [I a1, I a2, I a3]] (.agg [I t4.1, I t4.2.1, I t4.2.2]), (t2 == 0) = false, Computes cx 76 [.agg [I a14, I a15, I a16], .agg [I t1.1, I t1.2.1, I t1.2.2]] (I t2), Computes cx 75 [.agg [.v (.string a0), I a1, I a2, I a3, I a4, I a5, I a6, I a7, I a8, I a9]] (.agg [I t1.1, I t1.2.1, I t1.2.2])]) (e_ref04_Meets_10 a0 a1 a2 a3 a4 a5 a6 a7 a8 a9 a10 a11 a12 a13 a14 a15 a16 a17 t1 t2 t4 t5 t6 t7 t8 t9 t11 t15 t18) ⟨h16, (c_ref04_abs h18), (decide_eq_true h17), h16, (c_ref04_abs h15), (nott (bfalse h14)), (decide_eq_true h13), (decide_eq_false h12), (c_ref04_Dot h11), (c_ref04_Cross h8), h10, (c_ref04_Dot h9), (c_ref04_Cross h8), (c_ref04_Dot h7), (c_ref04_Normal h1), (c_ref04_plus h6), (c_ref04_times h5), (c_ref04_times h4), (eqf h3), (c_ref04_Dot h2), (c_ref04_Normal h1), trivial⟩
          · replace h := ite_f h h17
            replace h := Option.some.inj h
            subst h
            exact run (n := 100) (f := 163) (args := [.agg [.v (.string a0), I a1, I a2, I a3, I a4, I a5, I a6, I a7, I a8, I a9], I a10, .agg [I a11, I a12, I a13], .agg [I a14, I a15, I a16], B a17]) (orc := [.ret (.agg [I t1.1, I t1.2.1, I t1.2.2]), .ret (I t2), .br false, .ret (.agg [I t4.1, I t4.2.1, I t4.2.2]), .ret (.agg [I t5.1, I t5.2.1, I t5.2.2]), .ret (.agg [I t6.1, I t6.2.1, I t6.2.2]), .ret (.agg [I t1.1, I t1.2.1, I t1.2.2]), .ret (I t7), .ret (.agg [I t8.1, I t8.2.1, I t8.2.2]), .ret (I t9), .ret (.agg [I t8.1, I t8.2.1, I t8.2.2]), .ret (I t11), .br false, .br true, .br true, .no, .ret (I t15), .br false]) (r := B false) (ob := [(decide (t15 ≤ (a10 * t2))) = false, inI64 (a10 * t2), Computes cx 193 [I (0 - t9)] (I t15), (!a17) = true, (decide (t7 > 0)) = true, (decide (t2 < 0)) = false, Computes cx 76 [.agg [I t8.1, I t8.2.1, I t8.2.2], .agg [I a4, I a5, I a6]] (I t11), Computes cx 74 [.agg [I a14, I a15, I a16], .agg [I t6.1, I t6.2.1, I t6.2.2]] (.agg [I t8.1, I t8.2.1, I t8.2.2]), inI64 (0 - t9), Computes cx 76 [.agg [I t8.1, I t8.2.1, I t8.2.2], .agg [I a7, I a8, I a9]] (I t9), Computes cx 74 [.agg [I a14, I a15, I a16], .agg [I t6.1, I t6.2.1, I t6.2.2]] (.agg [I t8.1, I t8.2.1, I t8.2.2]), Computes cx 76 [.agg [I t6.1, I t6.2.1, I t6.2.2], .agg [I t1.1, I t1.2.1, I t1.2.2]] (I t7), Computes cx 75 [.agg [.v (.string a0), I a1, I a2, I a3, I a4, I a5, I a6, I a7, I a8, I a9]] (.agg [I t1.1, I t1.2.1, I t1.2.2]), Computes cx 126 [.agg [I t4.1, I t4.2.1, I t4.2.2], .agg [I t5.1, I t5.2.1, I t5.2.2]] (.agg [I t6.1, I t6.2.1, I t6.2.2]), Computes cx 127 [I (-1), .agg [I a11, I a12, I a13]] (.agg [I t5.1, I t5.2.1, I t5.2.2]), Computes cx 127 [I a10, .agg [I a1, I a2, I a3]] (.agg [I t4.1, I t4.2.1, I t4.2.2]), (t2 == 0) = false, Computes cx 76 [.agg [I a14, I a15, I a16], .agg [I t1.1, I t1.2.1, I t1.2.2]] (I t2), Computes cx 75 [.agg [.v (.string a0), I a1, I a2, I a3, I a4, I a5, I a6, I a7, I a8, I a9]] (.agg [I t1.1, I t1.2.1, I t1.2.2])]) (e_ref04_Meets_11 a0 a1 a2 a3 a4 a5 a6 a7 a8 a9 a10 a11 a12 a13 a14 a15 a16 a17 t1 t2 t4 t5 t6 t7 t8 t9 t11 t15) ⟨(decide_eq_false h17), h16, (c_ref04_abs h15), (nott (bfalse h14)), (decide_eq_true h13), (decide_eq_false h12), (c_ref04_Dot h11), (c_ref04_Cross h8), h10, (c_ref04_Dot h9), (c_ref04_Cross h8), (c_ref04_Dot h7), (c_ref04_Normal h1), (c_ref04_plus h6), (c_ref04_times h5), (c_ref04_times h4), (eqf h3), (c_ref04_Dot h2), (c_ref04_Normal h1), trivial⟩
      · replace h := ite_f h h13
        replace h := Option.some.inj h
        subst h
        exact run (n := 100) (f := 163) (args := [.agg [.v (.string a0), I a1, I a2, I a3, I a4, I a5, I a6, I a7, I a8, I a9], I a10, .agg [I a11, I a12, I a13], .agg [I a14, I a15, I a16], B a17]) (orc := [.ret (.agg [I t1.1, I t1.2.1, I t1.2.2]), .ret (I t2), .br false, .ret (.agg [I t4.1, I t4.2.1, I t4.2.2]), .ret (.agg [I t5.1, I t5.2.1, I t5.2.2]), .ret (.agg [I t6.1, I t6.2.1, I t6.2.2]), .ret (.agg [I t1.1, I t1.2.1, I t1.2.2]), .ret (I t7), .ret (.agg [I t8.1, I t8.2.1, I t8.2.2]), .ret (I t9), .ret (.agg [I t8.1, I t8.2.1, I t8.2.2]), .ret (I t11), .br false, .br false, .no, .no]) (r := B false) (ob := [(decide (t7 > 0)) = false, (decide (t2 < 0)) = false, Computes cx 76 [.agg [I t8.1, I t8.2.1, I t8.2.2], .agg [I a4, I a5, I a6]] (I t11), Computes cx 74 [.agg [I a14, I a15, I a16], .agg [I t6.1, I t6.2.1, I t6.2.2]] (.agg [I t8.1, I t8.2.1, I t8.2.2]), inI64 (0 - t9), Computes cx 76 [.agg [I t8.1, I t8.2.1, I t8.2.2], .agg [I a7, I a8, I a9]] (I t9), Computes cx 74 [.agg [I a14, I a15, I a16], .agg [I t6.1, I t6.2.1, I t6.2.2]] (.agg [I t8.1, I t8.2.1, I t8.2.2]), Computes cx 76 [.agg [I t6.1, I t6.2.1, I t6.2.2], .agg [I t1.1, I t1.2.1, I t1.2.2]] (I t7), Computes cx 75 [.agg [.v (.string a0), I a1, I a2, I a3, I a4, I a5, I a6, I a7, I a8, I a9]] (.agg [I t1.1, I t1.2.1, I t1.2.2]), Computes cx 126 [.agg [I t4.1, I t4.2.1, I t4.2.2], .agg [I t5.1, I t5.2.1, I t5.2.2]] (.agg [I t6.1, I t6.2.1, I t6.2.2]), Computes cx 127 [I (-1), .agg [I a11, I a12, I a13]] (.agg [I t5.1, I t5.2.1, I t5.2.2]), Computes cx 127 [I a10, .agg [I a1, I a2, I a3]] (.agg [I t4.1, I t4.2.1, I t4.2.2]), (t2 == 0) = false, Computes cx 76 [.agg [I a14, I a15, I a16], .agg [I t1.1, I t1.2.1, I t1.2.2]] (I t2), Computes cx 75 [.agg [.v (.string a0), I a1, I a2, I a3, I a4, I a5, I a6, I a7, I a8, I a9]] (.agg [I t1.1, I t1.2.1, I t1.2.2])]) (e_ref04_Meets_12 a0 a1 a2 a3 a4 a5 a6 a7 a8 a9 a10 a11 a12 a13 a14 a15 a16 a17 t1 t2 t4 t5 t6 t7 t8 t9 t11) ⟨(decide_eq_false h13), (decide_eq_false h12), (c_ref04_Dot h11), (c_ref04_Cross h8), h10, (c_ref04_Dot h9), (c_ref04_Cross h8), (c_ref04_Dot h7), (c_ref04_Normal h1), (c_ref04_plus h6), (c_ref04_times h5), (c_ref04_times h4), (eqf h3), (c_ref04_Dot h2), (c_ref04_Normal h1), trivial⟩
def F_ref04_hidden_L1 (n : Nat) (a0 : List D) (a1 : Int) (a2 : Int) (a3 : Int) (a4 : Int) (a5 : Int) (a6 : Int) (a7 : Int) (a8 : Int) (a9 : Bool) (sa : (Int)) : Option (((Int)) ⊕ ((Unit) ⊕ (Unit))) :=
  if sa < ((a0).length : Int) then
    if sa = a1 then
      if inI64 (sa + 1) then
      some (.inl (sa + 1))
      else none
    else
    (el un_Asi9Z a0 sa).bind fun ta3 =>
    (F_ref04_Meets n ta3.1 ta3.2.1 ta3.2.2.1 ta3.2.2.2.1 ta3.2.2.2.2.1 ta3.2.2.2.2.2.1 ta3.2.2.2.2.2.2.1 ta3.2.2.2.2.2.2.2.1 ta3.2.2.2.2.2.2.2.2.1 ta3.2.2.2.2.2.2.2.2.2 a2 a3 a4 a5 a6 a7 a8 a9).bind fun ta4 =>
    if ta4 = true then
      some (.inr (.inl ()))
    else
    if inI64 (sa + 1) then
    some (.inl (sa + 1))
    else none
  else
  some (.inr (.inr ()))
noncomputable def T_ref04_hidden_L1 (a0 : List D) (a1 : Int) (a2 : Int) (a3 : Int) (a4 : Int) (a5 : Int) (a6 : Int) (a7 : Int) (a8 : Int) (a9 : Bool) (sa : (Int)) : List (Nat × AV) := [(0, .d (.lst false 10 a0)), (1, .d (I a1)), (2, .d (I a2)), (5, .d (B a9)), (9, .ptr 0 0 0 0 0), (10, .ptr 1 0 0 0 0), (13, .d (I sa))]
noncomputable def H_ref04_hidden_L1 (a0 : List D) (a1 : Int) (a2 : Int) (a3 : Int) (a4 : Int) (a5 : Int) (a6 : Int) (a7 : Int) (a8 : Int) (a9 : Bool) (sa : (Int)) : List (Nat × Blk) := [(0, .box (.d (.agg [I a3, I a4, I a5]))), (1, .box (.d (.agg [I a6, I a7, I a8])))]
noncomputable def X_ref04_hidden_L1 (a0 : List D) (a1 : Int) (a2 : Int) (a3 : Int) (a4 : Int) (a5 : Int) (a6 : Int) (a7 : Int) (a8 : Int) (a9 : Bool) (e : (Unit) ⊕ (Unit)) : Ex := match e with
  | (.inl e) => .ret
  | (.inr e) => (.exit 0)
noncomputable def XT_ref04_hidden_L1 (a0 : List D) (a1 : Int) (a2 : Int) (a3 : Int) (a4 : Int) (a5 : Int) (a6 : Int) (a7 : Int) (a8 : Int) (a9 : Bool) (e : (Unit) ⊕ (Unit)) : List (Nat × AV) := match e with
  | (.inl e) => [(12, .d (B true))]
  | (.inr e) => []
noncomputable def XH_ref04_hidden_L1 (a0 : List D) (a1 : Int) (a2 : Int) (a3 : Int) (a4 : Int) (a5 : Int) (a6 : Int) (a7 : Int) (a8 : Int) (a9 : Bool) (e : (Unit) ⊕ (Unit)) : List (Nat × Blk) := match e with
  | (.inl e) => []
  | (.inr e) => []
theorem R_ref04_hidden_L1 {n : Nat} {a0 : List D} {a1 : Int} {a2 : Int} {a3 : Int} {a4 : Int} {a5 : Int} {a6 : Int} {a7 : Int} {a8 : Int} {a9 : Bool} (sa : (Int)) (r) (h : F_ref04_hidden_L1 n a0 a1 a2 a3 a4 a5 a6 a7 a8 a9 sa = some r) : Rd cx (loopAt cx.P 135 0) 34 0 false (T_ref04_hidden_L1 a0 a1 a2 a3 a4 a5 a6 a7 a8 a9) (H_ref04_hidden_L1 a0 a1 a2 a3 a4 a5 a6 a7 a8 a9) (X_ref04_hidden_L1 a0 a1 a2 a3 a4 a5 a6 a7 a8 a9) (XT_ref04_hidden_L1 a0 a1 a2 a3 a4 a5 a6 a7 a8 a9) (XH_ref04_hidden_L1 a0 a1 a2 a3 a4 a5 a6 a7 a8 a9) sa r := by
  unfold F_ref04_hidden_L1 at h
  by_cases ha1 : sa < ((a0).length : Int)
  · replace h := ite_t h ha1
    by_cases ha2 : sa = a1
    · replace h := ite_t h ha2
      obtain ⟨ha3, h⟩ := grd_of h
      replace h := Option.some.inj h
      subst h
      exact ⟨100, 4, [.br true, .br false, .no], [], [0, 1, 2, 5, 9, 10, 13], [0, 1], round_of (ob := [inI64 (sa + 1), (sa != a1) = false, (decide (sa < ((a0).length : Int))) = true]) (by kernel_rfl) ⟨ha3, (nef ha2), (decide_eq_true ha1), trivial⟩⟩
    · replace h := ite_f h ha2
      obtain ⟨ta3, ha3, h⟩ := bnd_of h
      obtain ⟨ta4, ha4, h⟩ := bnd_of h
      by_cases ha5 : ta4 = true
      · replace h := ite_t h ha5
        replace h := Option.some.inj h
        subst h
        exact ⟨⟨100, 4, [.br true, .br true, .el (.agg [.v (.string ta3.1), I ta3.2.1, I ta3.2.2.1, I ta3.2.2.2.1, I ta3.2.2.2.2.1, I ta3.2.2.2.2.2.1, I ta3.2.2.2.2.2.2.1, I ta3.2.2.2.2.2.2.2.1, I ta3.2.2.2.2.2.2.2.2.1, I ta3.2.2.2.2.2.2.2.2.2]), .ret (B ta4), .br true], [], [12], [], round_of (ob := [ta4 = true, Computes cx 163 [.agg [.v (.string ta3.1), I ta3.2.1, I ta3.2.2.1, I ta3.2.2.2.1, I ta3.2.2.2.2.1, I ta3.2.2.2.2.2.1, I ta3.2.2.2.2.2.2.1, I ta3.2.2.2.2.2.2.2.1, I ta3.2.2.2.2.2.2.2.2.1, I ta3.2.2.2.2.2.2.2.2.2], I a2, .agg [I a3, I a4, I a5], .agg [I a6, I a7, I a8], B a9] (B ta4), (0 : Int) ≤ sa, nth (a0) (Int.toNat sa) = some (.agg [.v (.string ta3.1), I ta3.2.1, I ta3.2.2.1, I ta3.2.2.2.1, I ta3.2.2.2.2.1, I ta3.2.2.2.2.2.1, I ta3.2.2.2.2.2.2.1, I ta3.2.2.2.2.2.2.2.1, I ta3.2.2.2.2.2.2.2.2.1, I ta3.2.2.2.2.2.2.2.2.2]), (sa != a1) = true, (decide (sa < ((a0).length : Int))) = true]) (by kernel_rfl) ⟨ha5, (c_ref04_Meets ha4), (el_ok un_Asi9Z_ok ha3).1, (el_ok un_Asi9Z_ok ha3).2, (net ha2), (decide_eq_true ha1), trivial⟩⟩, nofun⟩
      · replace h := ite_f h ha5
        obtain ⟨ha6, h⟩ := grd_of h
        replace h := Option.some.inj h
        subst h
        exact ⟨100, 4, [.br true, .br true, .el (.agg [.v (.string ta3.1), I ta3.2.1, I ta3.2.2.1, I ta3.2.2.2.1, I ta3.2.2.2.2.1, I ta3.2.2.2.2.2.1, I ta3.2.2.2.2.2.2.1, I ta3.2.2.2.2.2.2.2.1, I ta3.2.2.2.2.2.2.2.2.1, I ta3.2.2.2.2.2.2.2.2.2]), .ret (B ta4), .br false], [], [0, 1, 2, 5, 9, 10, 13], [0, 1], round_of (ob := [inI64 (sa + 1), ta4 = false, Computes cx 163 [.agg [.v (.string ta3.1), I ta3.2.1, I ta3.2.2.1, I ta3.2.2.2.1, I ta3.2.2.2.2.1, I ta3.2.2.2.2.2.1, I ta3.2.2.2.2.2.2.1, I ta3.2.2.2.2.2.2.2.1, I ta3.2.2.2.2.2.2.2.2.1, I ta3.2.2.2.2.2.2.2.2.2], I a2, .agg [I a3, I a4, I a5], .agg [I a6, I a7, I a8], B a9] (B ta4), (0 : Int) ≤ sa, nth (a0) (Int.toNat sa) = some (.agg [.v (.string ta3.1), I ta3.2.1, I ta3.2.2.1, I ta3.2.2.2.1, I ta3.2.2.2.2.1, I ta3.2.2.2.2.2.1, I ta3.2.2.2.2.2.2.1, I ta3.2.2.2.2.2.2.2.1, I ta3.2.2.2.2.2.2.2.2.1, I ta3.2.2.2.2.2.2.2.2.2]), (sa != a1) = true, (decide (sa < ((a0).length : Int))) = true]) (by kernel_rfl) ⟨ha6, (bfalse ha5), (c_ref04_Meets ha4), (el_ok un_Asi9Z_ok ha3).1, (el_ok un_Asi9Z_ok ha3).2, (net ha2), (decide_eq_true ha1), trivial⟩⟩
  · replace h := ite_f h ha1
    replace h := Option.some.inj h
    subst h
    exact ⟨⟨100, 4, [.br false], [], [], [], round_of (ob := [(decide (sa < ((a0).length : Int))) = false]) (by kernel_rfl) ⟨(decide_eq_false ha1), trivial⟩⟩, nofun⟩
/- spillage/spillageref04.hidden: .lst false 10 a0, I a1, I a2, .agg [I a3, I a4, I a5], .agg [I a6, I a7, I a8], B a9 -/
def F_ref04_hidden (n : Nat) (a0 : List D) (a1 : Int) (a2 : Int) (a3 : Int) (a4 : Int) (a5 : Int) (a6 : Int) (a7 : Int) (a8 : Int) (a9 : Bool) : Option (Bool) :=
  (loopF (F_ref04_hidden_L1 n a0 a1 a2 a3 a4 a5 a6 a7 a8 a9) n 0).bind fun t1 => match t1 with
    | (.inl t1) => (
      some true)
    | (.inr t1) => (
      some false)
theorem c_ref04_hidden {n : Nat} {a0 : List D} {a1 : Int} {a2 : Int} {a3 : Int} {a4 : Int} {a5 : Int} {a6 : Int} {a7 : Int} {a8 : Int} {a9 : Bool} {r : Bool} (h : F_ref04_hidden n a0 a1 a2 a3 a4 a5 a6 a7 a8 a9 = some r) : Computes cx 135 [.lst false 10 a0, I a1, I a2, .agg [I a3, I a4, I a5], .agg [I a6, I a7, I a8], B a9] (B r) := by
  unfold F_ref04_hidden at h
  obtain ⟨t1, h1, h⟩ := bnd_of h
  rcases t1 with t1 | t1
  · replace h := Option.some.inj h
    subst h
    exact run (n := 100) (f := 135) (args := [.lst false 10 a0, I a1, I a2, .agg [I a3, I a4, I a5], .agg [I a6, I a7, I a8], B a9]) (orc := [.lp [] [0, 1, 2, 5, 9, 10, 13] [0, 1] .ret [(12, .d (B true))] [] 36]) (r := B true) (ob := [LoopN cx (loopAt cx.P 135 0) 34 0 false [(0, .d (.lst false 10 a0)), (1, .d (I a1)), (2, .d (I a2)), (5, .d (B a9)), (9, .ptr 0 0 0 0 0), (10, .ptr 1 0 0 0 0), (13, .d (I 0))] [(0, .box (.d (.agg [I a3, I a4, I a5]))), (1, .box (.d (.agg [I a6, I a7, I a8])))] .ret [(12, .d (B true))] []]) (by kernel_rfl) ⟨(loopF_to R_ref04_hidden_L1 h1), trivial⟩
  · replace h := Option.some.inj h
    subst h
    exact run (n := 100) (f := 135) (args := [.lst false 10 a0, I a1, I a2, .agg [I a3, I a4, I a5], .agg [I a6, I a7, I a8], B a9]) (orc := [.lp [] [0, 1, 2, 5, 9, 10, 13] [0, 1] (.exit 0) [] [] 36]) (r := B false) (ob := [LoopN cx (loopAt cx.P 135 0) 34 0 false [(0, .d (.lst false 10 a0)), (1, .d (I a1)), (2, .d (I a2)), (5, .d (B a9)), (9, .ptr 0 0 0 0 0), (10, .ptr 1 0 0 0 0), (13, .d (I 0))] [(0, .box (.d (.agg [I a3, I a4, I a5]))), (1, .box (.d (.agg [I a6, I a7, I a8])))] (.exit 0) [] []]) (by kernel_rfl) ⟨(loopF_to R_ref04_hidden_L1 h1), trivial⟩
end Go.Proofs.YtojmcpnpojdnmaaGreatDoor
