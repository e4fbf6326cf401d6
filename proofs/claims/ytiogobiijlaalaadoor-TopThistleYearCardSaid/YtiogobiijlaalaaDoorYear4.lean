/-
  Printed by gsx.py: functions of the program as Lean functions, and that the code computes them.
-/
import Derived.Test.YtiogobiijlaalaaDoorYear3
set_option linter.unusedVariables false
set_option maxRecDepth 10000
namespace Go.Proofs.YtiogobiijlaalaaDoor
open Go.SX
theorem e_top_TopThistleYear_0 (a0 : ByteArray) (a1 : List D) (a2 : List D) (a3 : Int) (a4 : Int) (a5 : Int) (a6 : Int) (t1 : Bool) (t3 : Bool) (t5 : Int) : runFn true 100 cx 4 [.agg [.v (.string a0), .lst false 4 a1], .lst false 10 a2, .agg [.v (.int .i8 a3), .v (.int .i8 a4), .v (.int .i8 a5), .v (.int .i8 a6)]] [.ret (B t1), .br false, .ret (B t3), .br false, .ret (I t5), .br false, .br true, .no, .no, .no, .no, .ret (B t1)] = some (B t1, [Computes cx 5 [] (B t1), (decide (((a1).length : Int) > 12)) = true, (t5 != 0) = false, Computes cx 21 [.agg [.v (.string a0), .lst false 4 a1]] (I t5), (!t3) = false, Computes cx 20 [.agg [.v (.string a0), .lst false 4 a1]] (B t3), (!t1) = false, Computes cx 5 [] (B t1)]) := by kernel_rfl
theorem e_top_TopThistleYear_1 (a0 : ByteArray) (a1 : List D) (a2 : List D) (a3 : Int) (a4 : Int) (a5 : Int) (a6 : Int) (t1 : Bool) (t3 : Bool) (t5 : Int) (t8 : Bool) (t10 : Int) : runFn true 100 cx 4 [.agg [.v (.string a0), .lst false 4 a1], .lst false 10 a2, .agg [.v (.int .i8 a3), .v (.int .i8 a4), .v (.int .i8 a5), .v (.int .i8 a6)]] [.ret (B t1), .br false, .ret (B t3), .br false, .ret (I t5), .br false, .br false, .ret (B t8), .br false, .ret (I t10), .br false, .br true, .no, .ret (B t1)] = some (B t1, [Computes cx 5 [] (B t1), (decide (((a2).length : Int) < 1)) = true, (t10 != 0) = false, Computes cx 23 [.lst false 10 a2] (I t10), (!t8) = false, Computes cx 22 [.lst false 10 a2] (B t8), (decide (((a1).length : Int) > 12)) = false, (t5 != 0) = false, Computes cx 21 [.agg [.v (.string a0), .lst false 4 a1]] (I t5), (!t3) = false, Computes cx 20 [.agg [.v (.string a0), .lst false 4 a1]] (B t3), (!t1) = false, Computes cx 5 [] (B t1)]) := by kernel_rfl
theorem e_top_TopThistleYear_2 (a0 : ByteArray) (a1 : List D) (a2 : List D) (a3 : Int) (a4 : Int) (a5 : Int) (a6 : Int) (t1 : Bool) (t3 : Bool) (t5 : Int) (t8 : Bool) (t10 : Int) : runFn true 100 cx 4 [.agg [.v (.string a0), .lst false 4 a1], .lst false 10 a2, .agg [.v (.int .i8 a3), .v (.int .i8 a4), .v (.int .i8 a5), .v (.int .i8 a6)]] [.ret (B t1), .br false, .ret (B t3), .br false, .ret (I t5), .br false, .br false, .ret (B t8), .br false, .ret (I t10), .br false, .br false, .br true, .ret (B t1)] = some (B t1, [Computes cx 5 [] (B t1), (decide (((a2).length : Int) > 4)) = true, (decide (((a2).length : Int) < 1)) = false, (t10 != 0) = false, Computes cx 23 [.lst false 10 a2] (I t10), (!t8) = false, Computes cx 22 [.lst false 10 a2] (B t8), (decide (((a1).length : Int) > 12)) = false, (t5 != 0) = false, Computes cx 21 [.agg [.v (.string a0), .lst false 4 a1]] (I t5), (!t3) = false, Computes cx 20 [.agg [.v (.string a0), .lst false 4 a1]] (B t3), (!t1) = false, Computes cx 5 [] (B t1)]) := by kernel_rfl
theorem e_top_TopThistleYear_3 (a0 : ByteArray) (a1 : List D) (a2 : List D) (a3 : Int) (a4 : Int) (a5 : Int) (a6 : Int) (t1 : Bool) (t3 : Bool) (t5 : Int) (t8 : Bool) (t10 : Int) (t17 : ByteArray × Int × Int × Int × Int × Int × Int × Int × Int × Int) : runFn true 100 cx 4 [.agg [.v (.string a0), .lst false 4 a1], .lst false 10 a2, .agg [.v (.int .i8 a3), .v (.int .i8 a4), .v (.int .i8 a5), .v (.int .i8 a6)]] [.ret (B t1), .br false, .ret (B t3), .br false, .ret (I t5), .br false, .br false, .ret (B t8), .br false, .ret (I t10), .br false, .br false, .br false, .el (enc_Asi9Z t17), .br true, .lp [] [1, 3, 7, 8, 9, 10] [0, 52, 74] (.exit 0) [(1, .d (.lst false 10 a2)), (3, .ptr 0 0 0 0 0), (7, .ptr 52 0 0 0 0), (8, .d (I (kE a6))), (9, .ptr 74 0 0 0 0)] [(0, .box (.d (.agg [.v (.string a0), .lst false 4 a1]))), (52, .box (.d (.agg [I (IntKind.wrap .i64 a3), I (IntKind.wrap .i64 a4), I (100 + (IntKind.wrap .i64 a5))]))), (74, .box (.d (.agg [.lst false 10 a2, .lst true 10 [.agg [.v (.string t17.1), I t17.2.1, I t17.2.2.1, I t17.2.2.2.1, I t17.2.2.2.2.1, I t17.2.2.2.2.2.1, I t17.2.2.2.2.2.2.1, I t17.2.2.2.2.2.2.2.1, I t17.2.2.2.2.2.2.2.2.1, I t17.2.2.2.2.2.2.2.2.2]], .lst false 10 ((a2.take (Int.toNat (maxI 1 (((a2).length : Int) - 1)))).drop (Int.toNat 0))])))] 116, .lp [] [1, 3, 7, 8, 9, 11, 12, 13, 118, 119, 120] [0, 52, 74, 116] .ret [(6, .d (B true))] [] 843] = some (B true, [LoopN cx (loopAt cx.P 4 1) 319 0 false [(1, .d (.lst false 10 a2)), (3, .ptr 0 0 0 0 0), (7, .ptr 52 0 0 0 0), (8, .d (I (kE a6))), (9, .ptr 74 0 0 0 0), (11, .ptr 116 0 0 0 0), (12, .d (I 0)), (13, .d (I 0)), (118, .d (.lst false 4 a1)), (119, .d (I ((a1).length : Int))), (120, .d (I 0))] [(0, .box (.d (.agg [.v (.string a0), .lst false 4 a1]))), (52, .box (.d (.agg [I (IntKind.wrap .i64 a3), I (IntKind.wrap .i64 a4), I (100 + (IntKind.wrap .i64 a5))]))), (74, .box (.d (.agg [.lst false 10 a2, .lst true 10 [.agg [.v (.string t17.1), I t17.2.1, I t17.2.2.1, I t17.2.2.2.1, I t17.2.2.2.2.1, I t17.2.2.2.2.2.1, I t17.2.2.2.2.2.2.1, I t17.2.2.2.2.2.2.2.1, I t17.2.2.2.2.2.2.2.2.1, I t17.2.2.2.2.2.2.2.2.2]], .lst false 10 ((a2.take (Int.toNat (maxI 1 (((a2).length : Int) - 1)))).drop (Int.toNat 0))]))), (116, .box (.d (.agg [.lst true 0 [], .lst true 0 [], .lst true 0 []])))] .ret [(6, .d (B true))] [], LoopN cx (loopAt cx.P 4 0) 319 0 false [(1, .d (.lst false 10 a2)), (3, .ptr 0 0 0 0 0), (7, .ptr 52 0 0 0 0), (8, .d (I (kE a6))), (9, .ptr 74 0 0 0 0), (10, .d (I (((a2).length : Int) - 1)))] [(0, .box (.d (.agg [.v (.string a0), .lst false 4 a1]))), (52, .box (.d (.agg [I (IntKind.wrap .i64 a3), I (IntKind.wrap .i64 a4), I (100 + (IntKind.wrap .i64 a5))]))), (74, .box (.d (.agg [.lst false 10 a2, .lst true 10 [.agg [.v (.string t17.1), I t17.2.1, I t17.2.2.1, I t17.2.2.2.1, I t17.2.2.2.2.1, I t17.2.2.2.2.2.1, I t17.2.2.2.2.2.2.1, I t17.2.2.2.2.2.2.2.1, I t17.2.2.2.2.2.2.2.2.1, I t17.2.2.2.2.2.2.2.2.2]], .lst false 10 ((a2.take (Int.toNat (maxI 1 (((a2).length : Int) - 1)))).drop (Int.toNat 0))])))] (.exit 0) [(1, .d (.lst false 10 a2)), (3, .ptr 0 0 0 0 0), (7, .ptr 52 0 0 0 0), (8, .d (I (kE a6))), (9, .ptr 74 0 0 0 0)] [(0, .box (.d (.agg [.v (.string a0), .lst false 4 a1]))), (52, .box (.d (.agg [I (IntKind.wrap .i64 a3), I (IntKind.wrap .i64 a4), I (100 + (IntKind.wrap .i64 a5))]))), (74, .box (.d (.agg [.lst false 10 a2, .lst true 10 [.agg [.v (.string t17.1), I t17.2.1, I t17.2.2.1, I t17.2.2.2.1, I t17.2.2.2.2.1, I t17.2.2.2.2.2.1, I t17.2.2.2.2.2.2.1, I t17.2.2.2.2.2.2.2.1, I t17.2.2.2.2.2.2.2.2.1, I t17.2.2.2.2.2.2.2.2.2]], .lst false 10 ((a2.take (Int.toNat (maxI 1 (((a2).length : Int) - 1)))).drop (Int.toNat 0))])))], inI64 (((a2).length : Int) - 1), (0 : Int) ≤ 0 ∧ 0 ≤ (maxI 1 (((a2).length : Int) - 1)) ∧ (maxI 1 (((a2).length : Int) - 1)) ≤ ((a2).length : Int) ∧ (a2 = [] ∨ 10 = 10), inI64 (((a2).length : Int) - 1), (0 : Int) ≤ 0, nth (a2) (Int.toNat 0) = some (.agg [.v (.string t17.1), I t17.2.1, I t17.2.2.1, I t17.2.2.2.1, I t17.2.2.2.2.1, I t17.2.2.2.2.2.1, I t17.2.2.2.2.2.2.1, I t17.2.2.2.2.2.2.2.1, I t17.2.2.2.2.2.2.2.2.1, I t17.2.2.2.2.2.2.2.2.2]), inI64 (kE a6), (3 : Int) ≠ 0, inI64 ((Int.tmod (IntKind.wrap .i64 a6) 3) + 3), (3 : Int) ≠ 0, inI64 (100 + (IntKind.wrap .i64 a5)), (decide (((a2).length : Int) > 4)) = false, (decide (((a2).length : Int) < 1)) = false, (t10 != 0) = false, Computes cx 23 [.lst false 10 a2] (I t10), (!t8) = false, Computes cx 22 [.lst false 10 a2] (B t8), (decide (((a1).length : Int) > 12)) = false, (t5 != 0) = false, Computes cx 21 [.agg [.v (.string a0), .lst false 4 a1]] (I t5), (!t3) = false, Computes cx 20 [.agg [.v (.string a0), .lst false 4 a1]] (B t3), (!t1) = false, Computes cx 5 [] (B t1)]) := by kernel_rfl
theorem e_top_TopThistleYear_4 (a0 : ByteArray) (a1 : List D) (a2 : List D) (a3 : Int) (a4 : Int) (a5 : Int) (a6 : Int) (t1 : Bool) (t3 : Bool) (t5 : Int) (t8 : Bool) (t10 : Int) (t17 : ByteArray × Int × Int × Int × Int × Int × Int × Int × Int × Int) (t22 : Int × Int × Int) (t24 : Int × Int) (t29 : Int) : runFn true 100 cx 4 [.agg [.v (.string a0), .lst false 4 a1], .lst false 10 a2, .agg [.v (.int .i8 a3), .v (.int .i8 a4), .v (.int .i8 a5), .v (.int .i8 a6)]] [.ret (B t1), .br false, .ret (B t3), .br false, .ret (I t5), .br false, .br false, .ret (B t8), .br false, .ret (I t10), .br false, .br false, .br false, .el (enc_Asi9Z t17), .br true, .lp [] [1, 3, 7, 8, 9, 10] [0, 52, 74] (.exit 0) [(1, .d (.lst false 10 a2)), (3, .ptr 0 0 0 0 0), (7, .ptr 52 0 0 0 0), (8, .d (I (kE a6))), (9, .ptr 74 0 0 0 0)] [(0, .box (.d (.agg [.v (.string a0), .lst false 4 a1]))), (52, .box (.d (.agg [I (IntKind.wrap .i64 a3), I (IntKind.wrap .i64 a4), I (100 + (IntKind.wrap .i64 a5))]))), (74, .box (.d (.agg [.lst false 10 a2, .lst true 10 [.agg [.v (.string t17.1), I t17.2.1, I t17.2.2.1, I t17.2.2.2.1, I t17.2.2.2.2.1, I t17.2.2.2.2.2.1, I t17.2.2.2.2.2.2.1, I t17.2.2.2.2.2.2.2.1, I t17.2.2.2.2.2.2.2.2.1, I t17.2.2.2.2.2.2.2.2.2]], .lst false 10 ((a2.take (Int.toNat (maxI 1 (((a2).length : Int) - 1)))).drop (Int.toNat 0))])))] 116, .lp [] [1, 3, 7, 8, 9, 11, 12, 13, 118, 119, 120] [0, 52, 74, 116] (.exit 2) [(11, .ptr 116 0 0 0 0), (12, .d (I 0)), (13, .d (I 0))] [(116, .box (.d (.agg [.lst true 0 [], .lst true 0 [], .lst true 0 []])))] 843, .ret (.tup [.agg [I t22.1, I t22.2.1], I t22.2.2]), .ret (.tup [.agg [I t22.1, I t22.2.1], I t22.2.2]), .ret (.tup [.agg [I t22.1, I t22.2.1], I t22.2.2]), .br true, .br true, .br true, .ret (.agg [I t24.1, I t24.2]), .br true, .br true, .br true, .br true, .ret (I t29)] = some (B (decide (t29 ≥ 0)), [Computes cx 31 [.agg [I t22.1, I t22.2.1], .agg [I t22.1, I t22.2.1]] (I t29), (decide (t22.2.1 ≤ 100000)) = true, (decide (t22.2.1 ≥ 1)) = true, ((t22.1 == t22.1) && ((t22.2.1 == t22.2.1) && true)) = true, ((t22.1 == t24.1) && ((t22.2.1 == t24.2) && true)) = true, Computes cx 30 [I 0, I 0] (.agg [I t24.1, I t24.2]), (t22.2.2 == 0) = true, (t22.2.2 == 0) = true, (t22.2.2 == 0) = true, Computes cx 29 [.lst true 0 []] (.tup [.agg [I t22.1, I t22.2.1], I t22.2.2]), Computes cx 29 [.lst true 0 []] (.tup [.agg [I t22.1, I t22.2.1], I t22.2.2]), Computes cx 29 [.lst true 0 []] (.tup [.agg [I t22.1, I t22.2.1], I t22.2.2]), LoopN cx (loopAt cx.P 4 1) 319 0 false [(1, .d (.lst false 10 a2)), (3, .ptr 0 0 0 0 0), (7, .ptr 52 0 0 0 0), (8, .d (I (kE a6))), (9, .ptr 74 0 0 0 0), (11, .ptr 116 0 0 0 0), (12, .d (I 0)), (13, .d (I 0)), (118, .d (.lst false 4 a1)), (119, .d (I ((a1).length : Int))), (120, .d (I 0))] [(0, .box (.d (.agg [.v (.string a0), .lst false 4 a1]))), (52, .box (.d (.agg [I (IntKind.wrap .i64 a3), I (IntKind.wrap .i64 a4), I (100 + (IntKind.wrap .i64 a5))]))), (74, .box (.d (.agg [.lst false 10 a2, .lst true 10 [.agg [.v (.string t17.1), I t17.2.1, I t17.2.2.1, I t17.2.2.2.1, I t17.2.2.2.2.1, I t17.2.2.2.2.2.1, I t17.2.2.2.2.2.2.1, I t17.2.2.2.2.2.2.2.1, I t17.2.2.2.2.2.2.2.2.1, I t17.2.2.2.2.2.2.2.2.2]], .lst false 10 ((a2.take (Int.toNat (maxI 1 (((a2).length : Int) - 1)))).drop (Int.toNat 0))]))), (116, .box (.d (.agg [.lst true 0 [], .lst true 0 [], .lst true 0 []])))] (.exit 2) [(11, .ptr 116 0 0 0 0), (12, .d (I 0)), (13, .d (I 0))] [(116, .box (.d (.agg [.lst true 0 [], .lst true 0 [], .lst true 0 []])))], LoopN cx (loopAt cx.P 4 0) 319 0 false [(1, .d (.lst false 10 a2)), (3, .ptr 0 0 0 0 0), (7, .ptr 52 0 0 0 0), (8, .d (I (kE a6))), (9, .ptr 74 0 0 0 0), (10, .d (I (((a2).length : Int) - 1)))] [(0, .box (.d (.agg [.v (.string a0), .lst false 4 a1]))), (52, .box (.d (.agg [I (IntKind.wrap .i64 a3), I (IntKind.wrap .i64 a4), I (100 + (IntKind.wrap .i64 a5))]))), (74, .box (.d (.agg [.lst false 10 a2, .lst true 10 [.agg [.v (.string t17.1), I t17.2.1, I t17.2.2.1, I t17.2.2.2.1, I t17.2.2.2.2.1, I t17.2.2.2.2.2.1, I t17.2.2.2.2.2.2.1, I t17.2.2.2.2.2.2.2.1, I t17.2.2.2.2.2.2.2.2.1, I t17.2.2.2.2.2.2.2.2.2]], .lst false 10 ((a2.take (Int.toNat (maxI 1 (((a2).length : Int) - 1)))).drop (Int.toNat 0))])))] (.exit 0) [(1, .d (.lst false 10 a2)), (3, .ptr 0 0 0 0 0), (7, .ptr 52 0 0 0 0), (8, .d (I (kE a6))), (9, .ptr 74 0 0 0 0)] [(0, .box (.d (.agg [.v (.string a0), .lst false 4 a1]))), (52, .box (.d (.agg [I (IntKind.wrap .i64 a3), I (IntKind.wrap .i64 a4), I (100 + (IntKind.wrap .i64 a5))]))), (74, .box (.d (.agg [.lst false 10 a2, .lst true 10 [.agg [.v (.string t17.1), I t17.2.1, I t17.2.2.1, I t17.2.2.2.1, I t17.2.2.2.2.1, I t17.2.2.2.2.2.1, I t17.2.2.2.2.2.2.1, I t17.2.2.2.2.2.2.2.1, I t17.2.2.2.2.2.2.2.2.1, I t17.2.2.2.2.2.2.2.2.2]], .lst false 10 ((a2.take (Int.toNat (maxI 1 (((a2).length : Int) - 1)))).drop (Int.toNat 0))])))], inI64 (((a2).length : Int) - 1), (0 : Int) ≤ 0 ∧ 0 ≤ (maxI 1 (((a2).length : Int) - 1)) ∧ (maxI 1 (((a2).length : Int) - 1)) ≤ ((a2).length : Int) ∧ (a2 = [] ∨ 10 = 10), inI64 (((a2).length : Int) - 1), (0 : Int) ≤ 0, nth (a2) (Int.toNat 0) = some (.agg [.v (.string t17.1), I t17.2.1, I t17.2.2.1, I t17.2.2.2.1, I t17.2.2.2.2.1, I t17.2.2.2.2.2.1, I t17.2.2.2.2.2.2.1, I t17.2.2.2.2.2.2.2.1, I t17.2.2.2.2.2.2.2.2.1, I t17.2.2.2.2.2.2.2.2.2]), inI64 (kE a6), (3 : Int) ≠ 0, inI64 ((Int.tmod (IntKind.wrap .i64 a6) 3) + 3), (3 : Int) ≠ 0, inI64 (100 + (IntKind.wrap .i64 a5)), (decide (((a2).length : Int) > 4)) = false, (decide (((a2).length : Int) < 1)) = false, (t10 != 0) = false, Computes cx 23 [.lst false 10 a2] (I t10), (!t8) = false, Computes cx 22 [.lst false 10 a2] (B t8), (decide (((a1).length : Int) > 12)) = false, (t5 != 0) = false, Computes cx 21 [.agg [.v (.string a0), .lst false 4 a1]] (I t5), (!t3) = false, Computes cx 20 [.agg [.v (.string a0), .lst false 4 a1]] (B t3), (!t1) = false, Computes cx 5 [] (B t1)]) := by kernel_rfl
theorem e_top_TopThistleYear_10 (a0 : ByteArray) (a1 : List D) (a2 : List D) (a3 : Int) (a4 : Int) (a5 : Int) (a6 : Int) (t1 : Bool) (t3 : Bool) (t5 : Int) (t8 : Bool) (t10 : Int) (t17 : ByteArray × Int × Int × Int × Int × Int × Int × Int × Int × Int) (t21 : Int × Int × List D × List D × List D) (t22 : Int × Int × Int) (t23 : Int × Int × Int) (t24 : Int × Int × Int) (t28 : Int × Int) (t33 : Int) : runFn true 100 cx 4 [.agg [.v (.string a0), .lst false 4 a1], .lst false 10 a2, .agg [.v (.int .i8 a3), .v (.int .i8 a4), .v (.int .i8 a5), .v (.int .i8 a6)]] [.ret (B t1), .br false, .ret (B t3), .br false, .ret (I t5), .br false, .br false, .ret (B t8), .br false, .ret (I t10), .br false, .br false, .br false, .el (enc_Asi9Z t17), .br true, .lp [] [1, 3, 7, 8, 9, 10] [0, 52, 74] (.exit 0) [(1, .d (.lst false 10 a2)), (3, .ptr 0 0 0 0 0), (7, .ptr 52 0 0 0 0), (8, .d (I (kE a6))), (9, .ptr 74 0 0 0 0)] [(0, .box (.d (.agg [.v (.string a0), .lst false 4 a1]))), (52, .box (.d (.agg [I (IntKind.wrap .i64 a3), I (IntKind.wrap .i64 a4), I (100 + (IntKind.wrap .i64 a5))]))), (74, .box (.d (.agg [.lst false 10 a2, .lst true 10 [.agg [.v (.string t17.1), I t17.2.1, I t17.2.2.1, I t17.2.2.2.1, I t17.2.2.2.2.1, I t17.2.2.2.2.2.1, I t17.2.2.2.2.2.2.1, I t17.2.2.2.2.2.2.2.1, I t17.2.2.2.2.2.2.2.2.1, I t17.2.2.2.2.2.2.2.2.2]], .lst false 10 ((a2.take (Int.toNat (maxI 1 (((a2).length : Int) - 1)))).drop (Int.toNat 0))])))] 116, .lp [] [1, 3, 7, 8, 9, 11, 12, 13, 118, 119, 120] [0, 52, 74, 116] (.exit 2) [(11, .ptr 116 0 0 0 0), (12, .d (I t21.1)), (13, .d (I t21.2.1))] [(116, .box (.agg [.own 261 0, .own 374 0, .own 472 0])), (261, .row 0 3 t21.2.2.1), (374, .row 0 3 t21.2.2.2.1), (472, .row 0 3 t21.2.2.2.2)] 843, .ret (.tup [.agg [I t22.1, I t22.2.1], I t22.2.2]), .ret (.tup [.agg [I t23.1, I t23.2.1], I t23.2.2]), .ret (.tup [.agg [I t24.1, I t24.2.1], I t24.2.2]), .br true, .br true, .br true, .ret (.agg [I t28.1, I t28.2]), .br true, .br true, .br true, .br true, .ret (I t33)] = some (B (decide (t33 ≥ 0)), [Computes cx 31 [.agg [I t24.1, I t24.2.1], .agg [I t22.1, I t22.2.1]] (I t33), (decide (t24.2.1 ≤ 100000)) = true, (decide (t24.2.1 ≥ 1)) = true, ((t23.1 == t22.1) && ((t23.2.1 == t22.2.1) && true)) = true, ((t22.1 == t28.1) && ((t22.2.1 == t28.2) && true)) = true, Computes cx 30 [I t21.1, I t21.2.1] (.agg [I t28.1, I t28.2]), (t24.2.2 == 0) = true, (t23.2.2 == 0) = true, (t22.2.2 == 0) = true, Computes cx 29 [.lst false 3 t21.2.2.2.2] (.tup [.agg [I t24.1, I t24.2.1], I t24.2.2]), Computes cx 29 [.lst false 3 t21.2.2.2.1] (.tup [.agg [I t23.1, I t23.2.1], I t23.2.2]), Computes cx 29 [.lst false 3 t21.2.2.1] (.tup [.agg [I t22.1, I t22.2.1], I t22.2.2]), LoopN cx (loopAt cx.P 4 1) 319 0 false [(1, .d (.lst false 10 a2)), (3, .ptr 0 0 0 0 0), (7, .ptr 52 0 0 0 0), (8, .d (I (kE a6))), (9, .ptr 74 0 0 0 0), (11, .ptr 116 0 0 0 0), (12, .d (I 0)), (13, .d (I 0)), (118, .d (.lst false 4 a1)), (119, .d (I ((a1).length : Int))), (120, .d (I 0))] [(0, .box (.d (.agg [.v (.string a0), .lst false 4 a1]))), (52, .box (.d (.agg [I (IntKind.wrap .i64 a3), I (IntKind.wrap .i64 a4), I (100 + (IntKind.wrap .i64 a5))]))), (74, .box (.d (.agg [.lst false 10 a2, .lst true 10 [.agg [.v (.string t17.1), I t17.2.1, I t17.2.2.1, I t17.2.2.2.1, I t17.2.2.2.2.1, I t17.2.2.2.2.2.1, I t17.2.2.2.2.2.2.1, I t17.2.2.2.2.2.2.2.1, I t17.2.2.2.2.2.2.2.2.1, I t17.2.2.2.2.2.2.2.2.2]], .lst false 10 ((a2.take (Int.toNat (maxI 1 (((a2).length : Int) - 1)))).drop (Int.toNat 0))]))), (116, .box (.d (.agg [.lst true 0 [], .lst true 0 [], .lst true 0 []])))] (.exit 2) [(11, .ptr 116 0 0 0 0), (12, .d (I t21.1)), (13, .d (I t21.2.1))] [(116, .box (.agg [.own 261 0, .own 374 0, .own 472 0])), (261, .row 0 3 t21.2.2.1), (374, .row 0 3 t21.2.2.2.1), (472, .row 0 3 t21.2.2.2.2)], LoopN cx (loopAt cx.P 4 0) 319 0 false [(1, .d (.lst false 10 a2)), (3, .ptr 0 0 0 0 0), (7, .ptr 52 0 0 0 0), (8, .d (I (kE a6))), (9, .ptr 74 0 0 0 0), (10, .d (I (((a2).length : Int) - 1)))] [(0, .box (.d (.agg [.v (.string a0), .lst false 4 a1]))), (52, .box (.d (.agg [I (IntKind.wrap .i64 a3), I (IntKind.wrap .i64 a4), I (100 + (IntKind.wrap .i64 a5))]))), (74, .box (.d (.agg [.lst false 10 a2, .lst true 10 [.agg [.v (.string t17.1), I t17.2.1, I t17.2.2.1, I t17.2.2.2.1, I t17.2.2.2.2.1, I t17.2.2.2.2.2.1, I t17.2.2.2.2.2.2.1, I t17.2.2.2.2.2.2.2.1, I t17.2.2.2.2.2.2.2.2.1, I t17.2.2.2.2.2.2.2.2.2]], .lst false 10 ((a2.take (Int.toNat (maxI 1 (((a2).length : Int) - 1)))).drop (Int.toNat 0))])))] (.exit 0) [(1, .d (.lst false 10 a2)), (3, .ptr 0 0 0 0 0), (7, .ptr 52 0 0 0 0), (8, .d (I (kE a6))), (9, .ptr 74 0 0 0 0)] [(0, .box (.d (.agg [.v (.string a0), .lst false 4 a1]))), (52, .box (.d (.agg [I (IntKind.wrap .i64 a3), I (IntKind.wrap .i64 a4), I (100 + (IntKind.wrap .i64 a5))]))), (74, .box (.d (.agg [.lst false 10 a2, .lst true 10 [.agg [.v (.string t17.1), I t17.2.1, I t17.2.2.1, I t17.2.2.2.1, I t17.2.2.2.2.1, I t17.2.2.2.2.2.1, I t17.2.2.2.2.2.2.1, I t17.2.2.2.2.2.2.2.1, I t17.2.2.2.2.2.2.2.2.1, I t17.2.2.2.2.2.2.2.2.2]], .lst false 10 ((a2.take (Int.toNat (maxI 1 (((a2).length : Int) - 1)))).drop (Int.toNat 0))])))], inI64 (((a2).length : Int) - 1), (0 : Int) ≤ 0 ∧ 0 ≤ (maxI 1 (((a2).length : Int) - 1)) ∧ (maxI 1 (((a2).length : Int) - 1)) ≤ ((a2).length : Int) ∧ (a2 = [] ∨ 10 = 10), inI64 (((a2).length : Int) - 1), (0 : Int) ≤ 0, nth (a2) (Int.toNat 0) = some (.agg [.v (.string t17.1), I t17.2.1, I t17.2.2.1, I t17.2.2.2.1, I t17.2.2.2.2.1, I t17.2.2.2.2.2.1, I t17.2.2.2.2.2.2.1, I t17.2.2.2.2.2.2.2.1, I t17.2.2.2.2.2.2.2.2.1, I t17.2.2.2.2.2.2.2.2.2]), inI64 (kE a6), (3 : Int) ≠ 0, inI64 ((Int.tmod (IntKind.wrap .i64 a6) 3) + 3), (3 : Int) ≠ 0, inI64 (100 + (IntKind.wrap .i64 a5)), (decide (((a2).length : Int) > 4)) = false, (decide (((a2).length : Int) < 1)) = false, (t10 != 0) = false, Computes cx 23 [.lst false 10 a2] (I t10), (!t8) = false, Computes cx 22 [.lst false 10 a2] (B t8), (decide (((a1).length : Int) > 12)) = false, (t5 != 0) = false, Computes cx 21 [.agg [.v (.string a0), .lst false 4 a1]] (I t5), (!t3) = false, Computes cx 20 [.agg [.v (.string a0), .lst false 4 a1]] (B t3), (!t1) = false, Computes cx 5 [] (B t1)]) := by kernel_rfl
theorem e_top_TopThistleYear_18 (a0 : ByteArray) (a1 : List D) (a2 : List D) (a3 : Int) (a4 : Int) (a5 : Int) (a6 : Int) (t1 : Bool) (t3 : Bool) (t5 : Int) (t8 : Bool) (t10 : Int) (t17 : ByteArray × Int × Int × Int × Int × Int × Int × Int × Int × Int) (t20 : List D) : runFn true 100 cx 4 [.agg [.v (.string a0), .lst false 4 a1], .lst false 10 a2, .agg [.v (.int .i8 a3), .v (.int .i8 a4), .v (.int .i8 a5), .v (.int .i8 a6)]] [.ret (B t1), .br false, .ret (B t3), .br false, .ret (I t5), .br false, .br false, .ret (B t8), .br false, .ret (I t10), .br false, .br false, .br false, .el (enc_Asi9Z t17), .br true, .lp [] [1, 3, 7, 8, 9, 10] [0, 52, 74] (.exit 0) [(1, .d (.lst false 10 a2)), (3, .ptr 0 0 0 0 0), (7, .ptr 52 0 0 0 0), (8, .d (I (kE a6))), (9, .ptr 74 0 0 0 0)] [(0, .box (.d (.agg [.v (.string a0), .lst false 4 a1]))), (52, .box (.d (.agg [I (IntKind.wrap .i64 a3), I (IntKind.wrap .i64 a4), I (100 + (IntKind.wrap .i64 a5))]))), (74, .box (.agg [.d (.lst false 10 a2), .own 89 0, .d (.lst false 10 ((a2.take (Int.toNat (maxI 1 (((a2).length : Int) - 1)))).drop (Int.toNat 0)))])), (89, .row 0 10 t20)] 116, .lp [] [1, 3, 7, 8, 9, 11, 12, 13, 118, 119, 120] [0, 52, 74, 89, 116] .ret [(6, .d (B true))] [] 843] = some (B true, [LoopN cx (loopAt cx.P 4 1) 319 0 false [(1, .d (.lst false 10 a2)), (3, .ptr 0 0 0 0 0), (7, .ptr 52 0 0 0 0), (8, .d (I (kE a6))), (9, .ptr 74 0 0 0 0), (11, .ptr 116 0 0 0 0), (12, .d (I 0)), (13, .d (I 0)), (118, .d (.lst false 4 a1)), (119, .d (I ((a1).length : Int))), (120, .d (I 0))] [(0, .box (.d (.agg [.v (.string a0), .lst false 4 a1]))), (52, .box (.d (.agg [I (IntKind.wrap .i64 a3), I (IntKind.wrap .i64 a4), I (100 + (IntKind.wrap .i64 a5))]))), (74, .box (.agg [.d (.lst false 10 a2), .own 89 0, .d (.lst false 10 ((a2.take (Int.toNat (maxI 1 (((a2).length : Int) - 1)))).drop (Int.toNat 0)))])), (89, .row 0 10 t20), (116, .box (.d (.agg [.lst true 0 [], .lst true 0 [], .lst true 0 []])))] .ret [(6, .d (B true))] [], LoopN cx (loopAt cx.P 4 0) 319 0 false [(1, .d (.lst false 10 a2)), (3, .ptr 0 0 0 0 0), (7, .ptr 52 0 0 0 0), (8, .d (I (kE a6))), (9, .ptr 74 0 0 0 0), (10, .d (I (((a2).length : Int) - 1)))] [(0, .box (.d (.agg [.v (.string a0), .lst false 4 a1]))), (52, .box (.d (.agg [I (IntKind.wrap .i64 a3), I (IntKind.wrap .i64 a4), I (100 + (IntKind.wrap .i64 a5))]))), (74, .box (.d (.agg [.lst false 10 a2, .lst true 10 [.agg [.v (.string t17.1), I t17.2.1, I t17.2.2.1, I t17.2.2.2.1, I t17.2.2.2.2.1, I t17.2.2.2.2.2.1, I t17.2.2.2.2.2.2.1, I t17.2.2.2.2.2.2.2.1, I t17.2.2.2.2.2.2.2.2.1, I t17.2.2.2.2.2.2.2.2.2]], .lst false 10 ((a2.take (Int.toNat (maxI 1 (((a2).length : Int) - 1)))).drop (Int.toNat 0))])))] (.exit 0) [(1, .d (.lst false 10 a2)), (3, .ptr 0 0 0 0 0), (7, .ptr 52 0 0 0 0), (8, .d (I (kE a6))), (9, .ptr 74 0 0 0 0)] [(0, .box (.d (.agg [.v (.string a0), .lst false 4 a1]))), (52, .box (.d (.agg [I (IntKind.wrap .i64 a3), I (IntKind.wrap .i64 a4), I (100 + (IntKind.wrap .i64 a5))]))), (74, .box (.agg [.d (.lst false 10 a2), .own 89 0, .d (.lst false 10 ((a2.take (Int.toNat (maxI 1 (((a2).length : Int) - 1)))).drop (Int.toNat 0)))])), (89, .row 0 10 t20)], inI64 (((a2).length : Int) - 1), (0 : Int) ≤ 0 ∧ 0 ≤ (maxI 1 (((a2).length : Int) - 1)) ∧ (maxI 1 (((a2).length : Int) - 1)) ≤ ((a2).length : Int) ∧ (a2 = [] ∨ 10 = 10), inI64 (((a2).length : Int) - 1), (0 : Int) ≤ 0, nth (a2) (Int.toNat 0) = some (.agg [.v (.string t17.1), I t17.2.1, I t17.2.2.1, I t17.2.2.2.1, I t17.2.2.2.2.1, I t17.2.2.2.2.2.1, I t17.2.2.2.2.2.2.1, I t17.2.2.2.2.2.2.2.1, I t17.2.2.2.2.2.2.2.2.1, I t17.2.2.2.2.2.2.2.2.2]), inI64 (kE a6), (3 : Int) ≠ 0, inI64 ((Int.tmod (IntKind.wrap .i64 a6) 3) + 3), (3 : Int) ≠ 0, inI64 (100 + (IntKind.wrap .i64 a5)), (decide (((a2).length : Int) > 4)) = false, (decide (((a2).length : Int) < 1)) = false, (t10 != 0) = false, Computes cx 23 [.lst false 10 a2] (I t10), (!t8) = false, Computes cx 22 [.lst false 10 a2] (B t8), (decide (((a1).length : Int) > 12)) = false, (t5 != 0) = false, Computes cx 21 [.agg [.v (.string a0), .lst false 4 a1]] (I t5), (!t3) = false, Computes cx 20 [.agg [.v (.string a0), .lst false 4 a1]] (B t3), (!t1) = false, Computes cx 5 [] (B t1)]) := by kernel_rfl
theorem e_top_TopThistleYear_19 (a0 : ByteArray) (a1 : List D) (a2 : List D) (a3 : Int) (a4 : Int) (a5 : Int) (a6 : Int) (t1 : Bool) (t3 : Bool) (t5 : Int) (t8 : Bool) (t10 : Int) (t17 : ByteArray × Int × Int × Int × Int × Int × Int × Int × Int × Int) (t20 : List D) (t22 : Int × Int × Int) (t24 : Int × Int) (t29 : Int) : runFn true 100 cx 4 [.agg [.v (.string a0), .lst false 4 a1], .lst false 10 a2, .agg [.v (.int .i8 a3), .v (.int .i8 a4), .v (.int .i8 a5), .v (.int .i8 a6)]] [.ret (B t1), .br false, .ret (B t3), .br false, .ret (I t5), .br false, .br false, .ret (B t8), .br false, .ret (I t10), .br false, .br false, .br false, .el (enc_Asi9Z t17), .br true, .lp [] [1, 3, 7, 8, 9, 10] [0, 52, 74] (.exit 0) [(1, .d (.lst false 10 a2)), (3, .ptr 0 0 0 0 0), (7, .ptr 52 0 0 0 0), (8, .d (I (kE a6))), (9, .ptr 74 0 0 0 0)] [(0, .box (.d (.agg [.v (.string a0), .lst false 4 a1]))), (52, .box (.d (.agg [I (IntKind.wrap .i64 a3), I (IntKind.wrap .i64 a4), I (100 + (IntKind.wrap .i64 a5))]))), (74, .box (.agg [.d (.lst false 10 a2), .own 89 0, .d (.lst false 10 ((a2.take (Int.toNat (maxI 1 (((a2).length : Int) - 1)))).drop (Int.toNat 0)))])), (89, .row 0 10 t20)] 116, .lp [] [1, 3, 7, 8, 9, 11, 12, 13, 118, 119, 120] [0, 52, 74, 89, 116] (.exit 2) [(11, .ptr 116 0 0 0 0), (12, .d (I 0)), (13, .d (I 0))] [(116, .box (.d (.agg [.lst true 0 [], .lst true 0 [], .lst true 0 []])))] 843, .ret (.tup [.agg [I t22.1, I t22.2.1], I t22.2.2]), .ret (.tup [.agg [I t22.1, I t22.2.1], I t22.2.2]), .ret (.tup [.agg [I t22.1, I t22.2.1], I t22.2.2]), .br true, .br true, .br true, .ret (.agg [I t24.1, I t24.2]), .br true, .br true, .br true, .br true, .ret (I t29)] = some (B (decide (t29 ≥ 0)), [Computes cx 31 [.agg [I t22.1, I t22.2.1], .agg [I t22.1, I t22.2.1]] (I t29), (decide (t22.2.1 ≤ 100000)) = true, (decide (t22.2.1 ≥ 1)) = true, ((t22.1 == t22.1) && ((t22.2.1 == t22.2.1) && true)) = true, ((t22.1 == t24.1) && ((t22.2.1 == t24.2) && true)) = true, Computes cx 30 [I 0, I 0] (.agg [I t24.1, I t24.2]), (t22.2.2 == 0) = true, (t22.2.2 == 0) = true, (t22.2.2 == 0) = true, Computes cx 29 [.lst true 0 []] (.tup [.agg [I t22.1, I t22.2.1], I t22.2.2]), Computes cx 29 [.lst true 0 []] (.tup [.agg [I t22.1, I t22.2.1], I t22.2.2]), Computes cx 29 [.lst true 0 []] (.tup [.agg [I t22.1, I t22.2.1], I t22.2.2]), LoopN cx (loopAt cx.P 4 1) 319 0 false [(1, .d (.lst false 10 a2)), (3, .ptr 0 0 0 0 0), (7, .ptr 52 0 0 0 0), (8, .d (I (kE a6))), (9, .ptr 74 0 0 0 0), (11, .ptr 116 0 0 0 0), (12, .d (I 0)), (13, .d (I 0)), (118, .d (.lst false 4 a1)), (119, .d (I ((a1).length : Int))), (120, .d (I 0))] [(0, .box (.d (.agg [.v (.string a0), .lst false 4 a1]))), (52, .box (.d (.agg [I (IntKind.wrap .i64 a3), I (IntKind.wrap .i64 a4), I (100 + (IntKind.wrap .i64 a5))]))), (74, .box (.agg [.d (.lst false 10 a2), .own 89 0, .d (.lst false 10 ((a2.take (Int.toNat (maxI 1 (((a2).length : Int) - 1)))).drop (Int.toNat 0)))])), (89, .row 0 10 t20), (116, .box (.d (.agg [.lst true 0 [], .lst true 0 [], .lst true 0 []])))] (.exit 2) [(11, .ptr 116 0 0 0 0), (12, .d (I 0)), (13, .d (I 0))] [(116, .box (.d (.agg [.lst true 0 [], .lst true 0 [], .lst true 0 []])))], LoopN cx (loopAt cx.P 4 0) 319 0 false [(1, .d (.lst false 10 a2)), (3, .ptr 0 0 0 0 0), (7, .ptr 52 0 0 0 0), (8, .d (I (kE a6))), (9, .ptr 74 0 0 0 0), (10, .d (I (((a2).length : Int) - 1)))] [(0, .box (.d (.agg [.v (.string a0), .lst false 4 a1]))), (52, .box (.d (.agg [I (IntKind.wrap .i64 a3), I (IntKind.wrap .i64 a4), I (100 + (IntKind.wrap .i64 a5))]))), (74, .box (.d (.agg [.lst false 10 a2, .lst true 10 [.agg [.v (.string t17.1), I t17.2.1, I t17.2.2.1, I t17.2.2.2.1, I t17.2.2.2.2.1, I t17.2.2.2.2.2.1, I t17.2.2.2.2.2.2.1, I t17.2.2.2.2.2.2.2.1, I t17.2.2.2.2.2.2.2.2.1, I t17.2.2.2.2.2.2.2.2.2]], .lst false 10 ((a2.take (Int.toNat (maxI 1 (((a2).length : Int) - 1)))).drop (Int.toNat 0))])))] (.exit 0) [(1, .d (.lst false 10 a2)), (3, .ptr 0 0 0 0 0), (7, .ptr 52 0 0 0 0), (8, .d (I (kE a6))), (9, .ptr 74 0 0 0 0)] [(0, .box (.d (.agg [.v (.string a0), .lst false 4 a1]))), (52, .box (.d (.agg [I (IntKind.wrap .i64 a3), I (IntKind.wrap .i64 a4), I (100 + (IntKind.wrap .i64 a5))]))), (74, .box (.agg [.d (.lst false 10 a2), .own 89 0, .d (.lst false 10 ((a2.take (Int.toNat (maxI 1 (((a2).length : Int) - 1)))).drop (Int.toNat 0)))])), (89, .row 0 10 t20)], inI64 (((a2).length : Int) - 1), (0 : Int) ≤ 0 ∧ 0 ≤ (maxI 1 (((a2).length : Int) - 1)) ∧ (maxI 1 (((a2).length : Int) - 1)) ≤ ((a2).length : Int) ∧ (a2 = [] ∨ 10 = 10), inI64 (((a2).length : Int) - 1), (0 : Int) ≤ 0, nth (a2) (Int.toNat 0) = some (.agg [.v (.string t17.1), I t17.2.1, I t17.2.2.1, I t17.2.2.2.1, I t17.2.2.2.2.1, I t17.2.2.2.2.2.1, I t17.2.2.2.2.2.2.1, I t17.2.2.2.2.2.2.2.1, I t17.2.2.2.2.2.2.2.2.1, I t17.2.2.2.2.2.2.2.2.2]), inI64 (kE a6), (3 : Int) ≠ 0, inI64 ((Int.tmod (IntKind.wrap .i64 a6) 3) + 3), (3 : Int) ≠ 0, inI64 (100 + (IntKind.wrap .i64 a5)), (decide (((a2).length : Int) > 4)) = false, (decide (((a2).length : Int) < 1)) = false, (t10 != 0) = false, Computes cx 23 [.lst false 10 a2] (I t10), (!t8) = false, Computes cx 22 [.lst false 10 a2] (B t8), (decide (((a1).length : Int) > 12)) = false, (t5 != 0) = false, Computes cx 21 [.agg [.v (.string a0), .lst false 4 a1]] (I t5), (!t3) = false, Computes cx 20 [.agg [.v (.string a0), .lst false 4 a1]] (B t3), (!t1) = false, Computes cx 5 [] (B t1)]) := by kernel_rfl
theorem e_top_TopThistleYear_25 (a0 : ByteArray) (a1 : List D) (a2 : List D) (a3 : Int) (a4 : Int) (a5 : Int) (a6 : Int) (t1 : Bool) (t3 : Bool) (t5 : Int) (t8 : Bool) (t10 : Int) (t17 : ByteArray × Int × Int × Int × Int × Int × Int × Int × Int × Int) (t20 : List D) (t21 : Int × Int × List D × List D × List D) (t22 : Int × Int × Int) (t23 : Int × Int × Int) (t24 : Int × Int × Int) (t28 : Int × Int) (t33 : Int) : runFn true 100 cx 4 [.agg [.v (.string a0), .lst false 4 a1], .lst false 10 a2, .agg [.v (.int .i8 a3), .v (.int .i8 a4), .v (.int .i8 a5), .v (.int .i8 a6)]] [.ret (B t1), .br false, .ret (B t3), .br false, .ret (I t5), .br false, .br false, .ret (B t8), .br false, .ret (I t10), .br false, .br false, .br false, .el (enc_Asi9Z t17), .br true, .lp [] [1, 3, 7, 8, 9, 10] [0, 52, 74] (.exit 0) [(1, .d (.lst false 10 a2)), (3, .ptr 0 0 0 0 0), (7, .ptr 52 0 0 0 0), (8, .d (I (kE a6))), (9, .ptr 74 0 0 0 0)] [(0, .box (.d (.agg [.v (.string a0), .lst false 4 a1]))), (52, .box (.d (.agg [I (IntKind.wrap .i64 a3), I (IntKind.wrap .i64 a4), I (100 + (IntKind.wrap .i64 a5))]))), (74, .box (.agg [.d (.lst false 10 a2), .own 89 0, .d (.lst false 10 ((a2.take (Int.toNat (maxI 1 (((a2).length : Int) - 1)))).drop (Int.toNat 0)))])), (89, .row 0 10 t20)] 116, .lp [] [1, 3, 7, 8, 9, 11, 12, 13, 118, 119, 120] [0, 52, 74, 89, 116] (.exit 2) [(11, .ptr 116 0 0 0 0), (12, .d (I t21.1)), (13, .d (I t21.2.1))] [(116, .box (.agg [.own 261 0, .own 374 0, .own 472 0])), (261, .row 0 3 t21.2.2.1), (374, .row 0 3 t21.2.2.2.1), (472, .row 0 3 t21.2.2.2.2)] 843, .ret (.tup [.agg [I t22.1, I t22.2.1], I t22.2.2]), .ret (.tup [.agg [I t23.1, I t23.2.1], I t23.2.2]), .ret (.tup [.agg [I t24.1, I t24.2.1], I t24.2.2]), .br true, .br true, .br true, .ret (.agg [I t28.1, I t28.2]), .br true, .br true, .br true, .br true, .ret (I t33)] = some (B (decide (t33 ≥ 0)), [Computes cx 31 [.agg [I t24.1, I t24.2.1], .agg [I t22.1, I t22.2.1]] (I t33), (decide (t24.2.1 ≤ 100000)) = true, (decide (t24.2.1 ≥ 1)) = true, ((t23.1 == t22.1) && ((t23.2.1 == t22.2.1) && true)) = true, ((t22.1 == t28.1) && ((t22.2.1 == t28.2) && true)) = true, Computes cx 30 [I t21.1, I t21.2.1] (.agg [I t28.1, I t28.2]), (t24.2.2 == 0) = true, (t23.2.2 == 0) = true, (t22.2.2 == 0) = true, Computes cx 29 [.lst false 3 t21.2.2.2.2] (.tup [.agg [I t24.1, I t24.2.1], I t24.2.2]), Computes cx 29 [.lst false 3 t21.2.2.2.1] (.tup [.agg [I t23.1, I t23.2.1], I t23.2.2]), Computes cx 29 [.lst false 3 t21.2.2.1] (.tup [.agg [I t22.1, I t22.2.1], I t22.2.2]), LoopN cx (loopAt cx.P 4 1) 319 0 false [(1, .d (.lst false 10 a2)), (3, .ptr 0 0 0 0 0), (7, .ptr 52 0 0 0 0), (8, .d (I (kE a6))), (9, .ptr 74 0 0 0 0), (11, .ptr 116 0 0 0 0), (12, .d (I 0)), (13, .d (I 0)), (118, .d (.lst false 4 a1)), (119, .d (I ((a1).length : Int))), (120, .d (I 0))] [(0, .box (.d (.agg [.v (.string a0), .lst false 4 a1]))), (52, .box (.d (.agg [I (IntKind.wrap .i64 a3), I (IntKind.wrap .i64 a4), I (100 + (IntKind.wrap .i64 a5))]))), (74, .box (.agg [.d (.lst false 10 a2), .own 89 0, .d (.lst false 10 ((a2.take (Int.toNat (maxI 1 (((a2).length : Int) - 1)))).drop (Int.toNat 0)))])), (89, .row 0 10 t20), (116, .box (.d (.agg [.lst true 0 [], .lst true 0 [], .lst true 0 []])))] (.exit 2) [(11, .ptr 116 0 0 0 0), (12, .d (I t21.1)), (13, .d (I t21.2.1))] [(116, .box (.agg [.own 261 0, .own 374 0, .own 472 0])), (261, .row 0 3 t21.2.2.1), (374, .row 0 3 t21.2.2.2.1), (472, .row 0 3 t21.2.2.2.2)], LoopN cx (loopAt cx.P 4 0) 319 0 false [(1, .d (.lst false 10 a2)), (3, .ptr 0 0 0 0 0), (7, .ptr 52 0 0 0 0), (8, .d (I (kE a6))), (9, .ptr 74 0 0 0 0), (10, .d (I (((a2).length : Int) - 1)))] [(0, .box (.d (.agg [.v (.string a0), .lst false 4 a1]))), (52, .box (.d (.agg [I (IntKind.wrap .i64 a3), I (IntKind.wrap .i64 a4), I (100 + (IntKind.wrap .i64 a5))]))), (74, .box (.d (.agg [.lst false 10 a2, .lst true 10 [.agg [.v (.string t17.1), I t17.2.1, I t17.2.2.1, I t17.2.2.2.1, I t17.2.2.2.2.1, I t17.2.2.2.2.2.1, I t17.2.2.2.2.2.2.1, I t17.2.2.2.2.2.2.2.1, I t17.2.2.2.2.2.2.2.2.1, I t17.2.2.2.2.2.2.2.2.2]], .lst false 10 ((a2.take (Int.toNat (maxI 1 (((a2).length : Int) - 1)))).drop (Int.toNat 0))])))] (.exit 0) [(1, .d (.lst false 10 a2)), (3, .ptr 0 0 0 0 0), (7, .ptr 52 0 0 0 0), (8, .d (I (kE a6))), (9, .ptr 74 0 0 0 0)] [(0, .box (.d (.agg [.v (.string a0), .lst false 4 a1]))), (52, .box (.d (.agg [I (IntKind.wrap .i64 a3), I (IntKind.wrap .i64 a4), I (100 + (IntKind.wrap .i64 a5))]))), (74, .box (.agg [.d (.lst false 10 a2), .own 89 0, .d (.lst false 10 ((a2.take (Int.toNat (maxI 1 (((a2).length : Int) - 1)))).drop (Int.toNat 0)))])), (89, .row 0 10 t20)], inI64 (((a2).length : Int) - 1), (0 : Int) ≤ 0 ∧ 0 ≤ (maxI 1 (((a2).length : Int) - 1)) ∧ (maxI 1 (((a2).length : Int) - 1)) ≤ ((a2).length : Int) ∧ (a2 = [] ∨ 10 = 10), inI64 (((a2).length : Int) - 1), (0 : Int) ≤ 0, nth (a2) (Int.toNat 0) = some (.agg [.v (.string t17.1), I t17.2.1, I t17.2.2.1, I t17.2.2.2.1, I t17.2.2.2.2.1, I t17.2.2.2.2.2.1, I t17.2.2.2.2.2.2.1, I t17.2.2.2.2.2.2.2.1, I t17.2.2.2.2.2.2.2.2.1, I t17.2.2.2.2.2.2.2.2.2]), inI64 (kE a6), (3 : Int) ≠ 0, inI64 ((Int.tmod (IntKind.wrap .i64 a6) 3) + 3), (3 : Int) ≠ 0, inI64 (100 + (IntKind.wrap .i64 a5)), (decide (((a2).length : Int) > 4)) = false, (decide (((a2).length : Int) < 1)) = false, (t10 != 0) = false, Computes cx 23 [.lst false 10 a2] (I t10), (!t8) = false, Computes cx 22 [.lst false 10 a2] (B t8), (decide (((a1).length : Int) > 12)) = false, (t5 != 0) = false, Computes cx 21 [.agg [.v (.string a0), .lst false 4 a1]] (I t5), (!t3) = false, Computes cx 20 [.agg [.v (.string a0), .lst false 4 a1]] (B t3), (!t1) = false, Computes cx 5 [] (B t1)]) := by kernel_rfl
theorem e_top_TopThistleYear_33 (a0 : ByteArray) (a1 : List D) (a2 : List D) (a3 : Int) (a4 : Int) (a5 : Int) (a6 : Int) (t1 : Bool) (t3 : Bool) (t5 : Int) (t8 : Bool) (t10 : Int) : runFn true 100 cx 4 [.agg [.v (.string a0), .lst false 4 a1], .lst false 10 a2, .agg [.v (.int .i8 a3), .v (.int .i8 a4), .v (.int .i8 a5), .v (.int .i8 a6)]] [.ret (B t1), .br false, .ret (B t3), .br false, .ret (I t5), .br false, .br false, .ret (B t8), .br false, .ret (I t10), .br true, .no, .no, .ret (B t1)] = some (B t1, [Computes cx 5 [] (B t1), (t10 != 0) = true, Computes cx 23 [.lst false 10 a2] (I t10), (!t8) = false, Computes cx 22 [.lst false 10 a2] (B t8), (decide (((a1).length : Int) > 12)) = false, (t5 != 0) = false, Computes cx 21 [.agg [.v (.string a0), .lst false 4 a1]] (I t5), (!t3) = false, Computes cx 20 [.agg [.v (.string a0), .lst false 4 a1]] (B t3), (!t1) = false, Computes cx 5 [] (B t1)]) := by kernel_rfl
theorem e_top_TopThistleYear_34 (a0 : ByteArray) (a1 : List D) (a2 : List D) (a3 : Int) (a4 : Int) (a5 : Int) (a6 : Int) (t1 : Bool) (t3 : Bool) (t5 : Int) (t8 : Bool) : runFn true 100 cx 4 [.agg [.v (.string a0), .lst false 4 a1], .lst false 10 a2, .agg [.v (.int .i8 a3), .v (.int .i8 a4), .v (.int .i8 a5), .v (.int .i8 a6)]] [.ret (B t1), .br false, .ret (B t3), .br false, .ret (I t5), .br false, .br false, .ret (B t8), .br true, .no, .no, .no, .ret (B t1)] = some (B t1, [Computes cx 5 [] (B t1), (!t8) = true, Computes cx 22 [.lst false 10 a2] (B t8), (decide (((a1).length : Int) > 12)) = false, (t5 != 0) = false, Computes cx 21 [.agg [.v (.string a0), .lst false 4 a1]] (I t5), (!t3) = false, Computes cx 20 [.agg [.v (.string a0), .lst false 4 a1]] (B t3), (!t1) = false, Computes cx 5 [] (B t1)]) := by kernel_rfl
theorem e_top_TopThistleYear_35 (a0 : ByteArray) (a1 : List D) (a2 : List D) (a3 : Int) (a4 : Int) (a5 : Int) (a6 : Int) (t1 : Bool) (t3 : Bool) (t5 : Int) : runFn true 100 cx 4 [.agg [.v (.string a0), .lst false 4 a1], .lst false 10 a2, .agg [.v (.int .i8 a3), .v (.int .i8 a4), .v (.int .i8 a5), .v (.int .i8 a6)]] [.ret (B t1), .br false, .ret (B t3), .br false, .ret (I t5), .br true, .no, .no, .no, .no, .no, .ret (B t1)] = some (B t1, [Computes cx 5 [] (B t1), (t5 != 0) = true, Computes cx 21 [.agg [.v (.string a0), .lst false 4 a1]] (I t5), (!t3) = false, Computes cx 20 [.agg [.v (.string a0), .lst false 4 a1]] (B t3), (!t1) = false, Computes cx 5 [] (B t1)]) := by kernel_rfl
theorem e_top_TopThistleYear_36 (a0 : ByteArray) (a1 : List D) (a2 : List D) (a3 : Int) (a4 : Int) (a5 : Int) (a6 : Int) (t1 : Bool) (t3 : Bool) : runFn true 100 cx 4 [.agg [.v (.string a0), .lst false 4 a1], .lst false 10 a2, .agg [.v (.int .i8 a3), .v (.int .i8 a4), .v (.int .i8 a5), .v (.int .i8 a6)]] [.ret (B t1), .br false, .ret (B t3), .br true, .no, .no, .no, .no, .no, .no, .ret (B t1)] = some (B t1, [Computes cx 5 [] (B t1), (!t3) = true, Computes cx 20 [.agg [.v (.string a0), .lst false 4 a1]] (B t3), (!t1) = false, Computes cx 5 [] (B t1)]) := by kernel_rfl
theorem e_top_TopThistleYear_37 (a0 : ByteArray) (a1 : List D) (a2 : List D) (a3 : Int) (a4 : Int) (a5 : Int) (a6 : Int) (t1 : Bool) : runFn true 100 cx 4 [.agg [.v (.string a0), .lst false 4 a1], .lst false 10 a2, .agg [.v (.int .i8 a3), .v (.int .i8 a4), .v (.int .i8 a5), .v (.int .i8 a6)]] [.ret (B t1), .br true, .no, .no, .no, .no, .no, .no, .no, .ret (B t1)] = some (B t1, [Computes cx 5 [] (B t1), (!t1) = true, Computes cx 5 [] (B t1)]) := by kernel_rfl
def F_top_TopThistleYear (n : Nat) (a0 : ByteArray) (a1 : List D) (a2 : List D) (a3 : Int) (a4 : Int) (a5 : Int) (a6 : Int) : Option (Bool) :=
 (F_top_thistleLevel n).bind fun t1 =>
 if t1 = true then
  (F_ref02_Short n a0 a1).bind fun t3 =>
  if t3 = true then
  (F_ref02_CheckSky n a0 a1).bind fun t5 =>
  if t5 = 0 then
   if ((a1).length : Int) > 12 then
   some t1
   else
   (F_ref04_Short n a2).bind fun t8 =>
   if t8 = true then
   (F_ref04_CheckMirrors n a2).bind fun t10 =>
   if t10 = 0 then
    if ((a2).length : Int) < 1 then
    some t1
    else
    if ((a2).length : Int) > 4 then
    some t1
    else
    if inI64 (100 + (IntKind.wrap .i64 a5)) then
    if inI64 ((Int.tmod (IntKind.wrap .i64 a6) 3) + 3) then
    if inI64 (kE a6) then
    (el un_Asi9Z a2 0).bind fun t17 =>
    if inI64 (((a2).length : Int) - 1) then
    if (0 : Int) ≤ 0 ∧ 0 ≤ (maxI 1 (((a2).length : Int) - 1)) ∧ (maxI 1 (((a2).length : Int) - 1)) ≤ ((a2).length : Int) ∧ (a2 = [] ∨ 10 = 10) then
    (loopF (F_top_TopThistleYear_L1 n a0 a1 a2 a3 a4 a5 a6 t17) n (.inl ())).bind fun t20 => match t20 with
    | (.inl t20) => (
     (loopF (F_top_TopThistleYear_L2 n a0 a1 a2 a3 a4 a5 a6 t17) n (.inl ())).bind fun t21 => match t21 with
     | (.inl t21) => (
      some true)
     | (.inr (.inl t21)) => (
      (F_field_Summed n).bind fun t22 =>
      if t22.2.2 = 0 then
      (F_ref01_Lowest n).bind fun t24 =>
      if ((t22.1 == t24.1) && ((t22.2.1 == t24.2) && true)) = true then
       if ((t22.1 == t22.1) && ((t22.2.1 == t22.2.1) && true)) = true then
       if t22.2.1 ≥ 1 then
        if t22.2.1 ≤ 100000 then
        (F_ref01_Compare n t22.1 t22.2.1 t22.1 t22.2.1).bind fun t29 =>
        some (decide (t29 ≥ 0))
        else
        none /- false -/
       else
       none /- false -/
       else
       none /- false -/
      else
      none /- false -/
      else
      none /- false -/)
     | (.inr (.inr t21)) => (
      (F_field_Summed_2 n t21.2.2.1).bind fun t22 =>
      (F_field_Summed_2 n t21.2.2.2.1).bind fun t23 =>
      (F_field_Summed_2 n t21.2.2.2.2).bind fun t24 =>
      if t22.2.2 = 0 then
      if t23.2.2 = 0 then
       if t24.2.2 = 0 then
       (F_ref01_Lowest_2 n t21.1 t21.2.1).bind fun t28 =>
       if ((t22.1 == t28.1) && ((t22.2.1 == t28.2) && true)) = true then
        if ((t23.1 == t22.1) && ((t23.2.1 == t22.2.1) && true)) = true then
        if t24.2.1 ≥ 1 then
         if t24.2.1 ≤ 100000 then
         (F_ref01_Compare n t24.1 t24.2.1 t22.1 t22.2.1).bind fun t33 =>
         some (decide (t33 ≥ 0))
         else
         none /- false -/
        else
        none /- false -/
        else
        none /- false -/
       else
       none /- false -/
       else
       none /- false -/
      else
      none /- false -/
      else
      none /- false -/))
    | (.inr t20) => (
     (loopF (F_top_TopThistleYear_L3 n a0 a1 a2 a3 a4 a5 a6 t20) n (.inl ())).bind fun t21 => match t21 with
     | (.inl t21) => (
      some true)
     | (.inr (.inl t21)) => (
      (F_field_Summed n).bind fun t22 =>
      if t22.2.2 = 0 then
      (F_ref01_Lowest n).bind fun t24 =>
      if ((t22.1 == t24.1) && ((t22.2.1 == t24.2) && true)) = true then
       if ((t22.1 == t22.1) && ((t22.2.1 == t22.2.1) && true)) = true then
       if t22.2.1 ≥ 1 then
        if t22.2.1 ≤ 100000 then
        (F_ref01_Compare n t22.1 t22.2.1 t22.1 t22.2.1).bind fun t29 =>
        some (decide (t29 ≥ 0))
        else
        none /- false -/
       else
       none /- false -/
       else
       none /- false -/
      else
      none /- false -/
      else
      none /- false -/)
     | (.inr (.inr t21)) => (
      (F_field_Summed_2 n t21.2.2.1).bind fun t22 =>
      (F_field_Summed_2 n t21.2.2.2.1).bind fun t23 =>
      (F_field_Summed_2 n t21.2.2.2.2).bind fun t24 =>
      if t22.2.2 = 0 then
      if t23.2.2 = 0 then
       if t24.2.2 = 0 then
       (F_ref01_Lowest_2 n t21.1 t21.2.1).bind fun t28 =>
       if ((t22.1 == t28.1) && ((t22.2.1 == t28.2) && true)) = true then
        if ((t23.1 == t22.1) && ((t23.2.1 == t22.2.1) && true)) = true then
        if t24.2.1 ≥ 1 then
         if t24.2.1 ≤ 100000 then
         (F_ref01_Compare n t24.1 t24.2.1 t22.1 t22.2.1).bind fun t33 =>
         some (decide (t33 ≥ 0))
         else
         none /- false -/
        else
        none /- false -/
        else
        none /- false -/
       else
       none /- false -/
       else
       none /- false -/
      else
      none /- false -/
      else
      none /- false -/))
    else none
    else none
    else none
    else none
    else none
   else
   some t1
   else
   some t1
  else
  some t1
  else
  some t1
 else
 some t1
theorem c_top_TopThistleYear {n : Nat} {a0 : ByteArray} {a1 : List D} {a2 : List D} {a3 : Int} {a4 : Int} {a5 : Int} {a6 : Int} {r : Bool} (h : F_top_TopThistleYear n a0 a1 a2 a3 a4 a5 a6 = some r) : Computes cx 4 [.agg [.v (.string a0), .lst false 4 a1], .lst false 10 a2, .agg [.v (.int .i8 a3), .v (.int .i8 a4), .v (.int .i8 a5), .v (.int .i8 a6)]] (B r) := by
 unfold F_top_TopThistleYear at h
 obtain ⟨t1, h1, h⟩ := bo h
 by_cases h2 : t1 = true
 ·replace h := it h h2
  obtain ⟨t3, h3, h⟩ := bo h
  by_cases h4 : t3 = true
  ·replace h := it h h4
   obtain ⟨t5, h5, h⟩ := bo h
   by_cases h6 : t5 = 0
   ·replace h := it h h6
    by_cases h7 : ((a1).length : Int) > 12
    ·replace h := it h h7
     obtain rfl := oi h
     exact run (e_top_TopThistleYear_0 a0 a1 a2 a3 a4 a5 a6 t1 t3 t5) ⟨(c_top_thistleLevel h1), (decide_eq_true h7), (nef h6), (c_ref02_CheckSky h5), (notf h4), (c_ref02_Short h3), (notf h2), (c_top_thistleLevel h1), trivial⟩
    ·replace h := jf h h7
     obtain ⟨t8, h8, h⟩ := bo h
     by_cases h9 : t8 = true
     ·replace h := it h h9
      obtain ⟨t10, h10, h⟩ := bo h
      by_cases h11 : t10 = 0
      ·replace h := it h h11
       by_cases h12 : ((a2).length : Int) < 1
       ·replace h := it h h12
        obtain rfl := oi h
        exact run (e_top_TopThistleYear_1 a0 a1 a2 a3 a4 a5 a6 t1 t3 t5 t8 t10) ⟨(c_top_thistleLevel h1), (decide_eq_true h12), (nef h11), (c_ref04_CheckMirrors h10), (notf h9), (c_ref04_Short h8), (decide_eq_false h7), (nef h6), (c_ref02_CheckSky h5), (notf h4), (c_ref02_Short h3), (notf h2), (c_top_thistleLevel h1), trivial⟩
       ·replace h := jf h h12
        by_cases h13 : ((a2).length : Int) > 4
        ·replace h := it h h13
         obtain rfl := oi h
         exact run (e_top_TopThistleYear_2 a0 a1 a2 a3 a4 a5 a6 t1 t3 t5 t8 t10) ⟨(c_top_thistleLevel h1), (decide_eq_true h13), (decide_eq_false h12), (nef h11), (c_ref04_CheckMirrors h10), (notf h9), (c_ref04_Short h8), (decide_eq_false h7), (nef h6), (c_ref02_CheckSky h5), (notf h4), (c_ref02_Short h3), (notf h2), (c_top_thistleLevel h1), trivial⟩
        ·replace h := jf h h13
         obtain ⟨h14, h⟩ := gd h; obtain ⟨h15, h⟩ := gd h; obtain ⟨h16, h⟩ := gd h; obtain ⟨t17, h17, h⟩ := bo h; obtain ⟨h18, h⟩ := gd h; obtain ⟨h19, h⟩ := gd h; obtain ⟨t20, h20, h⟩ := bo h
         rcases t20 with t20 | t20
         ·obtain ⟨t21, h21, h⟩ := bo h
          rcases t21 with t21 | t21 | t21
          ·obtain rfl := oi h
           exact run (e_top_TopThistleYear_3 a0 a1 a2 a3 a4 a5 a6 t1 t3 t5 t8 t10 t17) ⟨(loopF_to R_top_TopThistleYear_L2 h21), (loopF_to R_top_TopThistleYear_L1 h20), h18, h19, h18, (el_ok un_Asi9Z_ok h17).1, (el_ok un_Asi9Z_ok h17).2, h16, (by decide), h15, (by decide), h14, (decide_eq_false h13), (decide_eq_false h12), (nef h11), (c_ref04_CheckMirrors h10), (notf h9), (c_ref04_Short h8), (decide_eq_false h7), (nef h6), (c_ref02_CheckSky h5), (notf h4), (c_ref02_Short h3), (notf h2), (c_top_thistleLevel h1), trivial⟩
          ·obtain ⟨t22, h22, h⟩ := bo h
           by_cases h23 : t22.2.2 = 0
           ·replace h := it h h23
            obtain ⟨t24, h24, h⟩ := bo h
            by_cases h25 : ((t22.1 == t24.1) && ((t22.2.1 == t24.2) && true)) = true
            ·replace h := it h h25
             by_cases h26 : ((t22.1 == t22.1) && ((t22.2.1 == t22.2.1) && true)) = true
             ·replace h := it h h26
              by_cases h27 : t22.2.1 ≥ 1
              ·replace h := it h h27
               by_cases h28 : t22.2.1 ≤ 100000
               ·replace h := it h h28
                obtain ⟨t29, h29, h⟩ := bo h
                obtain rfl := oi h
                exact run (e_top_TopThistleYear_4 a0 a1 a2 a3 a4 a5 a6 t1 t3 t5 t8 t10 t17 t22 t24 t29) ⟨(c_ref01_Compare h29), (decide_eq_true h28), (decide_eq_true h27), h26, h25, (c_ref01_Lowest h24), (eqt h23), (eqt h23), (eqt h23), (c_field_Summed h22), (c_field_Summed h22), (c_field_Summed h22), (loopF_to R_top_TopThistleYear_L2 h21), (loopF_to R_top_TopThistleYear_L1 h20), h18, h19, h18, (el_ok un_Asi9Z_ok h17).1, (el_ok un_Asi9Z_ok h17).2, h16, (by decide), h15, (by decide), h14, (decide_eq_false h13), (decide_eq_false h12), (nef h11), (c_ref04_CheckMirrors h10), (notf h9), (c_ref04_Short h8), (decide_eq_false h7), (nef h6), (c_ref02_CheckSky h5), (notf h4), (c_ref02_Short h3), (notf h2), (c_top_thistleLevel h1), trivial⟩
               ·replace h := jf h h28
                cases h
              ·replace h := jf h h27
               cases h
             ·replace h := jf h h26
              cases h
            ·replace h := jf h h25
             cases h
           ·replace h := jf h h23
            cases h
          ·obtain ⟨t22, h22, h⟩ := bo h; obtain ⟨t23, h23, h⟩ := bo h; obtain ⟨t24, h24, h⟩ := bo h
           by_cases h25 : t22.2.2 = 0
           ·replace h := it h h25
            by_cases h26 : t23.2.2 = 0
            ·replace h := it h h26
             by_cases h27 : t24.2.2 = 0
             ·replace h := it h h27
              obtain ⟨t28, h28, h⟩ := bo h
              by_cases h29 : ((t22.1 == t28.1) && ((t22.2.1 == t28.2) && true)) = true
              ·replace h := it h h29
               by_cases h30 : ((t23.1 == t22.1) && ((t23.2.1 == t22.2.1) && true)) = true
               ·replace h := it h h30
                by_cases h31 : t24.2.1 ≥ 1
                ·replace h := it h h31
                 by_cases h32 : t24.2.1 ≤ 100000
                 ·replace h := it h h32
                  obtain ⟨t33, h33, h⟩ := bo h
                  obtain rfl := oi h
                  exact run (e_top_TopThistleYear_10 a0 a1 a2 a3 a4 a5 a6 t1 t3 t5 t8 t10 t17 t21 t22 t23 t24 t28 t33) ⟨(c_ref01_Compare h33), (decide_eq_true h32), (decide_eq_true h31), h30, h29, (c_ref01_Lowest_2 h28), (eqt h27), (eqt h26), (eqt h25), (c_field_Summed_2 h24), (c_field_Summed_2 h23), (c_field_Summed_2 h22), (loopF_to R_top_TopThistleYear_L2 h21), (loopF_to R_top_TopThistleYear_L1 h20), h18, h19, h18, (el_ok un_Asi9Z_ok h17).1, (el_ok un_Asi9Z_ok h17).2, h16, (by decide), h15, (by decide), h14, (decide_eq_false h13), (decide_eq_false h12), (nef h11), (c_ref04_CheckMirrors h10), (notf h9), (c_ref04_Short h8), (decide_eq_false h7), (nef h6), (c_ref02_CheckSky h5), (notf h4), (c_ref02_Short h3), (notf h2), (c_top_thistleLevel h1), trivial⟩
                 ·replace h := jf h h32
                  cases h
                ·replace h := jf h h31
                 cases h
               ·replace h := jf h h30
                cases h
              ·replace h := jf h h29
               cases h
             ·replace h := jf h h27
              cases h
            ·replace h := jf h h26
             cases h
           ·replace h := jf h h25
            cases h
         ·obtain ⟨t21, h21, h⟩ := bo h
          rcases t21 with t21 | t21 | t21
          ·obtain rfl := oi h
           exact run (e_top_TopThistleYear_18 a0 a1 a2 a3 a4 a5 a6 t1 t3 t5 t8 t10 t17 t20) ⟨(loopF_to R_top_TopThistleYear_L3 h21), (loopF_to R_top_TopThistleYear_L1 h20), h18, h19, h18, (el_ok un_Asi9Z_ok h17).1, (el_ok un_Asi9Z_ok h17).2, h16, (by decide), h15, (by decide), h14, (decide_eq_false h13), (decide_eq_false h12), (nef h11), (c_ref04_CheckMirrors h10), (notf h9), (c_ref04_Short h8), (decide_eq_false h7), (nef h6), (c_ref02_CheckSky h5), (notf h4), (c_ref02_Short h3), (notf h2), (c_top_thistleLevel h1), trivial⟩
          ·obtain ⟨t22, h22, h⟩ := bo h
           by_cases h23 : t22.2.2 = 0
           ·replace h := it h h23
            obtain ⟨t24, h24, h⟩ := bo h
            by_cases h25 : ((t22.1 == t24.1) && ((t22.2.1 == t24.2) && true)) = true
            ·replace h := it h h25
             by_cases h26 : ((t22.1 == t22.1) && ((t22.2.1 == t22.2.1) && true)) = true
             ·replace h := it h h26
              by_cases h27 : t22.2.1 ≥ 1
              ·replace h := it h h27
               by_cases h28 : t22.2.1 ≤ 100000
               ·replace h := it h h28
                obtain ⟨t29, h29, h⟩ := bo h
                obtain rfl := oi h
                exact run (e_top_TopThistleYear_19 a0 a1 a2 a3 a4 a5 a6 t1 t3 t5 t8 t10 t17 t20 t22 t24 t29) ⟨(c_ref01_Compare h29), (decide_eq_true h28), (decide_eq_true h27), h26, h25, (c_ref01_Lowest h24), (eqt h23), (eqt h23), (eqt h23), (c_field_Summed h22), (c_field_Summed h22), (c_field_Summed h22), (loopF_to R_top_TopThistleYear_L3 h21), (loopF_to R_top_TopThistleYear_L1 h20), h18, h19, h18, (el_ok un_Asi9Z_ok h17).1, (el_ok un_Asi9Z_ok h17).2, h16, (by decide), h15, (by decide), h14, (decide_eq_false h13), (decide_eq_false h12), (nef h11), (c_ref04_CheckMirrors h10), (notf h9), (c_ref04_Short h8), (decide_eq_false h7), (nef h6), (c_ref02_CheckSky h5), (notf h4), (c_ref02_Short h3), (notf h2), (c_top_thistleLevel h1), trivial⟩
               ·replace h := jf h h28
                cases h
              ·replace h := jf h h27
               cases h
             ·replace h := jf h h26
              cases h
            ·replace h := jf h h25
             cases h
           ·replace h := jf h h23
            cases h
          ·obtain ⟨t22, h22, h⟩ := bo h; obtain ⟨t23, h23, h⟩ := bo h; obtain ⟨t24, h24, h⟩ := bo h
           by_cases h25 : t22.2.2 = 0
           ·replace h := it h h25
            by_cases h26 : t23.2.2 = 0
            ·replace h := it h h26
             by_cases h27 : t24.2.2 = 0
             ·replace h := it h h27
              obtain ⟨t28, h28, h⟩ := bo h
              by_cases h29 : ((t22.1 == t28.1) && ((t22.2.1 == t28.2) && true)) = true
              ·replace h := it h h29
               by_cases h30 : ((t23.1 == t22.1) && ((t23.2.1 == t22.2.1) && true)) = true
               ·replace h := it h h30
                by_cases h31 : t24.2.1 ≥ 1
                ·replace h := it h h31
                 by_cases h32 : t24.2.1 ≤ 100000
                 ·replace h := it h h32
                  obtain ⟨t33, h33, h⟩ := bo h
                  obtain rfl := oi h
                  exact run (e_top_TopThistleYear_25 a0 a1 a2 a3 a4 a5 a6 t1 t3 t5 t8 t10 t17 t20 t21 t22 t23 t24 t28 t33) ⟨(c_ref01_Compare h33), (decide_eq_true h32), (decide_eq_true h31), h30, h29, (c_ref01_Lowest_2 h28), (eqt h27), (eqt h26), (eqt h25), (c_field_Summed_2 h24), (c_field_Summed_2 h23), (c_field_Summed_2 h22), (loopF_to R_top_TopThistleYear_L3 h21), (loopF_to R_top_TopThistleYear_L1 h20), h18, h19, h18, (el_ok un_Asi9Z_ok h17).1, (el_ok un_Asi9Z_ok h17).2, h16, (by decide), h15, (by decide), h14, (decide_eq_false h13), (decide_eq_false h12), (nef h11), (c_ref04_CheckMirrors h10), (notf h9), (c_ref04_Short h8), (decide_eq_false h7), (nef h6), (c_ref02_CheckSky h5), (notf h4), (c_ref02_Short h3), (notf h2), (c_top_thistleLevel h1), trivial⟩
                 ·replace h := jf h h32
                  cases h
                ·replace h := jf h h31
                 cases h
               ·replace h := jf h h30
                cases h
              ·replace h := jf h h29
               cases h
             ·replace h := jf h h27
              cases h
            ·replace h := jf h h26
             cases h
           ·replace h := jf h h25
            cases h
      ·replace h := jf h h11
       obtain rfl := oi h
       exact run (e_top_TopThistleYear_33 a0 a1 a2 a3 a4 a5 a6 t1 t3 t5 t8 t10) ⟨(c_top_thistleLevel h1), (net h11), (c_ref04_CheckMirrors h10), (notf h9), (c_ref04_Short h8), (decide_eq_false h7), (nef h6), (c_ref02_CheckSky h5), (notf h4), (c_ref02_Short h3), (notf h2), (c_top_thistleLevel h1), trivial⟩
     ·replace h := jf h h9
      obtain rfl := oi h
      exact run (e_top_TopThistleYear_34 a0 a1 a2 a3 a4 a5 a6 t1 t3 t5 t8) ⟨(c_top_thistleLevel h1), (nott (bfalse h9)), (c_ref04_Short h8), (decide_eq_false h7), (nef h6), (c_ref02_CheckSky h5), (notf h4), (c_ref02_Short h3), (notf h2), (c_top_thistleLevel h1), trivial⟩
   ·replace h := jf h h6
    obtain rfl := oi h
    exact run (e_top_TopThistleYear_35 a0 a1 a2 a3 a4 a5 a6 t1 t3 t5) ⟨(c_top_thistleLevel h1), (net h6), (c_ref02_CheckSky h5), (notf h4), (c_ref02_Short h3), (notf h2), (c_top_thistleLevel h1), trivial⟩
  ·replace h := jf h h4
   obtain rfl := oi h
   exact run (e_top_TopThistleYear_36 a0 a1 a2 a3 a4 a5 a6 t1 t3) ⟨(c_top_thistleLevel h1), (nott (bfalse h4)), (c_ref02_Short h3), (notf h2), (c_top_thistleLevel h1), trivial⟩
 ·replace h := jf h h2
  obtain rfl := oi h
  exact run (e_top_TopThistleYear_37 a0 a1 a2 a3 a4 a5 a6 t1) ⟨(c_top_thistleLevel h1), (nott (bfalse h2)), (c_top_thistleLevel h1), trivial⟩
end Go.Proofs.YtiogobiijlaalaaDoor
